/- GoodBlocks: the pure statement of the law: the program's answer is the reference's, for all blocks. -/
import Derived.Test.YthcmofhlljmccaaXFnExactGoodBlocksx2
import Derived.Test.YthcmofhlljmccaaXLib
namespace Go.Proofs.Ythcmofhlljmccaa.Pure
open Go.RowKit Go.Proofs.Ythcmofhlljmccaa.XFnExactGoodBlocks Go.Proofs.YthcmofhlljmccaaW.PrintWords Go.Proofs.YthcmofhlljmccaaW.PrintLast Go.Proofs.YthcmofhlljmccaaW.PrintMore Go.Proofs.Ythcmofhlljmccaa.X
set_option linter.unusedVariables false
set_option linter.unusedSimpArgs false

theorem in_spec (a b c : Int) : spec_l1In.f a b c = some (decide (b ≤ a) && decide (a ≤ c)) := by
  unfold spec_l1In.f
  by_cases h : b ≤ a <;> simp [h]
theorem in_impl (a b c : Int) : impl_inRange.f a b c = some (decide (b ≤ a) && decide (a ≤ c)) := by
  unfold impl_inRange.f
  by_cases h : b ≤ a <;> simp [h]
theorem sz_ints (l : List Int) {a : Int} (h0 : 0 ≤ a) (h1 : a ≤ 1048576) (hl : l.length ≤ maxLen) : laws_szIntS.f l a = some (roomLeft l.length a) := sz_left h0 h1 hl
theorem to_ints (l : List Int) (hl : (l.length : Int) ≤ 1048576) : Ev (fun k => laws_toIntS.f k l) l := by
  have h := toS_ev (0 : Int) (id : Int → Int) 0 laws_toIntS.l0 (fun k x y i => laws_toIntS.l0.eq_2 x y i k) l (by omega)
  rw [List.map_id] at h
  exact Ev.pos (by omega) (Ev.pos (by omega) h)
theorem eq_ints (l : List Int) (hl : (l.length : Int) ≤ 1048576) : Ev (fun k => laws_eqIntS.f k l l) true :=
  eqInt_ev laws_eqIntS.l0 (fun k x y i => laws_eqIntS.l0.eq_2 x y i k) l (by rw [maxLen_eq]; omega)
/-! blocks -/
def blocksOk (a b c : Int) (l : List Int) : Bool :=
  (decide (1 ≤ a) && decide (a ≤ 8)) && ((decide (1 ≤ b) && decide (b ≤ 8)) && ((decide (1 ≤ c) && decide (c ≤ 8)) && (decide ((l.length : Int) = wrap64 (wrap64 (a * b) * c)) && l.all fun n => decide (0 ≤ n) && decide (n ≤ 9))))
theorem blocks_spec (a b c : Int) (l : List Int) (hl : l.length ≤ maxLen) : Ev (fun k => spec_GoodBlocks.f k a b c l) (blocksOk a b c l) := by
  have h0 := all_ev (0 : Int) (fun n => decide (0 ≤ n) && decide (n ≤ 9)) spec_GoodBlocks.l0 (fun k x n i => by rw [spec_GoodBlocks.l0]; simp only [in_spec, Option.bind_some]; rfl) l hl
  have hj : ∀ z, Ev (fun k => spec_GoodBlocks.j0 k z a b c l) (!z && l.all fun n => decide (0 ≤ n) && decide (n ≤ 9)) := fun z =>
    Ev.step (fun k => spec_GoodBlocks.j0.eq_2 _ _ _ _ _ k) (Ev.andn (fun _ => h0))
  unfold spec_GoodBlocks.f blocksOk
  simp only [in_spec, Option.bind_some]
  cases ha : (decide (1 ≤ a) && decide (a ≤ 8)) with
  | false => exact Ev.neg (by decide) (hj true)
  | true =>
    refine Ev.pos rfl ?_
    cases hb : (decide (1 ≤ b) && decide (b ≤ 8)) with
    | false => exact Ev.neg (by decide) (hj true)
    | true =>
      refine Ev.pos rfl ?_
      cases hc : (decide (1 ≤ c) && decide (c ≤ 8)) with
      | false => exact Ev.neg (by decide) (hj true)
      | true =>
        refine Ev.pos rfl (Ev.cast (hj _) ?_)
        rw [Bool.true_and, Bool.true_and, Bool.true_and]
        congr 1
        by_cases h : (l.length : Int) = wrap64 (wrap64 (a * b) * c) <;> simp [h]
theorem blocks_impl (a b c : Int) (l : List Int) (hl : l.length ≤ maxLen) : Ev (fun k => impl_GoodBlocks.f k a b c l) (blocksOk a b c l) := by
  have h := contains_ev (0 : Int) (fun _ z => impl_GoodBlocks_1.f z) (fun n => !(decide (0 ≤ n) && decide (n ≤ 9))) slices_IndexFunc_int_int_at_impl_GoodBlocks_1.l0 (fun k x n i => slices_IndexFunc_int_int_at_impl_GoodBlocks_1.l0.eq_2 x n i k) l hl (fun z _ => Ev.mk (fun _ => by unfold impl_GoodBlocks_1.f; rw [in_impl]; rfl))
  unfold impl_GoodBlocks.f blocksOk slices_ContainsFunc_int_int_at_impl_GoodBlocks_1.f slices_IndexFunc_int_int_at_impl_GoodBlocks_1.f
  simp only [in_impl, Option.bind_some]
  refine Ev.and (fun _ => Ev.and (fun _ => Ev.and (fun _ => Ev.andp (fun _ => Ev.bind h (Ev.cast (Ev.now _) (any_not _ l))))))
theorem sz_blocks (a b c : Int) (l : List Int) {s : Int} (h0 : 0 ≤ s) (h1 : s ≤ 1048576) (hl : l.length ≤ maxLen) : laws_szBlocks.f a b c l s = some (roomLeft l.length s) := by
  unfold laws_szBlocks.f
  rw [sz_ints l h0 h1 hl, Option.bind_some]
  by_cases h : roomLeft l.length s < 0
  · rw [if_pos h]
    unfold roomLeft at h ⊢
    by_cases hc : (l.length : Int) ≤ s
    · rw [if_pos hc] at h; omega
    · rw [if_neg hc]
  · rw [if_neg h]
theorem to_blocks (a b c : Int) (l : List Int) (hl : (l.length : Int) ≤ 1048576) : Ev (fun k => laws_toBlocks.f k a b c l) (a, b, c, l) :=
  Ev.bind (to_ints l hl) (Ev.now _)
theorem eq_blocks (a b c : Int) (l : List Int) (hl : (l.length : Int) ≤ 1048576) : Ev (fun k => laws_eqBlocks.f k a b c l a b c l) true :=
  Ev.pos rfl (Ev.pos rfl (Ev.pos rfl (Ev.bind (eq_ints l hl) (Ev.pos rfl (Ev.now _)))))
theorem FnExactGoodBlocks : laws_FnExactGoodBlocks.Pure := by
  intro a b c l _ _ _ ⟨hl, _⟩
  refine Ev.rounds (r := true) ?_
  unfold laws_FnExactGoodBlocks.f
  refine Ev.const_bind (sz_blocks a b c l (by omega) (by omega) hl) (Ev.ite (fun _ => Ev.now _) (fun h => ?_))
  have hn := (roomLeft_ok h).1
  exact Ev.bind (to_blocks a b c l hn) (Ev.bind (blocks_spec a b c l hl) (Ev.bind (to_blocks a b c l hn) (Ev.bind (blocks_impl a b c l hl) (Ev.neg (by simp) (Ev.bind (to_blocks a b c l hn) (Ev.bind (eq_blocks a b c l hn) (Ev.pos rfl (Ev.now _))))))))

end Go.Proofs.Ythcmofhlljmccaa.Pure
