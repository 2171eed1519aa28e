/- BlockAt: the pure statement of the law: the program's block is the reference's, for all blocks and places. -/
import Derived.Test.YthcmofhlljmccaaXFnExactBlockAtx3
import Derived.Test.YthcmofhlljmccaaXLib
namespace Go.Proofs.Ythcmofhlljmccaa.Pure
open Go.RowKit Go.Proofs.Ythcmofhlljmccaa.XFnExactBlockAt Go.Proofs.YthcmofhlljmccaaW.PrintWords Go.Proofs.YthcmofhlljmccaaW.PrintLast Go.Proofs.YthcmofhlljmccaaW.PrintMore Go.Proofs.Ythcmofhlljmccaa.X
set_option linter.unusedVariables false
set_option linter.unusedSimpArgs false

theorem in_spec (a b c : Int) : spec_l1In.f a b c = some (decide (b ≤ a) && decide (a ≤ c)) := by
  unfold spec_l1In.f
  by_cases h : b ≤ a <;> simp [h]
theorem in_impl (a b c : Int) : impl_inRange.f a b c = some (decide (b ≤ a) && decide (a ≤ c)) := by
  unfold impl_inRange.f
  by_cases h : b ≤ a <;> simp [h]
theorem sz_ints (l : List Int) {a : Int} (h0 : 0 ≤ a) (h1 : a ≤ 1048576) (hl : l.length ≤ maxLen) : laws_szIntS.f l a = some (roomLeft l.length a) := sz_left h0 h1 hl
theorem to_ints (l : List Int) (hl : (l.length : Int) ≤ 1048576) : Ev (fun k => laws_toIntS.f k l) l := by
  have h := toS_ev (0 : Int) (id : Int → Int) 0 laws_toIntS.l0 (fun k x y i => laws_toIntS.l0.eq_2 x y i k) l (by omega)
  rw [List.map_id] at h
  exact Ev.pos (by omega) (Ev.pos (by omega) h)
theorem eq_ints (l : List Int) (hl : (l.length : Int) ≤ 1048576) : Ev (fun k => laws_eqIntS.f k l l) true :=
  eqInt_ev laws_eqIntS.l0 (fun k x y i => laws_eqIntS.l0.eq_2 x y i k) l (by rw [maxLen_eq]; omega)
/-! blocks -/
def blocksOk (a b c : Int) (l : List Int) : Bool :=
  (decide (1 ≤ a) && decide (a ≤ 8)) && ((decide (1 ≤ b) && decide (b ≤ 8)) && ((decide (1 ≤ c) && decide (c ≤ 8)) && (decide ((l.length : Int) = wrap64 (wrap64 (a * b) * c)) && l.all fun n => decide (0 ≤ n) && decide (n ≤ 9))))
theorem blocks_spec (a b c : Int) (l : List Int) (hl : l.length ≤ maxLen) : Ev (fun k => spec_GoodBlocks.f k a b c l) (blocksOk a b c l) := by
  have h0 := all_ev (0 : Int) (fun n => decide (0 ≤ n) && decide (n ≤ 9)) spec_GoodBlocks.l0 (fun k x n i => by rw [spec_GoodBlocks.l0]; simp only [in_spec, Option.bind_some]; rfl) l hl
  have hj : ∀ z, Ev (fun k => spec_GoodBlocks.j0 k z a b c l) (!z && l.all fun n => decide (0 ≤ n) && decide (n ≤ 9)) := fun z =>
    Ev.step (fun k => spec_GoodBlocks.j0.eq_2 _ _ _ _ _ k) (Ev.andn (fun _ => h0))
  unfold spec_GoodBlocks.f blocksOk
  simp only [in_spec, Option.bind_some]
  cases ha : (decide (1 ≤ a) && decide (a ≤ 8)) with
  | false => exact Ev.neg (by decide) (hj true)
  | true =>
    refine Ev.pos rfl ?_
    cases hb : (decide (1 ≤ b) && decide (b ≤ 8)) with
    | false => exact Ev.neg (by decide) (hj true)
    | true =>
      refine Ev.pos rfl ?_
      cases hc : (decide (1 ≤ c) && decide (c ≤ 8)) with
      | false => exact Ev.neg (by decide) (hj true)
      | true =>
        refine Ev.pos rfl (Ev.cast (hj _) ?_)
        rw [Bool.true_and, Bool.true_and, Bool.true_and]
        congr 1
        by_cases h : (l.length : Int) = wrap64 (wrap64 (a * b) * c) <;> simp [h]
theorem blocks_impl (a b c : Int) (l : List Int) (hl : l.length ≤ maxLen) : Ev (fun k => impl_GoodBlocks.f k a b c l) (blocksOk a b c l) := by
  have h := contains_ev (0 : Int) (fun _ z => impl_GoodBlocks_1.f z) (fun n => !(decide (0 ≤ n) && decide (n ≤ 9))) slices_IndexFunc_int_int_at_impl_GoodBlocks_1.l0 (fun k x n i => slices_IndexFunc_int_int_at_impl_GoodBlocks_1.l0.eq_2 x n i k) l hl (fun z _ => Ev.mk (fun _ => by unfold impl_GoodBlocks_1.f; rw [in_impl]; rfl))
  unfold impl_GoodBlocks.f blocksOk slices_ContainsFunc_int_int_at_impl_GoodBlocks_1.f slices_IndexFunc_int_int_at_impl_GoodBlocks_1.f
  simp only [in_impl, Option.bind_some]
  refine Ev.and (fun _ => Ev.and (fun _ => Ev.and (fun _ => Ev.andp (fun _ => Ev.bind h (Ev.cast (Ev.now _) (any_not _ l))))))
theorem sz_blocks (a b c : Int) (l : List Int) {s : Int} (h0 : 0 ≤ s) (h1 : s ≤ 1048576) (hl : l.length ≤ maxLen) : laws_szBlocks.f a b c l s = some (roomLeft l.length s) := by
  unfold laws_szBlocks.f
  rw [sz_ints l h0 h1 hl, Option.bind_some]
  by_cases h : roomLeft l.length s < 0
  · rw [if_pos h]
    unfold roomLeft at h ⊢
    by_cases hc : (l.length : Int) ≤ s
    · rw [if_pos hc] at h; omega
    · rw [if_neg hc]
  · rw [if_neg h]
theorem to_blocks (a b c : Int) (l : List Int) (hl : (l.length : Int) ≤ 1048576) : Ev (fun k => laws_toBlocks.f k a b c l) (a, b, c, l) :=
  Ev.bind (to_ints l hl) (Ev.now _)
theorem eq_blocks (a b c : Int) (l : List Int) (hl : (l.length : Int) ≤ 1048576) : Ev (fun k => laws_eqBlocks.f k a b c l a b c l) true :=
  Ev.pos rfl (Ev.pos rfl (Ev.pos rfl (Ev.bind (eq_ints l hl) (Ev.pos rfl (Ev.now _)))))
/-! where a block lies -/
theorem at_range {a b c x y z : Int} (ha : 1 ≤ a) (ha' : a ≤ 8) (hb : 1 ≤ b) (hb' : b ≤ 8) (hc : 1 ≤ c) (hc' : c ≤ 8) (hx : 0 ≤ x) (hx' : x ≤ a - 1) (hy : 0 ≤ y) (hy' : y ≤ b - 1) (hz : 0 ≤ z) (hz' : z ≤ c - 1) :
    0 ≤ z * b ∧ z * b ≤ 56 ∧ 0 ≤ (z * b + y) * a ∧ (z * b + y) * a ≤ 504 ∧ (z * b + y) * a + x < a * b * c ∧ 0 ≤ a * b ∧ a * b ≤ 64 ∧ 0 ≤ a * b * c ∧ a * b * c ≤ 512 := by
  have h1 : 0 ≤ z * b := Int.mul_nonneg hz (by omega)
  have h2 : z * b ≤ (c - 1) * b := Int.mul_le_mul_of_nonneg_right hz' (by omega)
  have h3 : z * b ≤ 7 * b := Int.mul_le_mul_of_nonneg_right (by omega) (by omega)
  have h4 : 0 ≤ (z * b + y) * a := Int.mul_nonneg (by omega) (by omega)
  have e1 : (c - 1) * b = c * b - b := by rw [Int.sub_mul, Int.one_mul]
  have h5 : (z * b + y) * a ≤ (c * b - 1) * a := Int.mul_le_mul_of_nonneg_right (by omega) (by omega)
  have e2 : (c * b - 1) * a = a * b * c - a := by rw [Int.sub_mul, Int.one_mul, Int.mul_comm (c * b) a, Int.mul_assoc a b c, Int.mul_comm b c]
  have h6 : (z * b + y) * a ≤ 63 * a := Int.mul_le_mul_of_nonneg_right (by omega) (by omega)
  have h7 : 0 ≤ a * b := Int.mul_nonneg (by omega) (by omega)
  have h8 : a * b ≤ 8 * b := Int.mul_le_mul_of_nonneg_right ha' (by omega)
  have h9 : 0 ≤ a * b * c := Int.mul_nonneg h7 (by omega)
  have h10 : a * b * c ≤ 64 * c := Int.mul_le_mul_of_nonneg_right (by omega) (by omega)
  refine ⟨h1, by omega, h4, by omega, by omega, h7, by omega, h9, by omega⟩
theorem blocks_yes {a b c : Int} {l : List Int} (h : blocksOk a b c l = true) : (1 ≤ a ∧ a ≤ 8) ∧ (1 ≤ b ∧ b ≤ 8) ∧ (1 ≤ c ∧ c ≤ 8) ∧ (l.length : Int) = a * b * c ∧ (∀ n ∈ l, 0 ≤ n ∧ n ≤ 9) := by
  unfold blocksOk at h
  simp only [Bool.and_eq_true, decide_eq_true_eq, List.all_eq_true] at h
  obtain ⟨ha, hb, hc, hl, hall⟩ := h
  obtain ⟨_, _, _, _, _, h1, h2, h3, h4⟩ := at_range (x := 0) (y := 0) (z := 0) ha.1 ha.2 hb.1 hb.2 hc.1 hc.2 (by omega) (by omega) (by omega) (by omega) (by omega) (by omega)
  rw [w64 (n := a * b) (by omega) (by omega), w64 (by omega) (by omega)] at hl
  exact ⟨ha, hb, hc, hl, hall⟩
/-- The number of a place, -1 where it is none. -/
def numAt (a b c x y z : Int) : Int := if (0 ≤ x ∧ x ≤ a - 1) ∧ (0 ≤ y ∧ y ≤ b - 1) ∧ (0 ≤ z ∧ z ≤ c - 1) then (z * b + y) * a + x else -1
theorem numAt_range (a b c x y z : Int) (ha : 1 ≤ a ∧ a ≤ 8) (hb : 1 ≤ b ∧ b ≤ 8) (hc : 1 ≤ c ∧ c ≤ 8) : -1 ≤ numAt a b c x y z ∧ numAt a b c x y z < a * b * c := by
  unfold numAt
  split
  · rename_i h
    obtain ⟨hx, hy, hz⟩ := h
    obtain ⟨_, _, h3, _, h5, _⟩ := at_range ha.1 ha.2 hb.1 hb.2 hc.1 hc.2 hx.1 hx.2 hy.1 hy.2 hz.1 hz.2
    omega
  · obtain ⟨_, _, _, _, _, _, _, h8, _⟩ := at_range (x := 0) (y := 0) (z := 0) ha.1 ha.2 hb.1 hb.2 hc.1 hc.2 (by omega) (by omega) (by omega) (by omega) (by omega) (by omega)
    omega
theorem num_wrap {a b c x y z : Int} (ha : 1 ≤ a ∧ a ≤ 8) (hb : 1 ≤ b ∧ b ≤ 8) (hc : 1 ≤ c ∧ c ≤ 8) (hx : 0 ≤ x ∧ x ≤ a - 1) (hy : 0 ≤ y ∧ y ≤ b - 1) (hz : 0 ≤ z ∧ z ≤ c - 1) :
    wrap64 (wrap64 (wrap64 (wrap64 (z * b) + y) * a) + x) = numAt a b c x y z := by
  obtain ⟨h1, h2, h3, h4, h5, _⟩ := at_range ha.1 ha.2 hb.1 hb.2 hc.1 hc.2 hx.1 hx.2 hy.1 hy.2 hz.1 hz.2
  unfold numAt
  rw [if_pos ⟨hx, hy, hz⟩, w64 (n := z * b) (by omega) (by omega), w64 (n := z * b + y) (by omega) (by omega), w64 (n := (z * b + y) * a) (by omega) (by omega), w64 (by omega) (by omega)]
theorem at_spec (a b c : Int) (l : List Int) (x y z : Int) (ha : 1 ≤ a ∧ a ≤ 8) (hb : 1 ≤ b ∧ b ≤ 8) (hc : 1 ≤ c ∧ c ≤ 8) : spec_l13At.f a b c l [x, y, z] = some (numAt a b c x y z) := by
  unfold spec_l13At.f
  simp only [in_spec, Option.bind_some]
  rw [w64 (n := a - 1) (by omega) (by omega), w64 (n := b - 1) (by omega) (by omega), w64 (n := c - 1) (by omega) (by omega)]
  have e0 : rd [x, y, z] 0 = x := rfl
  have e1 : rd [x, y, z] 1 = y := rfl
  have e2 : rd [x, y, z] 2 = z := rfl
  rw [e0, e1, e2, if_pos (show (0 : Int) < (([x, y, z] : List Int).length : Int) by simp), if_pos (show (1 : Int) < (([x, y, z] : List Int).length : Int) by simp), if_pos (show (2 : Int) < (([x, y, z] : List Int).length : Int) by simp)]
  by_cases hx : 0 ≤ x ∧ x ≤ a - 1
  · rw [if_pos (by simp [hx])]
    by_cases hy : 0 ≤ y ∧ y ≤ b - 1
    · rw [if_pos (by simp [hy])]
      by_cases hz : 0 ≤ z ∧ z ≤ c - 1
      · rw [if_pos (by simp [hz]), num_wrap ha hb hc hx hy hz]
      · rw [if_neg (by simpa using hz)]; unfold numAt; rw [if_neg (fun h => hz h.2.2)]
    · rw [if_neg (by simpa using hy)]; unfold numAt; rw [if_neg (fun h => hy h.2.1)]
  · rw [if_neg (by simpa using hx)]; unfold numAt; rw [if_neg (fun h => hx h.1)]
theorem number_impl (a b c : Int) (l : List Int) (x y z : Int) (ha : 1 ≤ a ∧ a ≤ 8) (hb : 1 ≤ b ∧ b ≤ 8) (hc : 1 ≤ c ∧ c ≤ 8) : impl_Blocks_number.f a b c l x y z = some (numAt a b c x y z) := by
  unfold impl_Blocks_number.f
  simp only [in_impl, Option.bind_some]
  rw [w64 (n := a - 1) (by omega) (by omega), w64 (n := b - 1) (by omega) (by omega), w64 (n := c - 1) (by omega) (by omega)]
  by_cases hx : 0 ≤ x ∧ x ≤ a - 1
  · rw [if_pos (by simp [hx])]
    by_cases hy : 0 ≤ y ∧ y ≤ b - 1
    · rw [if_pos (by simp [hy])]
      by_cases hz : 0 ≤ z ∧ z ≤ c - 1
      · rw [if_pos (by simp [hz]), num_wrap ha hb hc hx hy hz]
      · rw [if_neg (by simpa using hz)]; unfold numAt; rw [if_neg (fun h => hz h.2.2)]
    · rw [if_neg (by simpa using hy)]; unfold numAt; rw [if_neg (fun h => hy h.2.1)]
  · rw [if_neg (by simpa using hx)]; unfold numAt; rw [if_neg (fun h => hx h.1)]
theorem both (a b c : Int) (l : List Int) (x y z : Int) (hl : l.length ≤ maxLen) : Both (fun _ => True) (fun k => spec_BlockAt.f k a b c l x y z) (fun k => impl_BlockAt.f k a b c l x y z) := by
  have h1 := blocks_spec a b c l hl
  have h2 := blocks_impl a b c l hl
  unfold spec_BlockAt.f impl_BlockAt.f
  cases h : blocksOk a b c l with
  | false =>
    rw [h] at h1 h2
    exact ⟨_, trivial, Ev.bind h1 (Ev.neg (by decide) (Ev.now _)), Ev.bind h2 (Ev.neg (by decide) (Ev.now _))⟩
  | true =>
    rw [h] at h1 h2
    obtain ⟨ha, hb, hc, hlen, _⟩ := blocks_yes h
    have hs := at_spec a b c l x y z ha hb hc
    have hi := number_impl a b c l x y z ha hb hc
    obtain ⟨hr0, hr1⟩ := numAt_range a b c x y z ha hb hc
    refine ⟨if numAt a b c x y z < 0 then -1 else rd l (numAt a b c x y z), trivial, Ev.bind h1 (Ev.pos rfl (Ev.const_bind hs ?_)), Ev.bind h2 (Ev.pos rfl (Ev.const_bind hi ?_))⟩
    · exact Ev.ite (fun h => Ev.cast (Ev.now _) (by rw [if_pos h])) (fun h => Ev.pos (by omega) (Ev.pos (by omega) (Ev.cast (Ev.now _) (by rw [if_neg h]))))
    · exact Ev.ite (fun h => Ev.cast (Ev.now _) (by rw [if_pos h])) (fun h => Ev.const_bind hi (Ev.pos (by omega) (Ev.pos (by omega) (Ev.cast (Ev.now _) (by rw [if_neg h])))))
theorem FnExactBlockAt : laws_FnExactBlockAt.Pure := by
  intro a b c l x y z _ _ _ ⟨hl, _⟩ _ _ _
  obtain ⟨r, _, h1, h2⟩ := both a b c l x y z hl
  refine Ev.rounds (r := true) ?_
  unfold laws_FnExactBlockAt.f
  refine Ev.const_bind (sz_blocks a b c l (by omega) (by omega) hl) (Ev.ite (fun _ => Ev.now _) (fun h => ?_))
  have hn := (roomLeft_ok h).1
  exact Ev.bind (to_blocks a b c l hn) (Ev.bind h1 (Ev.bind (to_blocks a b c l hn) (Ev.bind h2 (Ev.pos rfl (Ev.bind (to_blocks a b c l hn) (Ev.bind (eq_blocks a b c l hn) (Ev.pos rfl (Ev.now _))))))))

end Go.Proofs.Ythcmofhlljmccaa.Pure
