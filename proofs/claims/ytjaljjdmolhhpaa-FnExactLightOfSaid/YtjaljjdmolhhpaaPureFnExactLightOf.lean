/- LightOf: the pure statement of the law: the program's light is the reference's, for all blocks and lights.
   Both come to the one state that is lit: what stands in it is told by its lights, what passes on and where it came from. -/
import Derived.Test.YtjaljjdmolhhpaaXFnExactLightOfx7
import Derived.Test.YtjaljjdmolhhpaaXLibLightOf
namespace Go.Proofs.Ytjaljjdmolhhpaa.Pure
open Go.RowKit Go.Proofs.Ytjaljjdmolhhpaa.XFnExactLightOf Go.Proofs.YtjaljjdmolhhpaaW.PrintWords Go.Proofs.YtjaljjdmolhhpaaW.PrintLast Go.Proofs.YtjaljjdmolhhpaaW.PrintMore Go.Proofs.Ytjaljjdmolhhpaa.X
set_option linter.unusedVariables false
set_option linter.unusedSimpArgs false

theorem in_spec (a b c : Int) : spec_l1In.f a b c = some (decide (b ≤ a) && decide (a ≤ c)) := by
  unfold spec_l1In.f
  by_cases h : b ≤ a <;> simp [h]
theorem in_impl (a b c : Int) : impl_inRange.f a b c = some (decide (b ≤ a) && decide (a ≤ c)) := by
  unfold impl_inRange.f
  by_cases h : b ≤ a <;> simp [h]
theorem sz_ints (l : List Int) {a : Int} (h0 : 0 ≤ a) (h1 : a ≤ 1048576) (hl : l.length ≤ maxLen) : laws_szIntS.f l a = some (roomLeft l.length a) := sz_left h0 h1 hl
theorem to_ints (l : List Int) (hl : (l.length : Int) ≤ 1048576) : Ev (fun k => laws_toIntS.f k l) l := by
  have h := toS_ev (0 : Int) (id : Int → Int) 0 laws_toIntS.l0 (fun k x y i => laws_toIntS.l0.eq_2 x y i k) l (by omega)
  rw [List.map_id] at h
  exact Ev.pos (by omega) (Ev.pos (by omega) h)
theorem eq_ints (l : List Int) (hl : (l.length : Int) ≤ 1048576) : Ev (fun k => laws_eqIntS.f k l l) true :=
  eqInt_ev laws_eqIntS.l0 (fun k x y i => laws_eqIntS.l0.eq_2 x y i k) l (by rw [maxLen_eq]; omega)
/-! blocks -/
def blocksOk (a b c : Int) (l : List Int) : Bool :=
  (decide (1 ≤ a) && decide (a ≤ 8)) && ((decide (1 ≤ b) && decide (b ≤ 8)) && ((decide (1 ≤ c) && decide (c ≤ 8)) && (decide ((l.length : Int) = wrap64 (wrap64 (a * b) * c)) && l.all fun n => decide (0 ≤ n) && decide (n ≤ 9))))
theorem blocks_spec (a b c : Int) (l : List Int) (hl : l.length ≤ maxLen) : Ev (fun k => spec_GoodBlocks.f k a b c l) (blocksOk a b c l) := by
  have h0 := all_ev (0 : Int) (fun n => decide (0 ≤ n) && decide (n ≤ 9)) spec_GoodBlocks.l0 (fun k x n i => by rw [spec_GoodBlocks.l0]; simp only [in_spec, Option.bind_some]; rfl) l hl
  have hj : ∀ z, Ev (fun k => spec_GoodBlocks.j0 k z a b c l) (!z && l.all fun n => decide (0 ≤ n) && decide (n ≤ 9)) := fun z =>
    Ev.step (fun k => spec_GoodBlocks.j0.eq_2 _ _ _ _ _ k) (Ev.andn (fun _ => h0))
  unfold spec_GoodBlocks.f blocksOk
  simp only [in_spec, Option.bind_some]
  cases ha : (decide (1 ≤ a) && decide (a ≤ 8)) with
  | false => exact Ev.neg (by decide) (hj true)
  | true =>
    refine Ev.pos rfl ?_
    cases hb : (decide (1 ≤ b) && decide (b ≤ 8)) with
    | false => exact Ev.neg (by decide) (hj true)
    | true =>
      refine Ev.pos rfl ?_
      cases hc : (decide (1 ≤ c) && decide (c ≤ 8)) with
      | false => exact Ev.neg (by decide) (hj true)
      | true =>
        refine Ev.pos rfl (Ev.cast (hj _) ?_)
        rw [Bool.true_and, Bool.true_and, Bool.true_and]
        congr 1
        by_cases h : (l.length : Int) = wrap64 (wrap64 (a * b) * c) <;> simp [h]
theorem blocks_impl (a b c : Int) (l : List Int) (hl : l.length ≤ maxLen) : Ev (fun k => impl_GoodBlocks.f k a b c l) (blocksOk a b c l) := by
  have h := contains_ev (0 : Int) (fun _ z => impl_GoodBlocks_1.f z) (fun n => !(decide (0 ≤ n) && decide (n ≤ 9))) slices_IndexFunc_int_int_at_impl_GoodBlocks_1.l0 (fun k x n i => slices_IndexFunc_int_int_at_impl_GoodBlocks_1.l0.eq_2 x n i k) l hl (fun z _ => Ev.mk (fun _ => by unfold impl_GoodBlocks_1.f; rw [in_impl]; rfl))
  unfold impl_GoodBlocks.f blocksOk slices_ContainsFunc_int_int_at_impl_GoodBlocks_1.f slices_IndexFunc_int_int_at_impl_GoodBlocks_1.f
  simp only [in_impl, Option.bind_some]
  refine Ev.and (fun _ => Ev.and (fun _ => Ev.and (fun _ => Ev.andp (fun _ => Ev.bind h (Ev.cast (Ev.now _) (any_not _ l))))))
theorem sz_blocks (a b c : Int) (l : List Int) {s : Int} (h0 : 0 ≤ s) (h1 : s ≤ 1048576) (hl : l.length ≤ maxLen) : laws_szBlocks.f a b c l s = some (roomLeft l.length s) := by
  unfold laws_szBlocks.f
  rw [sz_ints l h0 h1 hl, Option.bind_some]
  by_cases h : roomLeft l.length s < 0
  · rw [if_pos h]
    unfold roomLeft at h ⊢
    by_cases hc : (l.length : Int) ≤ s
    · rw [if_pos hc] at h; omega
    · rw [if_neg hc]
  · rw [if_neg h]
theorem to_blocks (a b c : Int) (l : List Int) (hl : (l.length : Int) ≤ 1048576) : Ev (fun k => laws_toBlocks.f k a b c l) (a, b, c, l) :=
  Ev.bind (to_ints l hl) (Ev.now _)
theorem eq_blocks (a b c : Int) (l : List Int) (hl : (l.length : Int) ≤ 1048576) : Ev (fun k => laws_eqBlocks.f k a b c l a b c l) true :=
  Ev.pos rfl (Ev.pos rfl (Ev.pos rfl (Ev.bind (eq_ints l hl) (Ev.pos rfl (Ev.now _)))))
theorem mark_ints (l : List Int) (hl : (l.length : Int) ≤ 4611686018427387000) : Ev (fun k => laws_markIntS.f k l 1) (1 + (l.length : Int), marks l.length 1) :=
  markInt_ev laws_markIntS.l0 (fun k x c i => laws_markIntS.l0.eq_2 x c i k) 1 (by omega) l (by omega)
theorem held_ints (n : Nat) (hn : (n : Int) ≤ 4611686018427387000) : Ev (fun k => laws_heldIntS.f k (marks n 1) 1) (1 + (n : Int)) :=
  heldInt_ev laws_heldIntS.l0 (fun k x c i => laws_heldIntS.l0.eq_2 x c i k) n 1 (by omega) (by omega)
theorem mark_blocks (a b c : Int) (l : List Int) (hl : (l.length : Int) ≤ 1048576) : Ev (fun k => laws_markBlocks.f k a b c l 1) (1 + (l.length : Int), marks l.length 1) :=
  Ev.bind (mark_ints l (by omega)) (Ev.now _)
/-! where a block lies -/
theorem at_range {a b c x y z : Int} (ha : 1 ≤ a) (ha' : a ≤ 8) (hb : 1 ≤ b) (hb' : b ≤ 8) (hc : 1 ≤ c) (hc' : c ≤ 8) (hx : 0 ≤ x) (hx' : x ≤ a - 1) (hy : 0 ≤ y) (hy' : y ≤ b - 1) (hz : 0 ≤ z) (hz' : z ≤ c - 1) :
    0 ≤ z * b ∧ z * b ≤ 56 ∧ 0 ≤ (z * b + y) * a ∧ (z * b + y) * a ≤ 504 ∧ (z * b + y) * a + x < a * b * c ∧ 0 ≤ a * b ∧ a * b ≤ 64 ∧ 0 ≤ a * b * c ∧ a * b * c ≤ 512 := by
  have h1 : 0 ≤ z * b := Int.mul_nonneg hz (by omega)
  have h2 : z * b ≤ (c - 1) * b := Int.mul_le_mul_of_nonneg_right hz' (by omega)
  have h3 : z * b ≤ 7 * b := Int.mul_le_mul_of_nonneg_right (by omega) (by omega)
  have h4 : 0 ≤ (z * b + y) * a := Int.mul_nonneg (by omega) (by omega)
  have e1 : (c - 1) * b = c * b - b := by rw [Int.sub_mul, Int.one_mul]
  have h5 : (z * b + y) * a ≤ (c * b - 1) * a := Int.mul_le_mul_of_nonneg_right (by omega) (by omega)
  have e2 : (c * b - 1) * a = a * b * c - a := by rw [Int.sub_mul, Int.one_mul, Int.mul_comm (c * b) a, Int.mul_assoc a b c, Int.mul_comm b c]
  have h6 : (z * b + y) * a ≤ 63 * a := Int.mul_le_mul_of_nonneg_right (by omega) (by omega)
  have h7 : 0 ≤ a * b := Int.mul_nonneg (by omega) (by omega)
  have h8 : a * b ≤ 8 * b := Int.mul_le_mul_of_nonneg_right ha' (by omega)
  have h9 : 0 ≤ a * b * c := Int.mul_nonneg h7 (by omega)
  have h10 : a * b * c ≤ 64 * c := Int.mul_le_mul_of_nonneg_right (by omega) (by omega)
  refine ⟨h1, by omega, h4, by omega, by omega, h7, by omega, h9, by omega⟩
theorem blocks_yes {a b c : Int} {l : List Int} (h : blocksOk a b c l = true) : (1 ≤ a ∧ a ≤ 8) ∧ (1 ≤ b ∧ b ≤ 8) ∧ (1 ≤ c ∧ c ≤ 8) ∧ (l.length : Int) = a * b * c ∧ (∀ n ∈ l, 0 ≤ n ∧ n ≤ 9) := by
  unfold blocksOk at h
  simp only [Bool.and_eq_true, decide_eq_true_eq, List.all_eq_true] at h
  obtain ⟨ha, hb, hc, hl, hall⟩ := h
  obtain ⟨_, _, _, _, _, h1, h2, h3, h4⟩ := at_range (x := 0) (y := 0) (z := 0) ha.1 ha.2 hb.1 hb.2 hc.1 hc.2 (by omega) (by omega) (by omega) (by omega) (by omega) (by omega)
  rw [w64 (n := a * b) (by omega) (by omega), w64 (by omega) (by omega)] at hl
  exact ⟨ha, hb, hc, hl, hall⟩
/-- The number of a place, -1 where it is none. -/
def numAt (a b c x y z : Int) : Int := if (0 ≤ x ∧ x ≤ a - 1) ∧ (0 ≤ y ∧ y ≤ b - 1) ∧ (0 ≤ z ∧ z ≤ c - 1) then (z * b + y) * a + x else -1
theorem numAt_range (a b c x y z : Int) (ha : 1 ≤ a ∧ a ≤ 8) (hb : 1 ≤ b ∧ b ≤ 8) (hc : 1 ≤ c ∧ c ≤ 8) : -1 ≤ numAt a b c x y z ∧ numAt a b c x y z < a * b * c := by
  unfold numAt
  split
  · rename_i h
    obtain ⟨hx, hy, hz⟩ := h
    obtain ⟨_, _, h3, _, h5, _⟩ := at_range ha.1 ha.2 hb.1 hb.2 hc.1 hc.2 hx.1 hx.2 hy.1 hy.2 hz.1 hz.2
    omega
  · obtain ⟨_, _, _, _, _, _, _, h8, _⟩ := at_range (x := 0) (y := 0) (z := 0) ha.1 ha.2 hb.1 hb.2 hc.1 hc.2 (by omega) (by omega) (by omega) (by omega) (by omega) (by omega)
    omega
theorem num_wrap {a b c x y z : Int} (ha : 1 ≤ a ∧ a ≤ 8) (hb : 1 ≤ b ∧ b ≤ 8) (hc : 1 ≤ c ∧ c ≤ 8) (hx : 0 ≤ x ∧ x ≤ a - 1) (hy : 0 ≤ y ∧ y ≤ b - 1) (hz : 0 ≤ z ∧ z ≤ c - 1) :
    wrap64 (wrap64 (wrap64 (wrap64 (z * b) + y) * a) + x) = numAt a b c x y z := by
  obtain ⟨h1, h2, h3, h4, h5, _⟩ := at_range ha.1 ha.2 hb.1 hb.2 hc.1 hc.2 hx.1 hx.2 hy.1 hy.2 hz.1 hz.2
  unfold numAt
  rw [if_pos ⟨hx, hy, hz⟩, w64 (n := z * b) (by omega) (by omega), w64 (n := z * b + y) (by omega) (by omega), w64 (n := (z * b + y) * a) (by omega) (by omega), w64 (by omega) (by omega)]
theorem at_spec (a b c : Int) (l : List Int) (x y z : Int) (ha : 1 ≤ a ∧ a ≤ 8) (hb : 1 ≤ b ∧ b ≤ 8) (hc : 1 ≤ c ∧ c ≤ 8) : spec_l13At.f a b c l [x, y, z] = some (numAt a b c x y z) := by
  unfold spec_l13At.f
  simp only [in_spec, Option.bind_some]
  rw [w64 (n := a - 1) (by omega) (by omega), w64 (n := b - 1) (by omega) (by omega), w64 (n := c - 1) (by omega) (by omega)]
  have e0 : rd [x, y, z] 0 = x := rfl
  have e1 : rd [x, y, z] 1 = y := rfl
  have e2 : rd [x, y, z] 2 = z := rfl
  rw [e0, e1, e2, if_pos (show (0 : Int) < (([x, y, z] : List Int).length : Int) by simp), if_pos (show (1 : Int) < (([x, y, z] : List Int).length : Int) by simp), if_pos (show (2 : Int) < (([x, y, z] : List Int).length : Int) by simp)]
  by_cases hx : 0 ≤ x ∧ x ≤ a - 1
  · rw [if_pos (by simp [hx])]
    by_cases hy : 0 ≤ y ∧ y ≤ b - 1
    · rw [if_pos (by simp [hy])]
      by_cases hz : 0 ≤ z ∧ z ≤ c - 1
      · rw [if_pos (by simp [hz]), num_wrap ha hb hc hx hy hz]
      · rw [if_neg (by simpa using hz)]; unfold numAt; rw [if_neg (fun h => hz h.2.2)]
    · rw [if_neg (by simpa using hy)]; unfold numAt; rw [if_neg (fun h => hy h.2.1)]
  · rw [if_neg (by simpa using hx)]; unfold numAt; rw [if_neg (fun h => hx h.1)]
theorem number_impl (a b c : Int) (l : List Int) (x y z : Int) (ha : 1 ≤ a ∧ a ≤ 8) (hb : 1 ≤ b ∧ b ≤ 8) (hc : 1 ≤ c ∧ c ≤ 8) : impl_Blocks_number.f a b c l x y z = some (numAt a b c x y z) := by
  unfold impl_Blocks_number.f
  simp only [in_impl, Option.bind_some]
  rw [w64 (n := a - 1) (by omega) (by omega), w64 (n := b - 1) (by omega) (by omega), w64 (n := c - 1) (by omega) (by omega)]
  by_cases hx : 0 ≤ x ∧ x ≤ a - 1
  · rw [if_pos (by simp [hx])]
    by_cases hy : 0 ≤ y ∧ y ≤ b - 1
    · rw [if_pos (by simp [hy])]
      by_cases hz : 0 ≤ z ∧ z ≤ c - 1
      · rw [if_pos (by simp [hz]), num_wrap ha hb hc hx hy hz]
      · rw [if_neg (by simpa using hz)]; unfold numAt; rw [if_neg (fun h => hz h.2.2)]
    · rw [if_neg (by simpa using hy)]; unfold numAt; rw [if_neg (fun h => hy h.2.1)]
  · rw [if_neg (by simpa using hx)]; unfold numAt; rw [if_neg (fun h => hx h.1)]
/-! the next cell along a way -/
def nextAt (a b c n way : Int) : Int := numAt a b c (n % a + impl_Blocks_next.dx way 0) (n / a % b + impl_Blocks_next.dx way 1) (n / a / b + impl_Blocks_next.dx way 2)
theorem next_impl (a b c : Int) (l : List Int) (n way : Int) (ha : 1 ≤ a ∧ a ≤ 8) (hb : 1 ≤ b ∧ b ≤ 8) (hc : 1 ≤ c ∧ c ≤ 8) (hn : 0 ≤ n ∧ n ≤ 1000000) (hw : 0 ≤ way ∧ way ≤ 5) : impl_Blocks_next.f a b c l n way = some (nextAt a b c n way) := by
  unfold impl_Blocks_next.f
  rw [if_pos ⟨ha, hb, hn, hw⟩, number_impl a b c l _ _ _ ha hb hc]
  rfl
theorem next_spec (a b c : Int) (l : List Int) (n way : Int) (ha : 1 ≤ a ∧ a ≤ 8) (hb : 1 ≤ b ∧ b ≤ 8) (hc : 1 ≤ c ∧ c ≤ 8) (hn : 0 ≤ n ∧ n ≤ 1000000) (hw : 0 ≤ way ∧ way ≤ 5) : spec_l13Next.f a b c l n way = some (nextAt a b c n way) := by
  have q0 : 0 ≤ n / a := Int.ediv_nonneg hn.1 (by omega)
  have q1 : n / a ≤ 1000000 := Int.le_trans (Int.ediv_le_self _ hn.1) hn.2
  have q2 : 0 ≤ n / a / b := Int.ediv_nonneg q0 (by omega)
  have q3 : n / a / b ≤ 1000000 := Int.le_trans (Int.ediv_le_self _ q0) q1
  have q4 : 0 ≤ n % a := Int.emod_nonneg _ (by omega)
  have q5 : n % a < a := Int.emod_lt_of_pos _ (by omega)
  have q6 : 0 ≤ n / a % b := Int.emod_nonneg _ (by omega)
  have q7 : n / a % b < b := Int.emod_lt_of_pos _ (by omega)
  have hp : spec_l13Place.f a b c l n = some [n % a, n / a % b, n / a / b] := by
    unfold spec_l13Place.f
    rw [if_neg (by omega), if_neg (by omega), Int.tmod_eq_emod_of_nonneg hn.1, Int.tdiv_eq_ediv_of_nonneg hn.1, w64 (n := n / a) (by omega) (by omega), Int.tmod_eq_emod_of_nonneg q0, Int.tdiv_eq_ediv_of_nonneg q0, w64 (n := n / a / b) (by omega) (by omega)]
  unfold spec_l13Next.f nextAt
  rw [hp, Option.bind_some]
  generalize n / a / b = z at q2 q3 ⊢
  generalize n / a % b = y at q6 q7 ⊢
  generalize n % a = x at q4 q5 ⊢
  have h6 : way = 0 ∨ way = 1 ∨ way = 2 ∨ way = 3 ∨ way = 4 ∨ way = 5 := by omega
  rcases h6 with rfl | rfl | rfl | rfl | rfl | rfl
  · have e1 : wrap64 (Int.tdiv 0 2) = 0 := by decide +kernel
    have e2 : wrap64 (wrap64 (2 * Int.tmod 0 2) - 1) = -1 := by decide +kernel
    rw [e1, e2, if_pos (by decide), if_pos (by simp)]
    show ((spec_l13At.f a b c l [wrap64 (x + (-1)), y, z]).bind fun t => some t) = _
    rw [w64 (n := x + (-1)) (by omega) (by omega), at_spec a b c l _ _ _ ha hb hc, Option.bind_some]
    simp [impl_Blocks_next.dx]
  · have e1 : wrap64 (Int.tdiv 1 2) = 0 := by decide +kernel
    have e2 : wrap64 (wrap64 (2 * Int.tmod 1 2) - 1) = 1 := by decide +kernel
    rw [e1, e2, if_pos (by decide), if_pos (by simp)]
    show ((spec_l13At.f a b c l [wrap64 (x + 1), y, z]).bind fun t => some t) = _
    rw [w64 (n := x + 1) (by omega) (by omega), at_spec a b c l _ _ _ ha hb hc, Option.bind_some]
    simp [impl_Blocks_next.dx]
  · have e1 : wrap64 (Int.tdiv 2 2) = 1 := by decide +kernel
    have e2 : wrap64 (wrap64 (2 * Int.tmod 2 2) - 1) = -1 := by decide +kernel
    rw [e1, e2, if_pos (by decide), if_pos (by simp)]
    show ((spec_l13At.f a b c l [x, wrap64 (y + (-1)), z]).bind fun t => some t) = _
    rw [w64 (n := y + (-1)) (by omega) (by omega), at_spec a b c l _ _ _ ha hb hc, Option.bind_some]
    simp [impl_Blocks_next.dx]
  · have e1 : wrap64 (Int.tdiv 3 2) = 1 := by decide +kernel
    have e2 : wrap64 (wrap64 (2 * Int.tmod 3 2) - 1) = 1 := by decide +kernel
    rw [e1, e2, if_pos (by decide), if_pos (by simp)]
    show ((spec_l13At.f a b c l [x, wrap64 (y + 1), z]).bind fun t => some t) = _
    rw [w64 (n := y + 1) (by omega) (by omega), at_spec a b c l _ _ _ ha hb hc, Option.bind_some]
    simp [impl_Blocks_next.dx]
  · have e1 : wrap64 (Int.tdiv 4 2) = 2 := by decide +kernel
    have e2 : wrap64 (wrap64 (2 * Int.tmod 4 2) - 1) = -1 := by decide +kernel
    rw [e1, e2, if_pos (by decide), if_pos (by simp)]
    show ((spec_l13At.f a b c l [x, y, wrap64 (z + (-1))]).bind fun t => some t) = _
    rw [w64 (n := z + (-1)) (by omega) (by omega), at_spec a b c l _ _ _ ha hb hc, Option.bind_some]
    simp [impl_Blocks_next.dx]
  · have e1 : wrap64 (Int.tdiv 5 2) = 2 := by decide +kernel
    have e2 : wrap64 (wrap64 (2 * Int.tmod 5 2) - 1) = 1 := by decide +kernel
    rw [e1, e2, if_pos (by decide), if_pos (by simp)]
    show ((spec_l13At.f a b c l [x, y, wrap64 (z + 1)]).bind fun t => some t) = _
    rw [w64 (n := z + 1) (by omega) (by omega), at_spec a b c l _ _ _ ha hb hc, Option.bind_some]
    simp [impl_Blocks_next.dx]
theorem next_range (a b c : Int) (n way : Int) (ha : 1 ≤ a ∧ a ≤ 8) (hb : 1 ≤ b ∧ b ≤ 8) (hc : 1 ≤ c ∧ c ≤ 8) : -1 ≤ nextAt a b c n way ∧ nextAt a b c n way < a * b * c := numAt_range a b c _ _ _ ha hb hc
theorem rd_set {L : List Int} {i : Nat} (v : Int) (j : Nat) (hi : i < L.length) (hj : j < L.length) : rd (L.set i v) (j : Int) = if i = j then v else rd L (j : Int) := by
  rw [rd_get (by rw [List.length_set]; exact hj), List.getElem_set, rd_get hj]
def Edge (a b c : Int) (l : List Int) (i t : Nat) : Prop := ∃ w : Nat, w < 6 ∧ nextAt a b c (i : Int) (w : Int) = (t : Int) ∧ rd l (t : Int) = 0
structure Lit (a b c : Int) (l L o : List Int) : Prop where
  len : o.length = l.length
  lo : ∀ t : Nat, t < l.length → 0 ≤ rd o (t : Int) ∧ rd o (t : Int) ≤ 15
  src : ∀ t : Nat, t < l.length → (t : Int) ∈ L → rd o (t : Int) = 15
  just : ∀ t : Nat, t < l.length → 1 ≤ rd o (t : Int) → (t : Int) ∈ L ∨ ∃ i : Nat, i < l.length ∧ Edge a b c l i t ∧ rd o (t : Int) + 1 ≤ rd o (i : Int)
def Clo (a b c : Int) (l o : List Int) (j : Nat) : Prop := ∀ t : Nat, t < l.length → Edge a b c l j t → rd o (j : Int) - 1 ≤ rd o (t : Int)
abbrev R2 := List Int × Bool
structure QL (a b c : Int) (l L : List Int) (r : R2) : Prop where
  yes : r.2 = true
  lit : Lit a b c l L r.1
  clo : ∀ j : Nat, j < l.length → 2 ≤ rd r.1 (j : Int) → Clo a b c l r.1 j
theorem lit_le {a b c : Int} {l L o1 o2 : List Int} (h1 : Lit a b c l L o1) (h2 : Lit a b c l L o2) (hc : ∀ j : Nat, j < l.length → 2 ≤ rd o2 (j : Int) → Clo a b c l o2 j) :
    ∀ (m t : Nat), t < l.length → 15 - rd o1 (t : Int) ≤ (m : Int) → rd o1 (t : Int) ≤ rd o2 (t : Int) := by
  intro m
  induction m with
  | zero =>
    intro t ht hm
    have hl := h1.lo t ht
    have hl2 := h2.lo t ht
    by_cases hp : 1 ≤ rd o1 (t : Int)
    · rcases h1.just t ht hp with hL | ⟨i, hi, he, hv⟩
      · have := h2.src t ht hL; omega
      · have := h1.lo i hi; omega
    · omega
  | succ m ih =>
    intro t ht hm
    have hl := h1.lo t ht
    have hl2 := h2.lo t ht
    by_cases hp : 1 ≤ rd o1 (t : Int)
    · rcases h1.just t ht hp with hL | ⟨i, hi, he, hv⟩
      · have := h2.src t ht hL; omega
      · have h3 := ih i hi (by omega)
        have h4 := hc i hi (by omega) t ht he
        omega
    · omega
theorem lit_eq {a b c : Int} {l L : List Int} {r1 r2 : R2} (h1 : QL a b c l L r1) (h2 : QL a b c l L r2) : r1 = r2 := by
  obtain ⟨o1, b1⟩ := r1
  obtain ⟨o2, b2⟩ := r2
  obtain ⟨y1, l1, c1⟩ := h1
  obtain ⟨y2, l2, c2⟩ := h2
  have e1 : o1.length = l.length := l1.len
  have e2 : o2.length = l.length := l2.len
  have hb : b1 = b2 := y1.trans y2.symm
  have ho : o1 = o2 := List.ext_getElem (by rw [l1.len, l2.len]) (fun i hi hi' => by
    have ht : i < l.length := by omega
    have g1 := l1.lo i ht
    have g2 := l2.lo i ht
    have h3 := lit_le l1 l2 c2 15 i ht (by omega)
    have h4 := lit_le l2 l1 c1 15 i ht (by omega)
    have h5 : rd o1 (i : Int) = rd o2 (i : Int) := Int.le_antisymm h3 h4
    rwa [rd_get hi, rd_get hi'] at h5)
  rw [hb, ho]
theorem clo_up {a b c : Int} {l o o' : List Int} {j : Nat} (h : Clo a b c l o j) (e : rd o' (j : Int) = rd o (j : Int)) (hup : ∀ t : Nat, t < l.length → rd o (t : Int) ≤ rd o' (t : Int)) : Clo a b c l o' j := fun t ht he => by
  rw [e]; exact Int.le_trans (h t ht he) (hup t ht)
structure Put (a b c : Int) (l L o o' : List Int) (t : Nat) (v : Int) : Prop where
  lit : Lit a b c l L o'
  up : ∀ j : Nat, j < l.length → rd o (j : Int) ≤ rd o' (j : Int)
  at_ : rd o' (t : Int) = v
  oth : ∀ j : Nat, j < l.length → j ≠ t → rd o' (j : Int) = rd o (j : Int)
theorem lit_set {a b c : Int} {l L o : List Int} (h : Lit a b c l L o) {i t : Nat} {v : Int} (hi : i < l.length) (ht : t < l.length) (he : Edge a b c l i t) (hv : v = rd o (i : Int) - 1) (hlt : rd o (t : Int) < v) :
    Put a b c l L o (o.set t v) t v := by
  have hlen := h.len
  have hs : ∀ j : Nat, j < l.length → rd (o.set t v) (j : Int) = if t = j then v else rd o (j : Int) := fun j hj => rd_set v j (by omega) (by omega)
  have hup : ∀ j : Nat, j < l.length → rd o (j : Int) ≤ rd (o.set t v) (j : Int) := fun j hj => by
    rw [hs j hj]
    by_cases e : t = j
    · subst e; rw [if_pos rfl]; omega
    · rw [if_neg e]; exact Int.le_refl _
  have hii := h.lo i hi
  have htt := h.lo t ht
  refine ⟨⟨by rw [List.length_set]; exact hlen, fun j hj => ?_, fun j hj hL => ?_, fun j hj hp => ?_⟩, hup, by rw [hs t ht, if_pos rfl], fun j hj hne => by rw [hs j hj, if_neg (fun e => hne e.symm)]⟩
  · have := h.lo j hj
    rw [hs j hj]
    by_cases e : t = j
    · rw [if_pos e]; omega
    · rw [if_neg e]; exact this
  · have := h.src j hj hL
    rw [hs j hj]
    by_cases e : t = j
    · subst e; omega
    · rw [if_neg e]; exact this
  · rw [hs j hj] at hp ⊢
    by_cases e : t = j
    · subst e
      rw [if_pos rfl]
      refine Or.inr ⟨i, hi, he, ?_⟩
      rw [hs i hi, if_neg (fun e => by subst e; omega)]
      omega
    · rw [if_neg e] at hp ⊢
      rcases h.just j hj hp with hL | ⟨p, hp', hpe, hpv⟩
      · exact Or.inl hL
      · exact Or.inr ⟨p, hp', hpe, Int.le_trans hpv (hup p hp')⟩
/-! the reference: level by level -/
theorem spec_ways {a : Int} {b : Int} {c : Int} {l : List Int} {L : List Int} (ha : 1 ≤ a ∧ a ≤ 8) (hb : 1 ≤ b ∧ b ≤ 8) (hc : 1 ≤ c ∧ c ≤ 8) (hlen : (l.length : Int) = a * b * c) (hl5 : l.length ≤ 512) (lv : Nat) (h2 : 2 ≤ lv) (h15 : lv ≤ 15) (i : Nat) (hi : i < l.length)
    (K : ∀ o, Lit a b c l L o → (∀ j : Nat, j < l.length → ((lv : Int) < rd o (j : Int) ∨ (rd o (j : Int) = (lv : Int) ∧ j < i + 1)) → Clo a b c l o j) → Yes (QL a b c l L) (fun k => spec_LightOf.l2 k o (lv : Int) (l.length : Int) ((i + 1 : Nat) : Int) a b c l)) :
    ∀ (m w : Nat) (o : List Int), w + m = 6 → Lit a b c l L o → rd o (i : Int) = (lv : Int) → (∀ j : Nat, j < l.length → ((lv : Int) < rd o (j : Int) ∨ (rd o (j : Int) = (lv : Int) ∧ j < i)) → Clo a b c l o j) →
      (∀ w' : Nat, w' < w → ∀ t : Nat, t < l.length → nextAt a b c (i : Int) (w' : Int) = (t : Int) → rd l (t : Int) = 0 → (lv : Int) - 1 ≤ rd o (t : Int)) →
      Yes (QL a b c l L) (fun k => spec_LightOf.l3 k o (lv : Int) (i : Int) (w : Int) (l.length : Int) (i : Int) a b c l) := by
  intro m
  induction m with
  | zero =>
    intro w o hw hL hri hB hW
    refine Yes.step (fun k => spec_LightOf.l3.eq_2 _ _ _ _ _ _ _ _ _ _ k) (Yes.neg (by omega) ?_)
    rw [w_succ (by omega)]
    refine K o hL (fun j hj h => ?_)
    by_cases e : j = i
    · subst e
      intro t ht he
      obtain ⟨w', hw', hn, h0⟩ := he
      rw [hri]
      exact hW w' (by omega) t ht hn h0
    · exact hB j hj (by omega)
  | succ m ih =>
    intro w o hw hL hri hB hW
    refine Yes.step (fun k => spec_LightOf.l3.eq_2 _ _ _ _ _ _ _ _ _ _ k) (Yes.pos (by omega) (Yes.cbind (next_spec a b c l (i : Int) (w : Int) ha hb hc (by omega) (by omega)) ?_))
    rw [w_succ (by omega), w_pred (by omega)]
    have hr := next_range a b c (i : Int) (w : Int) ha hb hc
    generalize hg : nextAt a b c (i : Int) (w : Int) = z at hr ⊢
    have hW' : ∀ o', (∀ t : Nat, t < l.length → rd o (t : Int) ≤ rd o' (t : Int)) → (∀ t : Nat, t < l.length → z = (t : Int) → rd l (t : Int) = 0 → (lv : Int) - 1 ≤ rd o' (t : Int)) →
        ∀ w' : Nat, w' < w + 1 → ∀ t : Nat, t < l.length → nextAt a b c (i : Int) (w' : Int) = (t : Int) → rd l (t : Int) = 0 → (lv : Int) - 1 ≤ rd o' (t : Int) := fun o' hu hz w' hw' t ht he h0 => by
      by_cases e : w' = w
      · subst e
        rw [hg] at he
        exact hz t ht he h0
      · exact Int.le_trans (hW w' (by omega) t ht he h0) (hu t ht)
    refine Yes.ite (fun hz => ?_) (fun hz => ih (w + 1) o (by omega) hL hri hB (hW' o (fun _ _ => Int.le_refl _) (fun t ht e _ => by omega)))
    obtain ⟨p, rfl⟩ := Int.eq_ofNat_of_zero_le (show 0 ≤ z by omega)
    have hp : p < l.length := by omega
    have hlo := hL.len
    refine Yes.pos (by omega) (Yes.pos (by omega) (Yes.ite (fun h0 => ?_) (fun h0 => ih (w + 1) o (by omega) hL hri hB (hW' o (fun _ _ => Int.le_refl _) (fun t ht e h => by
      have e : p = t := by omega
      subst e
      exact absurd h h0)))))
    refine Yes.pos (by omega) (Yes.ite (fun hlt => ?_) (fun hge => ih (w + 1) o (by omega) hL hri hB (hW' o (fun _ _ => Int.le_refl _) (fun t ht e h => by
      have e : p = t := by omega
      subst e
      omega))))
    rw [Int.toNat_natCast]
    have P := lit_set hL hi hp ⟨w, by omega, hg, h0⟩ (v := (lv : Int) - 1) (by omega) hlt
    have hip : i ≠ p := fun e => by
      subst e
      omega
    have hat := P.at_
    refine ih (w + 1) (o.set p ((lv : Int) - 1)) (by omega) P.lit (by rw [P.oth i hi hip]; exact hri) (fun j hj h => ?_) (hW' _ P.up (fun t ht e h => by
      have e : p = t := by omega
      subst e
      omega))
    have hjp : j ≠ p := fun e => by
      subst e
      omega
    rw [P.oth j hj hjp] at h
    exact clo_up (hB j hj h) (P.oth j hj hjp) P.up
theorem spec_level {a : Int} {b : Int} {c : Int} {l : List Int} {L : List Int} (ha : 1 ≤ a ∧ a ≤ 8) (hb : 1 ≤ b ∧ b ≤ 8) (hc : 1 ≤ c ∧ c ≤ 8) (hlen : (l.length : Int) = a * b * c) (hl5 : l.length ≤ 512) (lv : Nat) (h2 : 2 ≤ lv) (h15 : lv ≤ 15) (K : ∀ o, Lit a b c l L o → (∀ j : Nat, j < l.length → (lv : Int) ≤ rd o (j : Int) → Clo a b c l o j) → Yes (QL a b c l L) (fun k => spec_LightOf.l1 k o ((lv : Int) - 1) a b c l)) :
    ∀ (m i : Nat) (o : List Int), i + m = l.length → Lit a b c l L o → (∀ j : Nat, j < l.length → ((lv : Int) < rd o (j : Int) ∨ (rd o (j : Int) = (lv : Int) ∧ j < i)) → Clo a b c l o j) →
      Yes (QL a b c l L) (fun k => spec_LightOf.l2 k o (lv : Int) (l.length : Int) (i : Int) a b c l) := by
  intro m
  induction m with
  | zero =>
    intro i o hi hL hB
    refine Yes.step (fun k => spec_LightOf.l2.eq_2 _ _ _ _ _ _ _ _ k) (Yes.neg (by omega) ?_)
    rw [w_pred (by omega)]
    exact K o hL (fun j hj h => hB j hj (by omega))
  | succ m ih =>
    intro i o hi hL hB
    have hlo := hL.len
    refine Yes.step (fun k => spec_LightOf.l2.eq_2 _ _ _ _ _ _ _ _ k) (Yes.pos (by omega) (Yes.pos (by omega) (Yes.pos (by omega) ?_)))
    refine Yes.ite (fun h => spec_ways ha hb hc hlen hl5 lv h2 h15 i (by omega) (fun o hL h => ih (i + 1) o (by omega) hL h) 6 0 o (by omega) hL h hB (fun w' hw' => absurd hw' (by omega))) (fun h => ?_)
    rw [w_succ (by omega)]
    exact ih (i + 1) o (by omega) hL (fun j hj h' => hB j hj (by
      by_cases e : j = i
      · subst e; omega
      · omega))
theorem spec_all {a : Int} {b : Int} {c : Int} {l : List Int} {L : List Int} (ha : 1 ≤ a ∧ a ≤ 8) (hb : 1 ≤ b ∧ b ≤ 8) (hc : 1 ≤ c ∧ c ≤ 8) (hlen : (l.length : Int) = a * b * c) (hl5 : l.length ≤ 512) : ∀ (m : Nat) (o : List Int), m ≤ 14 → Lit a b c l L o → (∀ j : Nat, j < l.length → ((m + 1 : Nat) : Int) < rd o (j : Int) → Clo a b c l o j) →
    Yes (QL a b c l L) (fun k => spec_LightOf.l1 k o ((m + 1 : Nat) : Int) a b c l) := by
  intro m
  induction m with
  | zero => exact fun o hm hL hB => Yes.step (fun k => spec_LightOf.l1.eq_2 _ _ _ _ _ _ k) (Yes.neg (by omega) (Yes.now _ ⟨rfl, hL, fun j hj h => hB j hj (by
    have h : 2 ≤ rd o (j : Int) := h
    omega)⟩))
  | succ m ih =>
    intro o hm hL hB
    refine Yes.step (fun k => spec_LightOf.l1.eq_2 _ _ _ _ _ _ k) (Yes.pos (by omega) ?_)
    rw [hL.len]
    exact spec_level ha hb hc hlen hl5 (m + 1 + 1) (by omega) (by omega) (fun o hL h => by
      rw [show ((m + 1 + 1 : Nat) : Int) - 1 = ((m + 1 : Nat) : Int) by omega]
      exact ih o (by omega) hL (fun j hj h' => h j hj (by omega))) l.length 0 o (by omega) hL (fun j hj h => hB j hj (by omega))
/-! the program: a queue -/
def gap : List Int → Nat
  | [] => 0
  | v :: s => (15 - v).toNat + gap s
theorem gap_set : ∀ (s : List Int) (t : Nat) (v : Int) (h : t < s.length), s[t] < v → v ≤ 15 → gap (s.set t v) + 1 ≤ gap s
  | b :: s, 0, v, _, e, h15 => by
    have e : b < v := e
    simp only [List.set_cons_zero, gap]; omega
  | b :: s, t + 1, v, h, e, h15 => by
    have ih := gap_set s t v (by simpa using h) e h15
    simp only [List.set_cons_succ, gap]; omega
theorem gap_le : ∀ s : List Int, (∀ v ∈ s, 0 ≤ v) → gap s ≤ 15 * s.length
  | [], _ => Nat.le_refl _
  | b :: s, h => by
    have ih := gap_le s (fun v hv => h v (List.mem_cons_of_mem _ hv))
    have := h b List.mem_cons_self
    simp only [gap, List.length_cons]; omega
theorem impl_ways {a : Int} {b : Int} {c : Int} {l : List Int} {L : List Int} (ha : 1 ≤ a ∧ a ≤ 8) (hb : 1 ≤ b ∧ b ≤ 8) (hc : 1 ≤ c ∧ c ≤ 8) (hlen : (l.length : Int) = a * b * c) (hl5 : l.length ≤ 512) (i : Nat) (hi : i < l.length) (lt : Int) (M : Nat) (hM : M ≤ 20000)
    (K : ∀ o T, Lit a b c l L o → (∀ q ∈ T, 0 ≤ q ∧ q < (l.length : Int)) → (∀ j : Nat, j < l.length → 2 ≤ rd o (j : Int) → (j : Int) ∈ T ∨ Clo a b c l o j) → 2 * gap o + T.length ≤ M → Yes (QL a b c l L) (fun k => impl_LightOf.l2 k o T a b c l)) :
    ∀ (m w : Nat) (o T : List Int), w + m = 6 → Lit a b c l L o → rd o (i : Int) - 1 = lt → (∀ q ∈ T, 0 ≤ q ∧ q < (l.length : Int)) → (∀ j : Nat, j < l.length → 2 ≤ rd o (j : Int) → j = i ∨ (j : Int) ∈ T ∨ Clo a b c l o j) →
      (∀ w' : Nat, w' < w → ∀ t : Nat, t < l.length → nextAt a b c (i : Int) (w' : Int) = (t : Int) → rd l (t : Int) = 0 → lt ≤ rd o (t : Int)) → 2 * gap o + T.length ≤ M →
      Yes (QL a b c l L) (fun k => impl_LightOf.l3 k o ((i : Int) :: T) lt (w : Int) a b c l) := by
  intro m
  induction m with
  | zero =>
    intro w o T hw hL hri hT hB hW hG
    refine Yes.step (fun k => impl_LightOf.l3.eq_2 _ _ _ _ _ _ _ _ k) (Yes.neg (by omega) (Yes.pos (by simp only [List.length_cons]; omega) ?_))
    refine K o T hL hT (fun j hj h2 => ?_) hG
    rcases hB j hj h2 with e | h | h
    · subst e
      refine Or.inr (fun t ht he => ?_)
      obtain ⟨w', hw', hn, h0⟩ := he
      have := hW w' (by omega) t ht hn h0
      omega
    · exact Or.inl h
    · exact Or.inr h
  | succ m ih =>
    intro w o T hw hL hri hT hB hW hG
    refine Yes.step (fun k => impl_LightOf.l3.eq_2 _ _ _ _ _ _ _ _ k) (Yes.pos (by omega) (Yes.pos (by simp only [List.length_cons]; omega) ?_))
    have e0 : rd ((i : Int) :: T) 0 = (i : Int) := rfl
    rw [e0, w_succ (by omega)]
    refine Yes.cbind (next_impl a b c l (i : Int) (w : Int) ha hb hc (by omega) (by omega)) ?_
    have hr := next_range a b c (i : Int) (w : Int) ha hb hc
    generalize hg : nextAt a b c (i : Int) (w : Int) = z at hr ⊢
    have hW' : ∀ o', (∀ t : Nat, t < l.length → rd o (t : Int) ≤ rd o' (t : Int)) → (∀ t : Nat, t < l.length → z = (t : Int) → rd l (t : Int) = 0 → lt ≤ rd o' (t : Int)) →
        ∀ w' : Nat, w' < w + 1 → ∀ t : Nat, t < l.length → nextAt a b c (i : Int) (w' : Int) = (t : Int) → rd l (t : Int) = 0 → lt ≤ rd o' (t : Int) := fun o' hu hz w' hw' t ht he h0 => by
      by_cases e : w' = w
      · subst e
        rw [hg] at he
        exact hz t ht he h0
      · exact Int.le_trans (hW w' (by omega) t ht he h0) (hu t ht)
    refine Yes.ite (fun hz => ?_) (fun hz => ih (w + 1) o T (by omega) hL hri hT hB (hW' o (fun _ _ => Int.le_refl _) (fun t ht e _ => by omega)) hG)
    obtain ⟨p, rfl⟩ := Int.eq_ofNat_of_zero_le (show 0 ≤ z by omega)
    have hp : p < l.length := by omega
    have hlo := hL.len
    refine Yes.pos (by omega) (Yes.pos (by omega) (Yes.ite (fun h0 => ?_) (fun h0 => ih (w + 1) o T (by omega) hL hri hT hB (hW' o (fun _ _ => Int.le_refl _) (fun t ht e h => by
      have e : p = t := by omega
      subst e
      exact absurd h h0)) hG)))
    refine Yes.pos (by omega) (Yes.ite (fun hlt => ?_) (fun hge => ih (w + 1) o T (by omega) hL hri hT hB (hW' o (fun _ _ => Int.le_refl _) (fun t ht e h => by
      have e : p = t := by omega
      subst e
      omega)) hG))
    refine Yes.pos (by simp only [List.length_cons]; omega) ?_
    rw [Int.toNat_natCast]
    have hii := hL.lo i hi
    have P := lit_set hL hi hp ⟨w, by omega, hg, h0⟩ (v := lt) (by omega) hlt
    have hip : i ≠ p := fun e => by
      subst e
      omega
    have hat := P.at_
    have hgap := gap_set o p lt (by omega) (by rw [← rd_get]; exact hlt) (by omega)
    refine ih (w + 1) (o.set p lt) (T ++ [(p : Int)]) (by omega) P.lit (by rw [P.oth i hi hip]; exact hri) (fun q hq => ?_) (fun j hj h2 => ?_) (hW' _ P.up (fun t ht e h => by
      have e : p = t := by omega
      subst e
      omega)) (by rw [List.length_append, List.length_singleton]; omega)
    · rcases List.mem_append.1 hq with h | h
      · exact hT q h
      · rw [List.mem_singleton.1 h]; omega
    · by_cases e : j = p
      · subst e
        exact Or.inr (Or.inl (List.mem_append_right _ (List.mem_singleton.2 rfl)))
      · rw [P.oth j hj e] at h2
        rcases hB j hj h2 with h | h | h
        · exact Or.inl h
        · exact Or.inr (Or.inl (List.mem_append_left _ h))
        · exact Or.inr (Or.inr (clo_up h (P.oth j hj e) P.up))
theorem impl_all {a : Int} {b : Int} {c : Int} {l : List Int} {L : List Int} (ha : 1 ≤ a ∧ a ≤ 8) (hb : 1 ≤ b ∧ b ≤ 8) (hc : 1 ≤ c ∧ c ≤ 8) (hlen : (l.length : Int) = a * b * c) (hl5 : l.length ≤ 512) : ∀ (M : Nat) (o T : List Int), M ≤ 20000 → Lit a b c l L o → (∀ q ∈ T, 0 ≤ q ∧ q < (l.length : Int)) → (∀ j : Nat, j < l.length → 2 ≤ rd o (j : Int) → (j : Int) ∈ T ∨ Clo a b c l o j) → 2 * gap o + T.length ≤ M →
    Yes (QL a b c l L) (fun k => impl_LightOf.l2 k o T a b c l) := by
  intro M
  have fin : ∀ o : List Int, Lit a b c l L o → (∀ j : Nat, j < l.length → 2 ≤ rd o (j : Int) → (j : Int) ∈ ([] : List Int) ∨ Clo a b c l o j) → Yes (QL a b c l L) (fun k => impl_LightOf.l2 k o [] a b c l) := fun o hL hB =>
    Yes.step (fun k => impl_LightOf.l2.eq_2 _ _ _ _ _ _ k) (Yes.neg (by simp) (Yes.now _ ⟨rfl, hL, fun j hj h => (hB j hj h).resolve_left (by simp)⟩))
  induction M with
  | zero =>
    intro o T hM hL hT hB hG
    obtain rfl : T = [] := List.eq_nil_of_length_eq_zero (by omega)
    exact fin o hL hB
  | succ M ih =>
    intro o T hM hL hT hB hG
    cases T with
    | nil => exact fin o hL hB
    | cons n T =>
      have hn := hT n List.mem_cons_self
      obtain ⟨i, rfl⟩ := Int.eq_ofNat_of_zero_le hn.1
      have hi : i < l.length := by omega
      have hlo := hL.len
      have hii := hL.lo i hi
      have e0 : rd ((i : Int) :: T) 0 = (i : Int) := rfl
      simp only [List.length_cons] at hG
      refine Yes.step (fun k => impl_LightOf.l2.eq_2 _ _ _ _ _ _ k) (Yes.pos (by simp only [List.length_cons]; omega) (Yes.pos (by simp only [List.length_cons]; omega) ?_))
      rw [e0, w64 (n := rd o (i : Int) - 1) (by omega) (by omega)]
      refine Yes.pos (by omega) (Yes.pos (by omega) ?_)
      refine impl_ways ha hb hc hlen hl5 i hi (rd o (i : Int) - 1) M (by omega) (fun o T hL hT hB hG => ih o T (by omega) hL hT hB hG) 6 0 o T (by omega) hL rfl (fun q hq => hT q (List.mem_cons_of_mem _ hq)) (fun j hj h2 => ?_) (fun w' hw' => absurd hw' (by omega)) (by omega)
      rcases hB j hj h2 with h | h
      · rcases List.mem_cons.1 h with e | h
        · exact Or.inl (by omega)
        · exact Or.inr (Or.inl h)
      · exact Or.inr (Or.inr h)
/-! the lights -/
structure Ini (l L o : List Int) (i : Nat) : Prop where
  len : o.length = l.length
  v : ∀ t : Nat, t < l.length → rd o (t : Int) = 0 ∨ (rd o (t : Int) = 15 ∧ (t : Int) ∈ L)
  d : ∀ t : Nat, t < l.length → (∃ j : Nat, j < i ∧ j < L.length ∧ rd L (j : Int) = (t : Int)) → rd o (t : Int) = 15
theorem ini_zero (l L : List Int) : Ini l L (List.replicate (l.length : Int).toNat 0) 0 :=
  ⟨by rw [List.length_replicate, Int.toNat_natCast], fun t ht => Or.inl (by rw [rd_get (by rw [List.length_replicate, Int.toNat_natCast]; exact ht), List.getElem_replicate]), fun t ht h => by
    obtain ⟨j, hj, _⟩ := h
    omega⟩
theorem ini_set {l L o : List Int} {i : Nat} (h : Ini l L o i) (hi : i < L.length) (h0 : 0 ≤ rd L (i : Int)) (h1 : rd L (i : Int) < (l.length : Int)) : Ini l L (o.set (rd L (i : Int)).toNat 15) (i + 1) := by
  have hm : rd L (i : Int) ∈ L := by rw [rd_get hi]; exact List.getElem_mem _
  have hlen := h.len
  obtain ⟨p, hp⟩ := Int.eq_ofNat_of_zero_le h0
  rw [hp] at hm h1 ⊢
  rw [Int.toNat_natCast]
  have hs : ∀ j : Nat, j < l.length → rd (o.set p 15) (j : Int) = if p = j then 15 else rd o (j : Int) := fun j hj => rd_set 15 j (by omega) (by omega)
  refine ⟨by rw [List.length_set]; exact hlen, fun t ht => ?_, fun t ht hd => ?_⟩
  · rw [hs t ht]
    by_cases e : p = t
    · subst e
      rw [if_pos rfl]
      exact Or.inr ⟨rfl, hm⟩
    · rw [if_neg e]; exact h.v t ht
  · rw [hs t ht]
    by_cases e : p = t
    · rw [if_pos e]
    · rw [if_neg e]
      obtain ⟨j, hj, hjl, hv⟩ := hd
      by_cases ej : j = i
      · subst ej
        omega
      · exact h.d t ht ⟨j, by omega, hjl, hv⟩
theorem ini_lit {a b c : Int} {l L o : List Int} (h : Ini l L o L.length) : Lit a b c l L o := by
  refine ⟨h.len, fun t ht => ?_, fun t ht hL => ?_, fun t ht hp => ?_⟩
  · rcases h.v t ht with e | ⟨e, _⟩ <;> omega
  · obtain ⟨j, hj, e⟩ := List.getElem_of_mem hL
    exact h.d t ht ⟨j, hj, hj, by rw [rd_get hj]; exact e⟩
  · rcases h.v t ht with e | ⟨_, e⟩
    · omega
    · exact Or.inl e
/-- A loop that checks the lights in their order. -/
def lightAt (n : Int) (L : List Int) (i : Nat) : Bool := (decide (0 ≤ rd L (i : Int)) && decide (rd L (i : Int) ≤ wrap64 (n - 1))) && (if i = 0 then true else !decide (rd L ((i : Int) - 1) ≥ rd L (i : Int)))
theorem rise {σ : Type} (n : Int) (L : List Int) (hl : L.length ≤ 20) (Q : R2 → Prop) (Inv : Nat → σ → Prop) (G N E : Nat → σ → Int → Option R2)
    (hG : ∀ k s (i : Int), G (k + 1) s i = if i < (L.length : Int) then (if 0 ≤ i then (if i < (L.length : Int) then (if (decide (0 ≤ rd L i) && decide (rd L i ≤ wrap64 (n - 1))) = true then (if i > 0 then (if 0 ≤ wrap64 (i - 1) then (if wrap64 (i - 1) < (L.length : Int) then (if rd L (wrap64 (i - 1)) ≥ rd L i then some ([], false) else N k s i) else none) else none) else N k s i) else some ([], false)) else none) else none) else E k s i)
    (hN : ∀ (i : Nat) s, i < L.length → Inv i s → 0 ≤ rd L (i : Int) → rd L (i : Int) ≤ wrap64 (n - 1) → (∀ s', Inv (i + 1) s' → Yes Q (fun k => G k s' ((i + 1 : Nat) : Int))) → Yes Q (fun k => N k s (i : Int))) :
    ∀ (m i : Nat) (s : σ), i + m = L.length → Inv i s → (allFrom (lightAt n L) m i = false → Q ([], false)) → (allFrom (lightAt n L) m i = true → ∀ s, Inv L.length s → Yes Q (fun k => E k s (L.length : Int))) → Yes Q (fun k => G k s (i : Int)) := by
  intro m
  induction m with
  | zero =>
    intro i s hi hI _ hE
    have e : i = L.length := by omega
    subst e
    exact Yes.step (fun k => hG k _ _) (Yes.neg (by omega) (hE rfl s hI))
  | succ m ih =>
    intro i s hi hI hbad hE
    rw [allFrom] at hbad hE
    refine Yes.step (fun k => hG k _ _) (Yes.pos (by omega) (Yes.pos (by omega) (Yes.pos (by omega) ?_)))
    refine Yes.ite (fun h1 => ?_) (fun h1 => Yes.now _ (hbad (by unfold lightAt; rw [Bool.eq_false_iff.2 h1]; rfl)))
    have nx : (lightAt n L i = true) → Yes Q (fun k => N k s (i : Int)) := fun hi' => by
      rw [hi', Bool.true_and] at hbad hE
      have h2 := h1
      rw [Bool.and_eq_true, decide_eq_true_eq, decide_eq_true_eq] at h2
      exact hN i s (by omega) hI h2.1 h2.2 (fun s' hs' => ih (i + 1) s' (by omega) hs' hbad hE)
    by_cases hz : i = 0
    · refine Yes.neg (by omega) (nx ?_)
      unfold lightAt
      rw [h1, if_pos hz]
      rfl
    · refine Yes.pos (by omega) ?_
      rw [w_pred (by omega)]
      refine Yes.pos (by omega) (Yes.pos (by omega) (Yes.ite (fun h3 => Yes.now _ (hbad ?_)) (fun h3 => nx ?_)))
      · unfold lightAt
        rw [h1, if_neg hz, decide_eq_true h3]
        rfl
      · unfold lightAt
        rw [h1, if_neg hz, decide_eq_false h3]
        rfl
theorem both (a b c : Int) (l L : List Int) (hl : l.length ≤ maxLen) : Both (fun r : R2 => (r.1.length : Int) ≤ 1048576) (fun k => spec_LightOf.f k a b c l L) (fun k => impl_LightOf.f k a b c l L) := by
  have h1 := blocks_spec a b c l hl
  have h2 := blocks_impl a b c l hl
  have no : (([] : List Int).length : Int) ≤ 1048576 := by simp
  have sT : Ev (fun k => spec_LightOf.j0 k L true a b c l) ([], false) := Ev.step (fun k => spec_LightOf.j0.eq_2 _ _ _ _ _ _ k) (Ev.pos rfl (Ev.now _))
  have iT : Ev (fun k => impl_LightOf.j0 k L true a b c l) ([], false) := Ev.step (fun k => impl_LightOf.j0.eq_2 _ _ _ _ _ _ k) (Ev.pos rfl (Ev.now _))
  unfold spec_LightOf.f impl_LightOf.f
  cases h : blocksOk a b c l with
  | false =>
    rw [h] at h1 h2
    exact ⟨([], false), no, Ev.bind h1 (Ev.neg (by decide) sT), Ev.bind h2 (Ev.neg (by decide) iT)⟩
  | true =>
    rw [h] at h1 h2
    obtain ⟨ha, hb, hc, hlen, hall⟩ := blocks_yes h
    obtain ⟨_, _, _, _, _, _, _, _, h512⟩ := at_range (x := 0) (y := 0) (z := 0) ha.1 ha.2 hb.1 hb.2 hc.1 hc.2 (by omega) (by omega) (by omega) (by omega) (by omega) (by omega)
    have hl5 : l.length ≤ 512 := by omega
    by_cases h20 : (L.length : Int) > 20
    · rw [decide_eq_true h20]
      exact ⟨([], false), no, Ev.bind h1 (Ev.pos rfl sT), Ev.bind h2 (Ev.pos rfl iT)⟩
    · rw [decide_eq_false h20]
      have hL20 : L.length ≤ 20 := by omega
      have s0 : ∀ Q : R2 → Prop, (allFrom (lightAt (l.length : Int) L) L.length 0 = false → Q ([], false)) → (allFrom (lightAt (l.length : Int) L) L.length 0 = true → ∀ o, Ini l L o L.length → Yes Q (fun k => spec_LightOf.l1 k o 15 a b c l)) → Yes Q (fun k => spec_LightOf.j0 k L false a b c l) := fun Q hbad hE => by
        refine Yes.step (fun k => spec_LightOf.j0.eq_2 _ _ _ _ _ _ k) (Yes.neg (by decide) (Yes.pos (by omega) (Yes.pos (by rw [Int.toNat_natCast]; omega) ?_)))
        refine rise (l.length : Int) L hL20 Q (fun i o => Ini l L o i) (fun k o i => spec_LightOf.l0 k L o L (L.length : Int) i a b c l) (fun k o i => if 0 ≤ rd L i then (if rd L i < (o.length : Int) then spec_LightOf.l0 k L (o.set (rd L i).toNat 15) L (L.length : Int) (wrap64 (i + 1)) a b c l else none) else none) (fun k o _ => spec_LightOf.l1 k o 15 a b c l) (fun k o i => by rw [spec_LightOf.l0, in_spec]; rfl) (fun i o hi hI g0 g1 K => ?_) L.length 0 _ (by omega) (ini_zero l L) hbad hE
        have hlo := hI.len
        have g2 : rd L (i : Int) < (l.length : Int) := by rw [w64 (n := (l.length : Int) - 1) (by omega) (by omega)] at g1; omega
        rw [w_succ (by omega)]
        exact Yes.pos g0 (Yes.pos (by omega) (K _ (ini_set hI hi g0 g2)))
      have i1 : ∀ Q : R2 → Prop, (∀ i : Nat, i < L.length → 0 ≤ rd L (i : Int) ∧ rd L (i : Int) < (l.length : Int)) → (∀ o, Ini l L o L.length → Yes Q (fun k => impl_LightOf.l2 k o L a b c l)) → ∀ (m i : Nat) (o : List Int), i + m = L.length → Ini l L o i → Yes Q (fun k => impl_LightOf.l1 k o L L (L.length : Int) (i : Int) a b c l) := fun Q hr hE => by
        intro m
        induction m with
        | zero =>
          intro i o hi hI
          have e : i = L.length := by omega
          subst e
          exact Yes.step (fun k => impl_LightOf.l1.eq_2 _ _ _ _ _ _ _ _ _ k) (Yes.neg (by omega) (hE o hI))
        | succ m ih =>
          intro i o hi hI
          have hlo := hI.len
          obtain ⟨g0, g1⟩ := hr i (by omega)
          refine Yes.step (fun k => impl_LightOf.l1.eq_2 _ _ _ _ _ _ _ _ _ k) (Yes.pos (by omega) (Yes.pos (by omega) (Yes.pos (by omega) (Yes.pos g0 (Yes.pos (by omega) ?_)))))
          rw [w_succ (by omega)]
          exact ih (i + 1) _ (by omega) (ini_set hI (by omega) g0 g1)
      have i0 : ∀ Q : R2 → Prop, (allFrom (lightAt (l.length : Int) L) L.length 0 = false → Q ([], false)) → (allFrom (lightAt (l.length : Int) L) L.length 0 = true → ∀ o, Ini l L o L.length → Yes Q (fun k => impl_LightOf.l2 k o L a b c l)) → Yes Q (fun k => impl_LightOf.j0 k L false a b c l) := fun Q hbad hE => by
        refine Yes.step (fun k => impl_LightOf.j0.eq_2 _ _ _ _ _ _ k) (Yes.neg (by decide) ?_)
        refine rise (σ := Unit) (l.length : Int) L hL20 Q (fun _ _ => True) (fun k _ i => impl_LightOf.l0 k L L (L.length : Int) i a b c l) (fun k _ i => impl_LightOf.l0 k L L (L.length : Int) (wrap64 (i + 1)) a b c l) (fun k _ _ => if 0 ≤ (l.length : Int) then (if (l.length : Int).toNat ≤ 35184372088832 then ((slices_Clone_int_int.f L).bind fun t186 => impl_LightOf.l1 k (List.replicate (l.length : Int).toNat 0) t186 L (L.length : Int) 0 a b c l) else none) else none) (fun k _ i => by rw [impl_LightOf.l0, in_impl]; rfl) (fun i _ hi _ g0 g1 K => ?_) L.length 0 () (by omega) trivial hbad (fun ok _ _ => ?_)
        · rw [w_succ (by omega)]
          exact K () trivial
        · have hcl : slices_Clone_int_int.f L = some L := by
            unfold slices_Clone_int_int.f
            rw [Option.bind_some, if_pos (by simp only [List.length_nil]; omega), List.nil_append]
          have hr : ∀ i : Nat, i < L.length → 0 ≤ rd L (i : Int) ∧ rd L (i : Int) < (l.length : Int) := fun i hi => by
            have := (allFrom_iff _ _ _).1 ok i (by omega) (by omega)
            unfold lightAt at this
            simp only [Bool.and_eq_true, decide_eq_true_eq] at this
            have g1 := this.1.2
            rw [w64 (n := (l.length : Int) - 1) (by omega) (by omega)] at g1
            exact ⟨this.1.1, by omega⟩
          exact Yes.pos (by omega) (Yes.pos (by rw [Int.toNat_natCast]; omega) (Yes.cbind hcl (i1 Q hr (hE ok) L.length 0 _ (by omega) (ini_zero l L))))
      cases hok : allFrom (lightAt (l.length : Int) L) L.length 0 with
      | false =>
        obtain ⟨r, e, hr⟩ := s0 (fun r => r = ([], false)) (fun _ => rfl) (fun h => absurd (hok.symm.trans h) (by decide))
        obtain ⟨r', e', hr'⟩ := i0 (fun r => r = ([], false)) (fun _ => rfl) (fun h => absurd (hok.symm.trans h) (by decide))
        subst e
        subst e'
        exact ⟨([], false), no, Ev.bind h1 (Ev.pos rfl hr), Ev.bind h2 (Ev.pos rfl hr')⟩
      | true =>
        have hr : ∀ q ∈ L, 0 ≤ q ∧ q < (l.length : Int) := fun q hq => by
          obtain ⟨i, hi, e⟩ := List.getElem_of_mem hq
          have := (allFrom_iff _ _ _).1 hok i (by omega) (by omega)
          unfold lightAt at this
          simp only [Bool.and_eq_true, decide_eq_true_eq] at this
          have g1 := this.1
          rw [rd_get hi, e, w64 (n := (l.length : Int) - 1) (by omega) (by omega)] at g1
          omega
        obtain ⟨r, q, hs⟩ := s0 (QL a b c l L) (fun h => absurd (hok.symm.trans h) (by decide)) (fun _ o hI => spec_all ha hb hc hlen hl5 14 o (by omega) (ini_lit hI) (fun j hj h => by
          have := (ini_lit (a := a) (b := b) (c := c) hI).lo j hj
          omega))
        obtain ⟨r', q', hi⟩ := i0 (QL a b c l L) (fun h => absurd (hok.symm.trans h) (by decide)) (fun _ o hI => by
          have hlo := hI.len
          have hg := gap_le o (fun v hv => by
            obtain ⟨i, hi, e⟩ := List.getElem_of_mem hv
            have := (ini_lit (a := a) (b := b) (c := c) hI).lo i (by omega)
            rw [rd_get hi, e] at this
            omega)
          exact impl_all ha hb hc hlen hl5 (2 * gap o + L.length) o L (by omega) (ini_lit hI) hr (fun j hj h => by
            rcases hI.v j hj with e | ⟨_, e⟩
            · omega
            · exact Or.inl e) (Nat.le_refl _))
        obtain rfl := lit_eq q q'
        have hlr := q.lit.len
        exact ⟨r, by omega, Ev.bind h1 (Ev.pos rfl hs), Ev.bind h2 (Ev.pos rfl hi)⟩
theorem FnExactLightOf : laws_FnExactLightOf.Pure := by
  intro a b c l L _ _ _ ⟨hl, _⟩ ⟨hLl, _⟩
  refine Ev.rounds (r := true) ?_
  unfold laws_FnExactLightOf.f
  refine Ev.ite (fun _ => Ev.now _) (fun hL => ?_)
  have hLn : (L.length : Int) ≤ 1048576 := by omega
  refine Ev.const_bind (sz_blocks a b c l (by omega) (by omega) hl) (Ev.ite (fun _ => Ev.now _) (fun h => ?_))
  have hn := (roomLeft_ok h).1
  have ht := to_blocks a b c l hn
  have tL := to_ints L hLn
  obtain ⟨⟨r0, r1⟩, hr, h1, h2⟩ := both a b c l L hl
  have hr : (r0.length : Int) ≤ 1048576 := hr
  have he := eq_ints r0 hr
  have hm := mark_ints r0 (by omega)
  have hmL : Ev (fun k => laws_markIntS.f k L (1 + (l.length : Int))) (1 + (l.length : Int) + (L.length : Int), marks L.length (1 + (l.length : Int))) := markInt_ev laws_markIntS.l0 (fun k x c i => laws_markIntS.l0.eq_2 x c i k) (1 + (l.length : Int)) (by omega) L (by omega)
  have hh := held_ints r0.length (by omega)
  refine Ev.bind ht (Ev.bind tL (Ev.bind h1 (Ev.bind ht (Ev.bind tL (Ev.bind h2 (Ev.bind he (Ev.pos rfl ?_)))))))
  refine Ev.step (fun k => laws_FnExactLightOf.j0.eq_2 _ _ _ _ _ _ _ _ _ _ _ _ _ _ _ k) (Ev.neg (by simp) (Ev.bind ht (Ev.bind (eq_blocks a b c l hn) (Ev.pos rfl (Ev.bind tL (Ev.bind (eq_ints L hLn) (Ev.pos rfl (Ev.bind (mark_blocks a b c l hn) (Ev.bind hmL (Ev.neg (by first | (simp; done) | (simp; omega)) (Ev.bind he (Ev.pos rfl ?_))))))))))))
  refine Ev.step (fun k => laws_FnExactLightOf.j1.eq_2 _ _ _ _ _ _ _ _ _ k) (Ev.neg (by simp) (Ev.bind hm (Ev.bind hh (Ev.neg (by omega) (Ev.pos rfl (Ev.bind ht (Ev.bind tL (Ev.bind h2 (Ev.bind he (Ev.pos rfl ?_))))))))))
  exact Ev.step (fun k => laws_FnExactLightOf.j2.eq_2 _ _ _ k) (Ev.neg (by simp) (Ev.bind hh (Ev.neg (by omega) (Ev.pos rfl (Ev.now _)))))

end Go.Proofs.Ytjaljjdmolhhpaa.Pure
