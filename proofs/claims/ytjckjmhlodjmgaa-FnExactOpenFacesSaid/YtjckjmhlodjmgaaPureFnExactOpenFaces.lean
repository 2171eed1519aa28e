/- OpenFaces: the pure statement of the law: the program's counts are the reference's, for all blocks. -/
import Derived.Test.YtjckjmhlodjmgaaXFnExactOpenFacesx5
import Derived.Test.YtjckjmhlodjmgaaXLibOpenFaces
namespace Go.Proofs.Ytjckjmhlodjmgaa.Pure
open Go.RowKit Go.Proofs.Ytjckjmhlodjmgaa.XFnExactOpenFaces Go.Proofs.YtjckjmhlodjmgaaW.PrintWords Go.Proofs.YtjckjmhlodjmgaaW.PrintLast Go.Proofs.YtjckjmhlodjmgaaW.PrintMore Go.Proofs.Ytjckjmhlodjmgaa.X
set_option linter.unusedVariables false
set_option linter.unusedSimpArgs false

theorem in_spec (a b c : Int) : spec_l1In.f a b c = some (decide (b ≤ a) && decide (a ≤ c)) := by
  unfold spec_l1In.f
  by_cases h : b ≤ a <;> simp [h]
theorem in_impl (a b c : Int) : impl_inRange.f a b c = some (decide (b ≤ a) && decide (a ≤ c)) := by
  unfold impl_inRange.f
  by_cases h : b ≤ a <;> simp [h]
theorem sz_ints (l : List Int) {a : Int} (h0 : 0 ≤ a) (h1 : a ≤ 1048576) (hl : l.length ≤ maxLen) : laws_szIntS.f l a = some (roomLeft l.length a) := sz_left h0 h1 hl
theorem to_ints (l : List Int) (hl : (l.length : Int) ≤ 1048576) : Ev (fun k => laws_toIntS.f k l) l := by
  have h := toS_ev (0 : Int) (id : Int → Int) 0 laws_toIntS.l0 (fun k x y i => laws_toIntS.l0.eq_2 x y i k) l (by omega)
  rw [List.map_id] at h
  exact Ev.pos (by omega) (Ev.pos (by omega) h)
theorem eq_ints (l : List Int) (hl : (l.length : Int) ≤ 1048576) : Ev (fun k => laws_eqIntS.f k l l) true :=
  eqInt_ev laws_eqIntS.l0 (fun k x y i => laws_eqIntS.l0.eq_2 x y i k) l (by rw [maxLen_eq]; omega)
/-! blocks -/
def blocksOk (a b c : Int) (l : List Int) : Bool :=
  (decide (1 ≤ a) && decide (a ≤ 8)) && ((decide (1 ≤ b) && decide (b ≤ 8)) && ((decide (1 ≤ c) && decide (c ≤ 8)) && (decide ((l.length : Int) = wrap64 (wrap64 (a * b) * c)) && l.all fun n => decide (0 ≤ n) && decide (n ≤ 9))))
theorem blocks_spec (a b c : Int) (l : List Int) (hl : l.length ≤ maxLen) : Ev (fun k => spec_GoodBlocks.f k a b c l) (blocksOk a b c l) := by
  have h0 := all_ev (0 : Int) (fun n => decide (0 ≤ n) && decide (n ≤ 9)) spec_GoodBlocks.l0 (fun k x n i => by rw [spec_GoodBlocks.l0]; simp only [in_spec, Option.bind_some]; rfl) l hl
  have hj : ∀ z, Ev (fun k => spec_GoodBlocks.j0 k z a b c l) (!z && l.all fun n => decide (0 ≤ n) && decide (n ≤ 9)) := fun z =>
    Ev.step (fun k => spec_GoodBlocks.j0.eq_2 _ _ _ _ _ k) (Ev.andn (fun _ => h0))
  unfold spec_GoodBlocks.f blocksOk
  simp only [in_spec, Option.bind_some]
  cases ha : (decide (1 ≤ a) && decide (a ≤ 8)) with
  | false => exact Ev.neg (by decide) (hj true)
  | true =>
    refine Ev.pos rfl ?_
    cases hb : (decide (1 ≤ b) && decide (b ≤ 8)) with
    | false => exact Ev.neg (by decide) (hj true)
    | true =>
      refine Ev.pos rfl ?_
      cases hc : (decide (1 ≤ c) && decide (c ≤ 8)) with
      | false => exact Ev.neg (by decide) (hj true)
      | true =>
        refine Ev.pos rfl (Ev.cast (hj _) ?_)
        rw [Bool.true_and, Bool.true_and, Bool.true_and]
        congr 1
        by_cases h : (l.length : Int) = wrap64 (wrap64 (a * b) * c) <;> simp [h]
theorem blocks_impl (a b c : Int) (l : List Int) (hl : l.length ≤ maxLen) : Ev (fun k => impl_GoodBlocks.f k a b c l) (blocksOk a b c l) := by
  have h := contains_ev (0 : Int) (fun _ z => impl_GoodBlocks_1.f z) (fun n => !(decide (0 ≤ n) && decide (n ≤ 9))) slices_IndexFunc_int_int_at_impl_GoodBlocks_1.l0 (fun k x n i => slices_IndexFunc_int_int_at_impl_GoodBlocks_1.l0.eq_2 x n i k) l hl (fun z _ => Ev.mk (fun _ => by unfold impl_GoodBlocks_1.f; rw [in_impl]; rfl))
  unfold impl_GoodBlocks.f blocksOk slices_ContainsFunc_int_int_at_impl_GoodBlocks_1.f slices_IndexFunc_int_int_at_impl_GoodBlocks_1.f
  simp only [in_impl, Option.bind_some]
  refine Ev.and (fun _ => Ev.and (fun _ => Ev.and (fun _ => Ev.andp (fun _ => Ev.bind h (Ev.cast (Ev.now _) (any_not _ l))))))
theorem sz_blocks (a b c : Int) (l : List Int) {s : Int} (h0 : 0 ≤ s) (h1 : s ≤ 1048576) (hl : l.length ≤ maxLen) : laws_szBlocks.f a b c l s = some (roomLeft l.length s) := by
  unfold laws_szBlocks.f
  rw [sz_ints l h0 h1 hl, Option.bind_some]
  by_cases h : roomLeft l.length s < 0
  · rw [if_pos h]
    unfold roomLeft at h ⊢
    by_cases hc : (l.length : Int) ≤ s
    · rw [if_pos hc] at h; omega
    · rw [if_neg hc]
  · rw [if_neg h]
theorem to_blocks (a b c : Int) (l : List Int) (hl : (l.length : Int) ≤ 1048576) : Ev (fun k => laws_toBlocks.f k a b c l) (a, b, c, l) :=
  Ev.bind (to_ints l hl) (Ev.now _)
theorem eq_blocks (a b c : Int) (l : List Int) (hl : (l.length : Int) ≤ 1048576) : Ev (fun k => laws_eqBlocks.f k a b c l a b c l) true :=
  Ev.pos rfl (Ev.pos rfl (Ev.pos rfl (Ev.bind (eq_ints l hl) (Ev.pos rfl (Ev.now _)))))
theorem mark_ints (l : List Int) (hl : (l.length : Int) ≤ 4611686018427387000) : Ev (fun k => laws_markIntS.f k l 1) (1 + (l.length : Int), marks l.length 1) :=
  markInt_ev laws_markIntS.l0 (fun k x c i => laws_markIntS.l0.eq_2 x c i k) 1 (by omega) l (by omega)
theorem held_ints (n : Nat) (hn : (n : Int) ≤ 4611686018427387000) : Ev (fun k => laws_heldIntS.f k (marks n 1) 1) (1 + (n : Int)) :=
  heldInt_ev laws_heldIntS.l0 (fun k x c i => laws_heldIntS.l0.eq_2 x c i k) n 1 (by omega) (by omega)
theorem mark_blocks (a b c : Int) (l : List Int) (hl : (l.length : Int) ≤ 1048576) : Ev (fun k => laws_markBlocks.f k a b c l 1) (1 + (l.length : Int), marks l.length 1) :=
  Ev.bind (mark_ints l (by omega)) (Ev.now _)
/-! where a block lies -/
theorem at_range {a b c x y z : Int} (ha : 1 ≤ a) (ha' : a ≤ 8) (hb : 1 ≤ b) (hb' : b ≤ 8) (hc : 1 ≤ c) (hc' : c ≤ 8) (hx : 0 ≤ x) (hx' : x ≤ a - 1) (hy : 0 ≤ y) (hy' : y ≤ b - 1) (hz : 0 ≤ z) (hz' : z ≤ c - 1) :
    0 ≤ z * b ∧ z * b ≤ 56 ∧ 0 ≤ (z * b + y) * a ∧ (z * b + y) * a ≤ 504 ∧ (z * b + y) * a + x < a * b * c ∧ 0 ≤ a * b ∧ a * b ≤ 64 ∧ 0 ≤ a * b * c ∧ a * b * c ≤ 512 := by
  have h1 : 0 ≤ z * b := Int.mul_nonneg hz (by omega)
  have h2 : z * b ≤ (c - 1) * b := Int.mul_le_mul_of_nonneg_right hz' (by omega)
  have h3 : z * b ≤ 7 * b := Int.mul_le_mul_of_nonneg_right (by omega) (by omega)
  have h4 : 0 ≤ (z * b + y) * a := Int.mul_nonneg (by omega) (by omega)
  have e1 : (c - 1) * b = c * b - b := by rw [Int.sub_mul, Int.one_mul]
  have h5 : (z * b + y) * a ≤ (c * b - 1) * a := Int.mul_le_mul_of_nonneg_right (by omega) (by omega)
  have e2 : (c * b - 1) * a = a * b * c - a := by rw [Int.sub_mul, Int.one_mul, Int.mul_comm (c * b) a, Int.mul_assoc a b c, Int.mul_comm b c]
  have h6 : (z * b + y) * a ≤ 63 * a := Int.mul_le_mul_of_nonneg_right (by omega) (by omega)
  have h7 : 0 ≤ a * b := Int.mul_nonneg (by omega) (by omega)
  have h8 : a * b ≤ 8 * b := Int.mul_le_mul_of_nonneg_right ha' (by omega)
  have h9 : 0 ≤ a * b * c := Int.mul_nonneg h7 (by omega)
  have h10 : a * b * c ≤ 64 * c := Int.mul_le_mul_of_nonneg_right (by omega) (by omega)
  refine ⟨h1, by omega, h4, by omega, by omega, h7, by omega, h9, by omega⟩
theorem blocks_yes {a b c : Int} {l : List Int} (h : blocksOk a b c l = true) : (1 ≤ a ∧ a ≤ 8) ∧ (1 ≤ b ∧ b ≤ 8) ∧ (1 ≤ c ∧ c ≤ 8) ∧ (l.length : Int) = a * b * c ∧ (∀ n ∈ l, 0 ≤ n ∧ n ≤ 9) := by
  unfold blocksOk at h
  simp only [Bool.and_eq_true, decide_eq_true_eq, List.all_eq_true] at h
  obtain ⟨ha, hb, hc, hl, hall⟩ := h
  obtain ⟨_, _, _, _, _, h1, h2, h3, h4⟩ := at_range (x := 0) (y := 0) (z := 0) ha.1 ha.2 hb.1 hb.2 hc.1 hc.2 (by omega) (by omega) (by omega) (by omega) (by omega) (by omega)
  rw [w64 (n := a * b) (by omega) (by omega), w64 (by omega) (by omega)] at hl
  exact ⟨ha, hb, hc, hl, hall⟩
/-- The number of a place, -1 where it is none. -/
def numAt (a b c x y z : Int) : Int := if (0 ≤ x ∧ x ≤ a - 1) ∧ (0 ≤ y ∧ y ≤ b - 1) ∧ (0 ≤ z ∧ z ≤ c - 1) then (z * b + y) * a + x else -1
theorem numAt_range (a b c x y z : Int) (ha : 1 ≤ a ∧ a ≤ 8) (hb : 1 ≤ b ∧ b ≤ 8) (hc : 1 ≤ c ∧ c ≤ 8) : -1 ≤ numAt a b c x y z ∧ numAt a b c x y z < a * b * c := by
  unfold numAt
  split
  · rename_i h
    obtain ⟨hx, hy, hz⟩ := h
    obtain ⟨_, _, h3, _, h5, _⟩ := at_range ha.1 ha.2 hb.1 hb.2 hc.1 hc.2 hx.1 hx.2 hy.1 hy.2 hz.1 hz.2
    omega
  · obtain ⟨_, _, _, _, _, _, _, h8, _⟩ := at_range (x := 0) (y := 0) (z := 0) ha.1 ha.2 hb.1 hb.2 hc.1 hc.2 (by omega) (by omega) (by omega) (by omega) (by omega) (by omega)
    omega
theorem num_wrap {a b c x y z : Int} (ha : 1 ≤ a ∧ a ≤ 8) (hb : 1 ≤ b ∧ b ≤ 8) (hc : 1 ≤ c ∧ c ≤ 8) (hx : 0 ≤ x ∧ x ≤ a - 1) (hy : 0 ≤ y ∧ y ≤ b - 1) (hz : 0 ≤ z ∧ z ≤ c - 1) :
    wrap64 (wrap64 (wrap64 (wrap64 (z * b) + y) * a) + x) = numAt a b c x y z := by
  obtain ⟨h1, h2, h3, h4, h5, _⟩ := at_range ha.1 ha.2 hb.1 hb.2 hc.1 hc.2 hx.1 hx.2 hy.1 hy.2 hz.1 hz.2
  unfold numAt
  rw [if_pos ⟨hx, hy, hz⟩, w64 (n := z * b) (by omega) (by omega), w64 (n := z * b + y) (by omega) (by omega), w64 (n := (z * b + y) * a) (by omega) (by omega), w64 (by omega) (by omega)]
theorem at_spec (a b c : Int) (l : List Int) (x y z : Int) (ha : 1 ≤ a ∧ a ≤ 8) (hb : 1 ≤ b ∧ b ≤ 8) (hc : 1 ≤ c ∧ c ≤ 8) : spec_l13At.f a b c l [x, y, z] = some (numAt a b c x y z) := by
  unfold spec_l13At.f
  simp only [in_spec, Option.bind_some]
  rw [w64 (n := a - 1) (by omega) (by omega), w64 (n := b - 1) (by omega) (by omega), w64 (n := c - 1) (by omega) (by omega)]
  have e0 : rd [x, y, z] 0 = x := rfl
  have e1 : rd [x, y, z] 1 = y := rfl
  have e2 : rd [x, y, z] 2 = z := rfl
  rw [e0, e1, e2, if_pos (show (0 : Int) < (([x, y, z] : List Int).length : Int) by simp), if_pos (show (1 : Int) < (([x, y, z] : List Int).length : Int) by simp), if_pos (show (2 : Int) < (([x, y, z] : List Int).length : Int) by simp)]
  by_cases hx : 0 ≤ x ∧ x ≤ a - 1
  · rw [if_pos (by simp [hx])]
    by_cases hy : 0 ≤ y ∧ y ≤ b - 1
    · rw [if_pos (by simp [hy])]
      by_cases hz : 0 ≤ z ∧ z ≤ c - 1
      · rw [if_pos (by simp [hz]), num_wrap ha hb hc hx hy hz]
      · rw [if_neg (by simpa using hz)]; unfold numAt; rw [if_neg (fun h => hz h.2.2)]
    · rw [if_neg (by simpa using hy)]; unfold numAt; rw [if_neg (fun h => hy h.2.1)]
  · rw [if_neg (by simpa using hx)]; unfold numAt; rw [if_neg (fun h => hx h.1)]
theorem number_impl (a b c : Int) (l : List Int) (x y z : Int) (ha : 1 ≤ a ∧ a ≤ 8) (hb : 1 ≤ b ∧ b ≤ 8) (hc : 1 ≤ c ∧ c ≤ 8) : impl_Blocks_number.f a b c l x y z = some (numAt a b c x y z) := by
  unfold impl_Blocks_number.f
  simp only [in_impl, Option.bind_some]
  rw [w64 (n := a - 1) (by omega) (by omega), w64 (n := b - 1) (by omega) (by omega), w64 (n := c - 1) (by omega) (by omega)]
  by_cases hx : 0 ≤ x ∧ x ≤ a - 1
  · rw [if_pos (by simp [hx])]
    by_cases hy : 0 ≤ y ∧ y ≤ b - 1
    · rw [if_pos (by simp [hy])]
      by_cases hz : 0 ≤ z ∧ z ≤ c - 1
      · rw [if_pos (by simp [hz]), num_wrap ha hb hc hx hy hz]
      · rw [if_neg (by simpa using hz)]; unfold numAt; rw [if_neg (fun h => hz h.2.2)]
    · rw [if_neg (by simpa using hy)]; unfold numAt; rw [if_neg (fun h => hy h.2.1)]
  · rw [if_neg (by simpa using hx)]; unfold numAt; rw [if_neg (fun h => hx h.1)]
/-! the next cell along a way -/
def nextAt (a b c n way : Int) : Int := numAt a b c (n % a + impl_Blocks_next.dx way 0) (n / a % b + impl_Blocks_next.dx way 1) (n / a / b + impl_Blocks_next.dx way 2)
theorem next_impl (a b c : Int) (l : List Int) (n way : Int) (ha : 1 ≤ a ∧ a ≤ 8) (hb : 1 ≤ b ∧ b ≤ 8) (hc : 1 ≤ c ∧ c ≤ 8) (hn : 0 ≤ n ∧ n ≤ 1000000) (hw : 0 ≤ way ∧ way ≤ 5) : impl_Blocks_next.f a b c l n way = some (nextAt a b c n way) := by
  unfold impl_Blocks_next.f
  rw [if_pos ⟨ha, hb, hn, hw⟩, number_impl a b c l _ _ _ ha hb hc]
  rfl
theorem next_spec (a b c : Int) (l : List Int) (n way : Int) (ha : 1 ≤ a ∧ a ≤ 8) (hb : 1 ≤ b ∧ b ≤ 8) (hc : 1 ≤ c ∧ c ≤ 8) (hn : 0 ≤ n ∧ n ≤ 1000000) (hw : 0 ≤ way ∧ way ≤ 5) : spec_l13Next.f a b c l n way = some (nextAt a b c n way) := by
  have q0 : 0 ≤ n / a := Int.ediv_nonneg hn.1 (by omega)
  have q1 : n / a ≤ 1000000 := Int.le_trans (Int.ediv_le_self _ hn.1) hn.2
  have q2 : 0 ≤ n / a / b := Int.ediv_nonneg q0 (by omega)
  have q3 : n / a / b ≤ 1000000 := Int.le_trans (Int.ediv_le_self _ q0) q1
  have q4 : 0 ≤ n % a := Int.emod_nonneg _ (by omega)
  have q5 : n % a < a := Int.emod_lt_of_pos _ (by omega)
  have q6 : 0 ≤ n / a % b := Int.emod_nonneg _ (by omega)
  have q7 : n / a % b < b := Int.emod_lt_of_pos _ (by omega)
  have hp : spec_l13Place.f a b c l n = some [n % a, n / a % b, n / a / b] := by
    unfold spec_l13Place.f
    rw [if_neg (by omega), if_neg (by omega), Int.tmod_eq_emod_of_nonneg hn.1, Int.tdiv_eq_ediv_of_nonneg hn.1, w64 (n := n / a) (by omega) (by omega), Int.tmod_eq_emod_of_nonneg q0, Int.tdiv_eq_ediv_of_nonneg q0, w64 (n := n / a / b) (by omega) (by omega)]
  unfold spec_l13Next.f nextAt
  rw [hp, Option.bind_some]
  generalize n / a / b = z at q2 q3 ⊢
  generalize n / a % b = y at q6 q7 ⊢
  generalize n % a = x at q4 q5 ⊢
  have h6 : way = 0 ∨ way = 1 ∨ way = 2 ∨ way = 3 ∨ way = 4 ∨ way = 5 := by omega
  rcases h6 with rfl | rfl | rfl | rfl | rfl | rfl
  · have e1 : wrap64 (Int.tdiv 0 2) = 0 := by decide +kernel
    have e2 : wrap64 (wrap64 (2 * Int.tmod 0 2) - 1) = -1 := by decide +kernel
    rw [e1, e2, if_pos (by decide), if_pos (by simp)]
    show ((spec_l13At.f a b c l [wrap64 (x + (-1)), y, z]).bind fun t => some t) = _
    rw [w64 (n := x + (-1)) (by omega) (by omega), at_spec a b c l _ _ _ ha hb hc, Option.bind_some]
    simp [impl_Blocks_next.dx]
  · have e1 : wrap64 (Int.tdiv 1 2) = 0 := by decide +kernel
    have e2 : wrap64 (wrap64 (2 * Int.tmod 1 2) - 1) = 1 := by decide +kernel
    rw [e1, e2, if_pos (by decide), if_pos (by simp)]
    show ((spec_l13At.f a b c l [wrap64 (x + 1), y, z]).bind fun t => some t) = _
    rw [w64 (n := x + 1) (by omega) (by omega), at_spec a b c l _ _ _ ha hb hc, Option.bind_some]
    simp [impl_Blocks_next.dx]
  · have e1 : wrap64 (Int.tdiv 2 2) = 1 := by decide +kernel
    have e2 : wrap64 (wrap64 (2 * Int.tmod 2 2) - 1) = -1 := by decide +kernel
    rw [e1, e2, if_pos (by decide), if_pos (by simp)]
    show ((spec_l13At.f a b c l [x, wrap64 (y + (-1)), z]).bind fun t => some t) = _
    rw [w64 (n := y + (-1)) (by omega) (by omega), at_spec a b c l _ _ _ ha hb hc, Option.bind_some]
    simp [impl_Blocks_next.dx]
  · have e1 : wrap64 (Int.tdiv 3 2) = 1 := by decide +kernel
    have e2 : wrap64 (wrap64 (2 * Int.tmod 3 2) - 1) = 1 := by decide +kernel
    rw [e1, e2, if_pos (by decide), if_pos (by simp)]
    show ((spec_l13At.f a b c l [x, wrap64 (y + 1), z]).bind fun t => some t) = _
    rw [w64 (n := y + 1) (by omega) (by omega), at_spec a b c l _ _ _ ha hb hc, Option.bind_some]
    simp [impl_Blocks_next.dx]
  · have e1 : wrap64 (Int.tdiv 4 2) = 2 := by decide +kernel
    have e2 : wrap64 (wrap64 (2 * Int.tmod 4 2) - 1) = -1 := by decide +kernel
    rw [e1, e2, if_pos (by decide), if_pos (by simp)]
    show ((spec_l13At.f a b c l [x, y, wrap64 (z + (-1))]).bind fun t => some t) = _
    rw [w64 (n := z + (-1)) (by omega) (by omega), at_spec a b c l _ _ _ ha hb hc, Option.bind_some]
    simp [impl_Blocks_next.dx]
  · have e1 : wrap64 (Int.tdiv 5 2) = 2 := by decide +kernel
    have e2 : wrap64 (wrap64 (2 * Int.tmod 5 2) - 1) = 1 := by decide +kernel
    rw [e1, e2, if_pos (by decide), if_pos (by simp)]
    show ((spec_l13At.f a b c l [x, y, wrap64 (z + 1)]).bind fun t => some t) = _
    rw [w64 (n := z + 1) (by omega) (by omega), at_spec a b c l _ _ _ ha hb hc, Option.bind_some]
    simp [impl_Blocks_next.dx]
theorem next_range (a b c : Int) (n way : Int) (ha : 1 ≤ a ∧ a ≤ 8) (hb : 1 ≤ b ∧ b ≤ 8) (hc : 1 ≤ c ∧ c ≤ 8) : -1 ≤ nextAt a b c n way ∧ nextAt a b c n way < a * b * c := numAt_range a b c _ _ _ ha hb hc
def openB (a b c : Int) (l : List Int) (n w : Nat) : Bool := !decide (rd l (n : Int) = 0) && (decide (nextAt a b c (n : Int) (w : Int) < 0) || rd l (nextAt a b c (n : Int) (w : Int)) == 0)
/-- How many of the first n cells are open along the way w. -/
def cnt (a b c : Int) (l : List Int) : Nat → Nat → Int
  | 0, _ => 0
  | n + 1, w => cnt a b c l n w + if openB a b c l n w = true then 1 else 0
theorem cnt_range (a b c : Int) (l : List Int) (w : Nat) : ∀ n, 0 ≤ cnt a b c l n w ∧ cnt a b c l n w ≤ n
  | 0 => by simp [cnt]
  | n + 1 => by
    have := cnt_range a b c l w n
    simp only [cnt]
    split <;> omega
def tab (g : Nat → Int) : List Int := (List.range 6).map g
theorem tab_len (g : Nat → Int) : (tab g).length = 6 := by simp [tab]
theorem tab_rd (g : Nat → Int) {w : Nat} (h : w < 6) : rd (tab g) (w : Int) = g w := by
  rw [rd_get (by rw [tab_len]; exact h)]
  simp [tab]
theorem tab_congr {g h : Nat → Int} (e : ∀ v, v < 6 → g v = h v) : tab g = tab h := List.map_congr_left fun v hv => e v (List.mem_range.1 hv)
theorem tab_set (g : Nat → Int) (w : Nat) (x : Int) : (tab g).set w x = tab (fun v => if v = w then x else g v) := by
  apply List.ext_getElem
  · rw [List.length_set, tab_len, tab_len]
  · intro i h1 h2
    rw [List.getElem_set]
    simp only [tab, List.getElem_map, List.getElem_range]
    by_cases h : w = i
    · rw [if_pos h, if_pos h.symm]
    · rw [if_neg h, if_neg (fun e => h e.symm)]
theorem rd_ok (l : List Int) (hall : ∀ n ∈ l, 0 ≤ n ∧ n ≤ 9) {t : Int} (h0 : 0 ≤ t) (h1 : t < (l.length : Int)) : 0 ≤ rd l t := by
  obtain ⟨p, rfl⟩ := Int.eq_ofNat_of_zero_le h0
  rw [rd_get (by omega)]
  exact (hall _ (List.getElem_mem _)).1
theorem open_spec (a : Int) (b : Int) (c : Int) (l : List Int) (ha : 1 ≤ a ∧ a ≤ 8) (hb : 1 ≤ b ∧ b ≤ 8) (hc : 1 ≤ c ∧ c ≤ 8) (hlen : (l.length : Int) = a * b * c) (hl5 : l.length ≤ 512) (n w : Nat) (hn : n < l.length) (hw : w < 6) : spec_l13Open.f a b c l (n : Int) (w : Int) = some (openB a b c l n w) := by
  unfold spec_l13Open.f openB
  rw [if_pos (by omega), if_pos (by omega), next_spec a b c l (n : Int) (w : Int) ha hb hc (by omega) (by omega), Option.bind_some]
  have hr := next_range a b c (n : Int) (w : Int) ha hb hc
  generalize nextAt a b c (n : Int) (w : Int) = t at hr
  by_cases h0 : rd l (n : Int) = 0
  · rw [if_pos h0]; simp [h0]
  · rw [if_neg h0]
    by_cases ht : t < 0
    · rw [if_pos ht]; simp [h0, ht]
    · rw [if_neg ht, if_pos (by omega), if_pos (by omega)]; simp [h0, ht]
theorem open_impl (a : Int) (b : Int) (c : Int) (l : List Int) (ha : 1 ≤ a ∧ a ≤ 8) (hb : 1 ≤ b ∧ b ≤ 8) (hc : 1 ≤ c ∧ c ≤ 8) (hlen : (l.length : Int) = a * b * c) (hl5 : l.length ≤ 512) (hall : ∀ n ∈ l, 0 ≤ n ∧ n ≤ 9) (n w : Nat) (hn : n < l.length) (hw : w < 6) : ∃ v, impl_Blocks_open.f a b c l (n : Int) (w : Int) = some v ∧ decide (v > 0) = openB a b c l n w := by
  have hc0 := rd_ok l hall (t := (n : Int)) (by omega) (by omega)
  unfold impl_Blocks_open.f openB
  rw [next_impl a b c l (n : Int) (w : Int) ha hb hc (by omega) (by omega), Option.bind_some]
  have hr := next_range a b c (n : Int) (w : Int) ha hb hc
  generalize nextAt a b c (n : Int) (w : Int) = t at hr
  have e : (if 0 ≤ (n : Int) then (if (n : Int) < (l.length : Int) then some (rd l (n : Int)) else none) else none) = some (rd l (n : Int)) := by rw [if_pos (by omega), if_pos (by omega)]
  have eb : decide (rd l (n : Int) > 0) = !decide (rd l (n : Int) = 0) := by
    by_cases h : rd l (n : Int) = 0
    · rw [decide_eq_true h, decide_eq_false (by omega)]; rfl
    · rw [decide_eq_false h, decide_eq_true (by omega)]; rfl
  by_cases ht : t < 0
  · rw [if_neg (by omega), e]
    exact ⟨_, rfl, by rw [eb]; simp [ht]⟩
  · have ht0 := rd_ok l hall (t := t) (by omega) (by omega)
    rw [if_pos (by omega), if_pos (by omega), if_pos (by omega)]
    by_cases hp : rd l t > 0
    · rw [if_pos hp]
      exact ⟨0, rfl, by simp [ht, show ¬ rd l t = 0 by omega]⟩
    · rw [if_neg hp, e]
      exact ⟨_, rfl, by rw [eb]; simp [ht, show rd l t = 0 by omega]⟩
/-- The table behind the first w ways of cell n (the reference). -/
theorem ways_spec (a : Int) (b : Int) (c : Int) (l : List Int) (ha : 1 ≤ a ∧ a ≤ 8) (hb : 1 ≤ b ∧ b ≤ 8) (hc : 1 ≤ c ∧ c ≤ 8) (hlen : (l.length : Int) = a * b * c) (hl5 : l.length ≤ 512) (R : List Int × Bool) (n : Nat) (hn : n < l.length) (hE : Ev (fun k => spec_OpenFaces.l0 k (tab (cnt a b c l (n + 1))) (l.length : Int) (wrap64 ((n : Int) + 1)) a b c l) R) : ∀ m w : Nat, w + m = 6 →
    Ev (fun k => spec_OpenFaces.l1 k (tab (fun v => if v < w then cnt a b c l (n + 1) v else cnt a b c l n v)) (n : Int) (l.length : Int) (n : Int) 6 (w : Int) a b c l) R := by
  intro m
  induction m with
  | zero =>
    intro w hw
    refine Ev.step (fun k => spec_OpenFaces.l1.eq_2 _ _ _ _ _ _ _ _ _ _ k) (Ev.neg (by omega) ?_)
    rw [tab_congr (h := cnt a b c l (n + 1)) (fun v hv => if_pos (by omega))]
    exact hE
  | succ m ih =>
    intro w hw
    refine Ev.step (fun k => spec_OpenFaces.l1.eq_2 _ _ _ _ _ _ _ _ _ _ k) (Ev.pos (by omega) (Ev.const_bind (open_spec a b c l ha hb hc hlen hl5 n w hn (by omega)) ?_))
    have h := ih (w + 1) (by omega)
    have hcr := cnt_range a b c l w n
    rw [w_succ (by omega)]
    cases ho : openB a b c l n w with
    | true =>
      refine Ev.pos rfl (Ev.pos (by omega) (Ev.pos (by rw [tab_len]; omega) ?_))
      rw [tab_rd _ (by omega), if_neg (Nat.lt_irrefl w), Int.toNat_natCast, tab_set, w64 (by omega) (by omega)]
      rw [tab_congr (h := fun v => if v < w + 1 then cnt a b c l (n + 1) v else cnt a b c l n v) (fun v hv => by
        by_cases e : v = w
        · subst e; rw [if_pos rfl, if_pos (by omega), cnt, if_pos ho]
        · rw [if_neg e]
          by_cases h2 : v < w
          · rw [if_pos h2, if_pos (by omega)]
          · rw [if_neg h2, if_neg (by omega)])]
      exact h
    | false =>
      refine Ev.neg (by decide) ?_
      rw [tab_congr (h := fun v => if v < w + 1 then cnt a b c l (n + 1) v else cnt a b c l n v) (fun v hv => by
        by_cases e : v = w
        · subst e; rw [if_neg (Nat.lt_irrefl v), if_pos (by omega), cnt, if_neg (by rw [ho]; decide), Int.add_zero]
        · by_cases h2 : v < w
          · rw [if_pos h2, if_pos (by omega)]
          · rw [if_neg h2, if_neg (by omega)])]
      exact h
theorem cells_spec (a : Int) (b : Int) (c : Int) (l : List Int) (ha : 1 ≤ a ∧ a ≤ 8) (hb : 1 ≤ b ∧ b ≤ 8) (hc : 1 ≤ c ∧ c ≤ 8) (hlen : (l.length : Int) = a * b * c) (hl5 : l.length ≤ 512) : ∀ m n : Nat, n + m = l.length → Ev (fun k => spec_OpenFaces.l0 k (tab (cnt a b c l n)) (l.length : Int) (n : Int) a b c l) (tab (cnt a b c l l.length), true) := by
  intro m
  induction m with
  | zero =>
    intro n hn
    have e : n = l.length := by omega
    subst e
    exact Ev.step (fun k => spec_OpenFaces.l0.eq_2 _ _ _ _ _ _ _ k) (Ev.neg (by omega) (Ev.now _))
  | succ m ih =>
    intro n hn
    refine Ev.step (fun k => spec_OpenFaces.l0.eq_2 _ _ _ _ _ _ _ k) (Ev.pos (by omega) ?_)
    rw [tab_len]
    have h := ways_spec a b c l ha hb hc hlen hl5 _ n (by omega) (by rw [w_succ (by omega)]; exact ih (n + 1) (by omega)) 6 0 (by omega)
    rw [tab_congr (h := cnt a b c l n) (fun v _ => if_neg (Nat.not_lt_zero v))] at h
    exact h
/-- The table behind the first n cells along the way w (the program). -/
theorem cells_impl (a : Int) (b : Int) (c : Int) (l : List Int) (ha : 1 ≤ a ∧ a ≤ 8) (hb : 1 ≤ b ∧ b ≤ 8) (hc : 1 ≤ c ∧ c ≤ 8) (hlen : (l.length : Int) = a * b * c) (hl5 : l.length ≤ 512) (hall : ∀ n ∈ l, 0 ≤ n ∧ n ≤ 9) (R : List Int × Bool) (w : Nat) (hw : w < 6) (hE : Ev (fun k => impl_OpenFaces.l0 k (tab (fun v => if v < w + 1 then cnt a b c l l.length v else 0)) 6 (wrap64 ((w : Int) + 1)) a b c l) R) : ∀ m n : Nat, n + m = l.length →
    Ev (fun k => impl_OpenFaces.l1 k (tab (fun v => if v < w then cnt a b c l l.length v else if v = w then cnt a b c l n v else 0)) (w : Int) 6 (w : Int) (l.length : Int) (n : Int) a b c l) R := by
  intro m
  induction m with
  | zero =>
    intro n hn
    have e : n = l.length := by omega
    subst e
    refine Ev.step (fun k => impl_OpenFaces.l1.eq_2 _ _ _ _ _ _ _ _ _ _ k) (Ev.neg (by omega) ?_)
    rw [tab_congr (h := fun v => if v < w + 1 then cnt a b c l l.length v else 0) (fun v hv => by
      by_cases h2 : v < w
      · rw [if_pos h2, if_pos (by omega)]
      · rw [if_neg h2]
        by_cases h3 : v = w
        · rw [if_pos h3, if_pos (by omega)]
        · rw [if_neg h3, if_neg (by omega)])]
    exact hE
  | succ m ih =>
    intro n hn
    obtain ⟨t, ht, ho⟩ := open_impl a b c l ha hb hc hlen hl5 hall n w (by omega) hw
    refine Ev.step (fun k => impl_OpenFaces.l1.eq_2 _ _ _ _ _ _ _ _ _ _ k) (Ev.pos (by omega) (Ev.const_bind ht ?_))
    have h := ih (n + 1) (by omega)
    have hcr := cnt_range a b c l w n
    rw [w_succ (by omega)]
    by_cases hp : t > 0
    · rw [decide_eq_true hp] at ho
      refine Ev.pos hp (Ev.pos (by omega) (Ev.pos (by rw [tab_len]; omega) ?_))
      rw [tab_rd _ hw, if_neg (Nat.lt_irrefl w), if_pos rfl, Int.toNat_natCast, tab_set, w64 (by omega) (by omega)]
      rw [tab_congr (h := fun v => if v < w then cnt a b c l l.length v else if v = w then cnt a b c l (n + 1) v else 0) (fun v hv => by
        by_cases e : v = w
        · subst e; rw [if_pos rfl, if_neg (Nat.lt_irrefl v), if_pos rfl, cnt, if_pos ho.symm]
        · simp [e])]
      exact h
    · rw [decide_eq_false hp] at ho
      refine Ev.neg hp ?_
      rw [tab_congr (h := fun v => if v < w then cnt a b c l l.length v else if v = w then cnt a b c l (n + 1) v else 0) (fun v hv => by
        by_cases e : v = w
        · subst e; rw [if_neg (Nat.lt_irrefl v), if_pos rfl, if_neg (Nat.lt_irrefl v), if_pos rfl, cnt, if_neg (by rw [← ho]; decide), Int.add_zero]
        · simp [e])]
      exact h
theorem ways_impl (a : Int) (b : Int) (c : Int) (l : List Int) (ha : 1 ≤ a ∧ a ≤ 8) (hb : 1 ≤ b ∧ b ≤ 8) (hc : 1 ≤ c ∧ c ≤ 8) (hlen : (l.length : Int) = a * b * c) (hl5 : l.length ≤ 512) (hall : ∀ n ∈ l, 0 ≤ n ∧ n ≤ 9) : ∀ m w : Nat, w + m = 6 → Ev (fun k => impl_OpenFaces.l0 k (tab (fun v => if v < w then cnt a b c l l.length v else 0)) 6 (w : Int) a b c l) (tab (cnt a b c l l.length), true) := by
  intro m
  induction m with
  | zero =>
    intro w hw
    refine Ev.step (fun k => impl_OpenFaces.l0.eq_2 _ _ _ _ _ _ _ k) (Ev.neg (by omega) ?_)
    rw [tab_congr (h := cnt a b c l l.length) (fun v hv => if_pos (by omega))]
    exact Ev.now _
  | succ m ih =>
    intro w hw
    refine Ev.step (fun k => impl_OpenFaces.l0.eq_2 _ _ _ _ _ _ _ k) (Ev.pos (by omega) ?_)
    have h := cells_impl a b c l ha hb hc hlen hl5 hall _ w (by omega) (by rw [w_succ (by omega)]; exact ih (w + 1) (by omega)) l.length 0 (by omega)
    rw [tab_congr (h := fun v => if v < w then cnt a b c l l.length v else 0) (fun v hv => by
      by_cases h2 : v < w
      · rw [if_pos h2, if_pos h2]
      · rw [if_neg h2, if_neg h2]
        by_cases h3 : v = w
        · rw [if_pos h3]; rfl
        · rw [if_neg h3])] at h
    exact h
theorem both (a b c : Int) (l : List Int) (hl : l.length ≤ maxLen) : Both (fun r : List Int × Bool => (r.1.length : Int) ≤ 1048576) (fun k => spec_OpenFaces.f k a b c l) (fun k => impl_OpenFaces.f k a b c l) := by
  have h1 := blocks_spec a b c l hl
  have h2 := blocks_impl a b c l hl
  unfold spec_OpenFaces.f impl_OpenFaces.f
  cases h : blocksOk a b c l with
  | false =>
    rw [h] at h1 h2
    exact ⟨_, by simp, Ev.bind h1 (Ev.neg (by decide) (Ev.now _)), Ev.bind h2 (Ev.neg (by decide) (Ev.now _))⟩
  | true =>
    rw [h] at h1 h2
    obtain ⟨ha, hb, hc, hlen, hall⟩ := blocks_yes h
    obtain ⟨_, _, _, _, _, _, _, _, h512⟩ := at_range (x := 0) (y := 0) (z := 0) ha.1 ha.2 hb.1 hb.2 hc.1 hc.2 (by omega) (by omega) (by omega) (by omega) (by omega) (by omega)
    have e0 : (List.replicate 6 (0 : Int)) = tab (cnt a b c l 0) := rfl
    have e1 : (List.replicate 6 (0 : Int)) = tab (fun v => if v < 0 then cnt a b c l l.length v else 0) := rfl
    have s := cells_spec a b c l ha hb hc hlen (by omega) l.length 0 (by omega)
    have t := ways_impl a b c l ha hb hc hlen (by omega) hall 6 0 (by omega)
    rw [← e0] at s
    rw [← e1] at t
    exact ⟨_, by show ((tab _).length : Int) ≤ _; rw [tab_len]; omega, Ev.bind h1 (Ev.pos rfl (Ev.pos (by decide) s)), Ev.bind h2 (Ev.pos rfl (Ev.pos (by decide) (Ev.some_bind t)))⟩
theorem FnExactOpenFaces : laws_FnExactOpenFaces.Pure := by
  intro a b c l _ _ _ ⟨hl, _⟩
  refine Ev.rounds (r := true) ?_
  unfold laws_FnExactOpenFaces.f
  refine Ev.const_bind (sz_blocks a b c l (by omega) (by omega) hl) (Ev.ite (fun _ => Ev.now _) (fun h => ?_))
  have hn := (roomLeft_ok h).1
  have ht := to_blocks a b c l hn
  obtain ⟨⟨r0, r1⟩, hr, h1, h2⟩ := both a b c l hl
  have hr : (r0.length : Int) ≤ 1048576 := hr
  have he := eq_ints r0 hr
  have hm := mark_ints r0 (by omega)
  have hh := held_ints r0.length (by omega)
  exact Ev.bind ht (Ev.bind h1 (Ev.bind ht (Ev.bind h2 (Ev.bind he (Ev.pos rfl (Ev.step (fun k => laws_FnExactOpenFaces.j0.eq_2 _ _ _ _ _ _ _ _ _ _ _ _ _ k) (Ev.neg (by simp) (Ev.bind ht (Ev.bind (eq_blocks a b c l hn) (Ev.pos rfl
    (Ev.bind (mark_blocks a b c l hn) (Ev.neg (by first | (simp; done) | (simp; omega)) (Ev.bind he (Ev.pos rfl (Ev.step (fun k => laws_FnExactOpenFaces.j1.eq_2 _ _ _ _ _ _ _ _ k) (Ev.neg (by simp)
    (Ev.bind hm (Ev.bind hh (Ev.neg (by omega) (Ev.pos rfl (Ev.bind ht (Ev.bind h2 (Ev.bind he (Ev.pos rfl (Ev.step (fun k => laws_FnExactOpenFaces.j2.eq_2 _ _ _ k) (Ev.neg (by simp) (Ev.bind hh (Ev.neg (by omega) (Ev.pos rfl (Ev.now _))))))))))))))))))))))))))))))

end Go.Proofs.Ytjckjmhlodjmgaa.Pure
