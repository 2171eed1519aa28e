/- FloodFrom: the pure statement of the law: the program's places are the reference's, for all blocks and places. -/
import Derived.Test.YtjaljjdmolhhpaaXFnExactFloodFromx6
import Derived.Test.YtjaljjdmolhhpaaXLib
namespace Go.Proofs.Ytjaljjdmolhhpaa.Pure
open Go.RowKit Go.Proofs.Ytjaljjdmolhhpaa.XFnExactFloodFrom Go.Proofs.YtjaljjdmolhhpaaW.PrintWords Go.Proofs.YtjaljjdmolhhpaaW.PrintLast Go.Proofs.YtjaljjdmolhhpaaW.PrintMore Go.Proofs.Ytjaljjdmolhhpaa.X
set_option linter.unusedVariables false
set_option linter.unusedSimpArgs false

theorem in_spec (a b c : Int) : spec_l1In.f a b c = some (decide (b ≤ a) && decide (a ≤ c)) := by
  unfold spec_l1In.f
  by_cases h : b ≤ a <;> simp [h]
theorem in_impl (a b c : Int) : impl_inRange.f a b c = some (decide (b ≤ a) && decide (a ≤ c)) := by
  unfold impl_inRange.f
  by_cases h : b ≤ a <;> simp [h]
theorem sz_ints (l : List Int) {a : Int} (h0 : 0 ≤ a) (h1 : a ≤ 1048576) (hl : l.length ≤ maxLen) : laws_szIntS.f l a = some (roomLeft l.length a) := sz_left h0 h1 hl
theorem to_ints (l : List Int) (hl : (l.length : Int) ≤ 1048576) : Ev (fun k => laws_toIntS.f k l) l := by
  have h := toS_ev (0 : Int) (id : Int → Int) 0 laws_toIntS.l0 (fun k x y i => laws_toIntS.l0.eq_2 x y i k) l (by omega)
  rw [List.map_id] at h
  exact Ev.pos (by omega) (Ev.pos (by omega) h)
theorem eq_ints (l : List Int) (hl : (l.length : Int) ≤ 1048576) : Ev (fun k => laws_eqIntS.f k l l) true :=
  eqInt_ev laws_eqIntS.l0 (fun k x y i => laws_eqIntS.l0.eq_2 x y i k) l (by rw [maxLen_eq]; omega)
/-! blocks -/
def blocksOk (a b c : Int) (l : List Int) : Bool :=
  (decide (1 ≤ a) && decide (a ≤ 8)) && ((decide (1 ≤ b) && decide (b ≤ 8)) && ((decide (1 ≤ c) && decide (c ≤ 8)) && (decide ((l.length : Int) = wrap64 (wrap64 (a * b) * c)) && l.all fun n => decide (0 ≤ n) && decide (n ≤ 9))))
theorem blocks_spec (a b c : Int) (l : List Int) (hl : l.length ≤ maxLen) : Ev (fun k => spec_GoodBlocks.f k a b c l) (blocksOk a b c l) := by
  have h0 := all_ev (0 : Int) (fun n => decide (0 ≤ n) && decide (n ≤ 9)) spec_GoodBlocks.l0 (fun k x n i => by rw [spec_GoodBlocks.l0]; simp only [in_spec, Option.bind_some]; rfl) l hl
  have hj : ∀ z, Ev (fun k => spec_GoodBlocks.j0 k z a b c l) (!z && l.all fun n => decide (0 ≤ n) && decide (n ≤ 9)) := fun z =>
    Ev.step (fun k => spec_GoodBlocks.j0.eq_2 _ _ _ _ _ k) (Ev.andn (fun _ => h0))
  unfold spec_GoodBlocks.f blocksOk
  simp only [in_spec, Option.bind_some]
  cases ha : (decide (1 ≤ a) && decide (a ≤ 8)) with
  | false => exact Ev.neg (by decide) (hj true)
  | true =>
    refine Ev.pos rfl ?_
    cases hb : (decide (1 ≤ b) && decide (b ≤ 8)) with
    | false => exact Ev.neg (by decide) (hj true)
    | true =>
      refine Ev.pos rfl ?_
      cases hc : (decide (1 ≤ c) && decide (c ≤ 8)) with
      | false => exact Ev.neg (by decide) (hj true)
      | true =>
        refine Ev.pos rfl (Ev.cast (hj _) ?_)
        rw [Bool.true_and, Bool.true_and, Bool.true_and]
        congr 1
        by_cases h : (l.length : Int) = wrap64 (wrap64 (a * b) * c) <;> simp [h]
theorem blocks_impl (a b c : Int) (l : List Int) (hl : l.length ≤ maxLen) : Ev (fun k => impl_GoodBlocks.f k a b c l) (blocksOk a b c l) := by
  have h := contains_ev (0 : Int) (fun _ z => impl_GoodBlocks_1.f z) (fun n => !(decide (0 ≤ n) && decide (n ≤ 9))) slices_IndexFunc_int_int_at_impl_GoodBlocks_1.l0 (fun k x n i => slices_IndexFunc_int_int_at_impl_GoodBlocks_1.l0.eq_2 x n i k) l hl (fun z _ => Ev.mk (fun _ => by unfold impl_GoodBlocks_1.f; rw [in_impl]; rfl))
  unfold impl_GoodBlocks.f blocksOk slices_ContainsFunc_int_int_at_impl_GoodBlocks_1.f slices_IndexFunc_int_int_at_impl_GoodBlocks_1.f
  simp only [in_impl, Option.bind_some]
  refine Ev.and (fun _ => Ev.and (fun _ => Ev.and (fun _ => Ev.andp (fun _ => Ev.bind h (Ev.cast (Ev.now _) (any_not _ l))))))
theorem sz_blocks (a b c : Int) (l : List Int) {s : Int} (h0 : 0 ≤ s) (h1 : s ≤ 1048576) (hl : l.length ≤ maxLen) : laws_szBlocks.f a b c l s = some (roomLeft l.length s) := by
  unfold laws_szBlocks.f
  rw [sz_ints l h0 h1 hl, Option.bind_some]
  by_cases h : roomLeft l.length s < 0
  · rw [if_pos h]
    unfold roomLeft at h ⊢
    by_cases hc : (l.length : Int) ≤ s
    · rw [if_pos hc] at h; omega
    · rw [if_neg hc]
  · rw [if_neg h]
theorem to_blocks (a b c : Int) (l : List Int) (hl : (l.length : Int) ≤ 1048576) : Ev (fun k => laws_toBlocks.f k a b c l) (a, b, c, l) :=
  Ev.bind (to_ints l hl) (Ev.now _)
theorem eq_blocks (a b c : Int) (l : List Int) (hl : (l.length : Int) ≤ 1048576) : Ev (fun k => laws_eqBlocks.f k a b c l a b c l) true :=
  Ev.pos rfl (Ev.pos rfl (Ev.pos rfl (Ev.bind (eq_ints l hl) (Ev.pos rfl (Ev.now _)))))
theorem mark_ints (l : List Int) (hl : (l.length : Int) ≤ 4611686018427387000) : Ev (fun k => laws_markIntS.f k l 1) (1 + (l.length : Int), marks l.length 1) :=
  markInt_ev laws_markIntS.l0 (fun k x c i => laws_markIntS.l0.eq_2 x c i k) 1 (by omega) l (by omega)
theorem held_ints (n : Nat) (hn : (n : Int) ≤ 4611686018427387000) : Ev (fun k => laws_heldIntS.f k (marks n 1) 1) (1 + (n : Int)) :=
  heldInt_ev laws_heldIntS.l0 (fun k x c i => laws_heldIntS.l0.eq_2 x c i k) n 1 (by omega) (by omega)
theorem mark_blocks (a b c : Int) (l : List Int) (hl : (l.length : Int) ≤ 1048576) : Ev (fun k => laws_markBlocks.f k a b c l 1) (1 + (l.length : Int), marks l.length 1) :=
  Ev.bind (mark_ints l (by omega)) (Ev.now _)
/-! where a block lies -/
theorem at_range {a b c x y z : Int} (ha : 1 ≤ a) (ha' : a ≤ 8) (hb : 1 ≤ b) (hb' : b ≤ 8) (hc : 1 ≤ c) (hc' : c ≤ 8) (hx : 0 ≤ x) (hx' : x ≤ a - 1) (hy : 0 ≤ y) (hy' : y ≤ b - 1) (hz : 0 ≤ z) (hz' : z ≤ c - 1) :
    0 ≤ z * b ∧ z * b ≤ 56 ∧ 0 ≤ (z * b + y) * a ∧ (z * b + y) * a ≤ 504 ∧ (z * b + y) * a + x < a * b * c ∧ 0 ≤ a * b ∧ a * b ≤ 64 ∧ 0 ≤ a * b * c ∧ a * b * c ≤ 512 := by
  have h1 : 0 ≤ z * b := Int.mul_nonneg hz (by omega)
  have h2 : z * b ≤ (c - 1) * b := Int.mul_le_mul_of_nonneg_right hz' (by omega)
  have h3 : z * b ≤ 7 * b := Int.mul_le_mul_of_nonneg_right (by omega) (by omega)
  have h4 : 0 ≤ (z * b + y) * a := Int.mul_nonneg (by omega) (by omega)
  have e1 : (c - 1) * b = c * b - b := by rw [Int.sub_mul, Int.one_mul]
  have h5 : (z * b + y) * a ≤ (c * b - 1) * a := Int.mul_le_mul_of_nonneg_right (by omega) (by omega)
  have e2 : (c * b - 1) * a = a * b * c - a := by rw [Int.sub_mul, Int.one_mul, Int.mul_comm (c * b) a, Int.mul_assoc a b c, Int.mul_comm b c]
  have h6 : (z * b + y) * a ≤ 63 * a := Int.mul_le_mul_of_nonneg_right (by omega) (by omega)
  have h7 : 0 ≤ a * b := Int.mul_nonneg (by omega) (by omega)
  have h8 : a * b ≤ 8 * b := Int.mul_le_mul_of_nonneg_right ha' (by omega)
  have h9 : 0 ≤ a * b * c := Int.mul_nonneg h7 (by omega)
  have h10 : a * b * c ≤ 64 * c := Int.mul_le_mul_of_nonneg_right (by omega) (by omega)
  refine ⟨h1, by omega, h4, by omega, by omega, h7, by omega, h9, by omega⟩
theorem blocks_yes {a b c : Int} {l : List Int} (h : blocksOk a b c l = true) : (1 ≤ a ∧ a ≤ 8) ∧ (1 ≤ b ∧ b ≤ 8) ∧ (1 ≤ c ∧ c ≤ 8) ∧ (l.length : Int) = a * b * c ∧ (∀ n ∈ l, 0 ≤ n ∧ n ≤ 9) := by
  unfold blocksOk at h
  simp only [Bool.and_eq_true, decide_eq_true_eq, List.all_eq_true] at h
  obtain ⟨ha, hb, hc, hl, hall⟩ := h
  obtain ⟨_, _, _, _, _, h1, h2, h3, h4⟩ := at_range (x := 0) (y := 0) (z := 0) ha.1 ha.2 hb.1 hb.2 hc.1 hc.2 (by omega) (by omega) (by omega) (by omega) (by omega) (by omega)
  rw [w64 (n := a * b) (by omega) (by omega), w64 (by omega) (by omega)] at hl
  exact ⟨ha, hb, hc, hl, hall⟩
/-- The number of a place, -1 where it is none. -/
def numAt (a b c x y z : Int) : Int := if (0 ≤ x ∧ x ≤ a - 1) ∧ (0 ≤ y ∧ y ≤ b - 1) ∧ (0 ≤ z ∧ z ≤ c - 1) then (z * b + y) * a + x else -1
theorem numAt_range (a b c x y z : Int) (ha : 1 ≤ a ∧ a ≤ 8) (hb : 1 ≤ b ∧ b ≤ 8) (hc : 1 ≤ c ∧ c ≤ 8) : -1 ≤ numAt a b c x y z ∧ numAt a b c x y z < a * b * c := by
  unfold numAt
  split
  · rename_i h
    obtain ⟨hx, hy, hz⟩ := h
    obtain ⟨_, _, h3, _, h5, _⟩ := at_range ha.1 ha.2 hb.1 hb.2 hc.1 hc.2 hx.1 hx.2 hy.1 hy.2 hz.1 hz.2
    omega
  · obtain ⟨_, _, _, _, _, _, _, h8, _⟩ := at_range (x := 0) (y := 0) (z := 0) ha.1 ha.2 hb.1 hb.2 hc.1 hc.2 (by omega) (by omega) (by omega) (by omega) (by omega) (by omega)
    omega
theorem num_wrap {a b c x y z : Int} (ha : 1 ≤ a ∧ a ≤ 8) (hb : 1 ≤ b ∧ b ≤ 8) (hc : 1 ≤ c ∧ c ≤ 8) (hx : 0 ≤ x ∧ x ≤ a - 1) (hy : 0 ≤ y ∧ y ≤ b - 1) (hz : 0 ≤ z ∧ z ≤ c - 1) :
    wrap64 (wrap64 (wrap64 (wrap64 (z * b) + y) * a) + x) = numAt a b c x y z := by
  obtain ⟨h1, h2, h3, h4, h5, _⟩ := at_range ha.1 ha.2 hb.1 hb.2 hc.1 hc.2 hx.1 hx.2 hy.1 hy.2 hz.1 hz.2
  unfold numAt
  rw [if_pos ⟨hx, hy, hz⟩, w64 (n := z * b) (by omega) (by omega), w64 (n := z * b + y) (by omega) (by omega), w64 (n := (z * b + y) * a) (by omega) (by omega), w64 (by omega) (by omega)]
theorem at_spec (a b c : Int) (l : List Int) (x y z : Int) (ha : 1 ≤ a ∧ a ≤ 8) (hb : 1 ≤ b ∧ b ≤ 8) (hc : 1 ≤ c ∧ c ≤ 8) : spec_l13At.f a b c l [x, y, z] = some (numAt a b c x y z) := by
  unfold spec_l13At.f
  simp only [in_spec, Option.bind_some]
  rw [w64 (n := a - 1) (by omega) (by omega), w64 (n := b - 1) (by omega) (by omega), w64 (n := c - 1) (by omega) (by omega)]
  have e0 : rd [x, y, z] 0 = x := rfl
  have e1 : rd [x, y, z] 1 = y := rfl
  have e2 : rd [x, y, z] 2 = z := rfl
  rw [e0, e1, e2, if_pos (show (0 : Int) < (([x, y, z] : List Int).length : Int) by simp), if_pos (show (1 : Int) < (([x, y, z] : List Int).length : Int) by simp), if_pos (show (2 : Int) < (([x, y, z] : List Int).length : Int) by simp)]
  by_cases hx : 0 ≤ x ∧ x ≤ a - 1
  · rw [if_pos (by simp [hx])]
    by_cases hy : 0 ≤ y ∧ y ≤ b - 1
    · rw [if_pos (by simp [hy])]
      by_cases hz : 0 ≤ z ∧ z ≤ c - 1
      · rw [if_pos (by simp [hz]), num_wrap ha hb hc hx hy hz]
      · rw [if_neg (by simpa using hz)]; unfold numAt; rw [if_neg (fun h => hz h.2.2)]
    · rw [if_neg (by simpa using hy)]; unfold numAt; rw [if_neg (fun h => hy h.2.1)]
  · rw [if_neg (by simpa using hx)]; unfold numAt; rw [if_neg (fun h => hx h.1)]
theorem number_impl (a b c : Int) (l : List Int) (x y z : Int) (ha : 1 ≤ a ∧ a ≤ 8) (hb : 1 ≤ b ∧ b ≤ 8) (hc : 1 ≤ c ∧ c ≤ 8) : impl_Blocks_number.f a b c l x y z = some (numAt a b c x y z) := by
  unfold impl_Blocks_number.f
  simp only [in_impl, Option.bind_some]
  rw [w64 (n := a - 1) (by omega) (by omega), w64 (n := b - 1) (by omega) (by omega), w64 (n := c - 1) (by omega) (by omega)]
  by_cases hx : 0 ≤ x ∧ x ≤ a - 1
  · rw [if_pos (by simp [hx])]
    by_cases hy : 0 ≤ y ∧ y ≤ b - 1
    · rw [if_pos (by simp [hy])]
      by_cases hz : 0 ≤ z ∧ z ≤ c - 1
      · rw [if_pos (by simp [hz]), num_wrap ha hb hc hx hy hz]
      · rw [if_neg (by simpa using hz)]; unfold numAt; rw [if_neg (fun h => hz h.2.2)]
    · rw [if_neg (by simpa using hy)]; unfold numAt; rw [if_neg (fun h => hy h.2.1)]
  · rw [if_neg (by simpa using hx)]; unfold numAt; rw [if_neg (fun h => hx h.1)]
theorem spec_at (a b c : Int) (l : List Int) (x y z : Int) (hl : l.length ≤ maxLen) : Ev (fun k => spec_BlockAt.f k a b c l x y z) (if blocksOk a b c l = true then (if numAt a b c x y z < 0 then -1 else rd l (numAt a b c x y z)) else -1) := by
  have h1 := blocks_spec a b c l hl
  unfold spec_BlockAt.f
  cases h : blocksOk a b c l with
  | false => rw [h] at h1; exact Ev.bind h1 (Ev.neg (by decide) (Ev.now _))
  | true =>
    rw [h] at h1
    obtain ⟨ha, hb, hc, hlen, _⟩ := blocks_yes h
    have hs := at_spec a b c l x y z ha hb hc
    obtain ⟨hr0, hr1⟩ := numAt_range a b c x y z ha hb hc
    refine Ev.bind h1 (Ev.pos rfl (Ev.const_bind hs ?_))
    exact Ev.ite (fun h => Ev.cast (Ev.now _) (by rw [if_pos rfl, if_pos h])) (fun h => Ev.pos (by omega) (Ev.pos (by omega) (Ev.cast (Ev.now _) (by rw [if_pos rfl, if_neg h]))))
/-! the next cell along a way -/
def nextAt (a b c n way : Int) : Int := numAt a b c (n % a + impl_Blocks_next.dx way 0) (n / a % b + impl_Blocks_next.dx way 1) (n / a / b + impl_Blocks_next.dx way 2)
theorem next_impl (a b c : Int) (l : List Int) (n way : Int) (ha : 1 ≤ a ∧ a ≤ 8) (hb : 1 ≤ b ∧ b ≤ 8) (hc : 1 ≤ c ∧ c ≤ 8) (hn : 0 ≤ n ∧ n ≤ 1000000) (hw : 0 ≤ way ∧ way ≤ 5) : impl_Blocks_next.f a b c l n way = some (nextAt a b c n way) := by
  unfold impl_Blocks_next.f
  rw [if_pos ⟨ha, hb, hn, hw⟩, number_impl a b c l _ _ _ ha hb hc]
  rfl
theorem next_spec (a b c : Int) (l : List Int) (n way : Int) (ha : 1 ≤ a ∧ a ≤ 8) (hb : 1 ≤ b ∧ b ≤ 8) (hc : 1 ≤ c ∧ c ≤ 8) (hn : 0 ≤ n ∧ n ≤ 1000000) (hw : 0 ≤ way ∧ way ≤ 5) : spec_l13Next.f a b c l n way = some (nextAt a b c n way) := by
  have q0 : 0 ≤ n / a := Int.ediv_nonneg hn.1 (by omega)
  have q1 : n / a ≤ 1000000 := Int.le_trans (Int.ediv_le_self _ hn.1) hn.2
  have q2 : 0 ≤ n / a / b := Int.ediv_nonneg q0 (by omega)
  have q3 : n / a / b ≤ 1000000 := Int.le_trans (Int.ediv_le_self _ q0) q1
  have q4 : 0 ≤ n % a := Int.emod_nonneg _ (by omega)
  have q5 : n % a < a := Int.emod_lt_of_pos _ (by omega)
  have q6 : 0 ≤ n / a % b := Int.emod_nonneg _ (by omega)
  have q7 : n / a % b < b := Int.emod_lt_of_pos _ (by omega)
  have hp : spec_l13Place.f a b c l n = some [n % a, n / a % b, n / a / b] := by
    unfold spec_l13Place.f
    rw [if_neg (by omega), if_neg (by omega), Int.tmod_eq_emod_of_nonneg hn.1, Int.tdiv_eq_ediv_of_nonneg hn.1, w64 (n := n / a) (by omega) (by omega), Int.tmod_eq_emod_of_nonneg q0, Int.tdiv_eq_ediv_of_nonneg q0, w64 (n := n / a / b) (by omega) (by omega)]
  unfold spec_l13Next.f nextAt
  rw [hp, Option.bind_some]
  generalize n / a / b = z at q2 q3 ⊢
  generalize n / a % b = y at q6 q7 ⊢
  generalize n % a = x at q4 q5 ⊢
  have h6 : way = 0 ∨ way = 1 ∨ way = 2 ∨ way = 3 ∨ way = 4 ∨ way = 5 := by omega
  rcases h6 with rfl | rfl | rfl | rfl | rfl | rfl
  · have e1 : wrap64 (Int.tdiv 0 2) = 0 := by decide +kernel
    have e2 : wrap64 (wrap64 (2 * Int.tmod 0 2) - 1) = -1 := by decide +kernel
    rw [e1, e2, if_pos (by decide), if_pos (by simp)]
    show ((spec_l13At.f a b c l [wrap64 (x + (-1)), y, z]).bind fun t => some t) = _
    rw [w64 (n := x + (-1)) (by omega) (by omega), at_spec a b c l _ _ _ ha hb hc, Option.bind_some]
    simp [impl_Blocks_next.dx]
  · have e1 : wrap64 (Int.tdiv 1 2) = 0 := by decide +kernel
    have e2 : wrap64 (wrap64 (2 * Int.tmod 1 2) - 1) = 1 := by decide +kernel
    rw [e1, e2, if_pos (by decide), if_pos (by simp)]
    show ((spec_l13At.f a b c l [wrap64 (x + 1), y, z]).bind fun t => some t) = _
    rw [w64 (n := x + 1) (by omega) (by omega), at_spec a b c l _ _ _ ha hb hc, Option.bind_some]
    simp [impl_Blocks_next.dx]
  · have e1 : wrap64 (Int.tdiv 2 2) = 1 := by decide +kernel
    have e2 : wrap64 (wrap64 (2 * Int.tmod 2 2) - 1) = -1 := by decide +kernel
    rw [e1, e2, if_pos (by decide), if_pos (by simp)]
    show ((spec_l13At.f a b c l [x, wrap64 (y + (-1)), z]).bind fun t => some t) = _
    rw [w64 (n := y + (-1)) (by omega) (by omega), at_spec a b c l _ _ _ ha hb hc, Option.bind_some]
    simp [impl_Blocks_next.dx]
  · have e1 : wrap64 (Int.tdiv 3 2) = 1 := by decide +kernel
    have e2 : wrap64 (wrap64 (2 * Int.tmod 3 2) - 1) = 1 := by decide +kernel
    rw [e1, e2, if_pos (by decide), if_pos (by simp)]
    show ((spec_l13At.f a b c l [x, wrap64 (y + 1), z]).bind fun t => some t) = _
    rw [w64 (n := y + 1) (by omega) (by omega), at_spec a b c l _ _ _ ha hb hc, Option.bind_some]
    simp [impl_Blocks_next.dx]
  · have e1 : wrap64 (Int.tdiv 4 2) = 2 := by decide +kernel
    have e2 : wrap64 (wrap64 (2 * Int.tmod 4 2) - 1) = -1 := by decide +kernel
    rw [e1, e2, if_pos (by decide), if_pos (by simp)]
    show ((spec_l13At.f a b c l [x, y, wrap64 (z + (-1))]).bind fun t => some t) = _
    rw [w64 (n := z + (-1)) (by omega) (by omega), at_spec a b c l _ _ _ ha hb hc, Option.bind_some]
    simp [impl_Blocks_next.dx]
  · have e1 : wrap64 (Int.tdiv 5 2) = 2 := by decide +kernel
    have e2 : wrap64 (wrap64 (2 * Int.tmod 5 2) - 1) = 1 := by decide +kernel
    rw [e1, e2, if_pos (by decide), if_pos (by simp)]
    show ((spec_l13At.f a b c l [x, y, wrap64 (z + 1)]).bind fun t => some t) = _
    rw [w64 (n := z + 1) (by omega) (by omega), at_spec a b c l _ _ _ ha hb hc, Option.bind_some]
    simp [impl_Blocks_next.dx]
theorem next_range (a b c : Int) (n way : Int) (ha : 1 ≤ a ∧ a ≤ 8) (hb : 1 ≤ b ∧ b ≤ 8) (hc : 1 ≤ c ∧ c ≤ 8) : -1 ≤ nextAt a b c n way ∧ nextAt a b c n way < a * b * c := numAt_range a b c _ _ _ ha hb hc
/-- How many are not seen. -/
def un : List Bool → Nat
  | [] => 0
  | b :: s => (if b then 0 else 1) + un s
theorem un_set : ∀ (s : List Bool) (t : Nat) (h : t < s.length), s[t] = false → un (s.set t true) + 1 = un s
  | b :: s, 0, _, e => by
    have e : b = false := e
    subst e
    simp [un]; omega
  | b :: s, t + 1, h, e => by
    have ih := un_set s t (by simpa using h) e
    simp only [List.set_cons_succ, un]; omega
theorem un_le : ∀ s : List Bool, un s ≤ s.length
  | [] => Nat.le_refl _
  | b :: s => by have := un_le s; simp only [un, List.length_cons]; split <;> omega
abbrev Q1 (r : List Int × Bool) : Prop := (r.1.length : Int) ≤ 1048576
theorem flood_out (S : List Bool) (hS : S.length ≤ 1048576) : ∀ (m i : Nat) (o : List Int), i + m = S.length → o.length ≤ i →
    Both Q1 (fun k => spec_FloodFrom.l2 k o S (S.length : Int) (i : Int)) (fun k => impl_FloodFrom.l2 k o S (S.length : Int) (i : Int)) := by
  intro m
  induction m with
  | zero => exact fun i o hi ho => Both.step (fun k => spec_FloodFrom.l2.eq_2 _ _ _ _ k) (fun k => impl_FloodFrom.l2.eq_2 _ _ _ _ k) (Both.neg (by omega) (by omega) (Both.now _ (by show (o.length : Int) ≤ _; omega)))
  | succ m ih =>
    intro i o hi ho
    refine Both.step (fun k => spec_FloodFrom.l2.eq_2 _ _ _ _ k) (fun k => impl_FloodFrom.l2.eq_2 _ _ _ _ k) (Both.pos (by omega) (by omega) (Both.pos (by omega) (by omega) (Both.pos (by omega) (by omega) ?_)))
    rw [w_succ (by omega)]
    refine Both.ite (fun _ => Both.pos (by omega) (by omega) (ih (i + 1) _ (by omega) (by first | (simp; done) | (simp; omega)))) (fun _ => ih (i + 1) o (by omega) (by omega))
theorem flood_ways (a b c : Int) (l : List Int) (ha : 1 ≤ a ∧ a ≤ 8) (hb : 1 ≤ b ∧ b ≤ 8) (hc : 1 ≤ c ∧ c ≤ 8) (hlen : (l.length : Int) = a * b * c) (hl5 : l.length ≤ 512) (fr : Int) (hfr : 0 ≤ fr ∧ fr < (l.length : Int)) (n : Int) (hn : 0 ≤ n ∧ n < (l.length : Int)) (M : Nat) (hM : M ≤ 1000)
    (K : ∀ (S : List Bool) (T : List Int), S.length = l.length → (∀ q ∈ T, 0 ≤ q ∧ q < (l.length : Int)) → un S + T.length = M → Both Q1 (fun k => spec_FloodFrom.l0 k fr S T a b c l) (fun k => impl_FloodFrom.l0 k fr S T a b c l)) :
    ∀ (m w : Nat) (S : List Bool) (T : List Int), w + m = 6 → S.length = l.length → (∀ q ∈ T, 0 ≤ q ∧ q < (l.length : Int)) → un S + T.length = M →
      Both Q1 (fun k => spec_FloodFrom.l1 k fr S T n (w : Int) a b c l) (fun k => impl_FloodFrom.l1 k fr S (n :: T) (w : Int) a b c l) := by
  intro m
  induction m with
  | zero =>
    intro w S T hw hS hT hu
    exact Both.step (fun k => spec_FloodFrom.l1.eq_2 _ _ _ _ _ _ _ _ _ k) (fun k => impl_FloodFrom.l1.eq_2 _ _ _ _ _ _ _ _ k) (Both.neg (by omega) (by omega) (Both.rpos (by first | (simp; done) | (simp; omega)) (K S T hS hT hu)))
  | succ m ih =>
    intro w S T hw hS hT hu
    refine Both.step (fun k => spec_FloodFrom.l1.eq_2 _ _ _ _ _ _ _ _ _ k) (fun k => impl_FloodFrom.l1.eq_2 _ _ _ _ _ _ _ _ k) (Both.pos (by omega) (by omega) (Both.rpos (by first | (simp; done) | (simp; omega)) ?_))
    have e0 : rd (n :: T) 0 = n := rfl
    rw [e0, w_succ (by omega)]
    refine Both.cbind (next_spec a b c l n (w : Int) ha hb hc (by omega) (by omega)) (next_impl a b c l n (w : Int) ha hb hc (by omega) (by omega)) ?_
    have hr := next_range a b c n (w : Int) ha hb hc
    generalize nextAt a b c n (w : Int) = t at hr
    refine Both.ite (fun ht => Both.pos (by omega) (by omega) (Both.pos (by omega) (by omega) (Both.ite (fun _ => ih (w + 1) S T (by omega) hS hT hu) (fun hs => ?_)))) (fun _ => ih (w + 1) S T (by omega) hS hT hu)
    refine Both.pos (by omega) (by omega) (Both.pos (by omega) (by omega) (Both.pos (by omega) (by omega) (Both.ite (fun _ => ?_) (fun _ => ih (w + 1) S T (by omega) hS hT hu))))
    have hTl : T.length ≤ 1000 := by omega
    refine Both.pos (by omega) (by simp only [List.length_cons]; omega) ?_
    obtain ⟨p, rfl⟩ := Int.eq_ofNat_of_zero_le (show 0 ≤ t by omega)
    have hp : p < S.length := by omega
    rw [rdOf_get hp] at hs
    have hsp : S[p] = false := by cases h : S[p] with | true => exact absurd h hs | false => rfl
    have hset := un_set S p hp hsp
    rw [Int.toNat_natCast]
    exact ih (w + 1) (S.set p true) (T ++ [(p : Int)]) (by omega) (by rw [List.length_set]; exact hS) (fun q hq => by
      rcases List.mem_append.1 hq with h | h
      · exact hT q h
      · rw [List.mem_singleton.1 h]; omega) (by rw [List.length_append, List.length_singleton]; omega)
theorem flood_all (a b c : Int) (l : List Int) (ha : 1 ≤ a ∧ a ≤ 8) (hb : 1 ≤ b ∧ b ≤ 8) (hc : 1 ≤ c ∧ c ≤ 8) (hlen : (l.length : Int) = a * b * c) (hl5 : l.length ≤ 512) (fr : Int) (hfr : 0 ≤ fr ∧ fr < (l.length : Int)) :
    ∀ (M : Nat) (S : List Bool) (T : List Int), M ≤ 1000 → S.length = l.length → (∀ q ∈ T, 0 ≤ q ∧ q < (l.length : Int)) → un S + T.length = M →
      Both Q1 (fun k => spec_FloodFrom.l0 k fr S T a b c l) (fun k => impl_FloodFrom.l0 k fr S T a b c l) := by
  intro M
  have fin : ∀ S : List Bool, S.length = l.length → Both Q1 (fun k => spec_FloodFrom.l0 k fr S [] a b c l) (fun k => impl_FloodFrom.l0 k fr S [] a b c l) := fun S hS =>
    Both.step (fun k => spec_FloodFrom.l0.eq_2 _ _ _ _ _ _ _ k) (fun k => impl_FloodFrom.l0.eq_2 _ _ _ _ _ _ _ k) (Both.neg (by simp) (by simp) (flood_out S (by omega) S.length 0 [] (by omega) (Nat.le_refl _)))
  induction M with
  | zero =>
    intro S T hM hS hT hu
    obtain rfl : T = [] := List.eq_nil_of_length_eq_zero (by omega)
    exact fin S hS
  | succ M ih =>
    intro S T hM hS hT hu
    cases T with
    | nil => exact fin S hS
    | cons n T =>
      have hn := hT n List.mem_cons_self
      refine Both.step (fun k => spec_FloodFrom.l0.eq_2 _ _ _ _ _ _ _ k) (fun k => impl_FloodFrom.l0.eq_2 _ _ _ _ _ _ _ k) (Both.pos (by first | (simp; done) | (simp; omega)) (by first | (simp; done) | (simp; omega)) (Both.lpos (by first | (simp; done) | (simp; omega)) (Both.lpos (by first | (simp; done) | (simp; omega)) ?_)))
      exact flood_ways a b c l ha hb hc hlen hl5 fr hfr n hn M (by omega) (fun S T hS hT hu => ih S T (by omega) hS hT hu) 6 0 S T (by omega) hS (fun q hq => hT q (List.mem_cons_of_mem _ hq)) (by simp only [List.length_cons] at hu; omega)
theorem both (a b c : Int) (l : List Int) (x y z : Int) (hl : l.length ≤ maxLen) : Both Q1 (fun k => spec_FloodFrom.f k a b c l x y z) (fun k => impl_FloodFrom.f k a b c l x y z) := by
  have h1 := spec_at a b c l x y z hl
  have h2 := blocks_impl a b c l hl
  have no : Q1 ([], false) := by simp
  have jT : Ev (fun k => impl_FloodFrom.j0 k x y z true a b c l) ([], false) := Ev.step (fun k => impl_FloodFrom.j0.eq_2 _ _ _ _ _ _ _ _ k) (Ev.pos rfl (Ev.now _))
  unfold spec_FloodFrom.f impl_FloodFrom.f
  cases h : blocksOk a b c l with
  | false =>
    rw [h, if_neg (by decide)] at h1
    rw [h] at h2
    exact ⟨_, no, Ev.bind h1 (Ev.pos (by decide) (Ev.now _)), Ev.bind h2 (Ev.neg (by decide) jT)⟩
  | true =>
    rw [h] at h1 h2
    obtain ⟨ha, hb, hc, hlen, hall⟩ := blocks_yes h
    have hs := at_spec a b c l x y z ha hb hc
    have hi := number_impl a b c l x y z ha hb hc
    obtain ⟨hr0, hr1⟩ := numAt_range a b c x y z ha hb hc
    obtain ⟨_, _, _, _, _, _, _, _, h512⟩ := at_range (x := 0) (y := 0) (z := 0) ha.1 ha.2 hb.1 hb.2 hc.1 hc.2 (by omega) (by omega) (by omega) (by omega) (by omega) (by omega)
    rw [if_pos rfl] at h1
    generalize hN : numAt a b c x y z = N at h1 hs hi hr0 hr1
    by_cases hn : N < 0
    · rw [if_pos hn] at h1
      refine ⟨_, no, Ev.bind h1 (Ev.pos (by decide) (Ev.now _)), Ev.bind h2 (Ev.pos rfl (Ev.const_bind hi ?_))⟩
      rw [decide_eq_true hn]
      exact jT
    · rw [if_neg hn] at h1
      have hrd : ¬ rd l N < 0 := by
        obtain ⟨n, e⟩ := Int.eq_ofNat_of_zero_le (show 0 ≤ N by omega)
        rw [e, rd_get (by omega)]
        have := hall l[n] (List.getElem_mem _)
        omega
      have hl512 : l.length ≤ 512 := by omega
      have hun := un_le ((List.replicate (l.length : Int).toNat false).set N.toNat true)
      rw [List.length_set, List.length_replicate, Int.toNat_natCast] at hun
      obtain ⟨r, hr, s, t⟩ := flood_all a b c l ha hb hc hlen hl512 N (by omega) _ ((List.replicate (l.length : Int).toNat false).set N.toNat true) [N] (by rw [Int.toNat_natCast, List.length_singleton]; omega) (by rw [List.length_set, List.length_replicate, Int.toNat_natCast]) (fun q hq => by rw [List.mem_singleton.1 hq]; omega) rfl
      refine ⟨r, hr, Ev.bind h1 (Ev.neg hrd (Ev.const_bind hs (Ev.pos (by omega) (Ev.pos (by rw [Int.toNat_natCast]; omega) (Ev.some_bind (Ev.pos (by omega) (Ev.pos (by first | (simp; done) | (simp; omega)) s))))))), Ev.bind h2 (Ev.pos rfl (Ev.const_bind hi ?_))⟩
      rw [decide_eq_false hn]
      exact Ev.step (fun k => impl_FloodFrom.j0.eq_2 _ _ _ _ _ _ _ _ k) (Ev.neg (by decide) (Ev.const_bind hi (Ev.pos (by omega) (Ev.pos (by rw [Int.toNat_natCast]; omega) (Ev.some_bind (Ev.pos (by omega) (Ev.pos (by first | (simp; done) | (simp; omega)) t)))))))
theorem FnExactFloodFrom : laws_FnExactFloodFrom.Pure := by
  intro a b c l x y z _ _ _ ⟨hl, _⟩ _ _ _
  refine Ev.rounds (r := true) ?_
  unfold laws_FnExactFloodFrom.f
  refine Ev.const_bind (sz_blocks a b c l (by omega) (by omega) hl) (Ev.ite (fun _ => Ev.now _) (fun h => ?_))
  have hn := (roomLeft_ok h).1
  have ht := to_blocks a b c l hn
  obtain ⟨⟨r0, r1⟩, hr, h1, h2⟩ := both a b c l x y z hl
  have hr : (r0.length : Int) ≤ 1048576 := hr
  have he := eq_ints r0 hr
  have hm := mark_ints r0 (by omega)
  have hh := held_ints r0.length (by omega)
  exact Ev.bind ht (Ev.bind h1 (Ev.bind ht (Ev.bind h2 (Ev.bind he (Ev.pos rfl (Ev.step (fun k => laws_FnExactFloodFrom.j0.eq_2 _ _ _ _ _ _ _ _ _ _ _ _ _ _ _ _ k) (Ev.neg (by simp) (Ev.bind ht (Ev.bind (eq_blocks a b c l hn) (Ev.pos rfl
    (Ev.bind (mark_blocks a b c l hn) (Ev.neg (by first | (simp; done) | (simp; omega)) (Ev.bind he (Ev.pos rfl (Ev.step (fun k => laws_FnExactFloodFrom.j1.eq_2 _ _ _ _ _ _ _ _ _ _ _ k) (Ev.neg (by simp)
    (Ev.bind hm (Ev.bind hh (Ev.neg (by omega) (Ev.pos rfl (Ev.bind ht (Ev.bind h2 (Ev.bind he (Ev.pos rfl (Ev.step (fun k => laws_FnExactFloodFrom.j2.eq_2 _ _ _ k) (Ev.neg (by simp) (Ev.bind hh (Ev.neg (by omega) (Ev.pos rfl (Ev.now _))))))))))))))))))))))))))))))

end Go.Proofs.Ytjaljjdmolhhpaa.Pure
