/- SetBlock: the pure statement of the law: the program's blocks are the reference's, for all blocks, places and kinds. -/
import Derived.Test.YtjckjmhlodjmgaaXFnExactSetBlockx5
import Derived.Test.YtjckjmhlodjmgaaXLib
namespace Go.Proofs.Ytjckjmhlodjmgaa.Pure
open Go.RowKit Go.Proofs.Ytjckjmhlodjmgaa.XFnExactSetBlock Go.Proofs.YtjckjmhlodjmgaaW.PrintWords Go.Proofs.YtjckjmhlodjmgaaW.PrintLast Go.Proofs.YtjckjmhlodjmgaaW.PrintMore Go.Proofs.Ytjckjmhlodjmgaa.X
set_option linter.unusedVariables false
set_option linter.unusedSimpArgs false

theorem in_spec (a b c : Int) : spec_l1In.f a b c = some (decide (b ≤ a) && decide (a ≤ c)) := by
  unfold spec_l1In.f
  by_cases h : b ≤ a <;> simp [h]
theorem in_impl (a b c : Int) : impl_inRange.f a b c = some (decide (b ≤ a) && decide (a ≤ c)) := by
  unfold impl_inRange.f
  by_cases h : b ≤ a <;> simp [h]
theorem sz_ints (l : List Int) {a : Int} (h0 : 0 ≤ a) (h1 : a ≤ 1048576) (hl : l.length ≤ maxLen) : laws_szIntS.f l a = some (roomLeft l.length a) := sz_left h0 h1 hl
theorem to_ints (l : List Int) (hl : (l.length : Int) ≤ 1048576) : Ev (fun k => laws_toIntS.f k l) l := by
  have h := toS_ev (0 : Int) (id : Int → Int) 0 laws_toIntS.l0 (fun k x y i => laws_toIntS.l0.eq_2 x y i k) l (by omega)
  rw [List.map_id] at h
  exact Ev.pos (by omega) (Ev.pos (by omega) h)
theorem eq_ints (l : List Int) (hl : (l.length : Int) ≤ 1048576) : Ev (fun k => laws_eqIntS.f k l l) true :=
  eqInt_ev laws_eqIntS.l0 (fun k x y i => laws_eqIntS.l0.eq_2 x y i k) l (by rw [maxLen_eq]; omega)
/-! blocks -/
def blocksOk (a b c : Int) (l : List Int) : Bool :=
  (decide (1 ≤ a) && decide (a ≤ 8)) && ((decide (1 ≤ b) && decide (b ≤ 8)) && ((decide (1 ≤ c) && decide (c ≤ 8)) && (decide ((l.length : Int) = wrap64 (wrap64 (a * b) * c)) && l.all fun n => decide (0 ≤ n) && decide (n ≤ 9))))
theorem blocks_spec (a b c : Int) (l : List Int) (hl : l.length ≤ maxLen) : Ev (fun k => spec_GoodBlocks.f k a b c l) (blocksOk a b c l) := by
  have h0 := all_ev (0 : Int) (fun n => decide (0 ≤ n) && decide (n ≤ 9)) spec_GoodBlocks.l0 (fun k x n i => by rw [spec_GoodBlocks.l0]; simp only [in_spec, Option.bind_some]; rfl) l hl
  have hj : ∀ z, Ev (fun k => spec_GoodBlocks.j0 k z a b c l) (!z && l.all fun n => decide (0 ≤ n) && decide (n ≤ 9)) := fun z =>
    Ev.step (fun k => spec_GoodBlocks.j0.eq_2 _ _ _ _ _ k) (Ev.andn (fun _ => h0))
  unfold spec_GoodBlocks.f blocksOk
  simp only [in_spec, Option.bind_some]
  cases ha : (decide (1 ≤ a) && decide (a ≤ 8)) with
  | false => exact Ev.neg (by decide) (hj true)
  | true =>
    refine Ev.pos rfl ?_
    cases hb : (decide (1 ≤ b) && decide (b ≤ 8)) with
    | false => exact Ev.neg (by decide) (hj true)
    | true =>
      refine Ev.pos rfl ?_
      cases hc : (decide (1 ≤ c) && decide (c ≤ 8)) with
      | false => exact Ev.neg (by decide) (hj true)
      | true =>
        refine Ev.pos rfl (Ev.cast (hj _) ?_)
        rw [Bool.true_and, Bool.true_and, Bool.true_and]
        congr 1
        by_cases h : (l.length : Int) = wrap64 (wrap64 (a * b) * c) <;> simp [h]
theorem blocks_impl (a b c : Int) (l : List Int) (hl : l.length ≤ maxLen) : Ev (fun k => impl_GoodBlocks.f k a b c l) (blocksOk a b c l) := by
  have h := contains_ev (0 : Int) (fun _ z => impl_GoodBlocks_1.f z) (fun n => !(decide (0 ≤ n) && decide (n ≤ 9))) slices_IndexFunc_int_int_at_impl_GoodBlocks_1.l0 (fun k x n i => slices_IndexFunc_int_int_at_impl_GoodBlocks_1.l0.eq_2 x n i k) l hl (fun z _ => Ev.mk (fun _ => by unfold impl_GoodBlocks_1.f; rw [in_impl]; rfl))
  unfold impl_GoodBlocks.f blocksOk slices_ContainsFunc_int_int_at_impl_GoodBlocks_1.f slices_IndexFunc_int_int_at_impl_GoodBlocks_1.f
  simp only [in_impl, Option.bind_some]
  refine Ev.and (fun _ => Ev.and (fun _ => Ev.and (fun _ => Ev.andp (fun _ => Ev.bind h (Ev.cast (Ev.now _) (any_not _ l))))))
theorem sz_blocks (a b c : Int) (l : List Int) {s : Int} (h0 : 0 ≤ s) (h1 : s ≤ 1048576) (hl : l.length ≤ maxLen) : laws_szBlocks.f a b c l s = some (roomLeft l.length s) := by
  unfold laws_szBlocks.f
  rw [sz_ints l h0 h1 hl, Option.bind_some]
  by_cases h : roomLeft l.length s < 0
  · rw [if_pos h]
    unfold roomLeft at h ⊢
    by_cases hc : (l.length : Int) ≤ s
    · rw [if_pos hc] at h; omega
    · rw [if_neg hc]
  · rw [if_neg h]
theorem to_blocks (a b c : Int) (l : List Int) (hl : (l.length : Int) ≤ 1048576) : Ev (fun k => laws_toBlocks.f k a b c l) (a, b, c, l) :=
  Ev.bind (to_ints l hl) (Ev.now _)
theorem eq_blocks (a b c : Int) (l : List Int) (hl : (l.length : Int) ≤ 1048576) : Ev (fun k => laws_eqBlocks.f k a b c l a b c l) true :=
  Ev.pos rfl (Ev.pos rfl (Ev.pos rfl (Ev.bind (eq_ints l hl) (Ev.pos rfl (Ev.now _)))))
theorem mark_ints (l : List Int) (hl : (l.length : Int) ≤ 4611686018427387000) : Ev (fun k => laws_markIntS.f k l 1) (1 + (l.length : Int), marks l.length 1) :=
  markInt_ev laws_markIntS.l0 (fun k x c i => laws_markIntS.l0.eq_2 x c i k) 1 (by omega) l (by omega)
theorem held_ints (n : Nat) (hn : (n : Int) ≤ 4611686018427387000) : Ev (fun k => laws_heldIntS.f k (marks n 1) 1) (1 + (n : Int)) :=
  heldInt_ev laws_heldIntS.l0 (fun k x c i => laws_heldIntS.l0.eq_2 x c i k) n 1 (by omega) (by omega)
theorem mark_blocks (a b c : Int) (l : List Int) (hl : (l.length : Int) ≤ 1048576) : Ev (fun k => laws_markBlocks.f k a b c l 1) (1 + (l.length : Int), marks l.length 1) :=
  Ev.bind (mark_ints l (by omega)) (Ev.now _)
theorem held_blocks (a b c : Int) (n : Nat) (hn : (n : Int) ≤ 1048576) : Ev (fun k => laws_heldBlocks.f k a b c (marks n 1) 1) (1 + (n : Int)) :=
  Ev.bind (held_ints n (by omega)) (Ev.neg (by omega) (Ev.now _))
/-! where a block lies -/
theorem at_range {a b c x y z : Int} (ha : 1 ≤ a) (ha' : a ≤ 8) (hb : 1 ≤ b) (hb' : b ≤ 8) (hc : 1 ≤ c) (hc' : c ≤ 8) (hx : 0 ≤ x) (hx' : x ≤ a - 1) (hy : 0 ≤ y) (hy' : y ≤ b - 1) (hz : 0 ≤ z) (hz' : z ≤ c - 1) :
    0 ≤ z * b ∧ z * b ≤ 56 ∧ 0 ≤ (z * b + y) * a ∧ (z * b + y) * a ≤ 504 ∧ (z * b + y) * a + x < a * b * c ∧ 0 ≤ a * b ∧ a * b ≤ 64 ∧ 0 ≤ a * b * c ∧ a * b * c ≤ 512 := by
  have h1 : 0 ≤ z * b := Int.mul_nonneg hz (by omega)
  have h2 : z * b ≤ (c - 1) * b := Int.mul_le_mul_of_nonneg_right hz' (by omega)
  have h3 : z * b ≤ 7 * b := Int.mul_le_mul_of_nonneg_right (by omega) (by omega)
  have h4 : 0 ≤ (z * b + y) * a := Int.mul_nonneg (by omega) (by omega)
  have e1 : (c - 1) * b = c * b - b := by rw [Int.sub_mul, Int.one_mul]
  have h5 : (z * b + y) * a ≤ (c * b - 1) * a := Int.mul_le_mul_of_nonneg_right (by omega) (by omega)
  have e2 : (c * b - 1) * a = a * b * c - a := by rw [Int.sub_mul, Int.one_mul, Int.mul_comm (c * b) a, Int.mul_assoc a b c, Int.mul_comm b c]
  have h6 : (z * b + y) * a ≤ 63 * a := Int.mul_le_mul_of_nonneg_right (by omega) (by omega)
  have h7 : 0 ≤ a * b := Int.mul_nonneg (by omega) (by omega)
  have h8 : a * b ≤ 8 * b := Int.mul_le_mul_of_nonneg_right ha' (by omega)
  have h9 : 0 ≤ a * b * c := Int.mul_nonneg h7 (by omega)
  have h10 : a * b * c ≤ 64 * c := Int.mul_le_mul_of_nonneg_right (by omega) (by omega)
  refine ⟨h1, by omega, h4, by omega, by omega, h7, by omega, h9, by omega⟩
theorem blocks_yes {a b c : Int} {l : List Int} (h : blocksOk a b c l = true) : (1 ≤ a ∧ a ≤ 8) ∧ (1 ≤ b ∧ b ≤ 8) ∧ (1 ≤ c ∧ c ≤ 8) ∧ (l.length : Int) = a * b * c ∧ (∀ n ∈ l, 0 ≤ n ∧ n ≤ 9) := by
  unfold blocksOk at h
  simp only [Bool.and_eq_true, decide_eq_true_eq, List.all_eq_true] at h
  obtain ⟨ha, hb, hc, hl, hall⟩ := h
  obtain ⟨_, _, _, _, _, h1, h2, h3, h4⟩ := at_range (x := 0) (y := 0) (z := 0) ha.1 ha.2 hb.1 hb.2 hc.1 hc.2 (by omega) (by omega) (by omega) (by omega) (by omega) (by omega)
  rw [w64 (n := a * b) (by omega) (by omega), w64 (by omega) (by omega)] at hl
  exact ⟨ha, hb, hc, hl, hall⟩
/-- The number of a place, -1 where it is none. -/
def numAt (a b c x y z : Int) : Int := if (0 ≤ x ∧ x ≤ a - 1) ∧ (0 ≤ y ∧ y ≤ b - 1) ∧ (0 ≤ z ∧ z ≤ c - 1) then (z * b + y) * a + x else -1
theorem numAt_range (a b c x y z : Int) (ha : 1 ≤ a ∧ a ≤ 8) (hb : 1 ≤ b ∧ b ≤ 8) (hc : 1 ≤ c ∧ c ≤ 8) : -1 ≤ numAt a b c x y z ∧ numAt a b c x y z < a * b * c := by
  unfold numAt
  split
  · rename_i h
    obtain ⟨hx, hy, hz⟩ := h
    obtain ⟨_, _, h3, _, h5, _⟩ := at_range ha.1 ha.2 hb.1 hb.2 hc.1 hc.2 hx.1 hx.2 hy.1 hy.2 hz.1 hz.2
    omega
  · obtain ⟨_, _, _, _, _, _, _, h8, _⟩ := at_range (x := 0) (y := 0) (z := 0) ha.1 ha.2 hb.1 hb.2 hc.1 hc.2 (by omega) (by omega) (by omega) (by omega) (by omega) (by omega)
    omega
theorem num_wrap {a b c x y z : Int} (ha : 1 ≤ a ∧ a ≤ 8) (hb : 1 ≤ b ∧ b ≤ 8) (hc : 1 ≤ c ∧ c ≤ 8) (hx : 0 ≤ x ∧ x ≤ a - 1) (hy : 0 ≤ y ∧ y ≤ b - 1) (hz : 0 ≤ z ∧ z ≤ c - 1) :
    wrap64 (wrap64 (wrap64 (wrap64 (z * b) + y) * a) + x) = numAt a b c x y z := by
  obtain ⟨h1, h2, h3, h4, h5, _⟩ := at_range ha.1 ha.2 hb.1 hb.2 hc.1 hc.2 hx.1 hx.2 hy.1 hy.2 hz.1 hz.2
  unfold numAt
  rw [if_pos ⟨hx, hy, hz⟩, w64 (n := z * b) (by omega) (by omega), w64 (n := z * b + y) (by omega) (by omega), w64 (n := (z * b + y) * a) (by omega) (by omega), w64 (by omega) (by omega)]
theorem at_spec (a b c : Int) (l : List Int) (x y z : Int) (ha : 1 ≤ a ∧ a ≤ 8) (hb : 1 ≤ b ∧ b ≤ 8) (hc : 1 ≤ c ∧ c ≤ 8) : spec_l13At.f a b c l [x, y, z] = some (numAt a b c x y z) := by
  unfold spec_l13At.f
  simp only [in_spec, Option.bind_some]
  rw [w64 (n := a - 1) (by omega) (by omega), w64 (n := b - 1) (by omega) (by omega), w64 (n := c - 1) (by omega) (by omega)]
  have e0 : rd [x, y, z] 0 = x := rfl
  have e1 : rd [x, y, z] 1 = y := rfl
  have e2 : rd [x, y, z] 2 = z := rfl
  rw [e0, e1, e2, if_pos (show (0 : Int) < (([x, y, z] : List Int).length : Int) by simp), if_pos (show (1 : Int) < (([x, y, z] : List Int).length : Int) by simp), if_pos (show (2 : Int) < (([x, y, z] : List Int).length : Int) by simp)]
  by_cases hx : 0 ≤ x ∧ x ≤ a - 1
  · rw [if_pos (by simp [hx])]
    by_cases hy : 0 ≤ y ∧ y ≤ b - 1
    · rw [if_pos (by simp [hy])]
      by_cases hz : 0 ≤ z ∧ z ≤ c - 1
      · rw [if_pos (by simp [hz]), num_wrap ha hb hc hx hy hz]
      · rw [if_neg (by simpa using hz)]; unfold numAt; rw [if_neg (fun h => hz h.2.2)]
    · rw [if_neg (by simpa using hy)]; unfold numAt; rw [if_neg (fun h => hy h.2.1)]
  · rw [if_neg (by simpa using hx)]; unfold numAt; rw [if_neg (fun h => hx h.1)]
theorem number_impl (a b c : Int) (l : List Int) (x y z : Int) (ha : 1 ≤ a ∧ a ≤ 8) (hb : 1 ≤ b ∧ b ≤ 8) (hc : 1 ≤ c ∧ c ≤ 8) : impl_Blocks_number.f a b c l x y z = some (numAt a b c x y z) := by
  unfold impl_Blocks_number.f
  simp only [in_impl, Option.bind_some]
  rw [w64 (n := a - 1) (by omega) (by omega), w64 (n := b - 1) (by omega) (by omega), w64 (n := c - 1) (by omega) (by omega)]
  by_cases hx : 0 ≤ x ∧ x ≤ a - 1
  · rw [if_pos (by simp [hx])]
    by_cases hy : 0 ≤ y ∧ y ≤ b - 1
    · rw [if_pos (by simp [hy])]
      by_cases hz : 0 ≤ z ∧ z ≤ c - 1
      · rw [if_pos (by simp [hz]), num_wrap ha hb hc hx hy hz]
      · rw [if_neg (by simpa using hz)]; unfold numAt; rw [if_neg (fun h => hz h.2.2)]
    · rw [if_neg (by simpa using hy)]; unfold numAt; rw [if_neg (fun h => hy h.2.1)]
  · rw [if_neg (by simpa using hx)]; unfold numAt; rw [if_neg (fun h => hx h.1)]
theorem spec_at (a b c : Int) (l : List Int) (x y z : Int) (hl : l.length ≤ maxLen) : Ev (fun k => spec_BlockAt.f k a b c l x y z) (if blocksOk a b c l = true then (if numAt a b c x y z < 0 then -1 else rd l (numAt a b c x y z)) else -1) := by
  have h1 := blocks_spec a b c l hl
  unfold spec_BlockAt.f
  cases h : blocksOk a b c l with
  | false => rw [h] at h1; exact Ev.bind h1 (Ev.neg (by decide) (Ev.now _))
  | true =>
    rw [h] at h1
    obtain ⟨ha, hb, hc, hlen, _⟩ := blocks_yes h
    have hs := at_spec a b c l x y z ha hb hc
    obtain ⟨hr0, hr1⟩ := numAt_range a b c x y z ha hb hc
    refine Ev.bind h1 (Ev.pos rfl (Ev.const_bind hs ?_))
    exact Ev.ite (fun h => Ev.cast (Ev.now _) (by rw [if_pos rfl, if_pos h])) (fun h => Ev.pos (by omega) (Ev.pos (by omega) (Ev.cast (Ev.now _) (by rw [if_pos rfl, if_neg h]))))
theorem both (a b c : Int) (l : List Int) (x y z q : Int) (hl : (l.length : Int) ≤ 1048576) : Both (fun r : Int × Int × Int × List Int × Bool => (r.2.2.2.1.length : Int) ≤ 1048576) (fun k => spec_SetBlock.f k a b c l x y z q) (fun k => impl_SetBlock.f k a b c l x y z q) := by
  have hl' : l.length ≤ maxLen := by rw [maxLen_eq]; omega
  have h1 := spec_at a b c l x y z hl'
  have h2 := blocks_impl a b c l hl'
  have no : ((((0 : Int), (0 : Int), (0 : Int), ([] : List Int), false) : Int × Int × Int × List Int × Bool).2.2.2.1.length : Int) ≤ 1048576 := by simp
  have jT : Ev (fun k => impl_SetBlock.j0 k x y z q true a b c l) (0, 0, 0, [], false) := Ev.step (fun k => impl_SetBlock.j0.eq_2 _ _ _ _ _ _ _ _ _ k) (Ev.pos rfl (Ev.now _))
  unfold spec_SetBlock.f impl_SetBlock.f
  cases h : blocksOk a b c l with
  | false =>
    rw [h, if_neg (by decide)] at h1
    rw [h] at h2
    exact ⟨_, no, Ev.bind h1 (Ev.pos (by decide) (Ev.now _)), Ev.bind h2 (Ev.neg (by decide) jT)⟩
  | true =>
    rw [h] at h1 h2
    obtain ⟨ha, hb, hc, hlen, hall⟩ := blocks_yes h
    have hi := number_impl a b c l x y z ha hb hc
    obtain ⟨hr0, hr1⟩ := numAt_range a b c x y z ha hb hc
    rw [if_pos rfl] at h1
    by_cases hn : numAt a b c x y z < 0
    · rw [if_pos hn] at h1
      exact ⟨_, no, Ev.bind h1 (Ev.pos (by decide) (Ev.now _)), Ev.bind h2 (Ev.pos rfl (Ev.const_bind hi (Ev.pos hn jT)))⟩
    · rw [if_neg hn] at h1
      have hrd : ¬ rd l (numAt a b c x y z) < 0 := by
        obtain ⟨n, e⟩ := Int.eq_ofNat_of_zero_le (show 0 ≤ numAt a b c x y z by omega)
        rw [e, rd_get (by omega)]
        have := hall l[n] (List.getElem_mem _)
        omega
      cases hq : (decide (0 ≤ q) && decide (q ≤ 9)) with
      | false =>
        refine ⟨_, no, Ev.bind h1 (Ev.neg hrd (Ev.const_bind (in_spec _ _ _) ?_)), Ev.bind h2 (Ev.pos rfl (Ev.const_bind hi (Ev.neg hn (Ev.const_bind (in_impl _ _ _) ?_))))⟩
        · rw [hq]; exact Ev.neg (by decide) (Ev.now _)
        · rw [hq]; exact jT
      | true =>
        refine ⟨(a, b, c, l.set (numAt a b c x y z).toNat q, true), by simpa using hl, Ev.bind h1 (Ev.neg hrd (Ev.const_bind (in_spec _ _ _) ?_)), Ev.bind h2 (Ev.pos rfl (Ev.const_bind hi (Ev.neg hn (Ev.const_bind (in_impl _ _ _) ?_))))⟩
        · rw [hq]
          refine Ev.pos rfl (Ev.some_bind (Ev.pos (by simp; omega) (Ev.some_bind (Ev.const_bind (at_spec a b c _ x y z ha hb hc) (Ev.pos (by omega) (Ev.pos ?_ (Ev.now _)))))))
          rw [List.nil_append]; omega
        · rw [hq]
          have hcl : slices_Clone_int_int.f l = some l := by
            unfold slices_Clone_int_int.f
            rw [Option.bind_some, if_pos (by simp; omega)]
            rfl
          exact Ev.step (fun k => impl_SetBlock.j0.eq_2 _ _ _ _ _ _ _ _ _ k) (Ev.neg (by decide) (Ev.const_bind hcl (Ev.const_bind hi (Ev.pos (by omega) (Ev.pos (by omega) (Ev.now _))))))
theorem FnExactSetBlock : laws_FnExactSetBlock.Pure := by
  intro a b c l x y z q _ _ _ ⟨hl, _⟩ _ _ _ _
  refine Ev.rounds (r := true) ?_
  unfold laws_FnExactSetBlock.f
  refine Ev.const_bind (sz_blocks a b c l (by omega) (by omega) hl) (Ev.ite (fun _ => Ev.now _) (fun h => ?_))
  have hn := (roomLeft_ok h).1
  have ht := to_blocks a b c l hn
  obtain ⟨⟨r0, r1, r2, r3, r4⟩, hr, h1, h2⟩ := both a b c l x y z q hn
  have hr : (r3.length : Int) ≤ 1048576 := hr
  have he := eq_blocks r0 r1 r2 r3 hr
  have hm := mark_blocks r0 r1 r2 r3 hr
  have hh := held_blocks r0 r1 r2 r3.length hr
  exact Ev.bind ht (Ev.bind h1 (Ev.bind ht (Ev.bind h2 (Ev.bind he (Ev.pos rfl (Ev.step (fun k => laws_FnExactSetBlock.j0.eq_2 _ _ _ _ _ _ _ _ _ _ _ _ _ _ _ _ _ _ _ _ _ _ _ k) (Ev.neg (by simp) (Ev.bind ht (Ev.bind (eq_blocks a b c l hn) (Ev.pos rfl
    (Ev.bind (mark_blocks a b c l hn) (Ev.neg (by simp; omega) (Ev.bind he (Ev.pos rfl (Ev.step (fun k => laws_FnExactSetBlock.j1.eq_2 _ _ _ _ _ _ _ _ _ _ _ _ _ _ _ _ _ _ k) (Ev.neg (by simp)
    (Ev.bind hm (Ev.bind hh (Ev.neg (by omega) (Ev.pos rfl (Ev.bind ht (Ev.bind h2 (Ev.bind he (Ev.pos rfl (Ev.step (fun k => laws_FnExactSetBlock.j2.eq_2 _ _ _ _ _ _ k) (Ev.neg (by simp) (Ev.bind hh (Ev.neg (by omega) (Ev.pos rfl (Ev.now _))))))))))))))))))))))))))))))

end Go.Proofs.Ytjckjmhlodjmgaa.Pure
