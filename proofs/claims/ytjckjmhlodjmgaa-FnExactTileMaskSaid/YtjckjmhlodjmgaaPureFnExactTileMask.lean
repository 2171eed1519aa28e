/- TileMask: the pure statement of the law: the program's bits are the reference's, for all fields, places and sorts. -/
import Derived.Test.YtjckjmhlodjmgaaXFnExactTileMaskx4
import Derived.Test.YtjckjmhlodjmgaaXLib
namespace Go.Proofs.Ytjckjmhlodjmgaa.Pure
open Go.RowKit Go.Proofs.Ytjckjmhlodjmgaa.XFnExactTileMask Go.Proofs.YtjckjmhlodjmgaaW.PrintWords Go.Proofs.YtjckjmhlodjmgaaW.PrintLast Go.Proofs.YtjckjmhlodjmgaaW.PrintMore Go.Proofs.Ytjckjmhlodjmgaa.X
set_option linter.unusedVariables false
set_option linter.unusedSimpArgs false

theorem in_spec (a b c : Int) : spec_l1In.f a b c = some (decide (b ≤ a) && decide (a ≤ c)) := by
  unfold spec_l1In.f
  by_cases h : b ≤ a <;> simp [h]
theorem in_impl (a b c : Int) : impl_inRange.f a b c = some (decide (b ≤ a) && decide (a ≤ c)) := by
  unfold impl_inRange.f
  by_cases h : b ≤ a <;> simp [h]
theorem sz_ints (l : List Int) {a : Int} (h0 : 0 ≤ a) (h1 : a ≤ 1048576) (hl : l.length ≤ maxLen) : laws_szIntS.f l a = some (roomLeft l.length a) := sz_left h0 h1 hl
theorem to_ints (l : List Int) (hl : (l.length : Int) ≤ 1048576) : Ev (fun k => laws_toIntS.f k l) l := by
  have h := toS_ev (0 : Int) (id : Int → Int) 0 laws_toIntS.l0 (fun k x y i => laws_toIntS.l0.eq_2 x y i k) l (by omega)
  rw [List.map_id] at h
  exact Ev.pos (by omega) (Ev.pos (by omega) h)
theorem eq_ints (l : List Int) (hl : (l.length : Int) ≤ 1048576) : Ev (fun k => laws_eqIntS.f k l l) true :=
  eqInt_ev laws_eqIntS.l0 (fun k x y i => laws_eqIntS.l0.eq_2 x y i k) l (by rw [maxLen_eq]; omega)
/-! fields -/
def fieldOk (a b : Int) (l : List Int) (s : Int) : Bool :=
  (decide (1 ≤ a) && decide (a ≤ 6)) && ((decide (1 ≤ b) && decide (b ≤ 6)) && (decide ((l.length : Int) = wrap64 (a * b)) && l.all fun n => decide (-1 ≤ n) && decide (n ≤ wrap64 (s - 1))))
theorem field_spec (a b : Int) (l : List Int) (s : Int) (hl : l.length ≤ maxLen) : Ev (fun k => spec_l14Field.f k a b l s) (fieldOk a b l s) := by
  have h0 := all_evT (0 : Int) (fun _ z => spec_l1In.f z (-1) (wrap64 (s - 1))) (fun n => decide (-1 ≤ n) && decide (n ≤ wrap64 (s - 1))) (fun k x n i => spec_l14Field.l0 k s x n i) (fun k x n i => spec_l14Field.l0.eq_2 _ _ _ _ k) l hl (fun z _ => Ev.mk fun _ => in_spec _ _ _)
  have hj : ∀ z, Ev (fun k => spec_l14Field.j0 k s z a b l) (!z && l.all fun n => decide (-1 ≤ n) && decide (n ≤ wrap64 (s - 1))) := fun z =>
    Ev.step (fun k => spec_l14Field.j0.eq_2 _ _ _ _ _ k) (Ev.andn (fun _ => h0))
  unfold spec_l14Field.f fieldOk
  simp only [in_spec, Option.bind_some]
  cases ha : (decide (1 ≤ a) && decide (a ≤ 6)) with
  | false => exact Ev.neg (by decide) (hj true)
  | true =>
    refine Ev.pos rfl ?_
    cases hb : (decide (1 ≤ b) && decide (b ≤ 6)) with
    | false => exact Ev.neg (by decide) (hj true)
    | true =>
      refine Ev.pos rfl (Ev.cast (hj _) ?_)
      rw [Bool.true_and, Bool.true_and]
      congr 1
      by_cases h : (l.length : Int) = wrap64 (a * b) <;> simp [h]
theorem field_impl (a b : Int) (l : List Int) (s : Int) (hl : l.length ≤ maxLen) : Ev (fun k => impl_isField.f k a b l s) (fieldOk a b l s) := by
  have h := contains_ev (0 : Int) (fun _ z => impl_isField_1_captured.f z s) (fun n => !(decide (-1 ≤ n) && decide (n ≤ wrap64 (s - 1)))) (slices_IndexFunc_int_int_at_impl_isField_1.l0 s) (fun k x n i => slices_IndexFunc_int_int_at_impl_isField_1.l0.eq_2 _ _ _ _ k) l hl (fun z _ => Ev.mk (fun _ => by unfold impl_isField_1_captured.f; rw [in_impl]; rfl))
  unfold impl_isField.f fieldOk slices_ContainsFunc_int_int_at_impl_isField_1.f slices_IndexFunc_int_int_at_impl_isField_1.f
  simp only [in_impl, Option.bind_some]
  refine Ev.and (fun _ => Ev.and (fun _ => Ev.andp (fun _ => Ev.bind h (Ev.cast (Ev.now _) (any_not _ l)))))
theorem field_yes {a b : Int} {l : List Int} {s : Int} (h : fieldOk a b l s = true) : (1 ≤ a ∧ a ≤ 6) ∧ (1 ≤ b ∧ b ≤ 6) ∧ (l.length : Int) = a * b ∧ (∀ n ∈ l, -1 ≤ n ∧ n ≤ wrap64 (s - 1)) ∧ 1 ≤ a * b ∧ a * b ≤ 36 := by
  unfold fieldOk at h
  simp only [Bool.and_eq_true, decide_eq_true_eq, List.all_eq_true] at h
  obtain ⟨ha, hb, hl, hall⟩ := h
  have h1 : a * 1 ≤ a * b := Int.mul_le_mul_of_nonneg_left hb.1 (by omega)
  have h2 : a * b ≤ a * 6 := Int.mul_le_mul_of_nonneg_left hb.2 (by omega)
  rw [w64 (n := a * b) (by omega) (by omega)] at hl
  exact ⟨ha, hb, hl, hall, by omega, by omega⟩
theorem sz_field (a b : Int) (l : List Int) {s : Int} (h0 : 0 ≤ s) (h1 : s ≤ 1048576) (hl : l.length ≤ maxLen) : laws_szField.f a b l s = some (roomLeft l.length s) := by
  unfold laws_szField.f
  rw [sz_ints l h0 h1 hl, Option.bind_some]
  exact room_again _ _
theorem to_field (a b : Int) (l : List Int) (hl : (l.length : Int) ≤ 1048576) : Ev (fun k => laws_toField.f k a b l) (a, b, l) :=
  Ev.bind (to_ints l hl) (Ev.now _)
theorem eq_field (a b : Int) (l : List Int) (hl : (l.length : Int) ≤ 1048576) : Ev (fun k => laws_eqField.f k a b l a b l) true :=
  Ev.pos rfl (Ev.pos rfl (Ev.bind (eq_ints l hl) (Ev.pos rfl (Ev.now _))))
/-- The tile at a place, 's' where there is none. -/
def tileV (a b : Int) (l : List Int) (x y s : Int) : Int := if (0 ≤ x ∧ x ≤ a - 1) ∧ (0 ≤ y ∧ y ≤ b - 1) then rd l (y * a + x) else s
theorem place_range {a b x y : Int} (ha : 1 ≤ a) (hx : 0 ≤ x ∧ x ≤ a - 1) (hy : 0 ≤ y ∧ y ≤ b - 1) : 0 ≤ y * a ∧ 0 ≤ y * a + x ∧ y * a + x < a * b := by
  have h1 : 0 ≤ y * a := Int.mul_nonneg hy.1 (by omega)
  have h2 : y * a ≤ (b - 1) * a := Int.mul_le_mul_of_nonneg_right hy.2 (by omega)
  have e : (b - 1) * a = a * b - a := by rw [Int.sub_mul, Int.one_mul, Int.mul_comm]
  exact ⟨h1, by omega, by omega⟩
theorem tile_impl (a b : Int) (l : List Int) (x y s : Int) (ha : 1 ≤ a ∧ a ≤ 6) (hb : 1 ≤ b ∧ b ≤ 6) (hlen : (l.length : Int) = a * b) (h36 : a * b ≤ 36) : impl_Field_tile.f a b l x y s = some (tileV a b l x y s) := by
  unfold impl_Field_tile.f tileV
  simp only [in_impl, Option.bind_some]
  rw [w64 (n := a - 1) (by omega) (by omega), w64 (n := b - 1) (by omega) (by omega)]
  by_cases hx : 0 ≤ x ∧ x ≤ a - 1
  · rw [if_pos (by simp [hx])]
    by_cases hy : 0 ≤ y ∧ y ≤ b - 1
    · obtain ⟨h0, h1, h2⟩ := place_range ha.1 hx hy
      rw [if_pos (by simp [hy]), w64 (n := y * a) (by omega) (by omega), w64 (by omega) (by omega), if_pos h1, if_pos (by omega), if_pos ⟨hx, hy⟩]
    · rw [if_neg (by simpa using hy), if_neg (fun h => hy h.2)]
  · rw [if_neg (by simpa using hx), if_neg (fun h => hx h.1)]
/-- The bits of the places beside one. -/
def maskV (a b : Int) (l : List Int) (n s : Int) : Int :=
  impl_Field_mask.b (tileV a b l (n % a) (n / a - 1) s) s 1 + impl_Field_mask.b (tileV a b l (n % a + 1) (n / a) s) s 2 + impl_Field_mask.b (tileV a b l (n % a) (n / a + 1) s) s 4 + impl_Field_mask.b (tileV a b l (n % a - 1) (n / a) s) s 8
theorem mask_impl (a b : Int) (l : List Int) (n s : Int) (ha : 1 ≤ a ∧ a ≤ 6) (hb : 1 ≤ b ∧ b ≤ 6) (hlen : (l.length : Int) = a * b) (h36 : a * b ≤ 36) (hn : 0 ≤ n ∧ n < (l.length : Int)) : impl_Field_mask.f a b l n s = some (maskV a b l n s) := by
  unfold impl_Field_mask.f
  have t := fun x y => tile_impl a b l x y s ha hb hlen h36
  rw [if_pos ⟨ha, by omega⟩, t, Option.bind_some, t, Option.bind_some, t, Option.bind_some, t, Option.bind_some]
  rfl
theorem bit_range (t s q : Int) (hq : 0 ≤ q) : 0 ≤ impl_Field_mask.b t s q ∧ impl_Field_mask.b t s q ≤ q := by
  unfold impl_Field_mask.b
  split <;> omega
theorem mask_range (a b : Int) (l : List Int) (n s : Int) : 0 ≤ maskV a b l n s ∧ maskV a b l n s ≤ 15 := by
  unfold maskV
  have h1 := bit_range (tileV a b l (n % a) (n / a - 1) s) s 1 (by omega)
  have h2 := bit_range (tileV a b l (n % a + 1) (n / a) s) s 2 (by omega)
  have h3 := bit_range (tileV a b l (n % a) (n / a + 1) s) s 4 (by omega)
  have h4 := bit_range (tileV a b l (n % a - 1) (n / a) s) s 8 (by omega)
  omega
theorem mask_spec (a b : Int) (l : List Int) (n s : Int) (ha : 1 ≤ a ∧ a ≤ 6) (hb : 1 ≤ b ∧ b ≤ 6) (hlen : (l.length : Int) = a * b) (h36 : a * b ≤ 36) (hn : 0 ≤ n ∧ n < (l.length : Int)) : Ev (fun k => spec_l14Mask.f k a b l n s) (maskV a b l n s) := by
  have q4 : 0 ≤ n % a := Int.emod_nonneg _ (by omega)
  have q5 : n % a < a := Int.emod_lt_of_pos _ (by omega)
  have q0 : 0 ≤ n / a := Int.ediv_nonneg hn.1 (by omega)
  have q1 : n / a ≤ 1000000 := Int.le_trans (Int.ediv_le_self _ hn.1) (by omega)
  have q2 : n / a < b := Int.ediv_lt_of_lt_mul (by omega) (by rw [Int.mul_comm]; omega)
  have hd := Int.emod_add_mul_ediv n a
  unfold spec_l14Mask.f
  rw [Int.tmod_eq_emod_of_nonneg hn.1, Int.tdiv_eq_ediv_of_nonneg hn.1, w64 (n := n / a) (by omega) (by omega)]
  have hmv := mask_range a b l n s
  unfold maskV at hmv ⊢
  generalize n / a = y at q0 q1 q2 hd hmv ⊢
  generalize n % a = x at q4 q5 hd hmv ⊢
  have hya : y * a = a * y := Int.mul_comm _ _
  -- the four places
  have eu : impl_Field_mask.b (tileV a b l x (y - 1) s) s 1 = if y = 0 ∨ rd l (n - a) = s then 1 else 0 := by
    unfold impl_Field_mask.b
    by_cases h : y = 0
    · rw [show tileV a b l x (y - 1) s = s from if_neg (fun hh => by omega), if_pos rfl, if_pos (Or.inl h)]
    · have e : (y - 1) * a + x = n - a := by rw [Int.sub_mul, Int.one_mul]; omega
      rw [show tileV a b l x (y - 1) s = rd l ((y - 1) * a + x) from if_pos ⟨⟨by omega, by omega⟩, by omega, by omega⟩, e]; simp [h]
  have er : impl_Field_mask.b (tileV a b l (x + 1) y s) s 2 = if x = a - 1 ∨ rd l (n + 1) = s then 2 else 0 := by
    unfold impl_Field_mask.b
    by_cases h : x = a - 1
    · rw [show tileV a b l (x + 1) y s = s from if_neg (fun hh => by omega), if_pos rfl, if_pos (Or.inl h)]
    · have e : y * a + (x + 1) = n + 1 := by omega
      rw [show tileV a b l (x + 1) y s = rd l (y * a + (x + 1)) from if_pos ⟨⟨by omega, by omega⟩, by omega, by omega⟩, e]; simp [h]
  have ed : impl_Field_mask.b (tileV a b l x (y + 1) s) s 4 = if y = b - 1 ∨ rd l (n + a) = s then 4 else 0 := by
    unfold impl_Field_mask.b
    by_cases h : y = b - 1
    · rw [show tileV a b l x (y + 1) s = s from if_neg (fun hh => by omega), if_pos rfl, if_pos (Or.inl h)]
    · have e : (y + 1) * a + x = n + a := by rw [Int.add_mul, Int.one_mul]; omega
      rw [show tileV a b l x (y + 1) s = rd l ((y + 1) * a + x) from if_pos ⟨⟨by omega, by omega⟩, by omega, by omega⟩, e]; simp [h]
  have el : impl_Field_mask.b (tileV a b l (x - 1) y s) s 8 = if x = 0 ∨ rd l (n - 1) = s then 8 else 0 := by
    unfold impl_Field_mask.b
    by_cases h : x = 0
    · rw [show tileV a b l (x - 1) y s = s from if_neg (fun hh => by omega), if_pos rfl, if_pos (Or.inl h)]
    · have e : y * a + (x - 1) = n - 1 := by omega
      rw [show tileV a b l (x - 1) y s = rd l (y * a + (x - 1)) from if_pos ⟨⟨by omega, by omega⟩, by omega, by omega⟩, e]; simp [h]
  rw [eu, er, ed, el] at hmv ⊢
  -- the reference's four steps
  have j4 : ∀ (m : Int) (d : Bool), 0 ≤ m → m ≤ 3 → Ev (fun k => spec_l14Mask.j4 k n s x m d a b l) (m + (if d = true then 4 else 0) + if x = 0 ∨ rd l (n - 1) = s then 8 else 0) := by
    intro m d h0 h1
    refine Ev.step (fun k => spec_l14Mask.j4.eq_2 _ _ _ _ _ _ _ _ k) ?_
    rw [w64 (n := m + 4) (by omega) (by omega), w64 (n := m + 4 + 8) (by omega) (by omega), w64 (n := m + 8) (by omega) (by omega), w64 (n := n - 1) (by omega) (by omega)]
    have tail : ∀ c : Int, Ev (fun _ : Nat => if x = 0 then some (c + 8) else if 0 ≤ n - 1 then (if n - 1 < (l.length : Int) then (if rd l (n - 1) = s then some (c + 8) else some c) else none) else none) (c + if x = 0 ∨ rd l (n - 1) = s then 8 else 0) := by
      intro c
      by_cases hx : x = 0
      · exact Ev.pos hx (Ev.cast (Ev.now _) (by rw [if_pos (Or.inl hx)]))
      · have hy0 : 0 ≤ a * y := Int.mul_nonneg (by omega) q0
        refine Ev.neg hx (Ev.pos (by omega) (Ev.pos (by omega) ?_))
        by_cases hr : rd l (n - 1) = s
        · exact Ev.pos hr (Ev.cast (Ev.now _) (by rw [if_pos (Or.inr hr)]))
        · exact Ev.neg hr (Ev.cast (Ev.now _) (by rw [if_neg (by simp [hx, hr])]; omega))
    cases d with
    | true => exact Ev.pos rfl (tail (m + 4))
    | false => exact Ev.neg (by decide) (Ev.cast (tail m) (by simp))
  have j3 : ∀ m : Int, 0 ≤ m → m ≤ 3 → Ev (fun k => spec_l14Mask.j3 k n s x y m a b l) (m + (if y = b - 1 ∨ rd l (n + a) = s then 4 else 0) + if x = 0 ∨ rd l (n - 1) = s then 8 else 0) := by
    intro m h0 h1
    refine Ev.step (fun k => spec_l14Mask.j3.eq_2 _ _ _ _ _ _ _ _ k) ?_
    rw [w64 (n := b - 1) (by omega) (by omega), w64 (n := n + a) (by omega) (by omega)]
    by_cases hy : y = b - 1
    · exact Ev.pos hy (Ev.cast (j4 m true h0 h1) (by rw [if_pos rfl, if_pos (Or.inl hy)]))
    · have hl2 : a * y + a ≤ a * (b - 1) := by
        have := Int.mul_le_mul_of_nonneg_left (show y + 1 ≤ b - 1 by omega) (show 0 ≤ a by omega)
        rw [Int.mul_add, Int.mul_one] at this; exact this
      have e2 : a * (b - 1) = a * b - a := by rw [Int.mul_sub, Int.mul_one]
      refine Ev.neg hy (Ev.pos (by omega) (Ev.pos (by omega) (Ev.cast (j4 m _ h0 h1) ?_)))
      by_cases hr : rd l (n + a) = s <;> simp [hy, hr]
  have j1 : ∀ m : Int, 0 ≤ m → m ≤ 1 → Ev (fun k => spec_l14Mask.j1 k n s x y m a b l) (m + (if x = a - 1 ∨ rd l (n + 1) = s then 2 else 0) + (if y = b - 1 ∨ rd l (n + a) = s then 4 else 0) + if x = 0 ∨ rd l (n - 1) = s then 8 else 0) := by
    intro m h0 h1
    have j2 : ∀ d : Bool, Ev (fun k => spec_l14Mask.j2 k n s x y m d a b l) (m + (if d = true then 2 else 0) + (if y = b - 1 ∨ rd l (n + a) = s then 4 else 0) + if x = 0 ∨ rd l (n - 1) = s then 8 else 0) := by
      intro d
      refine Ev.step (fun k => spec_l14Mask.j2.eq_2 _ _ _ _ _ _ _ _ _ k) ?_
      rw [w64 (n := m + 2) (by omega) (by omega)]
      cases d with
      | true => exact Ev.pos rfl (j3 (m + 2) (by omega) (by omega))
      | false => exact Ev.neg (by decide) (Ev.cast (j3 m (by omega) (by omega)) (by simp))
    refine Ev.step (fun k => spec_l14Mask.j1.eq_2 _ _ _ _ _ _ _ _ k) ?_
    rw [w64 (n := a - 1) (by omega) (by omega), w64 (n := n + 1) (by omega) (by omega)]
    by_cases hx : x = a - 1
    · exact Ev.pos hx (Ev.cast (j2 true) (by rw [if_pos rfl, if_pos (Or.inl hx)]))
    · have hl2 : a * y ≤ a * (b - 1) := Int.mul_le_mul_of_nonneg_left (by omega) (by omega)
      have e2 : a * (b - 1) = a * b - a := by rw [Int.mul_sub, Int.mul_one]
      refine Ev.neg hx (Ev.pos (by omega) (Ev.pos (by omega) (Ev.cast (j2 _) ?_)))
      by_cases hr : rd l (n + 1) = s <;> simp [hx, hr]
  have j0 : ∀ d : Bool, Ev (fun k => spec_l14Mask.j0 k n s x y 0 d a b l) ((if d = true then 1 else 0) + (if x = a - 1 ∨ rd l (n + 1) = s then 2 else 0) + (if y = b - 1 ∨ rd l (n + a) = s then 4 else 0) + if x = 0 ∨ rd l (n - 1) = s then 8 else 0) := by
    intro d
    refine Ev.step (fun k => spec_l14Mask.j0.eq_2 _ _ _ _ _ _ _ _ _ k) ?_
    rw [w64 (n := 0 + 1) (by omega) (by omega)]
    cases d with
    | true => exact Ev.pos rfl (j1 1 (by omega) (by omega))
    | false => exact Ev.neg (by decide) (Ev.cast (j1 0 (by omega) (by omega)) (by simp))
  refine Ev.neg (by omega) ?_
  rw [w64 (n := n - a) (by omega) (by omega)]
  by_cases hy : y = 0
  · exact Ev.pos hy (Ev.cast (j0 true) (by rw [if_pos rfl, if_pos (Or.inl hy)]))
  · have hl2 : a * 1 ≤ a * y := Int.mul_le_mul_of_nonneg_left (by omega) (by omega)
    refine Ev.neg hy (Ev.pos (by omega) (Ev.pos (by omega) (Ev.cast (j0 _) ?_)))
    by_cases hr : rd l (n - a) = s <;> simp [hy, hr]
theorem both (a b : Int) (l : List Int) (n s : Int) (hl : l.length ≤ maxLen) : Both (fun _ => True) (fun k => spec_TileMask.f k a b l n s) (fun k => impl_TileMask.f k a b l n s) := by
  have h1 := field_spec a b l 6 hl
  have h2 := field_impl a b l 6 hl
  unfold spec_TileMask.f impl_TileMask.f
  cases h : fieldOk a b l 6 with
  | false =>
    rw [h] at h1 h2
    exact ⟨_, trivial, Ev.bind h1 (Ev.neg (by decide) (Ev.now _)), Ev.bind h2 (Ev.neg (by decide) (Ev.now _))⟩
  | true =>
    rw [h] at h1 h2
    obtain ⟨ha, hb, hlen, _, _, h36⟩ := field_yes h
    cases hn : (decide (0 ≤ n) && decide (n ≤ wrap64 ((l.length : Int) - 1))) with
    | false => exact ⟨_, trivial, Ev.bind h1 (Ev.pos rfl (Ev.const_bind (in_spec _ _ _) (Ev.neg (by rw [hn]; decide) (Ev.now _)))), Ev.bind h2 (Ev.pos rfl (Ev.const_bind (in_impl _ _ _) (Ev.neg (by rw [hn]; decide) (Ev.now _))))⟩
    | true =>
      have hn' : 0 ≤ n ∧ n < (l.length : Int) := by
        rw [w64 (by omega) (by omega)] at hn
        simp only [Bool.and_eq_true, decide_eq_true_eq] at hn
        omega
      cases hs : (decide (0 ≤ s) && decide (s ≤ 5)) with
      | false => exact ⟨_, trivial, Ev.bind h1 (Ev.pos rfl (Ev.const_bind (in_spec _ _ _) (Ev.pos hn (Ev.const_bind (in_spec _ _ _) (Ev.neg (by rw [hs]; decide) (Ev.now _)))))), Ev.bind h2 (Ev.pos rfl (Ev.const_bind (in_impl _ _ _) (Ev.pos hn (Ev.const_bind (in_impl _ _ _) (Ev.neg (by rw [hs]; decide) (Ev.now _))))))⟩
      | true => exact ⟨maskV a b l n s, trivial, Ev.bind h1 (Ev.pos rfl (Ev.const_bind (in_spec _ _ _) (Ev.pos hn (Ev.const_bind (in_spec _ _ _) (Ev.pos hs (Ev.bind (mask_spec a b l n s ha hb hlen h36 hn') (Ev.now _))))))), Ev.bind h2 (Ev.pos rfl (Ev.const_bind (in_impl _ _ _) (Ev.pos hn (Ev.const_bind (in_impl _ _ _) (Ev.pos hs (Ev.const_bind (mask_impl a b l n s ha hb hlen h36 hn') (Ev.now _)))))))⟩
theorem FnExactTileMask : laws_FnExactTileMask.Pure := by
  intro a b l n s _ _ ⟨hl, _⟩ _ _
  obtain ⟨r, _, h1, h2⟩ := both a b l n s hl
  refine Ev.rounds (r := true) ?_
  unfold laws_FnExactTileMask.f
  refine Ev.const_bind (sz_field a b l (by omega) (by omega) hl) (Ev.ite (fun _ => Ev.now _) (fun h => ?_))
  have hn := (roomLeft_ok h).1
  exact Ev.bind (to_field a b l hn) (Ev.bind h1 (Ev.bind (to_field a b l hn) (Ev.bind h2 (Ev.pos rfl (Ev.bind (to_field a b l hn) (Ev.bind (eq_field a b l hn) (Ev.pos rfl (Ev.now _))))))))

end Go.Proofs.Ytjckjmhlodjmgaa.Pure
