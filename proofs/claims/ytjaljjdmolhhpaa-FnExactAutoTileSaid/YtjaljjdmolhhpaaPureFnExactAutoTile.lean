/- AutoTile: the pure statement of the law: the program's field is the reference's, for all fields, sorts and picks. -/
import Derived.Test.YtjaljjdmolhhpaaXFnExactAutoTilex7
import Derived.Test.YtjaljjdmolhhpaaXLibAutoTile
namespace Go.Proofs.Ytjaljjdmolhhpaa.Pure
open Go.RowKit Go.Proofs.Ytjaljjdmolhhpaa.XFnExactAutoTile Go.Proofs.YtjaljjdmolhhpaaW.PrintWords Go.Proofs.YtjaljjdmolhhpaaW.PrintLast Go.Proofs.YtjaljjdmolhhpaaW.PrintMore Go.Proofs.Ytjaljjdmolhhpaa.X
set_option linter.unusedVariables false
set_option linter.unusedSimpArgs false

theorem in_spec (a b c : Int) : spec_l1In.f a b c = some (decide (b ≤ a) && decide (a ≤ c)) := by
  unfold spec_l1In.f
  by_cases h : b ≤ a <;> simp [h]
theorem in_impl (a b c : Int) : impl_inRange.f a b c = some (decide (b ≤ a) && decide (a ≤ c)) := by
  unfold impl_inRange.f
  by_cases h : b ≤ a <;> simp [h]
theorem sz_ints (l : List Int) {a : Int} (h0 : 0 ≤ a) (h1 : a ≤ 1048576) (hl : l.length ≤ maxLen) : laws_szIntS.f l a = some (roomLeft l.length a) := sz_left h0 h1 hl
theorem to_ints (l : List Int) (hl : (l.length : Int) ≤ 1048576) : Ev (fun k => laws_toIntS.f k l) l := by
  have h := toS_ev (0 : Int) (id : Int → Int) 0 laws_toIntS.l0 (fun k x y i => laws_toIntS.l0.eq_2 x y i k) l (by omega)
  rw [List.map_id] at h
  exact Ev.pos (by omega) (Ev.pos (by omega) h)
theorem eq_ints (l : List Int) (hl : (l.length : Int) ≤ 1048576) : Ev (fun k => laws_eqIntS.f k l l) true :=
  eqInt_ev laws_eqIntS.l0 (fun k x y i => laws_eqIntS.l0.eq_2 x y i k) l (by rw [maxLen_eq]; omega)
/-! fields -/
def fieldOk (a b : Int) (l : List Int) (s : Int) : Bool :=
  (decide (1 ≤ a) && decide (a ≤ 6)) && ((decide (1 ≤ b) && decide (b ≤ 6)) && (decide ((l.length : Int) = wrap64 (a * b)) && l.all fun n => decide (-1 ≤ n) && decide (n ≤ wrap64 (s - 1))))
theorem field_spec (a b : Int) (l : List Int) (s : Int) (hl : l.length ≤ maxLen) : Ev (fun k => spec_l14Field.f k a b l s) (fieldOk a b l s) := by
  have h0 := all_evT (0 : Int) (fun _ z => spec_l1In.f z (-1) (wrap64 (s - 1))) (fun n => decide (-1 ≤ n) && decide (n ≤ wrap64 (s - 1))) (fun k x n i => spec_l14Field.l0 k s x n i) (fun k x n i => spec_l14Field.l0.eq_2 _ _ _ _ k) l hl (fun z _ => Ev.mk fun _ => in_spec _ _ _)
  have hj : ∀ z, Ev (fun k => spec_l14Field.j0 k s z a b l) (!z && l.all fun n => decide (-1 ≤ n) && decide (n ≤ wrap64 (s - 1))) := fun z =>
    Ev.step (fun k => spec_l14Field.j0.eq_2 _ _ _ _ _ k) (Ev.andn (fun _ => h0))
  unfold spec_l14Field.f fieldOk
  simp only [in_spec, Option.bind_some]
  cases ha : (decide (1 ≤ a) && decide (a ≤ 6)) with
  | false => exact Ev.neg (by decide) (hj true)
  | true =>
    refine Ev.pos rfl ?_
    cases hb : (decide (1 ≤ b) && decide (b ≤ 6)) with
    | false => exact Ev.neg (by decide) (hj true)
    | true =>
      refine Ev.pos rfl (Ev.cast (hj _) ?_)
      rw [Bool.true_and, Bool.true_and]
      congr 1
      by_cases h : (l.length : Int) = wrap64 (a * b) <;> simp [h]
theorem field_impl (a b : Int) (l : List Int) (s : Int) (hl : l.length ≤ maxLen) : Ev (fun k => impl_isField.f k a b l s) (fieldOk a b l s) := by
  have h := contains_ev (0 : Int) (fun _ z => impl_isField_1_captured.f z s) (fun n => !(decide (-1 ≤ n) && decide (n ≤ wrap64 (s - 1)))) (slices_IndexFunc_int_int_at_impl_isField_1.l0 s) (fun k x n i => slices_IndexFunc_int_int_at_impl_isField_1.l0.eq_2 _ _ _ _ k) l hl (fun z _ => Ev.mk (fun _ => by unfold impl_isField_1_captured.f; rw [in_impl]; rfl))
  unfold impl_isField.f fieldOk slices_ContainsFunc_int_int_at_impl_isField_1.f slices_IndexFunc_int_int_at_impl_isField_1.f
  simp only [in_impl, Option.bind_some]
  refine Ev.and (fun _ => Ev.and (fun _ => Ev.andp (fun _ => Ev.bind h (Ev.cast (Ev.now _) (any_not _ l)))))
theorem field_yes {a b : Int} {l : List Int} {s : Int} (h : fieldOk a b l s = true) : (1 ≤ a ∧ a ≤ 6) ∧ (1 ≤ b ∧ b ≤ 6) ∧ (l.length : Int) = a * b ∧ (∀ n ∈ l, -1 ≤ n ∧ n ≤ wrap64 (s - 1)) ∧ 1 ≤ a * b ∧ a * b ≤ 36 := by
  unfold fieldOk at h
  simp only [Bool.and_eq_true, decide_eq_true_eq, List.all_eq_true] at h
  obtain ⟨ha, hb, hl, hall⟩ := h
  have h1 : a * 1 ≤ a * b := Int.mul_le_mul_of_nonneg_left hb.1 (by omega)
  have h2 : a * b ≤ a * 6 := Int.mul_le_mul_of_nonneg_left hb.2 (by omega)
  rw [w64 (n := a * b) (by omega) (by omega)] at hl
  exact ⟨ha, hb, hl, hall, by omega, by omega⟩
theorem sz_field (a b : Int) (l : List Int) {s : Int} (h0 : 0 ≤ s) (h1 : s ≤ 1048576) (hl : l.length ≤ maxLen) : laws_szField.f a b l s = some (roomLeft l.length s) := by
  unfold laws_szField.f
  rw [sz_ints l h0 h1 hl, Option.bind_some]
  exact room_again _ _
theorem to_field (a b : Int) (l : List Int) (hl : (l.length : Int) ≤ 1048576) : Ev (fun k => laws_toField.f k a b l) (a, b, l) :=
  Ev.bind (to_ints l hl) (Ev.now _)
theorem eq_field (a b : Int) (l : List Int) (hl : (l.length : Int) ≤ 1048576) : Ev (fun k => laws_eqField.f k a b l a b l) true :=
  Ev.pos rfl (Ev.pos rfl (Ev.bind (eq_ints l hl) (Ev.pos rfl (Ev.now _))))
/-- The tile at a place, 's' where there is none. -/
def tileV (a b : Int) (l : List Int) (x y s : Int) : Int := if (0 ≤ x ∧ x ≤ a - 1) ∧ (0 ≤ y ∧ y ≤ b - 1) then rd l (y * a + x) else s
theorem place_range {a b x y : Int} (ha : 1 ≤ a) (hx : 0 ≤ x ∧ x ≤ a - 1) (hy : 0 ≤ y ∧ y ≤ b - 1) : 0 ≤ y * a ∧ 0 ≤ y * a + x ∧ y * a + x < a * b := by
  have h1 : 0 ≤ y * a := Int.mul_nonneg hy.1 (by omega)
  have h2 : y * a ≤ (b - 1) * a := Int.mul_le_mul_of_nonneg_right hy.2 (by omega)
  have e : (b - 1) * a = a * b - a := by rw [Int.sub_mul, Int.one_mul, Int.mul_comm]
  exact ⟨h1, by omega, by omega⟩
theorem tile_impl (a b : Int) (l : List Int) (x y s : Int) (ha : 1 ≤ a ∧ a ≤ 6) (hb : 1 ≤ b ∧ b ≤ 6) (hlen : (l.length : Int) = a * b) (h36 : a * b ≤ 36) : impl_Field_tile.f a b l x y s = some (tileV a b l x y s) := by
  unfold impl_Field_tile.f tileV
  simp only [in_impl, Option.bind_some]
  rw [w64 (n := a - 1) (by omega) (by omega), w64 (n := b - 1) (by omega) (by omega)]
  by_cases hx : 0 ≤ x ∧ x ≤ a - 1
  · rw [if_pos (by simp [hx])]
    by_cases hy : 0 ≤ y ∧ y ≤ b - 1
    · obtain ⟨h0, h1, h2⟩ := place_range ha.1 hx hy
      rw [if_pos (by simp [hy]), w64 (n := y * a) (by omega) (by omega), w64 (by omega) (by omega), if_pos h1, if_pos (by omega), if_pos ⟨hx, hy⟩]
    · rw [if_neg (by simpa using hy), if_neg (fun h => hy h.2)]
  · rw [if_neg (by simpa using hx), if_neg (fun h => hx h.1)]
/-- The bits of the places beside one. -/
def maskV (a b : Int) (l : List Int) (n s : Int) : Int :=
  impl_Field_mask.b (tileV a b l (n % a) (n / a - 1) s) s 1 + impl_Field_mask.b (tileV a b l (n % a + 1) (n / a) s) s 2 + impl_Field_mask.b (tileV a b l (n % a) (n / a + 1) s) s 4 + impl_Field_mask.b (tileV a b l (n % a - 1) (n / a) s) s 8
theorem mask_impl (a b : Int) (l : List Int) (n s : Int) (ha : 1 ≤ a ∧ a ≤ 6) (hb : 1 ≤ b ∧ b ≤ 6) (hlen : (l.length : Int) = a * b) (h36 : a * b ≤ 36) (hn : 0 ≤ n ∧ n < (l.length : Int)) : impl_Field_mask.f a b l n s = some (maskV a b l n s) := by
  unfold impl_Field_mask.f
  have t := fun x y => tile_impl a b l x y s ha hb hlen h36
  rw [if_pos ⟨ha, by omega⟩, t, Option.bind_some, t, Option.bind_some, t, Option.bind_some, t, Option.bind_some]
  rfl
theorem bit_range (t s q : Int) (hq : 0 ≤ q) : 0 ≤ impl_Field_mask.b t s q ∧ impl_Field_mask.b t s q ≤ q := by
  unfold impl_Field_mask.b
  split <;> omega
theorem mask_range (a b : Int) (l : List Int) (n s : Int) : 0 ≤ maskV a b l n s ∧ maskV a b l n s ≤ 15 := by
  unfold maskV
  have h1 := bit_range (tileV a b l (n % a) (n / a - 1) s) s 1 (by omega)
  have h2 := bit_range (tileV a b l (n % a + 1) (n / a) s) s 2 (by omega)
  have h3 := bit_range (tileV a b l (n % a) (n / a + 1) s) s 4 (by omega)
  have h4 := bit_range (tileV a b l (n % a - 1) (n / a) s) s 8 (by omega)
  omega
theorem mask_spec (a b : Int) (l : List Int) (n s : Int) (ha : 1 ≤ a ∧ a ≤ 6) (hb : 1 ≤ b ∧ b ≤ 6) (hlen : (l.length : Int) = a * b) (h36 : a * b ≤ 36) (hn : 0 ≤ n ∧ n < (l.length : Int)) : Ev (fun k => spec_l14Mask.f k a b l n s) (maskV a b l n s) := by
  have q4 : 0 ≤ n % a := Int.emod_nonneg _ (by omega)
  have q5 : n % a < a := Int.emod_lt_of_pos _ (by omega)
  have q0 : 0 ≤ n / a := Int.ediv_nonneg hn.1 (by omega)
  have q1 : n / a ≤ 1000000 := Int.le_trans (Int.ediv_le_self _ hn.1) (by omega)
  have q2 : n / a < b := Int.ediv_lt_of_lt_mul (by omega) (by rw [Int.mul_comm]; omega)
  have hd := Int.emod_add_mul_ediv n a
  unfold spec_l14Mask.f
  rw [Int.tmod_eq_emod_of_nonneg hn.1, Int.tdiv_eq_ediv_of_nonneg hn.1, w64 (n := n / a) (by omega) (by omega)]
  have hmv := mask_range a b l n s
  unfold maskV at hmv ⊢
  generalize n / a = y at q0 q1 q2 hd hmv ⊢
  generalize n % a = x at q4 q5 hd hmv ⊢
  have hya : y * a = a * y := Int.mul_comm _ _
  -- the four places
  have eu : impl_Field_mask.b (tileV a b l x (y - 1) s) s 1 = if y = 0 ∨ rd l (n - a) = s then 1 else 0 := by
    unfold impl_Field_mask.b
    by_cases h : y = 0
    · rw [show tileV a b l x (y - 1) s = s from if_neg (fun hh => by omega), if_pos rfl, if_pos (Or.inl h)]
    · have e : (y - 1) * a + x = n - a := by rw [Int.sub_mul, Int.one_mul]; omega
      rw [show tileV a b l x (y - 1) s = rd l ((y - 1) * a + x) from if_pos ⟨⟨by omega, by omega⟩, by omega, by omega⟩, e]; simp [h]
  have er : impl_Field_mask.b (tileV a b l (x + 1) y s) s 2 = if x = a - 1 ∨ rd l (n + 1) = s then 2 else 0 := by
    unfold impl_Field_mask.b
    by_cases h : x = a - 1
    · rw [show tileV a b l (x + 1) y s = s from if_neg (fun hh => by omega), if_pos rfl, if_pos (Or.inl h)]
    · have e : y * a + (x + 1) = n + 1 := by omega
      rw [show tileV a b l (x + 1) y s = rd l (y * a + (x + 1)) from if_pos ⟨⟨by omega, by omega⟩, by omega, by omega⟩, e]; simp [h]
  have ed : impl_Field_mask.b (tileV a b l x (y + 1) s) s 4 = if y = b - 1 ∨ rd l (n + a) = s then 4 else 0 := by
    unfold impl_Field_mask.b
    by_cases h : y = b - 1
    · rw [show tileV a b l x (y + 1) s = s from if_neg (fun hh => by omega), if_pos rfl, if_pos (Or.inl h)]
    · have e : (y + 1) * a + x = n + a := by rw [Int.add_mul, Int.one_mul]; omega
      rw [show tileV a b l x (y + 1) s = rd l ((y + 1) * a + x) from if_pos ⟨⟨by omega, by omega⟩, by omega, by omega⟩, e]; simp [h]
  have el : impl_Field_mask.b (tileV a b l (x - 1) y s) s 8 = if x = 0 ∨ rd l (n - 1) = s then 8 else 0 := by
    unfold impl_Field_mask.b
    by_cases h : x = 0
    · rw [show tileV a b l (x - 1) y s = s from if_neg (fun hh => by omega), if_pos rfl, if_pos (Or.inl h)]
    · have e : y * a + (x - 1) = n - 1 := by omega
      rw [show tileV a b l (x - 1) y s = rd l (y * a + (x - 1)) from if_pos ⟨⟨by omega, by omega⟩, by omega, by omega⟩, e]; simp [h]
  rw [eu, er, ed, el] at hmv ⊢
  -- the reference's four steps
  have j4 : ∀ (m : Int) (d : Bool), 0 ≤ m → m ≤ 3 → Ev (fun k => spec_l14Mask.j4 k n s x m d a b l) (m + (if d = true then 4 else 0) + if x = 0 ∨ rd l (n - 1) = s then 8 else 0) := by
    intro m d h0 h1
    refine Ev.step (fun k => spec_l14Mask.j4.eq_2 _ _ _ _ _ _ _ _ k) ?_
    rw [w64 (n := m + 4) (by omega) (by omega), w64 (n := m + 4 + 8) (by omega) (by omega), w64 (n := m + 8) (by omega) (by omega), w64 (n := n - 1) (by omega) (by omega)]
    have tail : ∀ c : Int, Ev (fun _ : Nat => if x = 0 then some (c + 8) else if 0 ≤ n - 1 then (if n - 1 < (l.length : Int) then (if rd l (n - 1) = s then some (c + 8) else some c) else none) else none) (c + if x = 0 ∨ rd l (n - 1) = s then 8 else 0) := by
      intro c
      by_cases hx : x = 0
      · exact Ev.pos hx (Ev.cast (Ev.now _) (by rw [if_pos (Or.inl hx)]))
      · have hy0 : 0 ≤ a * y := Int.mul_nonneg (by omega) q0
        refine Ev.neg hx (Ev.pos (by omega) (Ev.pos (by omega) ?_))
        by_cases hr : rd l (n - 1) = s
        · exact Ev.pos hr (Ev.cast (Ev.now _) (by rw [if_pos (Or.inr hr)]))
        · exact Ev.neg hr (Ev.cast (Ev.now _) (by rw [if_neg (by simp [hx, hr])]; omega))
    cases d with
    | true => exact Ev.pos rfl (tail (m + 4))
    | false => exact Ev.neg (by decide) (Ev.cast (tail m) (by simp))
  have j3 : ∀ m : Int, 0 ≤ m → m ≤ 3 → Ev (fun k => spec_l14Mask.j3 k n s x y m a b l) (m + (if y = b - 1 ∨ rd l (n + a) = s then 4 else 0) + if x = 0 ∨ rd l (n - 1) = s then 8 else 0) := by
    intro m h0 h1
    refine Ev.step (fun k => spec_l14Mask.j3.eq_2 _ _ _ _ _ _ _ _ k) ?_
    rw [w64 (n := b - 1) (by omega) (by omega), w64 (n := n + a) (by omega) (by omega)]
    by_cases hy : y = b - 1
    · exact Ev.pos hy (Ev.cast (j4 m true h0 h1) (by rw [if_pos rfl, if_pos (Or.inl hy)]))
    · have hl2 : a * y + a ≤ a * (b - 1) := by
        have := Int.mul_le_mul_of_nonneg_left (show y + 1 ≤ b - 1 by omega) (show 0 ≤ a by omega)
        rw [Int.mul_add, Int.mul_one] at this; exact this
      have e2 : a * (b - 1) = a * b - a := by rw [Int.mul_sub, Int.mul_one]
      refine Ev.neg hy (Ev.pos (by omega) (Ev.pos (by omega) (Ev.cast (j4 m _ h0 h1) ?_)))
      by_cases hr : rd l (n + a) = s <;> simp [hy, hr]
  have j1 : ∀ m : Int, 0 ≤ m → m ≤ 1 → Ev (fun k => spec_l14Mask.j1 k n s x y m a b l) (m + (if x = a - 1 ∨ rd l (n + 1) = s then 2 else 0) + (if y = b - 1 ∨ rd l (n + a) = s then 4 else 0) + if x = 0 ∨ rd l (n - 1) = s then 8 else 0) := by
    intro m h0 h1
    have j2 : ∀ d : Bool, Ev (fun k => spec_l14Mask.j2 k n s x y m d a b l) (m + (if d = true then 2 else 0) + (if y = b - 1 ∨ rd l (n + a) = s then 4 else 0) + if x = 0 ∨ rd l (n - 1) = s then 8 else 0) := by
      intro d
      refine Ev.step (fun k => spec_l14Mask.j2.eq_2 _ _ _ _ _ _ _ _ _ k) ?_
      rw [w64 (n := m + 2) (by omega) (by omega)]
      cases d with
      | true => exact Ev.pos rfl (j3 (m + 2) (by omega) (by omega))
      | false => exact Ev.neg (by decide) (Ev.cast (j3 m (by omega) (by omega)) (by simp))
    refine Ev.step (fun k => spec_l14Mask.j1.eq_2 _ _ _ _ _ _ _ _ k) ?_
    rw [w64 (n := a - 1) (by omega) (by omega), w64 (n := n + 1) (by omega) (by omega)]
    by_cases hx : x = a - 1
    · exact Ev.pos hx (Ev.cast (j2 true) (by rw [if_pos rfl, if_pos (Or.inl hx)]))
    · have hl2 : a * y ≤ a * (b - 1) := Int.mul_le_mul_of_nonneg_left (by omega) (by omega)
      have e2 : a * (b - 1) = a * b - a := by rw [Int.mul_sub, Int.mul_one]
      refine Ev.neg hx (Ev.pos (by omega) (Ev.pos (by omega) (Ev.cast (j2 _) ?_)))
      by_cases hr : rd l (n + 1) = s <;> simp [hx, hr]
  have j0 : ∀ d : Bool, Ev (fun k => spec_l14Mask.j0 k n s x y 0 d a b l) ((if d = true then 1 else 0) + (if x = a - 1 ∨ rd l (n + 1) = s then 2 else 0) + (if y = b - 1 ∨ rd l (n + a) = s then 4 else 0) + if x = 0 ∨ rd l (n - 1) = s then 8 else 0) := by
    intro d
    refine Ev.step (fun k => spec_l14Mask.j0.eq_2 _ _ _ _ _ _ _ _ _ k) ?_
    rw [w64 (n := 0 + 1) (by omega) (by omega)]
    cases d with
    | true => exact Ev.pos rfl (j1 1 (by omega) (by omega))
    | false => exact Ev.neg (by decide) (Ev.cast (j1 0 (by omega) (by omega)) (by simp))
  refine Ev.neg (by omega) ?_
  rw [w64 (n := n - a) (by omega) (by omega)]
  by_cases hy : y = 0
  · exact Ev.pos hy (Ev.cast (j0 true) (by rw [if_pos rfl, if_pos (Or.inl hy)]))
  · have hl2 : a * 1 ≤ a * y := Int.mul_le_mul_of_nonneg_left (by omega) (by omega)
    refine Ev.neg hy (Ev.pos (by omega) (Ev.pos (by omega) (Ev.cast (j0 _) ?_)))
    by_cases hr : rd l (n - a) = s <;> simp [hy, hr]
theorem mark_ints (l : List Int) (hl : (l.length : Int) ≤ 4611686018427387000) : Ev (fun k => laws_markIntS.f k l 1) (1 + (l.length : Int), marks l.length 1) :=
  markInt_ev laws_markIntS.l0 (fun k x c i => laws_markIntS.l0.eq_2 x c i k) 1 (by omega) l (by omega)
theorem held_ints (n : Nat) (hn : (n : Int) ≤ 4611686018427387000) : Ev (fun k => laws_heldIntS.f k (marks n 1) 1) (1 + (n : Int)) :=
  heldInt_ev laws_heldIntS.l0 (fun k x c i => laws_heldIntS.l0.eq_2 x c i k) n 1 (by omega) (by omega)
abbrev R4 := Int × Int × List Int × Bool
abbrev Q4 (r : R4) : Prop := (r.2.2.1.length : Int) ≤ 1048576
def pickOk (P : List Int) : Bool := P.all fun n => decide (-1 ≤ n) && decide (n ≤ 5)
theorem tiles_both (a b : Int) (l : List Int) (s : Int) (P : List Int) (ha : 1 ≤ a ∧ a ≤ 6) (hb : 1 ≤ b ∧ b ≤ 6) (hlen : (l.length : Int) = a * b) (h36 : a * b ≤ 36) (hP : P.length = 16) : ∀ (m i : Nat) (T : List Int), i + m = l.length → T.length = l.length →
    Both Q4 (fun k => spec_AutoTile.l1 k s P l (l.length : Int) (i : Int) a b l a b T) (fun k => impl_AutoTile.l0 k s P l (l.length : Int) (i : Int) a b l a b T) := by
  intro m
  induction m with
  | zero => exact fun i T hi hT => Both.step (fun k => spec_AutoTile.l1.eq_2 _ _ _ _ _ _ _ _ _ _ _ k) (fun k => impl_AutoTile.l0.eq_2 _ _ _ _ _ _ _ _ _ _ _ k) (Both.neg (by omega) (by omega) (Both.now _ (by show (T.length : Int) ≤ _; omega)))
  | succ m ih =>
    intro i T hi hT
    refine Both.step (fun k => spec_AutoTile.l1.eq_2 _ _ _ _ _ _ _ _ _ _ _ k) (fun k => impl_AutoTile.l0.eq_2 _ _ _ _ _ _ _ _ _ _ _ k) (Both.pos (by omega) (by omega) (Both.pos (by omega) (by omega) (Both.pos (by omega) (by omega) ?_)))
    rw [w_succ (by omega)]
    refine Both.ite (fun _ => ?_) (fun _ => ih (i + 1) T (by omega) hT)
    have hm := mask_range a b l (i : Int) s
    obtain ⟨r, hr, h1, h2⟩ := ih (i + 1) (T.set (i : Int).toNat (rd P (maskV a b l (i : Int) s))) (by omega) (by rw [List.length_set]; exact hT)
    exact ⟨r, hr, Ev.bind (mask_spec a b l (i : Int) s ha hb hlen h36 (by omega)) (Ev.pos (by omega) (Ev.pos (by omega) (Ev.pos (by omega) h1))), Ev.const_bind (mask_impl a b l (i : Int) s ha hb hlen h36 (by omega)) (Ev.pos (by omega) (Ev.pos (by omega) (Ev.pos (by omega) h2)))⟩
theorem pick_spec (a b : Int) (l : List Int) (s : Int) (P : List Int) (hP : P.length ≤ maxLen) (r : R4) (h1 : pickOk P = true → Ev (fun k => (spec_l14Own.f a b l).bind fun t => spec_AutoTile.l1 k s P l (l.length : Int) 0 a b l t.1 t.2.1 t.2.2) r) (h2 : pickOk P = false → r = (0, 0, [], false)) : Ev (fun k => spec_AutoTile.l0 k s P P (P.length : Int) 0 a b l) r := by
  rw [maxLen_eq] at hP
  have key : ∀ (m i : Nat), i + m = P.length → (pickOk (P.drop i) = true → Ev (fun k => (spec_l14Own.f a b l).bind fun t => spec_AutoTile.l1 k s P l (l.length : Int) 0 a b l t.1 t.2.1 t.2.2) r) → (pickOk (P.drop i) = false → r = (0, 0, [], false)) → Ev (fun k => spec_AutoTile.l0 k s P P (P.length : Int) (i : Int) a b l) r := by
    intro m
    induction m with
    | zero =>
      intro i hi h1 _
      rw [List.drop_of_length_le (by omega)] at h1
      exact Ev.step (fun k => spec_AutoTile.l0.eq_2 _ _ _ _ _ _ _ _ k) (Ev.neg (by omega) (h1 rfl))
    | succ m ih =>
      intro i hi h1 h2
      have hi' : i < P.length := by omega
      rw [List.drop_eq_getElem_cons hi', pickOk, List.all_cons] at h1 h2
      refine Ev.step (fun k => spec_AutoTile.l0.eq_2 _ _ _ _ _ _ _ _ k) (Ev.pos (by omega) (Ev.pos (by omega) (Ev.pos (by omega) (Ev.const_bind (in_spec _ _ _) ?_))))
      rw [w_succ (by omega), rd_get hi']
      cases hb : (decide (-1 ≤ P[i]) && decide (P[i] ≤ 5)) with
      | true =>
        rw [hb, Bool.true_and] at h1 h2
        exact Ev.pos rfl (ih (i + 1) (by omega) h1 h2)
      | false =>
        rw [hb, Bool.false_and] at h2
        exact Ev.neg (by decide) (Ev.cast (Ev.now _) (h2 rfl).symm)
  exact key P.length 0 (by omega) h1 h2
theorem both (a b : Int) (l : List Int) (s : Int) (P : List Int) (hl : l.length ≤ maxLen) (hPl : P.length ≤ maxLen) : Both Q4 (fun k => spec_AutoTile.f k a b l s P) (fun k => impl_AutoTile.f k a b l s P) := by
  have no : Q4 (0, 0, [], false) := by simp
  have h1 := field_spec a b l 6 hl
  have h2 := field_impl a b l 6 hl
  have sT : Ev (fun k => spec_AutoTile.j0 k s P true a b l) (0, 0, [], false) := Ev.step (fun k => spec_AutoTile.j0.eq_2 _ _ _ _ _ _ k) (Ev.pos rfl (Ev.now _))
  have iT : Ev (fun k => impl_AutoTile.j0 k s P true a b l) (0, 0, [], false) := Ev.step (fun k => impl_AutoTile.j0.eq_2 _ _ _ _ _ _ k) (Ev.pos rfl (Ev.now _))
  have n2 := contains_ev (0 : Int) (fun _ z => impl_AutoTile_1.f z) (fun n => !(decide (-1 ≤ n) && decide (n ≤ 5))) slices_IndexFunc_int_int_at_impl_AutoTile_1.l0 (fun k x n i => slices_IndexFunc_int_int_at_impl_AutoTile_1.l0.eq_2 x n i k) P hPl (fun z _ => Ev.mk (fun _ => by unfold impl_AutoTile_1.f; rw [in_impl]; rfl))
  have n2 : Ev (fun k => slices_ContainsFunc_int_int_at_impl_AutoTile_1.f k P) (!pickOk P) := by
    unfold slices_ContainsFunc_int_int_at_impl_AutoTile_1.f slices_IndexFunc_int_int_at_impl_AutoTile_1.f
    exact Ev.cast n2 (by rw [pickOk, ← any_not, Bool.not_not])
  unfold spec_AutoTile.f impl_AutoTile.f
  cases h : fieldOk a b l 6 with
  | false =>
    rw [h] at h1 h2
    exact ⟨_, no, Ev.bind h1 (Ev.neg (by decide) sT), Ev.bind h2 (Ev.neg (by decide) iT)⟩
  | true =>
    rw [h] at h1 h2
    obtain ⟨ha, hb, hlen, _, _, h36⟩ := field_yes h
    cases hs : (decide (0 ≤ s) && decide (s ≤ 5)) with
    | false => exact ⟨_, no, Ev.bind h1 (Ev.pos rfl (Ev.const_bind (in_spec _ _ _) (Ev.neg (by rw [hs]; decide) sT))), Ev.bind h2 (Ev.pos rfl (Ev.const_bind (in_impl _ _ _) (Ev.neg (by rw [hs]; decide) iT)))⟩
    | true =>
      by_cases hP : P.length = 16
      · have hb2 : ((P.length : Int) != 16) = false := by simp [hP]
        have S : ∀ {r}, Ev (fun k => spec_AutoTile.l0 k s P P (P.length : Int) 0 a b l) r → Ev (fun k => spec_AutoTile.j0 k s P ((P.length : Int) != 16) a b l) r := fun h => Ev.step (fun k => spec_AutoTile.j0.eq_2 _ _ _ _ _ _ k) (Ev.neg (by rw [hb2]; decide) h)
        cases hp : pickOk P with
        | false =>
          rw [hp] at n2
          exact ⟨_, no, Ev.bind h1 (Ev.pos rfl (Ev.const_bind (in_spec _ _ _) (Ev.pos hs (S (pick_spec a b l s P hPl _ (fun h => by rw [hp] at h; cases h) (fun _ => rfl)))))), Ev.bind h2 (Ev.pos rfl (Ev.const_bind (in_impl _ _ _) (Ev.pos hs (Ev.pos (by omega) (Ev.bind n2 iT)))))⟩
        | true =>
          rw [hp] at n2
          obtain ⟨r, hr, g1, g2⟩ := tiles_both a b l s P ha hb hlen h36 hP l.length 0 l (by omega) rfl
          have ho : spec_l14Own.f a b l = some (a, b, l) := by
            unfold spec_l14Own.f
            rw [Option.bind_some, if_pos (by simp; omega)]
            rfl
          have hc : slices_Clone_int_int.f l = some l := by
            unfold slices_Clone_int_int.f
            rw [Option.bind_some, if_pos (by simp; omega)]
            rfl
          exact ⟨r, hr, Ev.bind h1 (Ev.pos rfl (Ev.const_bind (in_spec _ _ _) (Ev.pos hs (S (pick_spec a b l s P hPl _ (fun _ => Ev.const_bind ho g1) (fun h => by rw [hp] at h; cases h)))))), Ev.bind h2 (Ev.pos rfl (Ev.const_bind (in_impl _ _ _) (Ev.pos hs (Ev.pos (by omega) (Ev.bind n2 (Ev.step (fun k => impl_AutoTile.j0.eq_2 _ _ _ _ _ _ k) (Ev.neg (by decide) (Ev.const_bind hc g2))))))))⟩
      · have hb2 : ((P.length : Int) != 16) = true := by simp; omega
        refine ⟨_, no, Ev.bind h1 (Ev.pos rfl (Ev.const_bind (in_spec _ _ _) (Ev.pos hs ?_))), Ev.bind h2 (Ev.pos rfl (Ev.const_bind (in_impl _ _ _) (Ev.pos hs (Ev.neg (by omega) iT))))⟩
        rw [hb2]
        exact sT
theorem mark_field (a b : Int) (l : List Int) (hl : (l.length : Int) ≤ 1048576) : Ev (fun k => laws_markField.f k a b l 1) (1 + (l.length : Int), marks l.length 1) :=
  Ev.bind (mark_ints l (by omega)) (Ev.now _)
theorem held_field (a b : Int) (n : Nat) (hn : (n : Int) ≤ 1048576) : Ev (fun k => laws_heldField.f k a b (marks n 1) 1) (1 + (n : Int)) :=
  Ev.bind (held_ints n (by omega)) (Ev.neg (by omega) (Ev.now _))
theorem FnExactAutoTile : laws_FnExactAutoTile.Pure := by
  intro a b l s P _ _ ⟨hl, _⟩ _ ⟨hP, _⟩
  refine Ev.rounds (r := true) ?_
  unfold laws_FnExactAutoTile.f
  refine Ev.ite (fun _ => Ev.now _) (fun hPn => ?_)
  refine Ev.const_bind (sz_field a b l (by omega) (by omega) hl) (Ev.ite (fun _ => Ev.now _) (fun h => ?_))
  have hn := (roomLeft_ok h).1
  have ht := to_field a b l hn
  have tp := to_ints P (by omega)
  obtain ⟨⟨r0, r1, r2, r3⟩, hr, h1, h2⟩ := both a b l s P hl hP
  have hr : (r2.length : Int) ≤ 1048576 := hr
  have he := eq_field r0 r1 r2 hr
  have hm := mark_field r0 r1 r2 hr
  have hh := held_field r0 r1 r2.length hr
  have mp : Ev (fun k => laws_markIntS.f k P (1 + (l.length : Int))) (1 + (l.length : Int) + (P.length : Int), marks P.length (1 + (l.length : Int))) := markInt_ev laws_markIntS.l0 (fun k x c i => laws_markIntS.l0.eq_2 x c i k) (1 + (l.length : Int)) (by omega) P (by omega)
  exact Ev.bind ht (Ev.bind tp (Ev.bind h1 (Ev.bind ht (Ev.bind tp (Ev.bind h2 (Ev.bind he (Ev.pos rfl (Ev.step (fun k => laws_FnExactAutoTile.j0.eq_2 _ _ _ _ _ _ _ _ _ _ _ _ _ _ _ _ _ _ k) (Ev.neg (by simp) (Ev.bind ht (Ev.bind (eq_field a b l hn) (Ev.pos rfl (Ev.bind tp (Ev.bind (eq_ints P (by omega)) (Ev.pos rfl
    (Ev.bind (mark_field a b l hn) (Ev.bind mp (Ev.neg (by first | (simp; done) | (simp; omega)) (Ev.bind he (Ev.pos rfl (Ev.step (fun k => laws_FnExactAutoTile.j1.eq_2 _ _ _ _ _ _ _ _ _ _ _ _ _ k) (Ev.neg (by simp)
    (Ev.bind hm (Ev.bind hh (Ev.neg (by omega) (Ev.pos rfl (Ev.bind ht (Ev.bind tp (Ev.bind h2 (Ev.bind he (Ev.pos rfl (Ev.step (fun k => laws_FnExactAutoTile.j2.eq_2 _ _ _ _ _ k) (Ev.neg (by simp) (Ev.bind hh (Ev.neg (by omega) (Ev.pos rfl (Ev.now _)))))))))))))))))))))))))))))))))))))

end Go.Proofs.Ytjaljjdmolhhpaa.Pure
