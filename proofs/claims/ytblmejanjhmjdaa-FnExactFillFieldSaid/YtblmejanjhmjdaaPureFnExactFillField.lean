/- FillField: the pure statement of the law: the program's field is the reference's, for all rules and fields. -/
import Derived.Test.YtblmejanjhmjdaaXFnExactFillFieldx14
import Derived.Test.YtblmejanjhmjdaaXLibFillField
namespace Go.Proofs.Ytblmejanjhmjdaa.Pure
open Go.RowKit Go.Proofs.Ytblmejanjhmjdaa.XFnExactFillField Go.Proofs.YtblmejanjhmjdaaW.PrintWords Go.Proofs.YtblmejanjhmjdaaW.PrintLast Go.Proofs.YtblmejanjhmjdaaW.PrintMore Go.Proofs.Ytblmejanjhmjdaa.X
set_option linter.unusedVariables false
set_option linter.unusedSimpArgs false

theorem in_spec (a b c : Int) : spec_l1In.f a b c = some (decide (b ≤ a) && decide (a ≤ c)) := by
  unfold spec_l1In.f
  by_cases h : b ≤ a <;> simp [h]
theorem in_impl (a b c : Int) : impl_inRange.f a b c = some (decide (b ≤ a) && decide (a ≤ c)) := by
  unfold impl_inRange.f
  by_cases h : b ≤ a <;> simp [h]
theorem sz_ints (l : List Int) {a : Int} (h0 : 0 ≤ a) (h1 : a ≤ 1048576) (hl : l.length ≤ maxLen) : laws_szIntS.f l a = some (roomLeft l.length a) := sz_left h0 h1 hl
theorem to_ints (l : List Int) (hl : (l.length : Int) ≤ 1048576) : Ev (fun k => laws_toIntS.f k l) l := by
  have h := toS_ev (0 : Int) (id : Int → Int) 0 laws_toIntS.l0 (fun k x y i => laws_toIntS.l0.eq_2 x y i k) l (by omega)
  rw [List.map_id] at h
  exact Ev.pos (by omega) (Ev.pos (by omega) h)
theorem eq_ints (l : List Int) (hl : (l.length : Int) ≤ 1048576) : Ev (fun k => laws_eqIntS.f k l l) true :=
  eqInt_ev laws_eqIntS.l0 (fun k x y i => laws_eqIntS.l0.eq_2 x y i k) l (by rw [maxLen_eq]; omega)
/-! rising lists of numbers below a bound -/
def exitAt (b : Int) (e : List Int) (i : Nat) : Bool := (decide (0 ≤ rd e (i : Int)) && decide (rd e (i : Int) ≤ wrap64 (b - 1))) && (if i = 0 then true else !decide (rd e ((i : Int) - 1) ≥ rd e (i : Int)))
theorem exits_loop (b : Int) (e : List Int) (he : e.length ≤ maxLen) (G : Nat → Int → Option Bool) (E : Nat → Option Bool) (R : Bool) (hE : Ev E R)
    (hG : ∀ k i, G (k + 1) i = if i < (e.length : Int) then (if 0 ≤ i then (if i < (e.length : Int) then ((some (decide (0 ≤ rd e i) && decide (rd e i ≤ wrap64 (b - 1)))).bind fun t => if t = true then (if i > 0 then (if 0 ≤ wrap64 (i - 1) then (if wrap64 (i - 1) < (e.length : Int) then (if rd e (wrap64 (i - 1)) ≥ rd e i then some false else G k (wrap64 (i + 1))) else none) else none) else G k (wrap64 (i + 1))) else some false) else none) else none) else E k) :
    Ev (fun k => G k 0) (allFrom (exitAt b e) e.length 0 && R) := by
  rw [maxLen_eq] at he
  have key : ∀ m i : Nat, i + m = e.length → Ev (fun k => G k (i : Int)) (allFrom (exitAt b e) m i && R) := by
    intro m
    induction m with
    | zero => exact fun i hi => Ev.step (fun k => hG k _) (Ev.neg (by omega) (Ev.cast hE (by rw [allFrom, Bool.true_and])))
    | succ m ih =>
      intro i hi
      refine Ev.step (fun k => hG k _) (Ev.pos (by omega) (Ev.pos (by omega) (Ev.pos (by omega) (Ev.some_bind ?_))))
      rw [allFrom, exitAt, w_succ (by omega), Bool.and_assoc (_ && _), Bool.and_assoc (_ && _)]
      refine Ev.and (fun _ => ?_)
      by_cases h0 : i = 0
      · rw [if_pos h0, Bool.true_and]
        exact Ev.neg (by omega) (ih (i + 1) (by omega))
      · rw [if_neg h0, w_pred (by omega)]
        refine Ev.pos (by omega) (Ev.pos (by omega) (Ev.pos (by omega) ?_))
        by_cases hg : rd e ((i : Int) - 1) ≥ rd e (i : Int)
        · rw [decide_eq_true hg]; exact Ev.pos hg (Ev.now _)
        · rw [decide_eq_false hg]; exact Ev.neg hg (Ev.cast (ih (i + 1) (by omega)) (by simp))
  exact key e.length 0 (by omega)
/-! rules -/
def sortsOk (s : Int) (L : List (List Int)) : Bool := L.all fun e => allFrom (exitAt s e) e.length 0
def rulesOk (s : Int) (A B : List (List Int)) : Bool := (decide (1 ≤ s) && decide (s ≤ 6)) && (((A.length : Int) == s) && (((B.length : Int) == s) && (sortsOk s A && sortsOk s B)))
theorem sorts_impl (L : List (List Int)) (s : Int) (hl : L.length ≤ maxLen) (ho : ∀ e ∈ L, e.length ≤ maxLen) : Ev (fun k => impl_areSorts.f k L s) (sortsOk s L && ((L.length : Int) == s)) := by
  rw [maxLen_eq] at hl
  have key : ∀ m i : Nat, i + m = L.length → Ev (fun k => impl_areSorts.l0 k L s L (L.length : Int) (i : Int)) (sortsOk s (L.drop i) && ((L.length : Int) == s)) := by
    intro m
    induction m with
    | zero =>
      intro i hi
      rw [List.drop_of_length_le (by omega)]
      exact Ev.step (fun k => impl_areSorts.l0.eq_2 _ _ _ _ _ k) (Ev.neg (by omega) (Ev.now _))
    | succ m ih =>
      intro i hi
      have hi' : i < L.length := by omega
      refine Ev.step (fun k => impl_areSorts.l0.eq_2 _ _ _ _ _ k) (Ev.pos (by omega) (Ev.pos (by omega) (Ev.pos (by omega) ?_)))
      show Ev (fun k => impl_areSorts.l1 k L s (rdOf ([] : List Int) L (i : Int)) L (L.length : Int) (i : Int) (rdOf ([] : List Int) L (i : Int)) ((rdOf ([] : List Int) L (i : Int)).length : Int) 0) _
      rw [rdOf_get hi', List.drop_eq_getElem_cons hi', sortsOk, List.all_cons, Bool.and_assoc]
      exact exits_loop s L[i] (ho _ (List.getElem_mem _)) (fun k i' => impl_areSorts.l1 k L s L[i] L (L.length : Int) (i : Int) L[i] (L[i].length : Int) i') (fun k => impl_areSorts.l0 k L s L (L.length : Int) (wrap64 ((i : Int) + 1))) _ (by rw [w_succ (by omega)]; exact ih (i + 1) (by omega)) (fun k i' => by rw [impl_areSorts.l1, in_impl])
  have h := key L.length 0 (by omega)
  rwa [List.drop_zero] at h
theorem sorts_spec (y : List (List (List Int))) (n j : Int) (s : Int) (A B : List (List Int)) (L : List (List Int)) (hl : L.length ≤ maxLen) (ho : ∀ e ∈ L, e.length ≤ maxLen) (R : Bool) (hR : Ev (fun k => spec_GoodRules.l0 k y n (wrap64 (j + 1)) s A B) R) :
    Ev (fun k => spec_GoodRules.l1 k y n j L (L.length : Int) 0 s A B) (sortsOk s L && R) := by
  rw [maxLen_eq] at hl
  have key : ∀ m i : Nat, i + m = L.length → Ev (fun k => spec_GoodRules.l1 k y n j L (L.length : Int) (i : Int) s A B) (sortsOk s (L.drop i) && R) := by
    intro m
    induction m with
    | zero =>
      intro i hi
      rw [List.drop_of_length_le (by omega)]
      exact Ev.step (fun k => spec_GoodRules.l1.eq_2 _ _ _ _ _ _ _ _ _ k) (Ev.neg (by omega) hR)
    | succ m ih =>
      intro i hi
      have hi' : i < L.length := by omega
      refine Ev.step (fun k => spec_GoodRules.l1.eq_2 _ _ _ _ _ _ _ _ _ k) (Ev.pos (by omega) (Ev.pos (by omega) (Ev.pos (by omega) ?_)))
      show Ev (fun k => spec_GoodRules.l2 k (rdOf ([] : List Int) L (i : Int)) y n j L (L.length : Int) (i : Int) (rdOf ([] : List Int) L (i : Int)) ((rdOf ([] : List Int) L (i : Int)).length : Int) 0 s A B) _
      rw [rdOf_get hi', List.drop_eq_getElem_cons hi', sortsOk, List.all_cons, Bool.and_assoc]
      exact exits_loop s L[i] (ho _ (List.getElem_mem _)) (fun k i' => spec_GoodRules.l2 k L[i] y n j L (L.length : Int) (i : Int) L[i] (L[i].length : Int) i' s A B) (fun k => spec_GoodRules.l1 k y n j L (L.length : Int) (wrap64 ((i : Int) + 1)) s A B) _ (by rw [w_succ (by omega)]; exact ih (i + 1) (by omega)) (fun k i' => by rw [spec_GoodRules.l2, in_spec])
  have h := key L.length 0 (by omega)
  rwa [List.drop_zero] at h
theorem rules_spec (s : Int) (A B : List (List Int)) (hA : A.length ≤ maxLen) (hB : B.length ≤ maxLen) (hoA : ∀ e ∈ A, e.length ≤ maxLen) (hoB : ∀ e ∈ B, e.length ≤ maxLen) : Ev (fun k => spec_GoodRules.f k s A B) (rulesOk s A B) := by
  have l2 : Ev (fun k => spec_GoodRules.l0 k [A, B] 2 2 s A B) true := Ev.step (fun k => spec_GoodRules.l0.eq_2 _ _ _ _ _ _ k) (Ev.neg (by decide) (Ev.now _))
  have l1 : Ev (fun k => spec_GoodRules.l0 k [A, B] 2 1 s A B) (sortsOk s B && true) := Ev.step (fun k => spec_GoodRules.l0.eq_2 _ _ _ _ _ _ k) (Ev.pos (by decide) (Ev.pos (by decide) (Ev.pos (by simp) (sorts_spec [A, B] 2 1 s A B B hB hoB true (by rw [w64 (by decide) (by decide)]; exact l2)))))
  have l0 : Ev (fun k => spec_GoodRules.l0 k [A, B] 2 0 s A B) (sortsOk s A && (sortsOk s B && true)) := Ev.step (fun k => spec_GoodRules.l0.eq_2 _ _ _ _ _ _ k) (Ev.pos (by decide) (Ev.pos (by decide) (Ev.pos (by simp) (sorts_spec [A, B] 2 0 s A B A hA hoA _ (by rw [w64 (by decide) (by decide)]; exact l1)))))
  have hj : ∀ d, Ev (fun k => spec_GoodRules.j0 k d s A B) (!d && (sortsOk s A && (sortsOk s B && true))) := fun d =>
    Ev.step (fun k => spec_GoodRules.j0.eq_2 _ _ _ _ k) (Ev.andn (fun _ => Ev.some_bind l0))
  unfold spec_GoodRules.f rulesOk
  refine Ev.const_bind (in_spec _ _ _) ?_
  cases hs : (decide (1 ≤ s) && decide (s ≤ 6)) with
  | false => exact Ev.neg (by decide) (Ev.cast (hj true) (by simp))
  | true =>
    refine Ev.pos rfl ?_
    by_cases hAl : (A.length : Int) = s
    · exact Ev.pos hAl (Ev.cast (hj _) (by
      have e1 : ((A.length : Int) == s) = true := by simpa using hAl
      rw [e1]
      cases hB2 : ((B.length : Int) == s) <;> simp [bne, hB2]))
    · exact Ev.neg hAl (Ev.cast (hj true) (by simp [hAl]))
theorem rules_impl (s : Int) (A B : List (List Int)) (hA : A.length ≤ maxLen) (hB : B.length ≤ maxLen) (hoA : ∀ e ∈ A, e.length ≤ maxLen) (hoB : ∀ e ∈ B, e.length ≤ maxLen) : Ev (fun k => impl_GoodRules.f k s A B) (rulesOk s A B) := by
  have h1 := sorts_impl A s hA hoA
  have h2 := sorts_impl B s hB hoB
  unfold impl_GoodRules.f rulesOk
  refine Ev.const_bind (in_impl _ _ _) (Ev.and (fun _ => ?_))
  cases ha : (sortsOk s A && ((A.length : Int) == s)) with
  | false =>
    rw [ha] at h1
    refine Ev.bind h1 (Ev.neg (by decide) (Ev.cast (Ev.now _) ?_))
    cases h3 : sortsOk s A
    · simp
    · rw [h3, Bool.true_and] at ha; rw [ha]; rfl
  | true =>
    rw [ha] at h1
    rw [Bool.and_eq_true] at ha
    refine Ev.bind h1 (Ev.pos rfl (Ev.bind h2 (Ev.cast (Ev.now _) ?_)))
    rw [ha.1, ha.2, Bool.true_and, Bool.true_and, Bool.and_comm]
theorem sz_intss (l : List (List Int)) (hl : l.length ≤ maxLen) (hs : ∀ z ∈ l, z.length ≤ maxLen) {a : Int} (h0 : 0 ≤ a) (h1 : a ≤ 1048576) : ∃ t, t ≤ 1048576 ∧ (¬ t < 0 → (l.length : Int) ≤ 1048576 ∧ ∀ z ∈ l, (z.length : Int) ≤ 1048576) ∧ Ev (fun k => laws_szIntSS.f k l a) t := by
  unfold laws_szIntSS.f
  have e := sz_left (n := l.length) h0 h1 hl
  rw [maxLen_eq] at hl
  by_cases hn : wrap64 (a - (l.length : Int)) < 0
  · exact ⟨-1, by omega, by omega, Ev.pos hn (Ev.now _)⟩
  · rw [if_neg hn] at e
    have e := Option.some.inj e
    rw [e] at hn ⊢
    have hr := (roomLeft_ok hn).1
    obtain ⟨t, ht, hts, he⟩ := sizesP_ev (fun z : List Int => (z.length : Int) ≤ 1048576) ([] : List Int) (fun _ z r => laws_szIntS.f z r) laws_szIntSS.l0 (fun k x r i => laws_szIntSS.l0.eq_2 x r i k) l (by omega)
      (fun z hz r h0 h1 => ⟨roomLeft z.length r, roomLeft_le h1, fun h => by have := (roomLeft_ok h).1; omega, Ev.mk fun _ => sz_ints z h0 h1 (hs z hz)⟩) (roomLeft l.length a) (by omega) (roomLeft_le h1)
    exact ⟨t, ht, fun h => ⟨by omega, hts h⟩, Ev.neg hn he⟩
theorem to_intss (l : List (List Int)) (hl : (l.length : Int) ≤ 1048576) (hs : ∀ z ∈ l, (z.length : Int) ≤ 1048576) : Ev (fun k => laws_toIntSS.f k l) l := by
  have ht := toK_ev ([] : List Int) (id : List Int → List Int) [] (fun k z => laws_toIntS.f k z) laws_toIntSS.l0 (fun k x y i => laws_toIntSS.l0.eq_2 x y i k) l (by omega) (fun z hz => to_ints z (hs z hz))
  rw [List.map_id] at ht
  unfold laws_toIntSS.f
  exact Ev.pos (by omega) (Ev.pos (by omega) ht)
theorem eq_intss (l : List (List Int)) (hl : (l.length : Int) ≤ 1048576) (hs : ∀ z ∈ l, (z.length : Int) ≤ 1048576) : Ev (fun k => laws_eqIntSS.f k l l) true := by
  unfold laws_eqIntSS.f
  exact eqK_ev ([] : List Int) (fun k a b => laws_eqIntS.f k a b) laws_eqIntSS.l0 (fun k x y i => laws_eqIntSS.l0.eq_2 x y i k) l (by rw [maxLen_eq]; omega) (fun a ha => eq_ints a (hs a ha))
/-- What is known of rules that have their room. -/
def RRoom (A B : List (List Int)) : Prop := ((A.length : Int) ≤ 1048576 ∧ ∀ z ∈ A, (z.length : Int) ≤ 1048576) ∧ ((B.length : Int) ≤ 1048576 ∧ ∀ z ∈ B, (z.length : Int) ≤ 1048576)
theorem sz_rules (s : Int) (A B : List (List Int)) (hA : A.length ≤ maxLen) (hB : B.length ≤ maxLen) (hoA : ∀ e ∈ A, e.length ≤ maxLen) (hoB : ∀ e ∈ B, e.length ≤ maxLen) : ∃ t, t ≤ 1048576 ∧ (¬ t < 0 → RRoom A B) ∧ Ev (fun k => laws_szRules.f k s A B 1048576) t := by
  unfold laws_szRules.f
  obtain ⟨t, ht, hts, he⟩ := sz_intss A hA hoA (a := 1048576) (by omega) (by omega)
  by_cases h : t < 0
  · exact ⟨-1, by omega, fun h => absurd (by omega) h, Ev.bind he (Ev.pos h (Ev.now _))⟩
  · obtain ⟨u, hu, hus, hue⟩ := sz_intss B hB hoB (a := t) (by omega) ht
    by_cases h2 : u < 0
    · exact ⟨-1, by omega, fun h => absurd (by omega) h, Ev.bind he (Ev.neg h (Ev.bind hue (Ev.pos h2 (Ev.now _))))⟩
    · exact ⟨u, hu, fun _ => ⟨hts h, hus h2⟩, Ev.bind he (Ev.neg h (Ev.bind hue (Ev.neg h2 (Ev.now _))))⟩
theorem to_rules (s : Int) (A B : List (List Int)) (h : RRoom A B) : Ev (fun k => laws_toRules.f k s A B) (s, A, B) :=
  Ev.bind (to_intss A h.1.1 h.1.2) (Ev.bind (to_intss B h.2.1 h.2.2) (Ev.now _))
theorem eq_rules (s : Int) (A B : List (List Int)) (h : RRoom A B) : Ev (fun k => laws_eqRules.f k s A B s A B) true :=
  Ev.pos rfl (Ev.bind (eq_intss A h.1.1 h.1.2) (Ev.pos rfl (Ev.bind (eq_intss B h.2.1 h.2.2) (Ev.pos rfl (Ev.now _)))))
/-! fields -/
def fieldOk (a b : Int) (l : List Int) (s : Int) : Bool :=
  (decide (1 ≤ a) && decide (a ≤ 6)) && ((decide (1 ≤ b) && decide (b ≤ 6)) && (decide ((l.length : Int) = wrap64 (a * b)) && l.all fun n => decide (-1 ≤ n) && decide (n ≤ wrap64 (s - 1))))
theorem field_spec (a b : Int) (l : List Int) (s : Int) (hl : l.length ≤ maxLen) : Ev (fun k => spec_l14Field.f k a b l s) (fieldOk a b l s) := by
  have h0 := all_evT (0 : Int) (fun _ z => spec_l1In.f z (-1) (wrap64 (s - 1))) (fun n => decide (-1 ≤ n) && decide (n ≤ wrap64 (s - 1))) (fun k x n i => spec_l14Field.l0 k s x n i) (fun k x n i => spec_l14Field.l0.eq_2 _ _ _ _ k) l hl (fun z _ => Ev.mk fun _ => in_spec _ _ _)
  have hj : ∀ z, Ev (fun k => spec_l14Field.j0 k s z a b l) (!z && l.all fun n => decide (-1 ≤ n) && decide (n ≤ wrap64 (s - 1))) := fun z =>
    Ev.step (fun k => spec_l14Field.j0.eq_2 _ _ _ _ _ k) (Ev.andn (fun _ => h0))
  unfold spec_l14Field.f fieldOk
  simp only [in_spec, Option.bind_some]
  cases ha : (decide (1 ≤ a) && decide (a ≤ 6)) with
  | false => exact Ev.neg (by decide) (hj true)
  | true =>
    refine Ev.pos rfl ?_
    cases hb : (decide (1 ≤ b) && decide (b ≤ 6)) with
    | false => exact Ev.neg (by decide) (hj true)
    | true =>
      refine Ev.pos rfl (Ev.cast (hj _) ?_)
      rw [Bool.true_and, Bool.true_and]
      congr 1
      by_cases h : (l.length : Int) = wrap64 (a * b) <;> simp [h]
theorem field_impl (a b : Int) (l : List Int) (s : Int) (hl : l.length ≤ maxLen) : Ev (fun k => impl_isField.f k a b l s) (fieldOk a b l s) := by
  have h := contains_ev (0 : Int) (fun _ z => impl_isField_1_captured.f z s) (fun n => !(decide (-1 ≤ n) && decide (n ≤ wrap64 (s - 1)))) (slices_IndexFunc_int_int_at_impl_isField_1.l0 s) (fun k x n i => slices_IndexFunc_int_int_at_impl_isField_1.l0.eq_2 _ _ _ _ k) l hl (fun z _ => Ev.mk (fun _ => by unfold impl_isField_1_captured.f; rw [in_impl]; rfl))
  unfold impl_isField.f fieldOk slices_ContainsFunc_int_int_at_impl_isField_1.f slices_IndexFunc_int_int_at_impl_isField_1.f
  simp only [in_impl, Option.bind_some]
  refine Ev.and (fun _ => Ev.and (fun _ => Ev.andp (fun _ => Ev.bind h (Ev.cast (Ev.now _) (any_not _ l)))))
theorem field_yes {a b : Int} {l : List Int} {s : Int} (h : fieldOk a b l s = true) : (1 ≤ a ∧ a ≤ 6) ∧ (1 ≤ b ∧ b ≤ 6) ∧ (l.length : Int) = a * b ∧ (∀ n ∈ l, -1 ≤ n ∧ n ≤ wrap64 (s - 1)) ∧ 1 ≤ a * b ∧ a * b ≤ 36 := by
  unfold fieldOk at h
  simp only [Bool.and_eq_true, decide_eq_true_eq, List.all_eq_true] at h
  obtain ⟨ha, hb, hl, hall⟩ := h
  have h1 : a * 1 ≤ a * b := Int.mul_le_mul_of_nonneg_left hb.1 (by omega)
  have h2 : a * b ≤ a * 6 := Int.mul_le_mul_of_nonneg_left hb.2 (by omega)
  rw [w64 (n := a * b) (by omega) (by omega)] at hl
  exact ⟨ha, hb, hl, hall, by omega, by omega⟩
theorem sz_field (a b : Int) (l : List Int) {s : Int} (h0 : 0 ≤ s) (h1 : s ≤ 1048576) (hl : l.length ≤ maxLen) : laws_szField.f a b l s = some (roomLeft l.length s) := by
  unfold laws_szField.f
  rw [sz_ints l h0 h1 hl, Option.bind_some]
  exact room_again _ _
theorem to_field (a b : Int) (l : List Int) (hl : (l.length : Int) ≤ 1048576) : Ev (fun k => laws_toField.f k a b l) (a, b, l) :=
  Ev.bind (to_ints l hl) (Ev.now _)
theorem eq_field (a b : Int) (l : List Int) (hl : (l.length : Int) ≤ 1048576) : Ev (fun k => laws_eqField.f k a b l a b l) true :=
  Ev.pos rfl (Ev.pos rfl (Ev.bind (eq_ints l hl) (Ev.pos rfl (Ev.now _))))
/-! what may stand beside what -/
def hasN (l : List Int) (v : Int) : Bool := l.any fun z => decide (v = z)
theorem has_impl (l : List Int) (v : Int) (hl : l.length ≤ maxLen) : Ev (fun k => slices_Contains_int_int.f k l v) (hasN l v) := by
  have h := contains_ev (0 : Int) (fun _ z => some (decide (v = z))) (fun z => decide (v = z)) (fun k x n i => slices_Index_int_int.l0 k x v n i) (fun k x n i => by
    rw [slices_Index_int_int.l0]
    simp only [Option.bind_some, decide_eq_true_eq]
    rfl) l hl (fun z _ => Ev.now _)
  unfold slices_Contains_int_int.f slices_Index_int_int.f hasN
  exact h
theorem has_spec (l : List Int) (v : Int) (hl : l.length ≤ maxLen) : Ev (fun k => spec_l14In.f k l v) (hasN l v) := by
  rw [maxLen_eq] at hl
  have key : ∀ m i : Nat, i + m = l.length → Ev (fun k => spec_l14In.l0 k v l (l.length : Int) (i : Int)) (hasN (l.drop i) v) := by
    intro m
    induction m with
    | zero =>
      intro i hi
      rw [List.drop_of_length_le (by omega)]
      exact Ev.step (fun k => spec_l14In.l0.eq_2 _ _ _ _ k) (Ev.neg (by omega) (Ev.now _))
    | succ m ih =>
      intro i hi
      have hi' : i < l.length := by omega
      refine Ev.step (fun k => spec_l14In.l0.eq_2 _ _ _ _ k) (Ev.pos (by omega) (Ev.pos (by omega) (Ev.pos (by omega) ?_)))
      rw [rd_get hi', List.drop_eq_getElem_cons hi', hasN, List.any_cons, w_succ (by omega)]
      by_cases h : l[i] = v
      · rw [decide_eq_true h.symm, Bool.true_or]; exact Ev.pos h (Ev.now _)
      · rw [decide_eq_false (fun e => h e.symm), Bool.false_or]; exact Ev.neg h (ih (i + 1) (by omega))
  have h := key l.length 0 (by omega)
  rw [List.drop_zero] at h
  unfold spec_l14In.f
  exact h
def fo (S : List (List Int)) (a b : Int) : Bool := if a < 0 then true else if b < 0 then true else hasN (rd_L1 S a) b
theorem row_len {S : List (List Int)} (hS : ∀ e ∈ S, e.length ≤ maxLen) {a : Int} (h0 : 0 ≤ a) (h1 : a < (S.length : Int)) : (rd_L1 S a).length ≤ maxLen := by
  obtain ⟨n, rfl⟩ := Int.eq_ofNat_of_zero_le h0
  have e : rd_L1 S (n : Int) = S[n]'(by omega) := rdOf_get (d := ([] : List Int)) (by omega)
  rw [e]
  exact hS _ (List.getElem_mem _)
theorem fo_impl (S : List (List Int)) (a b : Int) (hS : ∀ e ∈ S, e.length ≤ maxLen) (ha : a < (S.length : Int)) : Ev (fun k => impl_follows.f k S a b) (fo S a b) := by
  unfold impl_follows.f fo
  by_cases h : a < 0
  · rw [if_pos h]; exact Ev.pos h (Ev.now _)
  · rw [if_neg h]
    refine Ev.neg h ?_
    by_cases h2 : b < 0
    · rw [if_pos h2]; exact Ev.pos h2 (Ev.now _)
    · rw [if_neg h2]; exact Ev.neg h2 (Ev.pos (by omega) (Ev.pos ha (Ev.bind (has_impl _ _ (row_len hS (by omega) ha)) (Ev.now _))))
def tl (a b : Int) (l : List Int) (x y : Int) : Int := if (decide (0 ≤ x) && decide (x ≤ a - 1)) = true then (if (decide (0 ≤ y) && decide (y ≤ b - 1)) = true then rd l (y * a + x) else -1) else -1
theorem tl_outx {a b : Int} {l : List Int} {x y : Int} (hx : x < 0 ∨ x > a - 1) : tl a b l x y = -1 := by
  unfold tl
  rw [if_neg]
  simp only [Bool.and_eq_true, decide_eq_true_eq]
  omega
theorem tl_outy {a b : Int} {l : List Int} {x y : Int} (hy : y < 0 ∨ y > b - 1) : tl a b l x y = -1 := by
  unfold tl
  rw [if_neg (c := (decide (0 ≤ y) && decide (y ≤ b - 1)) = true)]
  · split <;> rfl
  · simp only [Bool.and_eq_true, decide_eq_true_eq]
    omega
theorem six {a : Int} (ha : 1 ≤ a ∧ a ≤ 6) : a = 1 ∨ a = 2 ∨ a = 3 ∨ a = 4 ∨ a = 5 ∨ a = 6 := by omega
theorem cellIn {a b x y n : Int} (ha : 1 ≤ a ∧ a ≤ 6) (hb : 1 ≤ b ∧ b ≤ 6) (hx : 0 ≤ x ∧ x ≤ a - 1) (hy : 0 ≤ y ∧ y ≤ b - 1) (hn : n = a * b) : 0 ≤ y * a ∧ y * a ≤ 30 ∧ y * a + x < n := by
  rcases six ha with rfl | rfl | rfl | rfl | rfl | rfl <;> omega
theorem place {a b i n : Int} (ha : 1 ≤ a ∧ a ≤ 6) (hb : 1 ≤ b ∧ b ≤ 6) (hn : n = a * b) (h0 : 0 ≤ i) (hi : i < n) : (0 ≤ i % a ∧ i % a ≤ a - 1) ∧ (0 ≤ i / a ∧ i / a ≤ b - 1) ∧ (i / a) * a + i % a = i ∧ n ≤ 36 := by
  rcases six ha with rfl | rfl | rfl | rfl | rfl | rfl <;> omega
theorem near {a b x y i n : Int} (ha : 1 ≤ a ∧ a ≤ 6) (hb : 1 ≤ b ∧ b ≤ 6) (hn : n = a * b) (hx : 0 ≤ x ∧ x ≤ a - 1) (hy : 0 ≤ y ∧ y ≤ b - 1) (he : y * a + x = i) :
    (x > 0 → 0 ≤ i - 1) ∧ (x < a - 1 → i + 1 < n) ∧ (y > 0 → 0 ≤ i - a) ∧ (y < b - 1 → i + a < n) := by
  rcases six ha with rfl | rfl | rfl | rfl | rfl | rfl <;> omega
def may (A B : List (List Int)) (a b : Int) (l : List Int) (i : Nat) (v : Int) : Bool :=
  fo A (tl a b l ((i : Int) % a - 1) ((i : Int) / a)) (v) && (fo A (v) (tl a b l ((i : Int) % a + 1) ((i : Int) / a)) && (fo B (tl a b l ((i : Int) % a) ((i : Int) / a - 1)) (v) && fo B (v) (tl a b l ((i : Int) % a) ((i : Int) / a + 1))))
structure Fine (s : Int) (A B : List (List Int)) (a b : Int) (l : List Int) : Prop where
  hs : 1 ≤ s ∧ s ≤ 6
  hA : (A.length : Int) = s
  hB : (B.length : Int) = s
  oA : ∀ e ∈ A, e.length ≤ maxLen
  oB : ∀ e ∈ B, e.length ≤ maxLen
  ha : 1 ≤ a ∧ a ≤ 6
  hb : 1 ≤ b ∧ b ≤ 6
  hl : (l.length : Int) = a * b
  hv : ∀ n ∈ l, -1 ≤ n ∧ n ≤ wrap64 (s - 1)
theorem val {s : Int} {A : List (List Int)} {B : List (List Int)} {a : Int} {b : Int} {l : List Int} (F : Fine s A B a b l) {j : Int} (h0 : 0 ≤ j) (h1 : j < (l.length : Int)) : -1 ≤ rd l j ∧ rd l j < s := by
  obtain ⟨n, rfl⟩ := Int.eq_ofNat_of_zero_le h0
  have hs := F.hs
  rw [rd_get (by omega)]
  have h := F.hv _ (List.getElem_mem (show n < l.length by omega))
  rw [w64 (n := s - 1) (by omega) (by omega)] at h
  omega
theorem tl_range {s : Int} {A : List (List Int)} {B : List (List Int)} {a : Int} {b : Int} {l : List Int} (F : Fine s A B a b l) (x y : Int) : -1 ≤ tl a b l x y ∧ tl a b l x y < s := by
  have hs := F.hs
  unfold tl
  by_cases hx : (decide (0 ≤ x) && decide (x ≤ a - 1)) = true
  · rw [if_pos hx]
    by_cases hy : (decide (0 ≤ y) && decide (y ≤ b - 1)) = true
    · rw [if_pos hy]
      simp only [Bool.and_eq_true, decide_eq_true_eq] at hx hy
      have h := cellIn F.ha F.hb hx hy F.hl
      exact val F (by omega) h.2.2
    · rw [if_neg hy]; omega
  · rw [if_neg hx]; omega
theorem tile {s : Int} {A : List (List Int)} {B : List (List Int)} {a : Int} {b : Int} {l : List Int} (F : Fine s A B a b l) (x y : Int) : impl_Field_tile.f a b l x y (-1) = some (tl a b l x y) := by
  have ha := F.ha
  have hb := F.hb
  unfold impl_Field_tile.f tl
  rw [w64 (n := a - 1) (by omega) (by omega), w64 (n := b - 1) (by omega) (by omega), in_impl, Option.bind_some, in_impl, Option.bind_some]
  by_cases hx : (decide (0 ≤ x) && decide (x ≤ a - 1)) = true
  · rw [if_pos hx, if_pos hx]
    by_cases hy : (decide (0 ≤ y) && decide (y ≤ b - 1)) = true
    · rw [if_pos hy, if_pos hy]
      simp only [Bool.and_eq_true, decide_eq_true_eq] at hx hy
      have h := cellIn ha hb hx hy F.hl
      rw [w64 (n := y * a) (by omega) (by omega), w64 (n := y * a + x) (by omega) (by omega), if_pos (by omega), if_pos h.2.2]
    · rw [if_neg hy, if_neg hy]
  · rw [if_neg hx, if_neg hx]
theorem tl_in {s : Int} {A : List (List Int)} {B : List (List Int)} {a : Int} {b : Int} {l : List Int} (F : Fine s A B a b l) {x y : Int} (hx : 0 ≤ x ∧ x ≤ a - 1) (hy : 0 ≤ y ∧ y ≤ b - 1) : tl a b l x y = rd l (y * a + x) := by
  have _ := F
  unfold tl
  rw [decide_eq_true hx.1, decide_eq_true hx.2, decide_eq_true hy.1, decide_eq_true hy.2]
  rfl
theorem may_impl {s : Int} {A : List (List Int)} {B : List (List Int)} {a : Int} {b : Int} {l : List Int} (F : Fine s A B a b l) (i : Nat) (hi : i < l.length) {v : Int} (hv : -1 ≤ v ∧ v < s) : Ev (fun k => impl_Rules_may.f k s A B a b l (i : Int) v) (may A B a b l i v) := by
  have ha := F.ha
  have hb := F.hb
  have hA := F.hA
  have hB := F.hB
  obtain ⟨hx, hy, he, h36⟩ := place ha hb F.hl (i := (i : Int)) (by omega) (by omega)
  unfold impl_Rules_may.f may
  rw [Int.tmod_eq_emod_of_nonneg (by omega), Int.tdiv_eq_ediv_of_nonneg (by omega), w64 (n := (i : Int) / a) (by omega) (by omega), w64 (n := (i : Int) % a - 1) (by omega) (by omega), w64 (n := (i : Int) % a + 1) (by omega) (by omega), w64 (n := (i : Int) / a - 1) (by omega) (by omega), w64 (n := (i : Int) / a + 1) (by omega) (by omega)]
  have tr := fun x y => tl_range F x y
  refine Ev.neg (by omega) (Ev.const_bind (tile F _ _) (Ev.bind (fo_impl A _ _ F.oA (by have := tr ((i : Int) % a - 1) ((i : Int) / a); omega)) (Ev.and (fun _ => ?_))))
  refine Ev.const_bind (tile F _ _) (Ev.bind (fo_impl A _ _ F.oA (by omega)) (Ev.and (fun _ => ?_)))
  refine Ev.const_bind (tile F _ _) (Ev.bind (fo_impl B _ _ F.oB (by have := tr ((i : Int) % a) ((i : Int) / a - 1); omega)) (Ev.and (fun _ => ?_)))
  exact Ev.const_bind (tile F _ _) (Ev.bind (fo_impl B _ _ F.oB (by omega)) (Ev.now _))
theorem may_neg {s : Int} {A : List (List Int)} {B : List (List Int)} {a : Int} {b : Int} {l : List Int} (F : Fine s A B a b l) (i : Nat) {v : Int} (h : v < 0) : may A B a b l i v = true := by
  have _ := F
  have e1 : ∀ (S : List (List Int)) t, fo S t (v) = true := fun S t => by unfold fo; rw [if_pos h]; split <;> rfl
  have e2 : ∀ (S : List (List Int)) t, fo S (v) t = true := fun S t => by unfold fo; rw [if_pos h]
  unfold may
  rw [e1, e2, e1, e2]
  rfl
theorem fits_spec {s : Int} {A : List (List Int)} {B : List (List Int)} {a : Int} {b : Int} {l : List Int} (F : Fine s A B a b l) (i : Nat) (hi : i < l.length) {v : Int} (h0 : 0 ≤ v) (h1 : v < s) : Ev (fun k => spec_l14Fits.f k s A B a b l (i : Int) v) (may A B a b l i v) := by
  have ha := F.ha
  have hb := F.hb
  have hA := F.hA
  have hB := F.hB
  have hs := F.hs
  obtain ⟨hx, hy, he, h36⟩ := place ha hb F.hl (i := (i : Int)) (by omega) (by omega)
  obtain ⟨n1, n2, n3, n4⟩ := near ha hb F.hl hx hy he
  unfold spec_l14Fits.f may
  rw [Int.tmod_eq_emod_of_nonneg (by omega), Int.tdiv_eq_ediv_of_nonneg (by omega), w64 (n := (i : Int) / a) (by omega) (by omega), w64 (n := (i : Int) - 1) (by omega) (by omega)]
  generalize (i : Int) % a = x at *
  generalize (i : Int) / a = y at *
  have hn0 : ¬ v < 0 := by omega
  have fl : ∀ (S : List (List Int)) t, 0 ≤ t → fo S t v = hasN (rd_L1 S t) v := fun S t ht => by unfold fo; rw [if_neg (by omega), if_neg hn0]
  have fr : ∀ (S : List (List Int)) t, 0 ≤ t → fo S v t = hasN (rd_L1 S v) t := fun S t ht => by unfold fo; rw [if_neg hn0, if_neg (by omega)]
  have nl : ∀ (S : List (List Int)) t, t < 0 → fo S t v = true := fun S t ht => by unfold fo; rw [if_pos ht]
  have nr : ∀ (S : List (List Int)) t, t < 0 → fo S v t = true := fun S t ht => by unfold fo; rw [if_neg hn0, if_pos ht]
  have j2 : Ev (fun k => spec_l14Fits.j2 k (i : Int) v y s A B a b l) (fo B v (tl a b l x (y + 1))) := by
    refine Ev.step (fun k => spec_l14Fits.j2.eq_2 _ _ _ _ _ _ _ _ _ k) ?_
    rw [w64 (n := b - 1) (by omega) (by omega), w64 (n := (i : Int) + a) (by omega) (by omega)]
    by_cases h : y < b - 1
    · have e : tl a b l x (y + 1) = rd l ((i : Int) + a) := by rw [tl_in F hx (by omega), Int.add_mul, Int.one_mul]; congr 1; omega
      have hj := n4 h
      rw [e]
      refine Ev.pos h (Ev.pos (by omega) (Ev.pos hj ?_))
      by_cases h2 : rd l ((i : Int) + a) ≥ 0
      · rw [fr _ _ h2]
        exact Ev.pos h2 (Ev.pos (by omega) (Ev.pos (by omega) (Ev.bind (has_spec _ _ (row_len F.oB (by omega) (by omega))) (Ev.cast (Ev.and (fun _ => Ev.now true)) (Bool.and_true _)))))
      · rw [nr _ _ (by omega)]; exact Ev.neg h2 (Ev.now _)
    · rw [tl_outy (by omega), nr _ _ (by omega)]; exact Ev.neg h (Ev.now _)
  have j1 : Ev (fun k => spec_l14Fits.j1 k (i : Int) v y s A B a b l) (fo B (tl a b l x (y - 1)) v && fo B v (tl a b l x (y + 1))) := by
    refine Ev.step (fun k => spec_l14Fits.j1.eq_2 _ _ _ _ _ _ _ _ _ k) ?_
    rw [w64 (n := (i : Int) - a) (by omega) (by omega)]
    by_cases h : y > 0
    · have e : tl a b l x (y - 1) = rd l ((i : Int) - a) := by rw [tl_in F hx (by omega), Int.sub_mul, Int.one_mul]; congr 1; omega
      have hj := n3 h
      rw [e]
      have hr := val F (j := (i : Int) - a) hj (by omega)
      refine Ev.pos h (Ev.pos hj (Ev.pos (by omega) ?_))
      by_cases h2 : rd l ((i : Int) - a) ≥ 0
      · rw [fl _ _ h2]
        exact Ev.pos h2 (Ev.pos h2 (Ev.pos (by omega) (Ev.bind (has_spec _ _ (row_len F.oB h2 (by omega))) (Ev.and (fun _ => j2)))))
      · rw [nl _ _ (by omega), Bool.true_and]; exact Ev.neg h2 j2
    · rw [tl_outy (by omega), nl _ _ (by omega), Bool.true_and]; exact Ev.neg h j2
  have j0 : Ev (fun k => spec_l14Fits.j0 k (i : Int) v x y s A B a b l) (fo A v (tl a b l (x + 1) y) && (fo B (tl a b l x (y - 1)) v && fo B v (tl a b l x (y + 1)))) := by
    refine Ev.step (fun k => spec_l14Fits.j0.eq_2 _ _ _ _ _ _ _ _ _ _ k) ?_
    rw [w64 (n := a - 1) (by omega) (by omega), w64 (n := (i : Int) + 1) (by omega) (by omega)]
    by_cases h : x < a - 1
    · have e : tl a b l (x + 1) y = rd l ((i : Int) + 1) := by rw [tl_in F (by omega) hy]; congr 1; omega
      have hj := n2 h
      rw [e]
      refine Ev.pos h (Ev.pos (by omega) (Ev.pos hj ?_))
      by_cases h2 : rd l ((i : Int) + 1) ≥ 0
      · rw [fr _ _ h2]
        exact Ev.pos h2 (Ev.pos (by omega) (Ev.pos (by omega) (Ev.bind (has_spec _ _ (row_len F.oA (by omega) (by omega))) (Ev.and (fun _ => j1)))))
      · rw [nr _ _ (by omega), Bool.true_and]; exact Ev.neg h2 j1
    · rw [tl_outx (by omega), nr _ _ (by omega), Bool.true_and]; exact Ev.neg h j1
  refine Ev.neg (by omega) ?_
  by_cases h : x > 0
  · have e : tl a b l (x - 1) y = rd l ((i : Int) - 1) := by rw [tl_in F (by omega) hy]; congr 1; omega
    have hj := n1 h
    rw [e]
    have hr := val F (j := (i : Int) - 1) hj (by omega)
    refine Ev.pos h (Ev.pos hj (Ev.pos (by omega) ?_))
    by_cases h2 : rd l ((i : Int) - 1) ≥ 0
    · rw [fl _ _ h2]
      exact Ev.pos h2 (Ev.pos h2 (Ev.pos (by omega) (Ev.bind (has_spec _ _ (row_len F.oA h2 (by omega))) (Ev.and (fun _ => j0)))))
    · rw [nl _ _ (by omega), Bool.true_and]; exact Ev.neg h2 j0
  · rw [tl_outx (by omega), nl _ _ (by omega), Bool.true_and]; exact Ev.neg h j0
theorem fine {s : Int} {A B : List (List Int)} {a b : Int} {l : List Int} (oA : ∀ e ∈ A, e.length ≤ maxLen) (oB : ∀ e ∈ B, e.length ≤ maxLen) (h : (rulesOk s A B && fieldOk a b l s) = true) : Fine s A B a b l := by
  rw [Bool.and_eq_true] at h
  obtain ⟨h1, h2⟩ := h
  obtain ⟨ha, hb, hl, hv, _, _⟩ := field_yes h2
  unfold rulesOk at h1
  simp only [Bool.and_eq_true, decide_eq_true_eq, beq_iff_eq] at h1
  exact ⟨h1.1, h1.2.1, h1.2.2.1, oA, oB, ha, hb, hl, hv⟩
theorem mark_ints (l : List Int) (hl : (l.length : Int) ≤ 4611686018427387000) : Ev (fun k => laws_markIntS.f k l 1) (1 + (l.length : Int), marks l.length 1) :=
  markInt_ev laws_markIntS.l0 (fun k x c i => laws_markIntS.l0.eq_2 x c i k) 1 (by omega) l (by omega)
theorem held_ints (n : Nat) (hn : (n : Int) ≤ 4611686018427387000) : Ev (fun k => laws_heldIntS.f k (marks n 1) 1) (1 + (n : Int)) :=
  heldInt_ev laws_heldIntS.l0 (fun k x c i => laws_heldIntS.l0.eq_2 x c i k) n 1 (by omega) (by omega)
theorem mark_intsAt (l : List Int) (c : Int) (hc : 1 ≤ c) (hl : c + (l.length : Int) ≤ 4611686018427387904) : Ev (fun k => laws_markIntS.f k l c) (c + (l.length : Int), marks l.length c) :=
  markInt_ev laws_markIntS.l0 (fun k x c i => laws_markIntS.l0.eq_2 x c i k) c hc l hl
theorem mapK_ev {α : Type} (one : Nat → α → Int → Option (Int × α)) (b : Int → Prop) : ∀ (l : List α) (c : Int), 1 ≤ c → c + (l.length : Int) * 4194304 ≤ 4611686018427387000 → (∀ e ∈ l, ∀ c, 1 ≤ c → c ≤ 4611686018427387000 - 4194304 → ∃ t e', c ≤ t ∧ t ≤ c + 4194304 ∧ Ev (fun k => one k e c) (t, e')) →
    ∃ t ys, c ≤ t ∧ t ≤ c + (l.length : Int) * 4194304 ∧ Ev (fun k => mapK (one k) l c) (t, ys)
  | [], c, _, _, _ => ⟨c, [], by omega, by simp, Ev.now _⟩
  | e :: l, c, h1, h2, h => by
    rw [List.length_cons] at h2
    obtain ⟨t, e', t1, t2, he⟩ := h e (List.mem_cons_self) c h1 (by omega)
    obtain ⟨u, ys, u1, u2, hu⟩ := mapK_ev one b l t (by omega) (by omega) (fun z hz => h z (List.mem_cons_of_mem _ hz))
    exact ⟨u, e' :: ys, by omega, by rw [List.length_cons]; omega, Ev.bind he (Ev.bind hu (Ev.now _))⟩
theorem mark_intss (l : List (List Int)) (c : Int) (hc : 1 ≤ c) (hc2 : c ≤ 4398046511105) (hl : (l.length : Int) ≤ 1048576) (hs : ∀ z ∈ l, (z.length : Int) ≤ 1048576) : ∃ t xs, c ≤ t ∧ t ≤ c + 4398046511104 ∧ Ev (fun k => laws_markIntSS.f k l c) (t, xs) := by
  obtain ⟨t, xs, h1, h2, he⟩ := mapK_ev laws_markIntSS.one (fun _ => True) l c hc (by omega) (fun e he c h1 h2 => by
    have hk := hs e he
    exact ⟨c + (e.length : Int), _, by omega, by omega, Ev.bind (mark_intsAt e c h1 (by omega)) (Ev.now _)⟩)
  exact ⟨t, xs, h1, by omega, he⟩
theorem mark_rules (s : Int) (A B : List (List Int)) (h : RRoom A B) : ∃ t xs ys, 1 ≤ t ∧ t ≤ 8796093022209 ∧ Ev (fun k => laws_markRules.f k s A B 1) (t, xs, ys) := by
  obtain ⟨t, xs, h1, h2, he⟩ := mark_intss A 1 (by omega) (by omega) h.1.1 h.1.2
  obtain ⟨u, ys, u1, u2, hu⟩ := mark_intss B t (by omega) (by omega) h.2.1 h.2.2
  exact ⟨u, xs, ys, by omega, by omega, Ev.bind he (Ev.bind hu (Ev.now _))⟩
theorem mark_field (a b : Int) (l : List Int) (c : Int) (hc : 1 ≤ c) (hc2 : c ≤ 8796093022209) (hl : (l.length : Int) ≤ 1048576) : ∃ t xs, 1 ≤ t ∧ Ev (fun k => laws_markField.f k a b l c) (t, xs) :=
  ⟨_, _, by omega, Ev.bind (mark_intsAt l c hc (by omega)) (Ev.now _)⟩
abbrev R6 := Bool × Int × Int × List Int × Int × Bool
abbrev Q6 (r : R6) : Prop := r.2.2.2.1.length ≤ 36
theorem no6 (t : Int) (b : Bool) : Q6 (false, 0, 0, [], t, b) := by simp
def mayAt (A B : List (List Int)) (a b : Int) (l : List Int) (i : Nat) : Bool := may A B a b l i (rd l (i : Int))
def allF (p : Nat → Bool) : Nat → Nat → Bool
  | 0, _ => true
  | m + 1, i => p i && allF p m (i + 1)
section
variable {s : Int} {A : List (List Int)} {B : List (List Int)} {a : Int} {b : Int} {l : List Int}
theorem Fine.h36 (F : Fine s A B a b l) : (l.length : Int) ≤ 36 := by
  have ha := F.ha
  have hb := F.hb
  have hl := F.hl
  rcases six ha with h | h | h | h | h | h <;> rw [h] at hl <;> omega
theorem Fine.set (F : Fine s A B a b l) (i : Nat) {v : Int} (h0 : -1 ≤ v) (h1 : v < s) : Fine s A B a b (l.set i v) := by
  refine ⟨F.hs, F.hA, F.hB, F.oA, F.oB, F.ha, F.hb, by rw [List.length_set]; exact F.hl, fun n hn => ?_⟩
  have hs := F.hs
  rcases List.mem_or_eq_of_mem_set hn with h | h
  · exact F.hv n h
  · rw [w64 (n := s - 1) (by omega) (by omega)]; omega
theorem holds_spec (F : Fine s A B a b l) : Ev (fun k => spec_l14Holds.f k s A B a b l) (allF (mayAt A B a b l) l.length 0) := by
  have h36 := F.h36
  have key : ∀ m i : Nat, i + m = l.length → Ev (fun k => spec_l14Holds.l0 k l (l.length : Int) (i : Int) s A B a b l) (allF (mayAt A B a b l) m i) := by
    intro m
    induction m with
    | zero => exact fun i hi => Ev.step (fun k => spec_l14Holds.l0.eq_2 _ _ _ _ _ _ _ _ _ k) (Ev.neg (by omega) (Ev.now _))
    | succ m ih =>
      intro i hi
      have nx : Ev (fun k => spec_l14Holds.l0 k l (l.length : Int) (wrap64 ((i : Int) + 1)) s A B a b l) (allF (mayAt A B a b l) m (i + 1)) := by rw [w_succ (by omega)]; exact ih (i + 1) (by omega)
      refine Ev.step (fun k => spec_l14Holds.l0.eq_2 _ _ _ _ _ _ _ _ _ k) (Ev.pos (by omega) (Ev.pos (by omega) (Ev.pos (by omega) ?_)))
      rw [allF]
      have hv := val F (j := (i : Int)) (by omega) (by omega)
      by_cases h : rd l (i : Int) ≥ 0
      · exact Ev.pos h (Ev.bind (fits_spec F i (by omega) h hv.2) (Ev.and (fun _ => nx)))
      · rw [show mayAt A B a b l i = true from may_neg F i (by omega), Bool.true_and]; exact Ev.neg h nx
  exact key l.length 0 (by omega)
theorem holds_impl (F : Fine s A B a b l) : Ev (fun k => impl_Rules_holds.f k s A B a b l) (allF (mayAt A B a b l) l.length 0) := by
  have h36 := F.h36
  have key : ∀ m i : Nat, i + m = l.length → Ev (fun k => impl_Rules_holds.l0 k l (l.length : Int) (i : Int) s A B a b l) (allF (mayAt A B a b l) m i) := by
    intro m
    induction m with
    | zero => exact fun i hi => Ev.step (fun k => impl_Rules_holds.l0.eq_2 _ _ _ _ _ _ _ _ _ k) (Ev.neg (by omega) (Ev.now _))
    | succ m ih =>
      intro i hi
      have hv := val F (j := (i : Int)) (by omega) (by omega)
      refine Ev.step (fun k => impl_Rules_holds.l0.eq_2 _ _ _ _ _ _ _ _ _ k) (Ev.pos (by omega) (Ev.pos (by omega) (Ev.pos (by omega) (Ev.bind (may_impl F i (by omega) hv) ?_))))
      rw [allF, w_succ (by omega)]
      exact Ev.and (fun _ => ih (i + 1) (by omega))
  exact key l.length 0 (by omega)
end
section
variable {s : Int} {A : List (List Int)} {B : List (List Int)} {a : Int} {b : Int} {O : List Int}
/-- What goes on behind the search for a sort. -/
def Goes (s : Int) (A B : List (List Int)) (a b : Int) (O : List Int) (n : Nat) : Prop := ∀ (t : Int) (k : Nat) (T : List Int), Fine s A B a b T → (T.length = n) → 0 ≤ t → t ≤ 5000 → k ≤ O.length →
  Both Q6 (fun q => spec_FillField.l1 q O t (k : Int) s A B a b T) (fun q => impl_FillField.l1 q O t (k : Int) s A B a b T)
theorem sorts_both {n : Nat} {t : Int} {k i : Nat} {T : List Int} (F : Fine s A B a b T) (hi : i < T.length)
    (stop : Both Q6 (fun q => spec_FillField.j3 q O t (k : Int) (i : Int) s s A B a b T) (fun q => impl_FillField.j3 q O t (k : Int) (i : Int) s s A B a b T))
    (hit : ∀ v : Int, 0 ≤ v → v < s → Both Q6 (fun q => spec_FillField.j3 q O t (k : Int) (i : Int) v s A B a b T) (fun q => impl_FillField.j3 q O t (k : Int) (i : Int) v s A B a b T)) :
    ∀ (m : Nat) (v : Int), 0 ≤ v → v + m = s → Both Q6 (fun q => spec_FillField.l2 q O t (k : Int) (i : Int) v s A B a b T) (fun q => impl_FillField.l2 q O t (k : Int) (i : Int) v s A B a b T) := by
  have _ := n
  have hs := F.hs
  intro m
  induction m with
  | zero =>
    intro v h0 hm
    have e : v = s := by omega
    rw [e]
    exact Both.step (fun k => spec_FillField.l2.eq_2 _ _ _ _ _ _ _ _ _ _ _ k) (fun k => impl_FillField.l2.eq_2 _ _ _ _ _ _ _ _ _ _ _ k) (Both.neg (by omega) (by omega) stop)
  | succ m ih =>
    intro v h0 hm
    refine Both.step (fun k => spec_FillField.l2.eq_2 _ _ _ _ _ _ _ _ _ _ _ k) (fun k => impl_FillField.l2.eq_2 _ _ _ _ _ _ _ _ _ _ _ k) (Both.pos (by omega) (by omega) ?_)
    refine Both.bind (P := fun _ => True) ⟨may A B a b T i v, trivial, fits_spec F i hi h0 (by omega), may_impl F i hi (by omega)⟩ (fun c _ => ?_)
    rw [w64 (n := v + 1) (by omega) (by omega)]
    exact Both.ite (fun _ => hit v h0 (by omega)) (fun _ => ih (v + 1) (by omega) (by omega))
theorem fill_both {n : Nat} (hn : n ≤ 36) (hO : ∀ o ∈ O, 0 ≤ o ∧ o < (n : Int)) (hOl : O.length ≤ 36) : ∀ (m : Nat) (t : Int) (k : Nat) (T : List Int), Fine s A B a b T → T.length = n → 0 ≤ t → t ≤ 5000 → k ≤ O.length → 2 * (5000 - t) + k ≤ m →
    Both Q6 (fun q => spec_FillField.l1 q O t (k : Int) s A B a b T) (fun q => impl_FillField.l1 q O t (k : Int) s A B a b T) := by
  intro m
  induction m using Nat.strongRecOn with
  | ind m ih =>
    intro t k T F hT h0 h1 hk hm
    have hs := F.hs
    refine Both.step (fun q => spec_FillField.l1.eq_2 _ _ _ _ _ _ _ _ _ q) (fun q => impl_FillField.l1.eq_2 _ _ _ _ _ _ _ _ _ q) ?_
    by_cases hlt : k < O.length
    · have ho := hO _ (List.getElem_mem hlt)
      have e : rd O (k : Int) = O[k] := rd_get hlt
      rw [e]
      obtain ⟨i, hi⟩ := Int.eq_ofNat_of_zero_le ho.1
      rw [hi] at ho ⊢
      have hiT : i < T.length := by omega
      refine Both.pos (by omega) (by omega) (Both.pos (by omega) (by omega) (Both.pos (by omega) (by omega) (Both.pos (by omega) (by omega) ?_)))
      have hv := val F (j := (i : Int)) (by omega) (by omega)
      rw [w64 (n := rd T (i : Int) + 1) (by omega) (by omega)]
      have F1 : Fine s A B a b (T.set (i : Int).toNat (-1)) := F.set _ (by omega) (by omega)
      refine sorts_both (n := n) F1 (by rw [List.length_set]; exact hiT) ?_ (fun v v0 v1 => ?_) (s - (rd T (i : Int) + 1)).toNat _ (by omega) (by omega)
      · refine Both.step (fun q => spec_FillField.j3.eq_2 _ _ _ _ _ _ _ _ _ _ _ q) (fun q => impl_FillField.j3.eq_2 _ _ _ _ _ _ _ _ _ _ _ q) (Both.lpos rfl (Both.rneg (by omega) ?_))
        refine Both.rstep (fun q => impl_FillField.j4.eq_2 _ _ _ _ _ _ _ _ _ _ _ _ q) (Both.rneg (by decide) (Both.rneg (by omega) ?_))
        rw [w_pred (by omega)]
        by_cases hk0 : k = 0
        · exact Both.pos (by omega) (by omega) (Both.now _ (no6 _ _))
        · refine Both.neg (by omega) (by omega) ?_
          obtain ⟨k', rfl⟩ : ∃ k', k = k' + 1 := ⟨k - 1, by omega⟩
          rw [show ((k' + 1 : Nat) : Int) - 1 = (k' : Int) by omega]
          exact ih (m - 1) (by omega) t k' _ F1 (by rw [List.length_set]; exact hT) h0 h1 (by omega) (by omega)
      · refine Both.step (fun q => spec_FillField.j3.eq_2 _ _ _ _ _ _ _ _ _ _ _ q) (fun q => impl_FillField.j3.eq_2 _ _ _ _ _ _ _ _ _ _ _ q) (Both.lneg (by omega) (Both.rpos (by omega) ?_))
        refine Both.rstep (fun q => impl_FillField.j4.eq_2 _ _ _ _ _ _ _ _ _ _ _ _ q) ?_
        by_cases h5 : t = 5000
        · exact Both.pos h5 (by rw [h5]; decide) (Both.now _ (no6 _ _))
        · refine Both.neg h5 (by simpa using h5) (Both.rpos v1 (Both.pos (by omega) (by omega) (Both.pos (by rw [List.length_set]; omega) (by rw [List.length_set]; omega) ?_)))
          rw [w64 (n := t + 1) (by omega) (by omega), w_succ (by omega)]
          exact ih (m - 1) (by omega) (t + 1) (k + 1) _ (F1.set _ (by omega) v1) (by rw [List.length_set, List.length_set]; exact hT) (by omega) (by omega) hlt (by omega)
    · exact Both.neg (by omega) (by omega) (Both.now _ (show T.length ≤ 36 by omega))
theorem open_both {l : List Int} (F : Fine s A B a b l) : ∀ (m i : Nat) (P : List Int), i + m = l.length → (∀ o ∈ P, 0 ≤ o ∧ o < (l.length : Int)) → P.length ≤ i →
    Both Q6 (fun q => spec_FillField.l0 q P l (l.length : Int) (i : Int) s A B a b l) (fun q => impl_FillField.l0 q P 0 l (l.length : Int) (i : Int) s A B a b l) := by
  have h36 := F.h36
  intro m
  induction m with
  | zero =>
    intro i P hi hP hPl
    exact Both.step (fun q => spec_FillField.l0.eq_2 _ _ _ _ _ _ _ _ _ _ q) (fun q => impl_FillField.l0.eq_2 _ _ _ _ _ _ _ _ _ _ _ q) (Both.neg (by omega) (by omega) (fill_both (n := l.length) (by omega) hP (by omega) 10000 0 0 l F rfl (by omega) (by omega) (by omega) (by omega)))
  | succ m ih =>
    intro i P hi hP hPl
    refine Both.step (fun q => spec_FillField.l0.eq_2 _ _ _ _ _ _ _ _ _ _ q) (fun q => impl_FillField.l0.eq_2 _ _ _ _ _ _ _ _ _ _ _ q) (Both.pos (by omega) (by omega) (Both.pos (by omega) (by omega) (Both.pos (by omega) (by omega) ?_)))
    rw [w_succ (by omega)]
    refine Both.ite (fun _ => Both.pos (by omega) (by omega) (ih (i + 1) _ (by omega) (fun o ho => ?_) (by simp; omega))) (fun _ => ih (i + 1) P (by omega) hP (by omega))
    rcases List.mem_append.mp ho with h | h
    · exact hP o h
    · rw [List.mem_singleton] at h; omega
end
theorem both (s : Int) (A B : List (List Int)) (a b : Int) (l : List Int) (hA : A.length ≤ maxLen) (hB : B.length ≤ maxLen) (hoA : ∀ e ∈ A, e.length ≤ maxLen) (hoB : ∀ e ∈ B, e.length ≤ maxLen) (hl : l.length ≤ maxLen) :
    Both Q6 (fun k => spec_FillField.f k s A B a b l) (fun k => impl_FillField.f k s A B a b l) := by
  have gs : Ev (fun k => spec_GoodField.f k s A B a b l) (rulesOk s A B && fieldOk a b l s) := by
    unfold spec_GoodField.f
    exact Ev.bind (rules_spec s A B hA hB hoA hoB) (Ev.and (fun _ => Ev.bind (field_spec a b l s hl) (Ev.now _)))
  have gi : Ev (fun k => impl_GoodField.f k s A B a b l) (rulesOk s A B && fieldOk a b l s) := by
    unfold impl_GoodField.f
    exact Ev.bind (rules_impl s A B hA hB hoA hoB) (Ev.and (fun _ => Ev.bind (field_impl a b l s hl) (Ev.now _)))
  unfold spec_FillField.f impl_FillField.f
  refine Both.bind (P := fun c => c = (rulesOk s A B && fieldOk a b l s)) ⟨_, rfl, gs, gi⟩ (fun c hc => ?_)
  refine Both.ite (fun h => ?_) (fun h => Both.now _ (no6 _ _))
  rw [h] at hc
  have F := fine hoA hoB hc.symm
  have h36 := F.h36
  refine Both.bind (P := fun _ => True) ⟨_, trivial, holds_spec F, holds_impl F⟩ (fun c _ => ?_)
  refine Both.ite (fun h => ?_) (fun h => Both.now _ (no6 _ _))
  have ho : spec_l14Own.f a b l = some (a, b, l) := by
    unfold spec_l14Own.f
    rw [Option.bind_some, if_pos (by simp; omega)]
    rfl
  have hcl : slices_Clone_int_int.f l = some l := by
    unfold slices_Clone_int_int.f
    rw [Option.bind_some, if_pos (by simp; omega)]
    rfl
  exact Both.cbind2 ho hcl (open_both F l.length 0 [] (by omega) (by simp) (by simp))
theorem eq_filled (r : R6) (hr : Q6 r) : Ev (fun k => laws_eqFilled.f k r.1 r.2.1 r.2.2.1 r.2.2.2.1 r.2.2.2.2.1 r.1 r.2.1 r.2.2.1 r.2.2.2.1 r.2.2.2.2.1) true := by
  have hr : r.2.2.2.1.length ≤ 36 := hr
  exact Ev.neg (by simp) (Ev.bind (eq_field _ _ _ (by omega)) (Ev.pos rfl (Ev.pos rfl (Ev.now _))))
theorem FnExactFillField : laws_FnExactFillField.Pure := by
  intro s A B a b l _ ⟨hA, hAs⟩ ⟨hB, hBs⟩ _ _ ⟨hl, _⟩
  have hoA : ∀ e ∈ A, e.length ≤ maxLen := fun e he => (hAs e he).1
  have hoB : ∀ e ∈ B, e.length ≤ maxLen := fun e he => (hBs e he).1
  refine Ev.rounds (r := true) ?_
  unfold laws_FnExactFillField.f
  obtain ⟨t, htl, ht, he⟩ := sz_rules s A B hA hB hoA hoB
  refine Ev.bind he (Ev.ite (fun _ => Ev.now _) (fun h => ?_))
  have hr := ht h
  refine Ev.const_bind (sz_field a b l (by omega) htl hl) (Ev.ite (fun _ => Ev.now _) (fun h2 => ?_))
  have hn : (l.length : Int) ≤ 1048576 := by have := (roomLeft_ok h2).1; omega
  have tk := to_rules s A B hr
  have tf := to_field a b l hn
  obtain ⟨r, hr6, b1, b2⟩ := both s A B a b l hA hB hoA hoB hl
  have hq := eq_filled r hr6
  have hr6 : r.2.2.2.1.length ≤ 36 := hr6
  obtain ⟨t, xs, ys, t1, t2, hm⟩ := mark_rules s A B hr
  obtain ⟨u, zs, u1, hm2⟩ := mark_field a b l t t1 t2 hn
  have hk : Ev (fun k => laws_markFilled.f k r.1 r.2.1 r.2.2.1 r.2.2.2.1 r.2.2.2.2.1 1) (1 + (r.2.2.2.1.length : Int), marks r.2.2.2.1.length 1) :=
    Ev.bind (Ev.bind (mark_ints r.2.2.2.1 (by omega)) (Ev.now _)) (Ev.now _)
  have hh : Ev (fun k => laws_heldFilled.f k r.1 r.2.1 r.2.2.1 (marks r.2.2.2.1.length 1) r.2.2.2.2.1 1) (1 + (r.2.2.2.1.length : Int)) :=
    Ev.bind (Ev.bind (held_ints r.2.2.2.1.length (by omega)) (Ev.neg (by omega) (Ev.now _))) (Ev.neg (by omega) (Ev.now _))
  exact Ev.bind tk (Ev.bind tf (Ev.bind b1 (Ev.bind tk (Ev.bind tf (Ev.bind b2 (Ev.bind hq (Ev.pos rfl (Ev.pos rfl (Ev.bind tk (Ev.bind (eq_rules s A B hr) (Ev.pos rfl (Ev.bind tf (Ev.bind (eq_field a b l hn) (Ev.pos rfl (Ev.bind hm (Ev.bind hm2 (Ev.pos (by show ¬ u < 0; omega) (Ev.bind hq (Ev.pos rfl (Ev.pos rfl (Ev.bind hk (Ev.bind hh (Ev.pos (by omega) (Ev.pos rfl (Ev.bind tk (Ev.bind tf (Ev.bind b2 (Ev.bind hq (Ev.pos rfl (Ev.pos rfl (Ev.bind hh (Ev.pos (by omega) (Ev.pos rfl (Ev.now _))))))))))))))))))))))))))))))))))

end Go.Proofs.Ytblmejanjhmjdaa.Pure
