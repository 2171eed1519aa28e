/- GoodBinds: the pure statement of the law: the program's answer is the reference's, for all binds. -/
import Derived.Test.YtjaljjdmolhhpaaXFnExactGoodBindsx6
import Derived.Test.YtjaljjdmolhhpaaXLibGoodBinds
namespace Go.Proofs.Ytjaljjdmolhhpaa.Pure
open Go.RowKit Go.Proofs.Ytjaljjdmolhhpaa.XFnExactGoodBinds Go.Proofs.YtjaljjdmolhhpaaW.PrintWords Go.Proofs.YtjaljjdmolhhpaaW.PrintLast Go.Proofs.YtjaljjdmolhhpaaW.PrintMore Go.Proofs.Ytjaljjdmolhhpaa.X
set_option linter.unusedVariables false
set_option linter.unusedSimpArgs false

theorem in_spec (a b c : Int) : spec_l1In.f a b c = some (decide (b ≤ a) && decide (a ≤ c)) := by
  unfold spec_l1In.f
  by_cases h : b ≤ a <;> simp [h]
theorem in_impl (a b c : Int) : impl_inRange.f a b c = some (decide (b ≤ a) && decide (a ≤ c)) := by
  unfold impl_inRange.f
  by_cases h : b ≤ a <;> simp [h]
/-! names: letters, digits, '_', no digit first, 1 to 20 -/
def isDig (c : Int) : Bool := decide (48 ≤ c) && decide (c ≤ 57)
def isLet (c : Int) : Bool := (decide (97 ≤ c) && decide (c ≤ 122)) || (decide (65 ≤ c) && decide (c ≤ 90))
def nameOk (s : ByteArray) : Bool := (decide (1 ≤ s.size) && decide (s.size ≤ 20)) && allFrom (fun i => isLet (bt s i) || bt s i == 95 || (i != 0 && isDig (bt s i))) s.size 0
theorem dig_spec (c : Int) : spec_l1Digit.f c = some (isDig c) := by
  unfold spec_l1Digit.f isDig
  by_cases h : 48 ≤ c <;> simp [h]
theorem dig_impl (c : Int) : impl_isDigit.f c = some (isDig c) := by
  unfold impl_isDigit.f isDig
  by_cases h : 48 ≤ c <;> simp [h]
theorem let_spec (c : Int) : spec_l1Letter.f c = some (isLet c || c == 95) := by
  unfold spec_l1Letter.f isLet
  by_cases h1 : 97 ≤ c <;> by_cases h2 : c ≤ 122 <;> by_cases h3 : 65 ≤ c <;> by_cases h4 : c ≤ 90 <;> simp [h1, h2, h3, h4]
theorem let_impl (c : Int) : impl_isLetter.f c = some (isLet c) := by
  unfold impl_isLetter.f isLet
  by_cases h1 : 97 ≤ c <;> by_cases h2 : c ≤ 122 <;> by_cases h3 : 65 ≤ c <;> by_cases h4 : c ≤ 90 <;> simp [h1, h2, h3, h4]
theorem let_not_dig (c : Int) (h : isDig c = true) : (isLet c || c == 95) = false := by
  unfold isDig at h
  unfold isLet
  simp at h ⊢
  omega
theorem name_spec_l (s : ByteArray) (hs : s.size ≤ maxLen) : ∀ m i : Nat, i + m = s.size → Ev (fun k => spec_GoodName.l0 k s (i : Int)) (allFrom (fun i => isLet (bt s i) || bt s i == 95 || isDig (bt s i)) m i) := by
  rw [maxLen_eq] at hs
  intro m
  induction m with
  | zero => exact fun i hi => Ev.step (fun k => spec_GoodName.l0.eq_2 _ _ k) (Ev.neg (by omega) (Ev.now _))
  | succ m ih =>
    intro i hi
    refine Ev.step (fun k => spec_GoodName.l0.eq_2 _ _ k) (Ev.pos (by omega) (Ev.pos (by omega) (Ev.const_bind (let_spec _) ?_)))
    rw [w64 (by omega) (by omega), allFrom]
    cases h : (isLet (bt s i) || bt s i == 95) with
    | true => exact Ev.pos rfl (Ev.cast (ih (i + 1) (by omega)) (by simp))
    | false =>
      refine Ev.neg (by decide) (Ev.const_bind (dig_spec _) ?_)
      rw [Bool.false_or]
      exact Ev.and (fun _ => ih (i + 1) (by omega))
theorem name_spec (s : ByteArray) (hs : s.size ≤ maxLen) : Ev (fun k => spec_GoodName.f k s) (nameOk s) := by
  have hj : ∀ b, Ev (fun k => spec_GoodName.j0 k s b) (!b && allFrom (fun i => isLet (bt s i) || bt s i == 95 || isDig (bt s i)) s.size 0) := fun b =>
    Ev.step (fun k => spec_GoodName.j0.eq_2 _ _ k) (Ev.andn (fun _ => name_spec_l s hs s.size 0 (by omega)))
  unfold spec_GoodName.f
  refine Ev.ite (fun h => Ev.cast (hj true) ?_) (fun h => Ev.ite (fun h2 => Ev.cast (hj true) ?_) (fun h2 => Ev.pos (by omega) (Ev.const_bind (dig_spec _) (Ev.cast (hj _) ?_))))
  · simp only [nameOk, decide_eq_false (show ¬ 1 ≤ s.size by omega), Bool.false_and, Bool.not_true]
  · simp only [nameOk, decide_eq_false (show ¬ s.size ≤ 20 by omega), Bool.and_false, Bool.false_and, Bool.not_true]
  · obtain ⟨n, hn⟩ : ∃ n, s.size = n + 1 := ⟨s.size - 1, by omega⟩
    simp only [nameOk, hn, decide_eq_true (show 1 ≤ n + 1 by omega), decide_eq_true (show n + 1 ≤ 20 by omega), Bool.true_and, allFrom]
    rw [allFrom_congr (p := fun i => isLet (bt s i) || bt s i == 95 || isDig (bt s i)) (q := fun i => isLet (bt s i) || bt s i == 95 || (i != 0 && isDig (bt s i))) n (0 + 1) (fun j h1 _ => by
      have : (j != 0) = true := by rw [bne_iff_ne]; omega
      simp only [this, Bool.true_and])]
    rw [show ((0 : Nat) : Int) = 0 from rfl, show ((0 : Nat) != 0) = false from rfl, Bool.false_and, Bool.or_false, ← Bool.and_assoc]
    cases hd : isDig (bt s 0) with
    | true => rw [let_not_dig _ hd]; rfl
    | false => rw [Bool.or_false, Bool.not_false, Bool.true_and]
theorem name_impl (s : ByteArray) (hs : s.size ≤ maxLen) : Ev (fun k => impl_GoodName.f k s) (nameOk s) := by
  rw [maxLen_eq] at hs
  have key : ∀ m i : Nat, i + m = s.size → Ev (fun k => impl_GoodName.l0 k s (s.size : Int) (i : Int)) ((decide (1 ≤ s.size) && decide (s.size ≤ 20)) && allFrom (fun i => isLet (bt s i) || bt s i == 95 || (i != 0 && isDig (bt s i))) m i) := by
    intro m
    induction m with
    | zero =>
      intro i hi
      refine Ev.step (fun k => impl_GoodName.l0.eq_2 _ _ _ k) (Ev.neg (by omega) (Ev.const_bind (in_impl _ _ _) (Ev.cast (Ev.now _) ?_)))
      rw [allFrom, Bool.and_true]
      congr 1 <;> exact decide_eq_decide.2 (by omega)
    | succ m ih =>
      intro i hi
      refine Ev.step (fun k => impl_GoodName.l0.eq_2 _ _ _ k) (Ev.pos (by omega) (Ev.pos (by omega) (Ev.pos (by omega) (Ev.const_bind (let_impl _) ?_))))
      rw [w64 (by omega) (by omega), allFrom]
      cases h : isLet (bt s i) with
      | true => exact Ev.pos rfl (Ev.cast (ih (i + 1) (by omega)) (by simp))
      | false =>
        refine Ev.neg (by decide) (Ev.ite (fun h5 => Ev.cast (ih (i + 1) (by omega)) (by simp [h5])) (fun h5 => Ev.ite (fun h0 => Ev.cast (Ev.now _) ?_) (fun h0 => Ev.const_bind (dig_impl _) ?_)))
        · have h0' : (i != 0) = false := by rw [bne_eq_false_iff_eq]; omega
          have h5' : (bt s (i : Int) == 95) = false := beq_eq_false_iff_ne.2 h5
          simp only [h5', h0', Bool.false_or, Bool.false_and, Bool.and_false]
        · have h0' : (i != 0) = true := by rw [bne_iff_ne]; omega
          have h5' : (bt s (i : Int) == 95) = false := beq_eq_false_iff_ne.2 h5
          simp only [h5', Bool.false_or, h0', Bool.true_and]
          cases hd : isDig (bt s i) with
          | true => exact Ev.pos rfl (Ev.cast (ih (i + 1) (by omega)) (by simp))
          | false => exact Ev.neg (by decide) (Ev.cast (Ev.now _) (by simp))
  exact key s.size 0 (by omega)
/-! chords -/
def chordAt (l : List Int) (i : Nat) : Bool := (decide (0 ≤ rd l (i : Int)) && decide (rd l (i : Int) ≤ 99)) && (if i = 0 then true else !decide (rd l ((i : Int) - 1) ≥ rd l (i : Int)))
def chordOk (l : List Int) : Bool := (decide (1 ≤ l.length) && decide (l.length ≤ 4)) && allFrom (chordAt l) l.length 0
theorem chord_spec (l : List Int) (hl : l.length ≤ maxLen) : Ev (fun k => spec_l17Chord.f k l) (chordOk l) := by
  rw [maxLen_eq] at hl
  have key : ∀ m i : Nat, i + m = l.length → Ev (fun k => spec_l17Chord.l0 k l l (l.length : Int) (i : Int)) (allFrom (chordAt l) m i) := by
    intro m
    induction m with
    | zero => exact fun i hi => Ev.step (fun k => spec_l17Chord.l0.eq_2 _ _ _ _ k) (Ev.neg (by omega) (Ev.now _))
    | succ m ih =>
      intro i hi
      refine Ev.step (fun k => spec_l17Chord.l0.eq_2 _ _ _ _ k) (Ev.pos (by omega) (Ev.pos (by omega) (Ev.pos (by omega) (Ev.const_bind (in_spec _ _ _) ?_))))
      rw [allFrom, chordAt, w_succ (by omega), Bool.and_assoc (_ && _)]
      refine Ev.and (fun _ => ?_)
      by_cases h0 : i = 0
      · rw [if_pos h0, Bool.true_and]
        exact Ev.neg (by omega) (ih (i + 1) (by omega))
      · rw [if_neg h0, w_pred (by omega)]
        refine Ev.pos (by omega) (Ev.pos (by omega) (Ev.pos (by omega) ?_))
        by_cases hg : rd l ((i : Int) - 1) ≥ rd l (i : Int)
        · rw [decide_eq_true hg]; exact Ev.pos hg (Ev.now _)
        · rw [decide_eq_false hg]; exact Ev.neg hg (ih (i + 1) (by omega))
  have hj : ∀ b, Ev (fun k => spec_l17Chord.j0 k l b) (!b && allFrom (chordAt l) l.length 0) := fun b => Ev.step (fun k => spec_l17Chord.j0.eq_2 _ _ k) (Ev.andn (fun _ => key l.length 0 (by omega)))
  unfold spec_l17Chord.f chordOk
  by_cases h : 1 ≤ l.length
  · refine Ev.neg (by omega) (Ev.cast (hj _) ?_)
    rw [decide_eq_true h, Bool.true_and]
    congr 1
    by_cases h2 : l.length ≤ 4
    · rw [decide_eq_true h2, decide_eq_false (by omega)]; rfl
    · rw [decide_eq_false h2, decide_eq_true (by omega)]; rfl
  · refine Ev.pos (by omega) (Ev.cast (hj _) ?_)
    rw [decide_eq_false h]; rfl
theorem chord_impl (l : List Int) (hl : l.length ≤ maxLen) : Ev (fun k => impl_isChord.f k l) (chordOk l) := by
  rw [maxLen_eq] at hl
  have key : ∀ m i : Nat, i + m = l.length → Ev (fun k => impl_isChord.l0 k l l (l.length : Int) (i : Int)) (allFrom (chordAt l) m i && (decide (1 ≤ l.length) && decide (l.length ≤ 4))) := by
    intro m
    induction m with
    | zero =>
      intro i hi
      refine Ev.step (fun k => impl_isChord.l0.eq_2 _ _ _ _ k) (Ev.neg (by omega) (Ev.const_bind (in_impl _ _ _) (Ev.cast (Ev.now _) ?_)))
      rw [allFrom, Bool.true_and]
      congr 1 <;> exact decide_eq_decide.2 (by omega)
    | succ m ih =>
      intro i hi
      refine Ev.step (fun k => impl_isChord.l0.eq_2 _ _ _ _ k) (Ev.pos (by omega) (Ev.pos (by omega) (Ev.pos (by omega) (Ev.const_bind (show impl_isKey.f _ = some _ by unfold impl_isKey.f; rw [in_impl]; rfl) ?_))))
      rw [allFrom, chordAt, w_succ (by omega)]
      generalize hL : (decide (1 ≤ l.length) && decide (l.length ≤ 4)) = L at ih ⊢
      rw [Bool.and_assoc (_ && _), Bool.and_assoc (_ && _)]
      refine Ev.and (fun _ => ?_)
      by_cases h0 : i = 0
      · rw [if_pos h0, Bool.true_and]
        exact Ev.neg (by omega) (ih (i + 1) (by omega))
      · rw [if_neg h0, w_pred (by omega)]
        refine Ev.pos (by omega) (Ev.pos (by omega) (Ev.pos (by omega) ?_))
        by_cases hg : rd l ((i : Int) - 1) ≥ rd l (i : Int)
        · rw [decide_eq_true hg]; exact Ev.pos hg (Ev.now _)
        · rw [decide_eq_false hg]; exact Ev.neg hg (ih (i + 1) (by omega))
  unfold impl_isChord.f chordOk
  exact Ev.cast (key l.length 0 (by omega)) (Bool.and_comm _ _)
abbrev Bd := S145
abbrev rB (l : List Bd) (i : Int) : Bd := rd_T145 l i
theorem rdB {L : List Bd} {i : Nat} (h : i < L.length) : rB L (i : Int) = L[i] := rdOf_get (d := z145) h
def bindAt (l : List Bd) (i : Nat) : Bool := nameOk (rB l (i : Int)).f0 && (chordOk (rB l (i : Int)).f1 && ((if i = 0 then true else Op.bytesLess (rB l ((i : Int) - 1)).f0.toList (rB l (i : Int)).f0.toList) && !((l.take i).any fun o => decide (o.f1 = (rB l (i : Int)).f1))))
def bindsOk (l : List Bd) : Bool := decide (l.length ≤ 20) && allFrom (bindAt l) l.length 0
def BOk (z : Bd) : Prop := z.f0.size ≤ maxLen ∧ z.f1.length ≤ maxLen
theorem same_spec (a b : List Int) (ha : a.length ≤ maxLen) : Ev (fun k => spec_l17Same.f k a b) (decide (a = b)) :=
  sameInts_ev spec_l17Same.l0 (fun k x y n i => spec_l17Same.l0.eq_2 _ _ _ _ k) a b ha
theorem same_impl (a b : List Int) (ha : a.length ≤ maxLen) : Ev (fun k => slices_Equal_int_int.f k a b) (decide (a = b)) :=
  sameInts_ev slices_Equal_int_int.l0 (fun k x y n i => slices_Equal_int_int.l0.eq_2 _ _ _ _ k) a b ha
theorem binds_spec (l : List Bd) (hl : l.length ≤ maxLen) (ho : ∀ z ∈ l, BOk z) : Ev (fun k => spec_GoodBinds.f k l) (bindsOk l) := by
  rw [maxLen_eq] at hl
  have inner : ∀ (i : Nat) (nm : ByteArray) (ch : List Int) (R : Bool), Ev (fun k => spec_GoodBinds.l0 k l l (l.length : Int) (wrap64 ((i : Int) + 1))) R → ∀ (Y : List Bd), (∀ z ∈ Y, BOk z) → Y.length ≤ 9223372036854775807 → ∀ m j : Nat, j + m = Y.length → Ev (fun k => spec_GoodBinds.l1 k l l (l.length : Int) (i : Int) Y (Y.length : Int) (j : Int) nm ch) (!((Y.drop j).any fun o => decide (o.f1 = ch)) && R) := by
    intro i nm ch R hR Y hY hYl m
    induction m with
    | zero =>
      intro j hj
      rw [List.drop_of_length_le (by omega)]
      exact Ev.step (fun k => spec_GoodBinds.l1.eq_2 _ _ _ _ _ _ _ _ _ k) (Ev.neg (by omega) (Ev.cast hR (by simp)))
    | succ m ih =>
      intro j hj
      have hj' : j < Y.length := by omega
      refine Ev.step (fun k => spec_GoodBinds.l1.eq_2 _ _ _ _ _ _ _ _ _ k) (Ev.pos (by omega) (Ev.pos (by omega) (Ev.pos (by omega) ?_)))
      rw [List.drop_eq_getElem_cons hj', List.any_cons, w_succ (by omega)]
      have e : rd_T145 Y (j : Int) = Y[j] := rdB hj'
      rw [e]
      refine Ev.bind (same_spec _ ch (hY _ (List.getElem_mem _)).2) ?_
      cases hd : decide (Y[j].f1 = ch) with
      | true => exact Ev.pos rfl (Ev.now _)
      | false => exact Ev.neg (by decide) (by rw [Bool.false_or]; exact ih (j + 1) (by omega))
  have key : ∀ m i : Nat, i + m = l.length → Ev (fun k => spec_GoodBinds.l0 k l l (l.length : Int) (i : Int)) (allFrom (bindAt l) m i) := by
    intro m
    induction m with
    | zero => exact fun i hi => Ev.step (fun k => spec_GoodBinds.l0.eq_2 _ _ _ _ k) (Ev.neg (by omega) (Ev.now _))
    | succ m ih =>
      intro i hi
      have hi' : i < l.length := by omega
      have ok := ho _ (List.getElem_mem hi')
      rw [← rdB hi'] at ok
      have hR : Ev (fun k => spec_GoodBinds.l0 k l l (l.length : Int) (wrap64 ((i : Int) + 1))) (allFrom (bindAt l) m (i + 1)) := by rw [w_succ (by omega)]; exact ih (i + 1) (by omega)
      have hj : ∀ b, Ev (fun k => spec_GoodBinds.j1 k l (i : Int) l (l.length : Int) (i : Int) b (rB l (i : Int)).f0 (rB l (i : Int)).f1) (!b && (!((l.take i).any fun o => decide (o.f1 = (rB l (i : Int)).f1)) && allFrom (bindAt l) m (i + 1))) := fun b => by
        refine Ev.step (fun k => spec_GoodBinds.j1.eq_2 _ _ _ _ _ _ _ _ k) (Ev.andn (fun _ => Ev.pos (by omega) (Ev.pos (by omega) (Ev.some_bind ?_))))
        rw [Int.toNat_natCast]
        have h := inner i (rB l (i : Int)).f0 (rB l (i : Int)).f1 _ hR (l.take i) (fun z hz => ho z (List.mem_of_mem_take hz)) (by rw [List.length_take]; omega) (l.take i).length 0 (by omega)
        rw [List.drop_zero] at h
        exact h
      refine Ev.step (fun k => spec_GoodBinds.l0.eq_2 _ _ _ _ k) (Ev.pos (by omega) (Ev.pos (by omega) (Ev.pos (by omega) ?_)))
      have n1 := name_spec (rB l (i : Int)).f0 ok.1
      have c1 := chord_spec (rB l (i : Int)).f1 ok.2
      rw [allFrom, bindAt]
      cases hn : nameOk (rB l (i : Int)).f0 with
      | false => rw [hn] at n1; exact Ev.bind n1 (Ev.neg (by decide) (Ev.cast (hj true) (by simp)))
      | true =>
        rw [hn] at n1
        refine Ev.bind n1 (Ev.pos rfl ?_)
        cases hc : chordOk (rB l (i : Int)).f1 with
        | false => rw [hc] at c1; exact Ev.bind c1 (Ev.neg (by decide) (Ev.cast (hj true) (by simp)))
        | true =>
          rw [hc] at c1
          refine Ev.bind c1 (Ev.pos rfl ?_)
          by_cases h0 : i = 0
          · rw [if_pos h0]
            exact Ev.neg (by omega) (Ev.cast (hj false) (by simp))
          · rw [if_neg h0, w_pred (by omega)]
            refine Ev.pos (by omega) (Ev.pos (by omega) (Ev.pos (by omega) (Ev.cast (hj _) ?_)))
            simp [Bool.and_assoc]
  unfold spec_GoodBinds.f bindsOk
  by_cases h : l.length ≤ 20
  · exact Ev.neg (by omega) (Ev.cast (key l.length 0 (by omega)) (by rw [decide_eq_true h, Bool.true_and]))
  · exact Ev.pos (by omega) (Ev.cast (Ev.now _) (by rw [decide_eq_false h]; rfl))
theorem place_impl (l : List Bd) (hl : l.length ≤ maxLen) (ho : ∀ z ∈ l, BOk z) (c : List Int) : Ev (fun k => impl_chordPlace.f k l c) (idxP (fun z : Bd => decide (z.f1 = c)) l) := by
  have h := index_ev z145 (fun k z => impl_chordPlace_1_captured.f k z.f0 z.f1 c) (fun z : Bd => decide (z.f1 = c)) (slices_IndexFunc_impl_Bind_impl_Bind_at_impl_chordPlace_1.l0 c) (fun k x n i => slices_IndexFunc_impl_Bind_impl_Bind_at_impl_chordPlace_1.l0.eq_2 _ _ _ _ k) l hl (fun z hz => by unfold impl_chordPlace_1_captured.f; exact Ev.bind (same_impl _ c (ho z hz).2) (Ev.now _))
  unfold impl_chordPlace.f slices_IndexFunc_impl_Bind_impl_Bind_at_impl_chordPlace_1.f
  exact Ev.bind h (Ev.now _)
theorem binds_impl (l : List Bd) (hl : l.length ≤ maxLen) (ho : ∀ z ∈ l, BOk z) : Ev (fun k => impl_GoodBinds.f k l) (bindsOk l) := by
  have hl' := hl
  rw [maxLen_eq] at hl
  have key : ∀ m i : Nat, i + m = l.length → Ev (fun k => impl_GoodBinds.l0 k l l (l.length : Int) (i : Int)) (allFrom (bindAt l) m i && decide (l.length ≤ 20)) := by
    intro m
    induction m with
    | zero => exact fun i hi => Ev.step (fun k => impl_GoodBinds.l0.eq_2 _ _ _ _ k) (Ev.neg (by omega) (Ev.cast (Ev.now _) (by rw [allFrom, Bool.true_and]; exact decide_eq_decide.2 (by omega))))
    | succ m ih =>
      intro i hi
      have hi' : i < l.length := by omega
      have ok := ho _ (List.getElem_mem hi')
      rw [← rdB hi'] at ok
      have n1 := name_impl (rB l (i : Int)).f0 ok.1
      have c1 := chord_impl (rB l (i : Int)).f1 ok.2
      have p1 := place_impl l hl' ho (rB l (i : Int)).f1
      have hp := idxP_first (fun z : Bd => decide (z.f1 = (rB l (i : Int)).f1)) l i hi' (by rw [← rdB hi']; simp)
      have tail : Ev (fun k => (impl_isChord.f k (rB l (i : Int)).f1).bind fun t => if t = true then ((impl_chordPlace.f k l (rB l (i : Int)).f1).bind fun t => if t = (i : Int) then impl_GoodBinds.l0 k l l (l.length : Int) (wrap64 ((i : Int) + 1)) else some false) else some false) (chordOk (rB l (i : Int)).f1 && (!((l.take i).any fun o => decide (o.f1 = (rB l (i : Int)).f1)) && (allFrom (bindAt l) m (i + 1) && decide (l.length ≤ 20)))) := by
        refine Ev.bind c1 (Ev.and (fun _ => Ev.bind p1 ?_))
        rw [w_succ (by omega)]
        cases ha : ((l.take i).any fun o => decide (o.f1 = (rB l (i : Int)).f1)) with
        | true => exact Ev.neg (fun h => by rw [hp.1 h] at ha; cases ha) (Ev.now _)
        | false => exact Ev.pos (hp.2 ha) (Ev.cast (ih (i + 1) (by omega)) (by simp))
      refine Ev.step (fun k => impl_GoodBinds.l0.eq_2 _ _ _ _ k) (Ev.pos (by omega) (Ev.pos (by omega) (Ev.pos (by omega) (Ev.bind n1 ?_))))
      rw [allFrom, bindAt]
      cases hn : nameOk (rB l (i : Int)).f0 with
      | false => exact Ev.neg (by decide) (Ev.now _)
      | true =>
        refine Ev.pos rfl ?_
        by_cases h0 : i = 0
        · rw [if_pos h0]
          exact Ev.neg (by omega) (Ev.cast tail (by simp [Bool.and_assoc]))
        · rw [if_neg h0, w_pred (by omega)]
          refine Ev.pos (by omega) (Ev.pos (by omega) (Ev.pos (by omega) ?_))
          cases hb : Op.bytesLess (rB l ((i : Int) - 1)).f0.toList (rB l (i : Int)).f0.toList with
          | true => exact Ev.pos rfl (Ev.cast tail (by simp [Bool.and_assoc]))
          | false => exact Ev.neg (by decide) (Ev.cast (Ev.now _) (by simp))
  unfold impl_GoodBinds.f bindsOk
  exact Ev.cast (key l.length 0 (by omega)) (Bool.and_comm _ _)
theorem to_ints (l : List Int) (hl : (l.length : Int) ≤ 1048576) : Ev (fun k => laws_toIntS.f k l) l := by
  have h := toS_ev (0 : Int) (id : Int → Int) 0 laws_toIntS.l0 (fun k x y i => laws_toIntS.l0.eq_2 x y i k) l (by omega)
  rw [List.map_id] at h
  exact Ev.pos (by omega) (Ev.pos (by omega) h)
theorem eq_ints (l : List Int) (hl : (l.length : Int) ≤ 1048576) : Ev (fun k => laws_eqIntS.f k l l) true :=
  eqInt_ev laws_eqIntS.l0 (fun k x y i => laws_eqIntS.l0.eq_2 x y i k) l (by rw [maxLen_eq]; omega)
theorem sz_binds (l : List S144) (hl : l.length ≤ maxLen) (hs : ∀ z ∈ l, z.f0.size ≤ maxLen ∧ z.f1.length ≤ maxLen) {a : Int} (h0 : 0 ≤ a) (h1 : a ≤ 1048576) : ∃ t, t ≤ 1048576 ∧ (¬ t < 0 → (l.length : Int) ≤ 1048576 ∧ ∀ z ∈ l, (z.f1.length : Int) ≤ 1048576) ∧ Ev (fun k => laws_szBindS.f k l a) t := by
  unfold laws_szBindS.f
  have e := sz_left (n := l.length) h0 h1 hl
  rw [maxLen_eq] at hl
  by_cases hn : wrap64 (a - (l.length : Int)) < 0
  · exact ⟨-1, by omega, by omega, Ev.pos hn (Ev.now _)⟩
  · rw [if_neg hn] at e
    have e := Option.some.inj e
    rw [e] at hn ⊢
    have hr := (roomLeft_ok hn).1
    obtain ⟨t, ht, hts, he⟩ := sizesP_ev (fun z : S144 => (z.f1.length : Int) ≤ 1048576) z144 (fun _ z r => laws_szBind.f z.f0 z.f1 r) laws_szBindS.l0 (fun k x r i => laws_szBindS.l0.eq_2 x r i k) l (by omega)
      (fun z hz r h0 h1 => by
        have e2 := sz_left (n := z.f0.size) h0 h1 (hs z hz).1
        unfold laws_szBind.f
        by_cases hm : wrap64 (r - (z.f0.size : Int)) < 0
        · exact ⟨-1, by omega, fun h => absurd (by omega) h, Ev.pos hm (Ev.now _)⟩
        · rw [if_neg hm] at e2
          have e2 := Option.some.inj e2
          rw [e2] at hm ⊢
          have hm' := roomLeft_ok hm
          refine ⟨roomLeft z.f1.length (roomLeft z.f0.size r), roomLeft_le (roomLeft_le h1), fun h => ?_, Ev.neg hm (Ev.const_bind (sz_left (by omega) (roomLeft_le h1) (hs z hz).2) (Ev.mk fun _ => room_again _ _))⟩
          have := (roomLeft_ok h).1
          omega) (roomLeft l.length a) (by omega) (roomLeft_le h1)
    exact ⟨t, ht, fun h => ⟨by omega, hts h⟩, Ev.neg hn he⟩
def asBind (b : S144) : S145 := ⟨b.f0, b.f1⟩
theorem to_binds (l : List S144) (hl : (l.length : Int) ≤ 1048576) (hs : ∀ z ∈ l, (z.f1.length : Int) ≤ 1048576) : Ev (fun k => laws_toBindS.f k l) (l.map asBind) := by
  have ht := toK_ev z145 asBind z144 (fun k z => (laws_toBind.f k z.f0 z.f1).bind fun t => some (⟨t.1, t.2⟩ : S145)) laws_toBindS.l0 (fun k x y i => by
      rw [laws_toBindS.l0]
      split
      · split
        · simp only [Option.bind_assoc, Option.bind_some]; rfl
        · rfl
      · rfl) l (by omega) (fun z hz => Ev.bind (Ev.bind (to_ints z.f1 (hs z hz)) (Ev.now _)) (Ev.now _))
  unfold laws_toBindS.f
  exact Ev.pos (by omega) (Ev.pos (by omega) ht)
theorem eq_binds (l : List S145) (hl : (l.length : Int) ≤ 1048576) (hs : ∀ z ∈ l, (z.f1.length : Int) ≤ 1048576) : Ev (fun k => laws_eqBindS.f k l l) true := by
  unfold laws_eqBindS.f
  exact eqK_ev z145 (fun k a b => laws_eqBind.f k a.f0 a.f1 b.f0 b.f1) laws_eqBindS.l0 (fun k x y i => laws_eqBindS.l0.eq_2 x y i k) l (by rw [maxLen_eq]; omega) (fun a ha => Ev.pos rfl (Ev.bind (eq_ints a.f1 (hs a ha)) (Ev.pos rfl (Ev.now _))))
theorem FnExactGoodBinds : laws_FnExactGoodBinds.Pure := by
  intro l ⟨hl, hs⟩
  have hs' : ∀ z ∈ l, z.f0.size ≤ maxLen ∧ z.f1.length ≤ maxLen := fun z hz => ⟨(hs z hz).1, (hs z hz).2.1⟩
  refine Ev.rounds (r := true) ?_
  unfold laws_FnExactGoodBinds.f
  obtain ⟨t, _, ht, he⟩ := sz_binds l hl hs' (a := 1048576) (by omega) (by omega)
  refine Ev.bind he (Ev.ite (fun _ => Ev.now _) (fun h => ?_))
  obtain ⟨hn, hns⟩ := ht h
  have tk := to_binds l hn hns
  have hxs : ∀ z ∈ l.map asBind, BOk z := by
    intro z hz
    obtain ⟨y, hy, rfl⟩ := List.mem_map.1 hz
    exact hs' y hy
  have hxn : ∀ z ∈ l.map asBind, (z.f1.length : Int) ≤ 1048576 := by
    intro z hz
    obtain ⟨y, hy, rfl⟩ := List.mem_map.1 hz
    exact hns y hy
  generalize hx : l.map asBind = xs at tk hxs hxn
  have hxl : (xs.length : Int) ≤ 1048576 := by rw [← hx, List.length_map]; omega
  have hxm : xs.length ≤ maxLen := by rw [maxLen_eq]; omega
  exact Ev.bind tk (Ev.bind (binds_spec xs hxm hxs) (Ev.bind tk (Ev.bind (binds_impl xs hxm hxs) (Ev.neg (by simp) (Ev.bind tk (Ev.bind (eq_binds xs hxl hxn) (Ev.pos rfl (Ev.now _))))))))

end Go.Proofs.Ytjaljjdmolhhpaa.Pure
