/- Rebind: the pure statement of the law: the program's answer is the reference's, for all binds, names and chords. -/
import Derived.Test.YtfgdfnnddoncjaaXFnExactRebindx10
import Derived.Test.YtfgdfnnddoncjaaXLibRebind
namespace Go.Proofs.Ytfgdfnnddoncjaa.Pure
open Go.RowKit Go.Proofs.Ytfgdfnnddoncjaa.XFnExactRebind Go.Proofs.YtfgdfnnddoncjaaW.PrintWords Go.Proofs.YtfgdfnnddoncjaaW.PrintLast Go.Proofs.YtfgdfnnddoncjaaW.PrintMore Go.Proofs.Ytfgdfnnddoncjaa.X
set_option linter.unusedVariables false
set_option linter.unusedSimpArgs false

theorem in_spec (a b c : Int) : spec_l1In.f a b c = some (decide (b ≤ a) && decide (a ≤ c)) := by
  unfold spec_l1In.f
  by_cases h : b ≤ a <;> simp [h]
theorem in_impl (a b c : Int) : impl_inRange.f a b c = some (decide (b ≤ a) && decide (a ≤ c)) := by
  unfold impl_inRange.f
  by_cases h : b ≤ a <;> simp [h]
/-! names: letters, digits, '_', no digit first, 1 to 20 -/
def isDig (c : Int) : Bool := decide (48 ≤ c) && decide (c ≤ 57)
def isLet (c : Int) : Bool := (decide (97 ≤ c) && decide (c ≤ 122)) || (decide (65 ≤ c) && decide (c ≤ 90))
def nameOk (s : ByteArray) : Bool := (decide (1 ≤ s.size) && decide (s.size ≤ 20)) && allFrom (fun i => isLet (bt s i) || bt s i == 95 || (i != 0 && isDig (bt s i))) s.size 0
theorem dig_spec (c : Int) : spec_l1Digit.f c = some (isDig c) := by
  unfold spec_l1Digit.f isDig
  by_cases h : 48 ≤ c <;> simp [h]
theorem dig_impl (c : Int) : impl_isDigit.f c = some (isDig c) := by
  unfold impl_isDigit.f isDig
  by_cases h : 48 ≤ c <;> simp [h]
theorem let_spec (c : Int) : spec_l1Letter.f c = some (isLet c || c == 95) := by
  unfold spec_l1Letter.f isLet
  by_cases h1 : 97 ≤ c <;> by_cases h2 : c ≤ 122 <;> by_cases h3 : 65 ≤ c <;> by_cases h4 : c ≤ 90 <;> simp [h1, h2, h3, h4]
theorem let_impl (c : Int) : impl_isLetter.f c = some (isLet c) := by
  unfold impl_isLetter.f isLet
  by_cases h1 : 97 ≤ c <;> by_cases h2 : c ≤ 122 <;> by_cases h3 : 65 ≤ c <;> by_cases h4 : c ≤ 90 <;> simp [h1, h2, h3, h4]
theorem let_not_dig (c : Int) (h : isDig c = true) : (isLet c || c == 95) = false := by
  unfold isDig at h
  unfold isLet
  simp at h ⊢
  omega
theorem name_spec_l (s : ByteArray) (hs : s.size ≤ maxLen) : ∀ m i : Nat, i + m = s.size → Ev (fun k => spec_GoodName.l0 k s (i : Int)) (allFrom (fun i => isLet (bt s i) || bt s i == 95 || isDig (bt s i)) m i) := by
  rw [maxLen_eq] at hs
  intro m
  induction m with
  | zero => exact fun i hi => Ev.step (fun k => spec_GoodName.l0.eq_2 _ _ k) (Ev.neg (by omega) (Ev.now _))
  | succ m ih =>
    intro i hi
    refine Ev.step (fun k => spec_GoodName.l0.eq_2 _ _ k) (Ev.pos (by omega) (Ev.pos (by omega) (Ev.const_bind (let_spec _) ?_)))
    rw [w64 (by omega) (by omega), allFrom]
    cases h : (isLet (bt s i) || bt s i == 95) with
    | true => exact Ev.pos rfl (Ev.cast (ih (i + 1) (by omega)) (by simp))
    | false =>
      refine Ev.neg (by decide) (Ev.const_bind (dig_spec _) ?_)
      rw [Bool.false_or]
      exact Ev.and (fun _ => ih (i + 1) (by omega))
theorem name_spec (s : ByteArray) (hs : s.size ≤ maxLen) : Ev (fun k => spec_GoodName.f k s) (nameOk s) := by
  have hj : ∀ b, Ev (fun k => spec_GoodName.j0 k s b) (!b && allFrom (fun i => isLet (bt s i) || bt s i == 95 || isDig (bt s i)) s.size 0) := fun b =>
    Ev.step (fun k => spec_GoodName.j0.eq_2 _ _ k) (Ev.andn (fun _ => name_spec_l s hs s.size 0 (by omega)))
  unfold spec_GoodName.f
  refine Ev.ite (fun h => Ev.cast (hj true) ?_) (fun h => Ev.ite (fun h2 => Ev.cast (hj true) ?_) (fun h2 => Ev.pos (by omega) (Ev.const_bind (dig_spec _) (Ev.cast (hj _) ?_))))
  · simp only [nameOk, decide_eq_false (show ¬ 1 ≤ s.size by omega), Bool.false_and, Bool.not_true]
  · simp only [nameOk, decide_eq_false (show ¬ s.size ≤ 20 by omega), Bool.and_false, Bool.false_and, Bool.not_true]
  · obtain ⟨n, hn⟩ : ∃ n, s.size = n + 1 := ⟨s.size - 1, by omega⟩
    simp only [nameOk, hn, decide_eq_true (show 1 ≤ n + 1 by omega), decide_eq_true (show n + 1 ≤ 20 by omega), Bool.true_and, allFrom]
    rw [allFrom_congr (p := fun i => isLet (bt s i) || bt s i == 95 || isDig (bt s i)) (q := fun i => isLet (bt s i) || bt s i == 95 || (i != 0 && isDig (bt s i))) n (0 + 1) (fun j h1 _ => by
      have : (j != 0) = true := by rw [bne_iff_ne]; omega
      simp only [this, Bool.true_and])]
    rw [show ((0 : Nat) : Int) = 0 from rfl, show ((0 : Nat) != 0) = false from rfl, Bool.false_and, Bool.or_false, ← Bool.and_assoc]
    cases hd : isDig (bt s 0) with
    | true => rw [let_not_dig _ hd]; rfl
    | false => rw [Bool.or_false, Bool.not_false, Bool.true_and]
theorem name_impl (s : ByteArray) (hs : s.size ≤ maxLen) : Ev (fun k => impl_GoodName.f k s) (nameOk s) := by
  rw [maxLen_eq] at hs
  have key : ∀ m i : Nat, i + m = s.size → Ev (fun k => impl_GoodName.l0 k s (s.size : Int) (i : Int)) ((decide (1 ≤ s.size) && decide (s.size ≤ 20)) && allFrom (fun i => isLet (bt s i) || bt s i == 95 || (i != 0 && isDig (bt s i))) m i) := by
    intro m
    induction m with
    | zero =>
      intro i hi
      refine Ev.step (fun k => impl_GoodName.l0.eq_2 _ _ _ k) (Ev.neg (by omega) (Ev.const_bind (in_impl _ _ _) (Ev.cast (Ev.now _) ?_)))
      rw [allFrom, Bool.and_true]
      congr 1 <;> exact decide_eq_decide.2 (by omega)
    | succ m ih =>
      intro i hi
      refine Ev.step (fun k => impl_GoodName.l0.eq_2 _ _ _ k) (Ev.pos (by omega) (Ev.pos (by omega) (Ev.pos (by omega) (Ev.const_bind (let_impl _) ?_))))
      rw [w64 (by omega) (by omega), allFrom]
      cases h : isLet (bt s i) with
      | true => exact Ev.pos rfl (Ev.cast (ih (i + 1) (by omega)) (by simp))
      | false =>
        refine Ev.neg (by decide) (Ev.ite (fun h5 => Ev.cast (ih (i + 1) (by omega)) (by simp [h5])) (fun h5 => Ev.ite (fun h0 => Ev.cast (Ev.now _) ?_) (fun h0 => Ev.const_bind (dig_impl _) ?_)))
        · have h0' : (i != 0) = false := by rw [bne_eq_false_iff_eq]; omega
          have h5' : (bt s (i : Int) == 95) = false := beq_eq_false_iff_ne.2 h5
          simp only [h5', h0', Bool.false_or, Bool.false_and, Bool.and_false]
        · have h0' : (i != 0) = true := by rw [bne_iff_ne]; omega
          have h5' : (bt s (i : Int) == 95) = false := beq_eq_false_iff_ne.2 h5
          simp only [h5', Bool.false_or, h0', Bool.true_and]
          cases hd : isDig (bt s i) with
          | true => exact Ev.pos rfl (Ev.cast (ih (i + 1) (by omega)) (by simp))
          | false => exact Ev.neg (by decide) (Ev.cast (Ev.now _) (by simp))
  exact key s.size 0 (by omega)
/-! chords -/
def chordAt (l : List Int) (i : Nat) : Bool := (decide (0 ≤ rd l (i : Int)) && decide (rd l (i : Int) ≤ 99)) && (if i = 0 then true else !decide (rd l ((i : Int) - 1) ≥ rd l (i : Int)))
def chordOk (l : List Int) : Bool := (decide (1 ≤ l.length) && decide (l.length ≤ 4)) && allFrom (chordAt l) l.length 0
theorem chord_spec (l : List Int) (hl : l.length ≤ maxLen) : Ev (fun k => spec_l17Chord.f k l) (chordOk l) := by
  rw [maxLen_eq] at hl
  have key : ∀ m i : Nat, i + m = l.length → Ev (fun k => spec_l17Chord.l0 k l l (l.length : Int) (i : Int)) (allFrom (chordAt l) m i) := by
    intro m
    induction m with
    | zero => exact fun i hi => Ev.step (fun k => spec_l17Chord.l0.eq_2 _ _ _ _ k) (Ev.neg (by omega) (Ev.now _))
    | succ m ih =>
      intro i hi
      refine Ev.step (fun k => spec_l17Chord.l0.eq_2 _ _ _ _ k) (Ev.pos (by omega) (Ev.pos (by omega) (Ev.pos (by omega) (Ev.const_bind (in_spec _ _ _) ?_))))
      rw [allFrom, chordAt, w_succ (by omega), Bool.and_assoc (_ && _)]
      refine Ev.and (fun _ => ?_)
      by_cases h0 : i = 0
      · rw [if_pos h0, Bool.true_and]
        exact Ev.neg (by omega) (ih (i + 1) (by omega))
      · rw [if_neg h0, w_pred (by omega)]
        refine Ev.pos (by omega) (Ev.pos (by omega) (Ev.pos (by omega) ?_))
        by_cases hg : rd l ((i : Int) - 1) ≥ rd l (i : Int)
        · rw [decide_eq_true hg]; exact Ev.pos hg (Ev.now _)
        · rw [decide_eq_false hg]; exact Ev.neg hg (ih (i + 1) (by omega))
  have hj : ∀ b, Ev (fun k => spec_l17Chord.j0 k l b) (!b && allFrom (chordAt l) l.length 0) := fun b => Ev.step (fun k => spec_l17Chord.j0.eq_2 _ _ k) (Ev.andn (fun _ => key l.length 0 (by omega)))
  unfold spec_l17Chord.f chordOk
  by_cases h : 1 ≤ l.length
  · refine Ev.neg (by omega) (Ev.cast (hj _) ?_)
    rw [decide_eq_true h, Bool.true_and]
    congr 1
    by_cases h2 : l.length ≤ 4
    · rw [decide_eq_true h2, decide_eq_false (by omega)]; rfl
    · rw [decide_eq_false h2, decide_eq_true (by omega)]; rfl
  · refine Ev.pos (by omega) (Ev.cast (hj _) ?_)
    rw [decide_eq_false h]; rfl
theorem chord_impl (l : List Int) (hl : l.length ≤ maxLen) : Ev (fun k => impl_isChord.f k l) (chordOk l) := by
  rw [maxLen_eq] at hl
  have key : ∀ m i : Nat, i + m = l.length → Ev (fun k => impl_isChord.l0 k l l (l.length : Int) (i : Int)) (allFrom (chordAt l) m i && (decide (1 ≤ l.length) && decide (l.length ≤ 4))) := by
    intro m
    induction m with
    | zero =>
      intro i hi
      refine Ev.step (fun k => impl_isChord.l0.eq_2 _ _ _ _ k) (Ev.neg (by omega) (Ev.const_bind (in_impl _ _ _) (Ev.cast (Ev.now _) ?_)))
      rw [allFrom, Bool.true_and]
      congr 1 <;> exact decide_eq_decide.2 (by omega)
    | succ m ih =>
      intro i hi
      refine Ev.step (fun k => impl_isChord.l0.eq_2 _ _ _ _ k) (Ev.pos (by omega) (Ev.pos (by omega) (Ev.pos (by omega) (Ev.const_bind (show impl_isKey.f _ = some _ by unfold impl_isKey.f; rw [in_impl]; rfl) ?_))))
      rw [allFrom, chordAt, w_succ (by omega)]
      generalize hL : (decide (1 ≤ l.length) && decide (l.length ≤ 4)) = L at ih ⊢
      rw [Bool.and_assoc (_ && _), Bool.and_assoc (_ && _)]
      refine Ev.and (fun _ => ?_)
      by_cases h0 : i = 0
      · rw [if_pos h0, Bool.true_and]
        exact Ev.neg (by omega) (ih (i + 1) (by omega))
      · rw [if_neg h0, w_pred (by omega)]
        refine Ev.pos (by omega) (Ev.pos (by omega) (Ev.pos (by omega) ?_))
        by_cases hg : rd l ((i : Int) - 1) ≥ rd l (i : Int)
        · rw [decide_eq_true hg]; exact Ev.pos hg (Ev.now _)
        · rw [decide_eq_false hg]; exact Ev.neg hg (ih (i + 1) (by omega))
  unfold impl_isChord.f chordOk
  exact Ev.cast (key l.length 0 (by omega)) (Bool.and_comm _ _)
abbrev Bd := S53
abbrev rB (l : List Bd) (i : Int) : Bd := rd_T53 l i
theorem rdB {L : List Bd} {i : Nat} (h : i < L.length) : rB L (i : Int) = L[i] := rdOf_get (d := z53) h
def bindAt (l : List Bd) (i : Nat) : Bool := nameOk (rB l (i : Int)).f0 && (chordOk (rB l (i : Int)).f1 && ((if i = 0 then true else Op.bytesLess (rB l ((i : Int) - 1)).f0.toList (rB l (i : Int)).f0.toList) && !((l.take i).any fun o => decide (o.f1 = (rB l (i : Int)).f1))))
def bindsOk (l : List Bd) : Bool := decide (l.length ≤ 20) && allFrom (bindAt l) l.length 0
def BOk (z : Bd) : Prop := z.f0.size ≤ maxLen ∧ z.f1.length ≤ maxLen
theorem same_spec (a b : List Int) (ha : a.length ≤ maxLen) : Ev (fun k => spec_l17Same.f k a b) (decide (a = b)) :=
  sameInts_ev spec_l17Same.l0 (fun k x y n i => spec_l17Same.l0.eq_2 _ _ _ _ k) a b ha
theorem same_impl (a b : List Int) (ha : a.length ≤ maxLen) : Ev (fun k => slices_Equal_int_int.f k a b) (decide (a = b)) :=
  sameInts_ev slices_Equal_int_int.l0 (fun k x y n i => slices_Equal_int_int.l0.eq_2 _ _ _ _ k) a b ha
theorem binds_spec (l : List Bd) (hl : l.length ≤ maxLen) (ho : ∀ z ∈ l, BOk z) : Ev (fun k => spec_GoodBinds.f k l) (bindsOk l) := by
  rw [maxLen_eq] at hl
  have inner : ∀ (i : Nat) (nm : ByteArray) (ch : List Int) (R : Bool), Ev (fun k => spec_GoodBinds.l0 k l l (l.length : Int) (wrap64 ((i : Int) + 1))) R → ∀ (Y : List Bd), (∀ z ∈ Y, BOk z) → Y.length ≤ 9223372036854775807 → ∀ m j : Nat, j + m = Y.length → Ev (fun k => spec_GoodBinds.l1 k l l (l.length : Int) (i : Int) Y (Y.length : Int) (j : Int) nm ch) (!((Y.drop j).any fun o => decide (o.f1 = ch)) && R) := by
    intro i nm ch R hR Y hY hYl m
    induction m with
    | zero =>
      intro j hj
      rw [List.drop_of_length_le (by omega)]
      exact Ev.step (fun k => spec_GoodBinds.l1.eq_2 _ _ _ _ _ _ _ _ _ k) (Ev.neg (by omega) (Ev.cast hR (by simp)))
    | succ m ih =>
      intro j hj
      have hj' : j < Y.length := by omega
      refine Ev.step (fun k => spec_GoodBinds.l1.eq_2 _ _ _ _ _ _ _ _ _ k) (Ev.pos (by omega) (Ev.pos (by omega) (Ev.pos (by omega) ?_)))
      rw [List.drop_eq_getElem_cons hj', List.any_cons, w_succ (by omega)]
      have e : rd_T53 Y (j : Int) = Y[j] := rdB hj'
      rw [e]
      refine Ev.bind (same_spec _ ch (hY _ (List.getElem_mem _)).2) ?_
      cases hd : decide (Y[j].f1 = ch) with
      | true => exact Ev.pos rfl (Ev.now _)
      | false => exact Ev.neg (by decide) (by rw [Bool.false_or]; exact ih (j + 1) (by omega))
  have key : ∀ m i : Nat, i + m = l.length → Ev (fun k => spec_GoodBinds.l0 k l l (l.length : Int) (i : Int)) (allFrom (bindAt l) m i) := by
    intro m
    induction m with
    | zero => exact fun i hi => Ev.step (fun k => spec_GoodBinds.l0.eq_2 _ _ _ _ k) (Ev.neg (by omega) (Ev.now _))
    | succ m ih =>
      intro i hi
      have hi' : i < l.length := by omega
      have ok := ho _ (List.getElem_mem hi')
      rw [← rdB hi'] at ok
      have hR : Ev (fun k => spec_GoodBinds.l0 k l l (l.length : Int) (wrap64 ((i : Int) + 1))) (allFrom (bindAt l) m (i + 1)) := by rw [w_succ (by omega)]; exact ih (i + 1) (by omega)
      have hj : ∀ b, Ev (fun k => spec_GoodBinds.j1 k l (i : Int) l (l.length : Int) (i : Int) b (rB l (i : Int)).f0 (rB l (i : Int)).f1) (!b && (!((l.take i).any fun o => decide (o.f1 = (rB l (i : Int)).f1)) && allFrom (bindAt l) m (i + 1))) := fun b => by
        refine Ev.step (fun k => spec_GoodBinds.j1.eq_2 _ _ _ _ _ _ _ _ k) (Ev.andn (fun _ => Ev.pos (by omega) (Ev.pos (by omega) (Ev.some_bind ?_))))
        rw [Int.toNat_natCast]
        have h := inner i (rB l (i : Int)).f0 (rB l (i : Int)).f1 _ hR (l.take i) (fun z hz => ho z (List.mem_of_mem_take hz)) (by rw [List.length_take]; omega) (l.take i).length 0 (by omega)
        rw [List.drop_zero] at h
        exact h
      refine Ev.step (fun k => spec_GoodBinds.l0.eq_2 _ _ _ _ k) (Ev.pos (by omega) (Ev.pos (by omega) (Ev.pos (by omega) ?_)))
      have n1 := name_spec (rB l (i : Int)).f0 ok.1
      have c1 := chord_spec (rB l (i : Int)).f1 ok.2
      rw [allFrom, bindAt]
      cases hn : nameOk (rB l (i : Int)).f0 with
      | false => rw [hn] at n1; exact Ev.bind n1 (Ev.neg (by decide) (Ev.cast (hj true) (by simp)))
      | true =>
        rw [hn] at n1
        refine Ev.bind n1 (Ev.pos rfl ?_)
        cases hc : chordOk (rB l (i : Int)).f1 with
        | false => rw [hc] at c1; exact Ev.bind c1 (Ev.neg (by decide) (Ev.cast (hj true) (by simp)))
        | true =>
          rw [hc] at c1
          refine Ev.bind c1 (Ev.pos rfl ?_)
          by_cases h0 : i = 0
          · rw [if_pos h0]
            exact Ev.neg (by omega) (Ev.cast (hj false) (by simp))
          · rw [if_neg h0, w_pred (by omega)]
            refine Ev.pos (by omega) (Ev.pos (by omega) (Ev.pos (by omega) (Ev.cast (hj _) ?_)))
            simp [Bool.and_assoc]
  unfold spec_GoodBinds.f bindsOk
  by_cases h : l.length ≤ 20
  · exact Ev.neg (by omega) (Ev.cast (key l.length 0 (by omega)) (by rw [decide_eq_true h, Bool.true_and]))
  · exact Ev.pos (by omega) (Ev.cast (Ev.now _) (by rw [decide_eq_false h]; rfl))
theorem place_impl (l : List Bd) (hl : l.length ≤ maxLen) (ho : ∀ z ∈ l, BOk z) (c : List Int) : Ev (fun k => impl_chordPlace.f k l c) (idxP (fun z : Bd => decide (z.f1 = c)) l) := by
  have h := index_ev z53 (fun k z => impl_chordPlace_1_captured.f k z.f0 z.f1 c) (fun z : Bd => decide (z.f1 = c)) (slices_IndexFunc_impl_Bind_impl_Bind_at_impl_chordPlace_1.l0 c) (fun k x n i => slices_IndexFunc_impl_Bind_impl_Bind_at_impl_chordPlace_1.l0.eq_2 _ _ _ _ k) l hl (fun z hz => by unfold impl_chordPlace_1_captured.f; exact Ev.bind (same_impl _ c (ho z hz).2) (Ev.now _))
  unfold impl_chordPlace.f slices_IndexFunc_impl_Bind_impl_Bind_at_impl_chordPlace_1.f
  exact Ev.bind h (Ev.now _)
theorem binds_impl (l : List Bd) (hl : l.length ≤ maxLen) (ho : ∀ z ∈ l, BOk z) : Ev (fun k => impl_GoodBinds.f k l) (bindsOk l) := by
  have hl' := hl
  rw [maxLen_eq] at hl
  have key : ∀ m i : Nat, i + m = l.length → Ev (fun k => impl_GoodBinds.l0 k l l (l.length : Int) (i : Int)) (allFrom (bindAt l) m i && decide (l.length ≤ 20)) := by
    intro m
    induction m with
    | zero => exact fun i hi => Ev.step (fun k => impl_GoodBinds.l0.eq_2 _ _ _ _ k) (Ev.neg (by omega) (Ev.cast (Ev.now _) (by rw [allFrom, Bool.true_and]; exact decide_eq_decide.2 (by omega))))
    | succ m ih =>
      intro i hi
      have hi' : i < l.length := by omega
      have ok := ho _ (List.getElem_mem hi')
      rw [← rdB hi'] at ok
      have n1 := name_impl (rB l (i : Int)).f0 ok.1
      have c1 := chord_impl (rB l (i : Int)).f1 ok.2
      have p1 := place_impl l hl' ho (rB l (i : Int)).f1
      have hp := idxP_first (fun z : Bd => decide (z.f1 = (rB l (i : Int)).f1)) l i hi' (by rw [← rdB hi']; simp)
      have tail : Ev (fun k => (impl_isChord.f k (rB l (i : Int)).f1).bind fun t => if t = true then ((impl_chordPlace.f k l (rB l (i : Int)).f1).bind fun t => if t = (i : Int) then impl_GoodBinds.l0 k l l (l.length : Int) (wrap64 ((i : Int) + 1)) else some false) else some false) (chordOk (rB l (i : Int)).f1 && (!((l.take i).any fun o => decide (o.f1 = (rB l (i : Int)).f1)) && (allFrom (bindAt l) m (i + 1) && decide (l.length ≤ 20)))) := by
        refine Ev.bind c1 (Ev.and (fun _ => Ev.bind p1 ?_))
        rw [w_succ (by omega)]
        cases ha : ((l.take i).any fun o => decide (o.f1 = (rB l (i : Int)).f1)) with
        | true => exact Ev.neg (fun h => by rw [hp.1 h] at ha; cases ha) (Ev.now _)
        | false => exact Ev.pos (hp.2 ha) (Ev.cast (ih (i + 1) (by omega)) (by simp))
      refine Ev.step (fun k => impl_GoodBinds.l0.eq_2 _ _ _ _ k) (Ev.pos (by omega) (Ev.pos (by omega) (Ev.pos (by omega) (Ev.bind n1 ?_))))
      rw [allFrom, bindAt]
      cases hn : nameOk (rB l (i : Int)).f0 with
      | false => exact Ev.neg (by decide) (Ev.now _)
      | true =>
        refine Ev.pos rfl ?_
        by_cases h0 : i = 0
        · rw [if_pos h0]
          exact Ev.neg (by omega) (Ev.cast tail (by simp [Bool.and_assoc]))
        · rw [if_neg h0, w_pred (by omega)]
          refine Ev.pos (by omega) (Ev.pos (by omega) (Ev.pos (by omega) ?_))
          cases hb : Op.bytesLess (rB l ((i : Int) - 1)).f0.toList (rB l (i : Int)).f0.toList with
          | true => exact Ev.pos rfl (Ev.cast tail (by simp [Bool.and_assoc]))
          | false => exact Ev.neg (by decide) (Ev.cast (Ev.now _) (by simp))
  unfold impl_GoodBinds.f bindsOk
  exact Ev.cast (key l.length 0 (by omega)) (Bool.and_comm _ _)
/-! texts in rising order -/
theorem bl_trans : ∀ a b c : List UInt8, Op.bytesLess a b = true → Op.bytesLess b c = true → Op.bytesLess a c = true
  | _, [], c, h, _ => by cases ‹List UInt8› <;> simp [Op.bytesLess] at h
  | _, _ :: _, [], _, h => by simp [Op.bytesLess] at h
  | [], _ :: _, _ :: _, _, _ => by simp [Op.bytesLess]
  | x :: a, y :: b, z :: c, h1, h2 => by
    simp only [Op.bytesLess, Bool.or_eq_true, Bool.and_eq_true, decide_eq_true_eq, beq_iff_eq] at h1 h2 ⊢
    rcases h1 with h1 | ⟨rfl, h1⟩
    · rcases h2 with h2 | ⟨rfl, h2⟩
      · exact .inl (UInt8.lt_trans h1 h2)
      · exact .inl h1
    · rcases h2 with h2 | ⟨rfl, h2⟩
      · exact .inl h2
      · exact .inr ⟨rfl, bl_trans a b c h1 h2⟩
theorem bl_irrefl : ∀ a : List UInt8, Op.bytesLess a a = false
  | [] => rfl
  | x :: a => by simp [Op.bytesLess, bl_irrefl a]
theorem idxP_hit {α : Type} (p : α → Bool) : ∀ xs : List α, 0 ≤ idxP p xs → ∃ h : (idxP p xs).toNat < xs.length, p (xs[(idxP p xs).toNat]'h) = true
  | [], h => by simp [idxP] at h
  | x :: xs, h => by
    rw [idxP] at h
    by_cases hx : p x = true
    · have e : idxP p (x :: xs) = 0 := by rw [idxP, if_pos hx]
      simp only [e]
      exact ⟨by simp, hx⟩
    · rw [if_neg hx] at h
      by_cases hn : idxP p xs < 0
      · rw [if_pos hn] at h; omega
      · obtain ⟨h1, h2⟩ := idxP_hit p xs (by omega)
        have e : idxP p (x :: xs) = idxP p xs + 1 := by rw [idxP, if_neg hx, if_neg hn]
        have e2 : (idxP p xs + 1).toNat = (idxP p xs).toNat + 1 := by omega
        simp only [e, e2]
        exact ⟨by simp; omega, by simpa using h2⟩
theorem to_ints (l : List Int) (hl : (l.length : Int) ≤ 1048576) : Ev (fun k => laws_toIntS.f k l) l := by
  have h := toS_ev (0 : Int) (id : Int → Int) 0 laws_toIntS.l0 (fun k x y i => laws_toIntS.l0.eq_2 x y i k) l (by omega)
  rw [List.map_id] at h
  exact Ev.pos (by omega) (Ev.pos (by omega) h)
theorem eq_ints (l : List Int) (hl : (l.length : Int) ≤ 1048576) : Ev (fun k => laws_eqIntS.f k l l) true :=
  eqInt_ev laws_eqIntS.l0 (fun k x y i => laws_eqIntS.l0.eq_2 x y i k) l (by rw [maxLen_eq]; omega)
theorem sz_binds (l : List S49) (hl : l.length ≤ maxLen) (hs : ∀ z ∈ l, z.f0.size ≤ maxLen ∧ z.f1.length ≤ maxLen) {a : Int} (h0 : 0 ≤ a) (h1 : a ≤ 1048576) : ∃ t, t ≤ 1048576 ∧ (¬ t < 0 → (l.length : Int) ≤ 1048576 ∧ ∀ z ∈ l, (z.f1.length : Int) ≤ 1048576) ∧ Ev (fun k => laws_szBindS.f k l a) t := by
  unfold laws_szBindS.f
  have e := sz_left (n := l.length) h0 h1 hl
  rw [maxLen_eq] at hl
  by_cases hn : wrap64 (a - (l.length : Int)) < 0
  · exact ⟨-1, by omega, by omega, Ev.pos hn (Ev.now _)⟩
  · rw [if_neg hn] at e
    have e := Option.some.inj e
    rw [e] at hn ⊢
    have hr := (roomLeft_ok hn).1
    obtain ⟨t, ht, hts, he⟩ := sizesP_ev (fun z : S49 => (z.f1.length : Int) ≤ 1048576) z49 (fun _ z r => laws_szBind.f z.f0 z.f1 r) laws_szBindS.l0 (fun k x r i => laws_szBindS.l0.eq_2 x r i k) l (by omega)
      (fun z hz r h0 h1 => by
        have e2 := sz_left (n := z.f0.size) h0 h1 (hs z hz).1
        unfold laws_szBind.f
        by_cases hm : wrap64 (r - (z.f0.size : Int)) < 0
        · exact ⟨-1, by omega, fun h => absurd (by omega) h, Ev.pos hm (Ev.now _)⟩
        · rw [if_neg hm] at e2
          have e2 := Option.some.inj e2
          rw [e2] at hm ⊢
          have hm' := roomLeft_ok hm
          refine ⟨roomLeft z.f1.length (roomLeft z.f0.size r), roomLeft_le (roomLeft_le h1), fun h => ?_, Ev.neg hm (Ev.const_bind (sz_left (by omega) (roomLeft_le h1) (hs z hz).2) (Ev.mk fun _ => room_again _ _))⟩
          have := (roomLeft_ok h).1
          omega) (roomLeft l.length a) (by omega) (roomLeft_le h1)
    exact ⟨t, ht, fun h => ⟨by omega, hts h⟩, Ev.neg hn he⟩
def asBind (b : S49) : S53 := ⟨b.f0, b.f1⟩
theorem to_binds (l : List S49) (hl : (l.length : Int) ≤ 1048576) (hs : ∀ z ∈ l, (z.f1.length : Int) ≤ 1048576) : Ev (fun k => laws_toBindS.f k l) (l.map asBind) := by
  have ht := toK_ev z53 asBind z49 (fun k z => (laws_toBind.f k z.f0 z.f1).bind fun t => some (⟨t.1, t.2⟩ : S53)) laws_toBindS.l0 (fun k x y i => by
      rw [laws_toBindS.l0]
      split
      · split
        · simp only [Option.bind_assoc, Option.bind_some]; rfl
        · rfl
      · rfl) l (by omega) (fun z hz => Ev.bind (Ev.bind (to_ints z.f1 (hs z hz)) (Ev.now _)) (Ev.now _))
  unfold laws_toBindS.f
  exact Ev.pos (by omega) (Ev.pos (by omega) ht)
theorem eq_binds (l : List S53) (hl : (l.length : Int) ≤ 1048576) (hs : ∀ z ∈ l, (z.f1.length : Int) ≤ 1048576) : Ev (fun k => laws_eqBindS.f k l l) true := by
  unfold laws_eqBindS.f
  exact eqK_ev z53 (fun k a b => laws_eqBind.f k a.f0 a.f1 b.f0 b.f1) laws_eqBindS.l0 (fun k x y i => laws_eqBindS.l0.eq_2 x y i k) l (by rw [maxLen_eq]; omega) (fun a ha => Ev.pos rfl (Ev.bind (eq_ints a.f1 (hs a ha)) (Ev.pos rfl (Ev.now _))))
theorem mapK_ev {α : Type} (one : Nat → α → Int → Option (Int × α)) (b : Int → Prop) : ∀ (l : List α) (c : Int), 1 ≤ c → c + (l.length : Int) * 4194304 ≤ 4611686018427387000 → (∀ e ∈ l, ∀ c, 1 ≤ c → c ≤ 4611686018427387000 - 4194304 → ∃ t e', c ≤ t ∧ t ≤ c + 4194304 ∧ Ev (fun k => one k e c) (t, e')) →
    ∃ t ys, c ≤ t ∧ t ≤ c + (l.length : Int) * 4194304 ∧ Ev (fun k => mapK (one k) l c) (t, ys)
  | [], c, _, _, _ => ⟨c, [], by omega, by simp, Ev.now _⟩
  | e :: l, c, h1, h2, h => by
    rw [List.length_cons] at h2
    obtain ⟨t, e', t1, t2, he⟩ := h e (List.mem_cons_self) c h1 (by omega)
    obtain ⟨u, ys, u1, u2, hu⟩ := mapK_ev one b l t (by omega) (by omega) (fun z hz => h z (List.mem_cons_of_mem _ hz))
    exact ⟨u, e' :: ys, by omega, by rw [List.length_cons]; omega, Ev.bind he (Ev.bind hu (Ev.now _))⟩
theorem mark_ints_at (l : List Int) (c : Int) (hc : 1 ≤ c) (hb : c + (l.length : Int) ≤ 4611686018427387000) : Ev (fun k => laws_markIntS.f k l c) (c + (l.length : Int), marks l.length c) :=
  markInt_ev laws_markIntS.l0 (fun k x c i => laws_markIntS.l0.eq_2 x c i k) c hc l (by omega)
theorem held_ints_at (n : Nat) (c : Int) (hc : 1 ≤ c) (hb : c + (n : Int) ≤ 4611686018427387000) : Ev (fun k => laws_heldIntS.f k (marks n c) c) (c + (n : Int)) :=
  heldInt_ev laws_heldIntS.l0 (fun k x c i => laws_heldIntS.l0.eq_2 x c i k) n c hc (by omega)
theorem mark_binds (l : List S53) (hs : ∀ z ∈ l, (z.f1.length : Int) ≤ 1048576) : (l.length : Int) ≤ 1048576 → ∃ t ys, 1 ≤ t ∧ t ≤ 1 + (l.length : Int) * 4194304 ∧ Ev (fun k => laws_markBindS.f k l 1) (t, ys) ∧ Ev (fun k => laws_heldBindS.f k ys 1) t := by
  intro hl
  obtain ⟨put, hput⟩ := markText_ev laws_markText.l0 (fun k x s => laws_markText.l0.eq_2 x s k)
  have key : ∀ (l : List S53) (c : Int), 1 ≤ c → c + (l.length : Int) * 4194304 ≤ 4611686018427387000 → (∀ z ∈ l, (z.f1.length : Int) ≤ 1048576) → ∃ t ys, c ≤ t ∧ t ≤ c + (l.length : Int) * 4194304 ∧ ys.length = l.length ∧ Ev (fun k => mapK (laws_markBindS.one k) l c) (t, ys) ∧
      ∀ (X : List S53) (j : Nat), X.drop j = ys → j + ys.length = X.length → X.length ≤ 1048576 → Ev (fun k => laws_heldBindS.l0 k X c (j : Int)) t := by
    intro l
    induction l with
    | nil =>
      intro c h1 h2 _
      refine ⟨c, [], by omega, by simp, rfl, Ev.now _, fun X j hX hj hl => ?_⟩
      rw [List.length_nil] at hj
      exact Ev.step (fun k => laws_heldBindS.l0.eq_2 _ _ _ k) (Ev.neg (by omega) (Ev.now _))
    | cons e l ih =>
      intro c h1 h2 h3
      rw [List.length_cons] at h2
      have he := h3 e List.mem_cons_self
      obtain ⟨t, ys, t1, t2, hyl, hm, hh⟩ := ih (c + 1 + (e.f1.length : Int)) (by omega) (by omega) (fun z hz => h3 z (List.mem_cons_of_mem _ hz))
      refine ⟨t, ⟨put c, marks e.f1.length (c + 1)⟩ :: ys, by omega, by rw [List.length_cons]; omega, by rw [List.length_cons, List.length_cons, hyl], ?_, ?_⟩
      · refine Ev.bind (a := (c + 1 + (e.f1.length : Int), (⟨put c, marks e.f1.length (c + 1)⟩ : S53))) ?_ (Ev.bind hm (Ev.now _))
        unfold laws_markBindS.one
        refine Ev.bind (hput c h1 (by omega)) ?_
        rw [w64 (n := c + 1) (by omega) (by omega)]
        exact Ev.bind (mark_ints_at e.f1 (c + 1) (by omega) (by omega)) (Ev.now _)
      · intro X j hX hj hl
        have hjl : j < X.length := by rw [← hj, List.length_cons]; omega
        have hX2 := hX
        rw [List.drop_eq_getElem_cons hjl] at hX2
        obtain ⟨e1, e2⟩ := List.cons.inj hX2
        have er : rd_T53 X (j : Int) = X[j] := rdOf_get (d := z53) hjl
        refine Ev.step (fun k => laws_heldBindS.l0.eq_2 _ _ _ k) (Ev.pos (by omega) (Ev.pos (by omega) ?_))
        rw [er, e1, w64 (n := c + 1) (by omega) (by omega), w_succ (by omega)]
        refine Ev.bind (hput c h1 (by omega)) (Ev.pos rfl (Ev.bind (held_ints_at e.f1.length (c + 1) (by omega) (by omega)) (Ev.neg (by omega) ?_)))
        exact hh X (j + 1) e2 (by rw [← hj, List.length_cons]; omega) hl
  obtain ⟨t, ys, t1, t2, hyl, hm, hh⟩ := key l 1 (by omega) (by omega) hs
  exact ⟨t, ys, t1, t2, hm, hh ys 0 (by rw [List.drop_zero]) (by omega) (by omega)⟩
/-! where a new bind goes -/
theorem cmp_less : ∀ a b : List UInt8, (Lib.compareBytes a b < 0) ↔ Op.bytesLess a b = true
  | [], [] => by simp [Lib.compareBytes, Op.bytesLess]
  | [], _ :: _ => by simp [Lib.compareBytes, Op.bytesLess]
  | _ :: _, [] => by simp [Lib.compareBytes, Op.bytesLess]
  | x :: a, y :: b => by
    have ih := cmp_less a b
    unfold Lib.compareBytes Op.bytesLess
    by_cases h1 : x < y
    · simp [h1]
    · by_cases h2 : y < x
      · have h3 : x ≠ y := fun e => by subst e; exact h1 h2
        simp [h1, h2, h3]
      · have h3 : x = y := UInt8.le_antisymm (UInt8.not_lt.1 h2) (UInt8.not_lt.1 h1)
        subst h3
        simp [h1, ih]
def low (a : ByteArray) (z : Bd) : Bool := Op.bytesLess z.f0.toList a.toList
def keep (a : ByteArray) (c : List Int) (z : Bd) : Bool := !decide (z.f0.toList = a.toList) && !decide (z.f1 = c)
def lostOf (a : ByteArray) (c : List Int) : List Bd → ByteArray → ByteArray
  | [], r => r
  | z :: t, r => lostOf a c t (if z.f0.toList = a.toList then r else if z.f1 = c then z.f0 else r)
def ins (a : ByteArray) (c : List Int) : List Bd → Bool → List Bd
  | [], true => []
  | [], false => [⟨a, c⟩]
  | z :: t, p => (if (!p && !low a z) = true then [⟨a, c⟩] else []) ++ ((if keep a c z = true then [z] else []) ++ ins a c t (p || !low a z))
def fin (o : List Bd) (r : ByteArray) : List Bd × ByteArray × Bool := if bindsOk o = true then (o, r, true) else ([], ⟨#[]⟩, false)
theorem ins_true (a : ByteArray) (c : List Int) : ∀ l : List Bd, ins a c l true = l.filter (keep a c)
  | [] => rfl
  | z :: t => by
    rw [ins, Bool.true_or, ins_true a c t, List.filter_cons]
    cases keep a c z <;> simp
theorem ins_false (a : ByteArray) (c : List Int) : ∀ l : List Bd, l.Pairwise (fun x y => low a y = true → low a x = true) → ins a c l false = (l.filter (keep a c)).takeWhile (low a) ++ ([⟨a, c⟩] ++ (l.filter (keep a c)).dropWhile (low a))
  | [], _ => rfl
  | z :: t, h => by
    obtain ⟨h1, h2⟩ := List.pairwise_cons.1 h
    rw [ins, Bool.false_or]
    cases hz : low a z with
    | true =>
      rw [show (!true) = false from rfl, ins_false a c t h2, List.filter_cons]
      cases keep a c z
      · simp
      · simp [List.takeWhile_cons, List.dropWhile_cons, hz]
    | false =>
      have hall : ∀ y ∈ (z :: t).filter (keep a c), low a y = false := by
        intro y hy
        rcases List.mem_cons.1 (List.mem_filter.1 hy).1 with rfl | hy
        · exact hz
        · exact Bool.eq_false_iff.2 fun e => by rw [h1 y hy e] at hz; cases hz
      rw [show (!false) = true from rfl, ins_true]
      have e1 : ((if keep a c z = true then [z] else []) ++ t.filter (keep a c)) = (z :: t).filter (keep a c) := by
        rw [List.filter_cons]
        cases keep a c z <;> simp
      rw [e1]
      generalize (z :: t).filter (keep a c) = L at hall
      cases L with
      | nil => rfl
      | cons y L =>
        have hy := hall y List.mem_cons_self
        simp [List.takeWhile_cons, List.dropWhile_cons, hy]
theorem takeW_len {α : Type} (p : α → Bool) : ∀ l : List α, l.take (l.takeWhile p).length = l.takeWhile p ∧ l.drop (l.takeWhile p).length = l.dropWhile p
  | [] => ⟨rfl, rfl⟩
  | x :: l => by
    obtain ⟨h1, h2⟩ := takeW_len p l
    rw [List.takeWhile_cons, List.dropWhile_cons]
    cases p x <;> simp [h1, h2]
theorem takeW_lt {α : Type} (p : α → Bool) : ∀ (l : List α) (j : Nat) (h : j < l.length), j < (l.takeWhile p).length → p l[j] = true
  | x :: l, j, h, hj => by
    rw [List.takeWhile_cons] at hj
    cases hx : p x with
    | false => rw [hx] at hj; simp at hj
    | true =>
      rw [hx] at hj
      cases j with
      | zero => exact hx
      | succ j => exact takeW_lt p l j (by simpa using h) (by simpa using hj)
theorem takeW_ge {α : Type} (p : α → Bool) : ∀ (l : List α), l.Pairwise (fun x y => p y = true → p x = true) → ∀ (j : Nat) (h : j < l.length), (l.takeWhile p).length ≤ j → p l[j] = false
  | x :: l, hp, j, h, hj => by
    obtain ⟨h1, h2⟩ := List.pairwise_cons.1 hp
    rw [List.takeWhile_cons] at hj
    cases hx : p x with
    | false =>
      cases j with
      | zero => exact hx
      | succ j =>
        have hm : l[j]'(by simpa using h) ∈ l := List.getElem_mem _
        exact Bool.eq_false_iff.2 fun e => by rw [h1 _ hm e] at hx; cases hx
    | true =>
      rw [hx] at hj
      cases j with
      | zero => simp at hj
      | succ j => exact takeW_ge p l h2 j (by simpa using h) (by simpa using hj)
theorem takeW_le {α : Type} (p : α → Bool) (l : List α) : (l.takeWhile p).length ≤ l.length := by
  induction l with
  | nil => exact Nat.le_refl _
  | cons x l ih =>
    rw [List.takeWhile_cons]
    cases p x
    · simp
    · simpa using ih
theorem rising (a : ByteArray) (l : List Bd) (h : bindsOk l = true) : l.Pairwise (fun x y => low a y = true → low a x = true) := by
  rw [bindsOk, Bool.and_eq_true] at h
  have hall := (allFrom_iff _ _ _).1 h.2
  have adj : ∀ j (hj : j + 1 < l.length), Op.bytesLess (l[j]'(by omega)).f0.toList (l[j + 1]'hj).f0.toList = true := by
    intro j hj
    have h1 := hall (j + 1) (by omega) (by omega)
    rw [bindAt, if_neg (by omega)] at h1
    simp only [Bool.and_eq_true] at h1
    have h2 := h1.2.2.1
    rw [rdB hj, show ((j + 1 : Nat) : Int) - 1 = (j : Int) by omega, rdB (by omega : j < l.length)] at h2
    exact h2
  have far : ∀ d i (hd : i + d + 1 < l.length), Op.bytesLess (l[i]'(by omega)).f0.toList (l[i + d + 1]'hd).f0.toList = true := by
    intro d
    induction d with
    | zero => exact fun i hd => adj i hd
    | succ d ih =>
      intro i hd
      exact bl_trans _ _ _ (ih i (by omega)) (adj (i + d + 1) (by omega))
  rw [List.pairwise_iff_getElem]
  intro i j hi hj hij hl
  have h1 := far (j - i - 1) i (by omega)
  have e : i + (j - i - 1) + 1 = j := by omega
  simp only [e] at h1
  exact bl_trans _ _ _ h1 hl
theorem mid20 {s : Int} (h0 : 0 ≤ s) (h1 : s ≤ 1000000) : wrap64 (IntKind.u64.wrap (wrap64 s) / 2) = s / 2 := by
  rw [w64 (n := s) (by omega) (by omega)]
  have e : IntKind.u64.wrap s = s := by
    show s % 18446744073709551616 = s
    omega
  rw [e, w64 (by omega) (by omega)]
theorem cmp_ev (x a : ByteArray) (ch : List Int) (k : Nat) : impl_Rebind_1.f x ch a = some (Lib.compareBytes x.data.toList a.data.toList) := rfl
theorem cmp_low (z : Bd) (a : ByteArray) : (Lib.compareBytes z.f0.data.toList a.data.toList < 0) ↔ low a z = true := by
  unfold low
  rw [ByteArray.toList_eq, ByteArray.toList_eq]
  exact cmp_less _ _
theorem search (a : ByteArray) (F : List Bd) (hl : F.length ≤ 400000) (hp : F.Pairwise (fun x y => low a y = true → low a x = true)) : ∃ b, Ev (fun k => slices_BinarySearchFunc_impl_Bind_impl_Bind_string_at_impl_Rebind_1.f k F a) (((F.takeWhile (low a)).length : Int), b) := by
  have hr := takeW_le (low a) F
  have hlt := takeW_lt (low a) F
  have hge := takeW_ge (low a) F hp
  generalize (F.takeWhile (low a)).length = r at hr hlt hge
  have key : ∀ m lo hi : Nat, hi - lo ≤ m → lo ≤ r → r ≤ hi → hi ≤ F.length → ∃ b, Ev (fun k => slices_BinarySearchFunc_impl_Bind_impl_Bind_string_at_impl_Rebind_1.l0 k F a (F.length : Int) (lo : Int) (hi : Int)) ((r : Int), b) := by
    have done : ∃ b, Ev (fun k => slices_BinarySearchFunc_impl_Bind_impl_Bind_string_at_impl_Rebind_1.l0 k F a (F.length : Int) (r : Int) (r : Int)) ((r : Int), b) := by
      by_cases h : r < F.length
      · exact ⟨_, Ev.step (fun k => slices_BinarySearchFunc_impl_Bind_impl_Bind_string_at_impl_Rebind_1.l0.eq_2 _ _ _ _ _ k) (Ev.neg (by omega) (Ev.pos (by omega) (Ev.pos (by omega) (Ev.pos (by omega) (Ev.const_bind (cmp_ev _ _ _ 0) (Ev.now _))))))⟩
      · exact ⟨_, Ev.step (fun k => slices_BinarySearchFunc_impl_Bind_impl_Bind_string_at_impl_Rebind_1.l0.eq_2 _ _ _ _ _ k) (Ev.neg (by omega) (Ev.neg (by omega) (Ev.now _)))⟩
    intro m
    induction m with
    | zero =>
      intro lo hi h1 h2 h3 h4
      have e1 : lo = r := by omega
      have e2 : hi = r := by omega
      rw [e1, e2]
      exact done
    | succ m ih =>
      intro lo hi h1 h2 h3 h4
      by_cases hlh : lo < hi
      · have e : wrap64 (IntKind.u64.wrap (wrap64 ((lo : Int) + (hi : Int))) / 2) = (((lo + hi) / 2 : Nat) : Int) := by
          rw [mid20 (by omega) (by omega)]
          omega
        have hm : (lo + hi) / 2 < F.length := by omega
        have er : rd_T53 F (((lo + hi) / 2 : Nat) : Int) = F[(lo + hi) / 2] := rdB hm
        by_cases hlow : low a F[(lo + hi) / 2] = true
        · have hlr : (lo + hi) / 2 < r := by
            rcases Nat.lt_or_ge ((lo + hi) / 2) r with h | h
            · exact h
            · rw [hge _ hm h] at hlow; cases hlow
          obtain ⟨b, hb⟩ := ih ((lo + hi) / 2 + 1) hi (by omega) (by omega) h3 h4
          refine ⟨b, Ev.step (fun k => slices_BinarySearchFunc_impl_Bind_impl_Bind_string_at_impl_Rebind_1.l0.eq_2 _ _ _ _ _ k) (Ev.pos (by omega) ?_)⟩
          rw [e, er, w_succ (by omega)]
          exact Ev.pos (by omega) (Ev.pos (by omega) (Ev.const_bind (cmp_ev _ _ _ 0) (Ev.pos ((cmp_low _ _).2 hlow) hb)))
        · have hrl : r ≤ (lo + hi) / 2 := by
            rcases Nat.lt_or_ge ((lo + hi) / 2) r with h | h
            · exact absurd (hlt _ hm h) hlow
            · exact h
          obtain ⟨b, hb⟩ := ih lo ((lo + hi) / 2) (by omega) h2 hrl (by omega)
          refine ⟨b, Ev.step (fun k => slices_BinarySearchFunc_impl_Bind_impl_Bind_string_at_impl_Rebind_1.l0.eq_2 _ _ _ _ _ k) (Ev.pos (by omega) ?_)⟩
          rw [e, er]
          exact Ev.pos (by omega) (Ev.pos (by omega) (Ev.const_bind (cmp_ev _ _ _ 0) (Ev.neg (fun h => hlow ((cmp_low _ _).1 h)) hb)))
      · have e1 : lo = r := by omega
        have e2 : hi = r := by omega
        rw [e1, e2]
        exact done
  obtain ⟨b, hb⟩ := key F.length 0 F.length (by omega) (by omega) hr (by omega)
  exact ⟨b, hb⟩
theorem fin_ev {G : Nat → List Bd → Option Bool} (hG : ∀ l : List Bd, l.length ≤ maxLen → (∀ z ∈ l, BOk z) → Ev (fun k => G k l) (bindsOk l)) (o : List Bd) (r : ByteArray) (hl : o.length ≤ maxLen) (ho : ∀ z ∈ o, BOk z) : Ev (fun k => (G k o).bind fun t => if t = true then (some (o, r, true)) else (some (([] : List Bd), (⟨#[]⟩ : ByteArray), false))) (fin o r) := by
  refine Ev.bind (hG o hl ho) ?_
  unfold fin
  cases bindsOk o with
  | true => exact Ev.pos rfl (Ev.cast (Ev.now _) (by simp))
  | false => exact Ev.neg (by decide) (Ev.cast (Ev.now _) (by simp))
theorem clone_eq (c : List Int) (hc : c.length < 17592186044416) : slices_Clone_int_int.f c = some c := by
  unfold slices_Clone_int_int.f
  rw [Option.bind_some, if_pos (by rw [List.length_nil]; omega), List.nil_append]
theorem rebind_spec (l : List Bd) (a : ByteArray) (c : List Int) (hl : l.length ≤ 20) (ho : ∀ z ∈ l, BOk z) (hn : ∀ z ∈ l, (z.f1.length : Int) ≤ 1048576) (ha : a.size ≤ maxLen) (hc : (c.length : Int) ≤ 1048576) :
    Ev (fun k => spec_Rebind.l0 k a c (⟨#[]⟩ : ByteArray) ([] : List Bd) false l (l.length : Int) 0) (fin (ins a c l false) (lostOf a c l ⟨#[]⟩)) := by
  have hcm : c.length ≤ maxLen := by rw [maxLen_eq]; omega
  have key : ∀ (m i : Nat) (lost : ByteArray) (out : List Bd) (put : Bool), i + m = l.length → out.length ≤ 2 * i → (∀ z ∈ out, BOk z) → Ev (fun k => spec_Rebind.l0 k a c lost out put l (l.length : Int) (i : Int)) (fin (out ++ ins a c (l.drop i) put) (lostOf a c (l.drop i) lost)) := by
    intro m
    induction m with
    | zero =>
      intro i lost out put hi h1 h2
      rw [List.drop_of_length_le (by omega)]
      refine Ev.step (fun k => spec_Rebind.l0.eq_2 _ _ _ _ _ _ _ _ k) (Ev.neg (by omega) ?_)
      cases put with
      | true =>
        rw [ins, List.append_nil, lostOf]
        exact Ev.pos rfl (fin_ev binds_spec out lost (by rw [maxLen_eq]; omega) h2)
      | false =>
        rw [ins, lostOf]
        refine Ev.neg (by decide) (Ev.some_bind (Ev.pos (by rw [List.length_nil]; omega) (Ev.pos (by omega) (Ev.some_bind ?_))))
        rw [List.nil_append]
        refine fin_ev binds_spec _ lost (by rw [List.length_append, List.length_singleton, maxLen_eq]; omega) (fun z hz => ?_)
        rcases List.mem_append.1 hz with hz | hz
        · exact h2 z hz
        · rw [List.mem_singleton.1 hz]; exact ⟨ha, hcm⟩
    | succ m ih =>
      intro i lost out put hi h1 h2
      have hi' : i < l.length := by omega
      have er : rd_T53 l (i : Int) = l[i] := rdB hi'
      have hz := ho _ (List.getElem_mem hi')
      have hzn := hn _ (List.getElem_mem hi')
      rw [List.drop_eq_getElem_cons hi']
      have j3 : ∀ (out : List Bd) (put : Bool), out.length ≤ 2 * i + 1 → (∀ z ∈ out, BOk z) → Ev (fun k => spec_Rebind.j3 k a c lost out put l (l.length : Int) (i : Int) l[i].f0 l[i].f1) (fin (out ++ ((if keep a c l[i] = true then [l[i]] else []) ++ ins a c (l.drop (i + 1)) put)) (lostOf a c (l[i] :: l.drop (i + 1)) lost)) := by
        intro out put h1 h2
        refine Ev.step (fun k => spec_Rebind.j3.eq_2 _ _ _ _ _ _ _ _ _ _ k) ?_
        rw [w_succ (by omega), lostOf]
        by_cases e1 : l[i].f0.toList = a.toList
        · rw [if_pos e1]
          refine Ev.pos e1 (Ev.cast (ih (i + 1) lost out put (by omega) (by omega) h2) ?_)
          rw [if_neg (by rw [keep, decide_eq_true e1]; simp), List.nil_append]
        · rw [if_neg e1]
          refine Ev.neg e1 (Ev.bind (same_spec _ c hz.2) ?_)
          by_cases e2 : l[i].f1 = c
          · rw [if_pos e2, decide_eq_true e2]
            refine Ev.pos rfl (Ev.cast (ih (i + 1) _ out put (by omega) (by omega) h2) ?_)
            rw [if_neg (by rw [keep, decide_eq_true e2]; simp), List.nil_append]
          · rw [if_neg e2, decide_eq_false e2]
            refine Ev.neg (by decide) (Ev.some_bind (Ev.pos (by rw [List.length_nil]; omega) (Ev.pos (by omega) ?_)))
            rw [List.nil_append]
            refine Ev.cast (ih (i + 1) lost (out ++ [l[i]]) put (by omega) (by rw [List.length_append, List.length_singleton]; omega) (fun z hz' => ?_)) ?_
            · rcases List.mem_append.1 hz' with hz' | hz'
              · exact h2 z hz'
              · rw [List.mem_singleton.1 hz']; exact hz
            · rw [if_pos (by rw [keep, decide_eq_false e1, decide_eq_false e2]; rfl), List.append_assoc]
      have j2 : ∀ b, Ev (fun k => spec_Rebind.j2 k a c lost out put l (l.length : Int) (i : Int) b l[i].f0 l[i].f1) (fin ((out ++ (if b = true then [⟨a, c⟩] else [])) ++ ((if keep a c l[i] = true then [l[i]] else []) ++ ins a c (l.drop (i + 1)) (put || b))) (lostOf a c (l[i] :: l.drop (i + 1)) lost)) := by
        intro b
        refine Ev.step (fun k => spec_Rebind.j2.eq_2 _ _ _ _ _ _ _ _ _ _ _ k) ?_
        cases b with
        | true =>
          refine Ev.pos rfl (Ev.some_bind (Ev.pos (by rw [List.length_nil]; omega) (Ev.pos (by omega) ?_)))
          rw [List.nil_append, if_pos rfl, Bool.or_true]
          refine j3 _ true (by rw [List.length_append, List.length_singleton]; omega) (fun z hz' => ?_)
          rcases List.mem_append.1 hz' with hz' | hz'
          · exact h2 z hz'
          · rw [List.mem_singleton.1 hz']; exact ⟨ha, hcm⟩
        | false =>
          rw [if_neg (by decide), List.append_nil, Bool.or_false]
          exact Ev.neg (by decide) (j3 out put (by omega) h2)
      refine Ev.step (fun k => spec_Rebind.l0.eq_2 _ _ _ _ _ _ _ _ k) (Ev.pos (by omega) (Ev.pos (by omega) (Ev.pos (by omega) ?_)))
      rw [er, ins]
      cases put with
      | true => exact Ev.pos rfl (Ev.cast (j2 false) (by simp))
      | false => exact Ev.neg (by decide) (Ev.cast (j2 (!low a l[i])) (by simp))
  have h := key l.length 0 ⟨#[]⟩ [] false (by omega) (by simp) (fun z hz => by cases hz)
  rw [List.drop_zero, List.nil_append] at h
  exact h
theorem rebind_impl (l : List Bd) (a : ByteArray) (c : List Int) (hb : bindsOk l = true) (hl : l.length ≤ 20) (ho : ∀ z ∈ l, BOk z) (hn : ∀ z ∈ l, (z.f1.length : Int) ≤ 1048576) (ha : a.size ≤ maxLen) (hc : (c.length : Int) ≤ 1048576) :
    Ev (fun k => impl_Rebind.l0 k a c ([] : List Bd) (⟨#[]⟩ : ByteArray) l (l.length : Int) 0) (fin (ins a c l false) (lostOf a c l ⟨#[]⟩)) := by
  have hcm : c.length ≤ maxLen := by rw [maxLen_eq]; omega
  have hr := rising a l hb
  have key : ∀ (m i : Nat) (lost : ByteArray) (out : List Bd), i + m = l.length → out ++ (l.drop i).filter (keep a c) = l.filter (keep a c) → Ev (fun k => impl_Rebind.l0 k a c out lost l (l.length : Int) (i : Int)) (fin (ins a c l false) (lostOf a c (l.drop i) lost)) := by
    intro m
    induction m with
    | zero =>
      intro i lost out hi h1
      rw [List.drop_of_length_le (by omega), List.filter_nil, List.append_nil] at h1
      rw [List.drop_of_length_le (by omega), lostOf, ins_false a c l hr, ← h1]
      have hp : out.Pairwise (fun x y => low a y = true → low a x = true) := by rw [h1]; exact hr.filter _
      have hol : out.length ≤ 20 := by rw [h1]; exact Nat.le_trans (List.length_filter_le _ _) hl
      obtain ⟨b, hs⟩ := search a out (by omega) hp
      refine Ev.step (fun k => impl_Rebind.l0.eq_2 _ _ _ _ _ _ _ k) (Ev.neg (by omega) (Ev.bind hs (Ev.const_bind (show slices_Clone_int_int.f c = some c from clone_eq c (by omega)) (Ev.pos (by omega) ?_))))
      obtain ⟨t1, t2⟩ := takeW_len (low a) out
      have tle := takeW_le (low a) out
      refine Ev.const_bind (a := out.takeWhile (low a) ++ ([⟨a, c⟩] ++ out.dropWhile (low a))) ?_ (fin_ev binds_impl _ lost ?_ ?_)
      · show impl_Bind_38.f out _ _ = _
        unfold impl_Bind_38.f impl_Bind_38.put
        rw [if_pos ⟨by omega, by omega⟩, Int.toNat_natCast, t1, t2, List.append_assoc]
      · rw [List.length_append, List.length_append, List.length_singleton, ← t2, List.length_drop, maxLen_eq]
        omega
      · intro z hz
        have hm : ∀ z ∈ out, BOk z := fun z hz => by
          rw [h1] at hz
          exact ho z (List.mem_filter.1 hz).1
        rcases List.mem_append.1 hz with hz | hz
        · rw [← t1] at hz; exact hm z (List.mem_of_mem_take hz)
        · rcases List.mem_append.1 hz with hz | hz
          · rw [List.mem_singleton.1 hz]; exact ⟨ha, hcm⟩
          · rw [← t2] at hz; exact hm z (List.mem_of_mem_drop hz)
    | succ m ih =>
      intro i lost out hi h1
      have hi' : i < l.length := by omega
      have er : rd_T53 l (i : Int) = l[i] := rdB hi'
      have hz := ho _ (List.getElem_mem hi')
      have hol : out.length ≤ 20 := by
        have := congrArg List.length h1
        rw [List.length_append] at this
        have := List.length_filter_le (keep a c) l
        omega
      rw [List.drop_eq_getElem_cons hi', List.filter_cons] at h1
      rw [List.drop_eq_getElem_cons hi', lostOf]
      refine Ev.step (fun k => impl_Rebind.l0.eq_2 _ _ _ _ _ _ _ k) (Ev.pos (by omega) (Ev.pos (by omega) (Ev.pos (by omega) ?_)))
      rw [er, w_succ (by omega)]
      by_cases e1 : l[i].f0.toList = a.toList
      · rw [if_neg (by rw [keep, decide_eq_true e1]; simp)] at h1
        rw [if_pos e1]
        exact Ev.pos e1 (ih (i + 1) lost out (by omega) h1)
      · rw [if_neg e1]
        refine Ev.neg e1 (Ev.bind (same_impl _ c hz.2) ?_)
        by_cases e2 : l[i].f1 = c
        · rw [if_neg (by rw [keep, decide_eq_true e2]; simp)] at h1
          rw [if_pos e2, decide_eq_true e2]
          exact Ev.pos rfl (ih (i + 1) _ out (by omega) h1)
        · rw [if_pos (by rw [keep, decide_eq_false e1, decide_eq_false e2]; rfl)] at h1
          rw [if_neg e2, decide_eq_false e2]
          refine Ev.neg (by decide) (Ev.const_bind (show slices_Clone_int_int.f l[i].f1 = some l[i].f1 from clone_eq _ (by have := hn _ (List.getElem_mem hi'); omega)) (Ev.pos (by omega) ?_))
          exact ih (i + 1) lost (out ++ [l[i]]) (by omega) (by rw [List.append_assoc]; exact h1)
  have h := key l.length 0 ⟨#[]⟩ [] (by omega) (by rw [List.drop_zero, List.nil_append])
  rw [List.drop_zero] at h
  exact h
theorem ins_mem (a : ByteArray) (c : List Int) : ∀ (l : List Bd) (p : Bool) (z : Bd), z ∈ ins a c l p → z ∈ l ∨ z = ⟨a, c⟩
  | [], true, z, h => by cases h
  | [], false, z, h => .inr (List.mem_singleton.1 h)
  | x :: t, p, z, h => by
    rw [ins] at h
    rcases List.mem_append.1 h with h | h
    · split at h
      · exact .inr (List.mem_singleton.1 h)
      · cases h
    · rcases List.mem_append.1 h with h | h
      · split at h
        · rw [List.mem_singleton.1 h]; exact .inl List.mem_cons_self
        · cases h
      · rcases ins_mem a c t _ z h with h | h
        · exact .inl (List.mem_cons_of_mem _ h)
        · exact .inr h
def rebindR (l : List Bd) (a : ByteArray) (c : List Int) : List Bd × ByteArray × Bool := if (bindsOk l && (nameOk a && chordOk c)) = true then fin (ins a c l false) (lostOf a c l ⟨#[]⟩) else ([], ⟨#[]⟩, false)
theorem whole_spec (l : List Bd) (a : ByteArray) (c : List Int) (hl : l.length ≤ maxLen) (ho : ∀ z ∈ l, BOk z) (hn : ∀ z ∈ l, (z.f1.length : Int) ≤ 1048576) (ha : a.size ≤ maxLen) (hc : (c.length : Int) ≤ 1048576) : Ev (fun k => spec_Rebind.f k l a c) (rebindR l a c) := by
  have hcm : c.length ≤ maxLen := by rw [maxLen_eq]; omega
  have hbad : ∀ R, R = ([], (⟨#[]⟩ : ByteArray), false) → Ev (fun k => spec_Rebind.j0 k l a c true) R := fun R e => by subst e; exact Ev.step (fun k => spec_Rebind.j0.eq_2 _ _ _ _ k) (Ev.pos rfl (Ev.now _))
  unfold spec_Rebind.f rebindR
  refine Ev.bind (binds_spec l hl ho) ?_
  cases hb : bindsOk l with
  | false => exact Ev.neg (by decide) (hbad _ (by simp))
  | true =>
    refine Ev.pos rfl (Ev.bind (name_spec a ha) ?_)
    cases nameOk a with
    | false => exact Ev.neg (by decide) (hbad _ (by simp))
    | true =>
      refine Ev.pos rfl (Ev.bind (chord_spec c hcm) ?_)
      cases chordOk c with
      | false => exact hbad _ (by simp)
      | true =>
        have h20 : l.length ≤ 20 := by
          rw [bindsOk, Bool.and_eq_true] at hb
          exact of_decide_eq_true hb.1
        exact Ev.step (fun k => spec_Rebind.j0.eq_2 _ _ _ _ k) (Ev.neg (by decide) (rebind_spec l a c h20 ho hn ha hc))
theorem whole_impl (l : List Bd) (a : ByteArray) (c : List Int) (hl : l.length ≤ maxLen) (ho : ∀ z ∈ l, BOk z) (hn : ∀ z ∈ l, (z.f1.length : Int) ≤ 1048576) (ha : a.size ≤ maxLen) (hc : (c.length : Int) ≤ 1048576) : Ev (fun k => impl_Rebind.f k l a c) (rebindR l a c) := by
  have hcm : c.length ≤ maxLen := by rw [maxLen_eq]; omega
  have hbad : ∀ R, R = ([], (⟨#[]⟩ : ByteArray), false) → Ev (fun k => impl_Rebind.j0 k l a c true) R := fun R e => by subst e; exact Ev.step (fun k => impl_Rebind.j0.eq_2 _ _ _ _ k) (Ev.pos rfl (Ev.now _))
  unfold impl_Rebind.f rebindR
  refine Ev.bind (binds_impl l hl ho) ?_
  cases hb : bindsOk l with
  | false => exact Ev.neg (by decide) (hbad _ (by simp))
  | true =>
    refine Ev.pos rfl (Ev.bind (name_impl a ha) ?_)
    cases nameOk a with
    | false => exact Ev.neg (by decide) (hbad _ (by simp))
    | true =>
      refine Ev.pos rfl (Ev.bind (chord_impl c hcm) ?_)
      cases chordOk c with
      | false => exact hbad _ (by simp)
      | true =>
        have h20 : l.length ≤ 20 := by
          have hb2 := hb
          rw [bindsOk, Bool.and_eq_true] at hb2
          exact of_decide_eq_true hb2.1
        exact Ev.step (fun k => impl_Rebind.j0.eq_2 _ _ _ _ k) (Ev.neg (by decide) (rebind_impl l a c hb h20 ho hn ha hc))
theorem result_ok (l : List Bd) (a : ByteArray) (c : List Int) (hn : ∀ z ∈ l, (z.f1.length : Int) ≤ 1048576) (hc : (c.length : Int) ≤ 1048576) : ((rebindR l a c).1.length : Int) ≤ 1048576 ∧ ∀ z ∈ (rebindR l a c).1, (z.f1.length : Int) ≤ 1048576 := by
  unfold rebindR fin
  split
  · split
    · rename_i h
      rw [bindsOk, Bool.and_eq_true] at h
      have := of_decide_eq_true h.1
      refine ⟨by show ((ins a c l false).length : Int) ≤ _; omega, fun z hz => ?_⟩
      rcases ins_mem a c l false z hz with h | h
      · exact hn z h
      · rw [h]; exact hc
    · exact ⟨by simp, fun z hz => by cases hz⟩
  · exact ⟨by simp, fun z hz => by cases hz⟩
theorem FnExactRebind : laws_FnExactRebind.Pure := by
  intro l a c ⟨hl, hs⟩ ha ⟨hcl, _⟩
  have hs' : ∀ z ∈ l, z.f0.size ≤ maxLen ∧ z.f1.length ≤ maxLen := fun z hz => ⟨(hs z hz).1, (hs z hz).2.1⟩
  refine Ev.rounds (r := true) ?_
  unfold laws_FnExactRebind.f
  refine Ev.ite (fun _ => Ev.now _) (fun ha2 => Ev.ite (fun _ => Ev.now _) (fun hc2 => ?_))
  obtain ⟨t, _, ht, he⟩ := sz_binds l hl hs' (a := 1048576) (by omega) (by omega)
  refine Ev.bind he (Ev.ite (fun _ => Ev.now _) (fun h => ?_))
  obtain ⟨hn, hns⟩ := ht h
  have tk := to_binds l hn hns
  have hxs : ∀ z ∈ l.map asBind, BOk z := by
    intro z hz
    obtain ⟨y, hy, rfl⟩ := List.mem_map.1 hz
    exact hs' y hy
  have hxn : ∀ z ∈ l.map asBind, (z.f1.length : Int) ≤ 1048576 := by
    intro z hz
    obtain ⟨y, hy, rfl⟩ := List.mem_map.1 hz
    exact hns y hy
  generalize hx : l.map asBind = xs at tk hxs hxn
  have hxl : (xs.length : Int) ≤ 1048576 := by rw [← hx, List.length_map]; omega
  have hxm : xs.length ≤ maxLen := by rw [maxLen_eq]; omega
  have hc3 : (c.length : Int) ≤ 1048576 := by omega
  have tc := to_ints c hc3
  have hsp := whole_spec xs a c hxm hxs hxn ha hc3
  have him := whole_impl xs a c hxm hxs hxn ha hc3
  obtain ⟨hrl, hrn⟩ := result_ok xs a c hxn hc3
  generalize rebindR xs a c = R at hsp him hrl hrn
  have er := eq_binds R.1 hrl hrn
  have ex := eq_binds xs hxl hxn
  obtain ⟨t1, ys1, h11, h12, hm1, _⟩ := mark_binds xs hxn hxl
  have hm2 := mark_ints_at c t1 h11 (by omega)
  obtain ⟨t2, ys2, h21, h22, hm3, hh⟩ := mark_binds R.1 hrn hrl
  refine Ev.bind tk (Ev.bind tc (Ev.bind hsp (Ev.bind tk (Ev.bind tc (Ev.bind him (Ev.bind er (Ev.pos rfl (Ev.pos rfl (Ev.pos rfl ?_)))))))))
  refine Ev.bind tk (Ev.bind ex (Ev.pos rfl (Ev.bind tc (Ev.bind (eq_ints c hc3) (Ev.pos rfl (Ev.bind hm1 (Ev.bind hm2 (Ev.pos (by show ¬ _ < _; omega) ?_))))))))
  refine Ev.bind er (Ev.pos rfl (Ev.pos rfl (Ev.pos rfl (Ev.bind hm3 (Ev.bind hh (Ev.pos (by omega) (Ev.pos rfl ?_)))))))
  exact Ev.bind tk (Ev.bind tc (Ev.bind him (Ev.bind er (Ev.pos rfl (Ev.pos rfl (Ev.pos rfl (Ev.bind hh (Ev.pos (by omega) (Ev.pos rfl (Ev.now _))))))))))

end Go.Proofs.Ytfgdfnnddoncjaa.Pure
