/- MeantBy: the pure statement of the law: the program's answer is the reference's, for all binds and events. -/
import Derived.Test.YtfgdfnnddoncjaaXFnExactMeantByx15
import Derived.Test.YtfgdfnnddoncjaaXLibMeantBy
namespace Go.Proofs.Ytfgdfnnddoncjaa.Pure
open Go.RowKit Go.Proofs.Ytfgdfnnddoncjaa.XFnExactMeantBy Go.Proofs.YtfgdfnnddoncjaaW.PrintWords Go.Proofs.YtfgdfnnddoncjaaW.PrintLast Go.Proofs.YtfgdfnnddoncjaaW.PrintMore Go.Proofs.Ytfgdfnnddoncjaa.X
set_option linter.unusedVariables false
set_option linter.unusedSimpArgs false

theorem in_spec (a b c : Int) : spec_l1In.f a b c = some (decide (b ≤ a) && decide (a ≤ c)) := by
  unfold spec_l1In.f
  by_cases h : b ≤ a <;> simp [h]
theorem in_impl (a b c : Int) : impl_inRange.f a b c = some (decide (b ≤ a) && decide (a ≤ c)) := by
  unfold impl_inRange.f
  by_cases h : b ≤ a <;> simp [h]
/-! names: letters, digits, '_', no digit first, 1 to 20 -/
def isDig (c : Int) : Bool := decide (48 ≤ c) && decide (c ≤ 57)
def isLet (c : Int) : Bool := (decide (97 ≤ c) && decide (c ≤ 122)) || (decide (65 ≤ c) && decide (c ≤ 90))
def nameOk (s : ByteArray) : Bool := (decide (1 ≤ s.size) && decide (s.size ≤ 20)) && allFrom (fun i => isLet (bt s i) || bt s i == 95 || (i != 0 && isDig (bt s i))) s.size 0
theorem dig_spec (c : Int) : spec_l1Digit.f c = some (isDig c) := by
  unfold spec_l1Digit.f isDig
  by_cases h : 48 ≤ c <;> simp [h]
theorem dig_impl (c : Int) : impl_isDigit.f c = some (isDig c) := by
  unfold impl_isDigit.f isDig
  by_cases h : 48 ≤ c <;> simp [h]
theorem let_spec (c : Int) : spec_l1Letter.f c = some (isLet c || c == 95) := by
  unfold spec_l1Letter.f isLet
  by_cases h1 : 97 ≤ c <;> by_cases h2 : c ≤ 122 <;> by_cases h3 : 65 ≤ c <;> by_cases h4 : c ≤ 90 <;> simp [h1, h2, h3, h4]
theorem let_impl (c : Int) : impl_isLetter.f c = some (isLet c) := by
  unfold impl_isLetter.f isLet
  by_cases h1 : 97 ≤ c <;> by_cases h2 : c ≤ 122 <;> by_cases h3 : 65 ≤ c <;> by_cases h4 : c ≤ 90 <;> simp [h1, h2, h3, h4]
theorem let_not_dig (c : Int) (h : isDig c = true) : (isLet c || c == 95) = false := by
  unfold isDig at h
  unfold isLet
  simp at h ⊢
  omega
theorem name_spec_l (s : ByteArray) (hs : s.size ≤ maxLen) : ∀ m i : Nat, i + m = s.size → Ev (fun k => spec_GoodName.l0 k s (i : Int)) (allFrom (fun i => isLet (bt s i) || bt s i == 95 || isDig (bt s i)) m i) := by
  rw [maxLen_eq] at hs
  intro m
  induction m with
  | zero => exact fun i hi => Ev.step (fun k => spec_GoodName.l0.eq_2 _ _ k) (Ev.neg (by omega) (Ev.now _))
  | succ m ih =>
    intro i hi
    refine Ev.step (fun k => spec_GoodName.l0.eq_2 _ _ k) (Ev.pos (by omega) (Ev.pos (by omega) (Ev.const_bind (let_spec _) ?_)))
    rw [w64 (by omega) (by omega), allFrom]
    cases h : (isLet (bt s i) || bt s i == 95) with
    | true => exact Ev.pos rfl (Ev.cast (ih (i + 1) (by omega)) (by simp))
    | false =>
      refine Ev.neg (by decide) (Ev.const_bind (dig_spec _) ?_)
      rw [Bool.false_or]
      exact Ev.and (fun _ => ih (i + 1) (by omega))
theorem name_spec (s : ByteArray) (hs : s.size ≤ maxLen) : Ev (fun k => spec_GoodName.f k s) (nameOk s) := by
  have hj : ∀ b, Ev (fun k => spec_GoodName.j0 k s b) (!b && allFrom (fun i => isLet (bt s i) || bt s i == 95 || isDig (bt s i)) s.size 0) := fun b =>
    Ev.step (fun k => spec_GoodName.j0.eq_2 _ _ k) (Ev.andn (fun _ => name_spec_l s hs s.size 0 (by omega)))
  unfold spec_GoodName.f
  refine Ev.ite (fun h => Ev.cast (hj true) ?_) (fun h => Ev.ite (fun h2 => Ev.cast (hj true) ?_) (fun h2 => Ev.pos (by omega) (Ev.const_bind (dig_spec _) (Ev.cast (hj _) ?_))))
  · simp only [nameOk, decide_eq_false (show ¬ 1 ≤ s.size by omega), Bool.false_and, Bool.not_true]
  · simp only [nameOk, decide_eq_false (show ¬ s.size ≤ 20 by omega), Bool.and_false, Bool.false_and, Bool.not_true]
  · obtain ⟨n, hn⟩ : ∃ n, s.size = n + 1 := ⟨s.size - 1, by omega⟩
    simp only [nameOk, hn, decide_eq_true (show 1 ≤ n + 1 by omega), decide_eq_true (show n + 1 ≤ 20 by omega), Bool.true_and, allFrom]
    rw [allFrom_congr (p := fun i => isLet (bt s i) || bt s i == 95 || isDig (bt s i)) (q := fun i => isLet (bt s i) || bt s i == 95 || (i != 0 && isDig (bt s i))) n (0 + 1) (fun j h1 _ => by
      have : (j != 0) = true := by rw [bne_iff_ne]; omega
      simp only [this, Bool.true_and])]
    rw [show ((0 : Nat) : Int) = 0 from rfl, show ((0 : Nat) != 0) = false from rfl, Bool.false_and, Bool.or_false, ← Bool.and_assoc]
    cases hd : isDig (bt s 0) with
    | true => rw [let_not_dig _ hd]; rfl
    | false => rw [Bool.or_false, Bool.not_false, Bool.true_and]
theorem name_impl (s : ByteArray) (hs : s.size ≤ maxLen) : Ev (fun k => impl_GoodName.f k s) (nameOk s) := by
  rw [maxLen_eq] at hs
  have key : ∀ m i : Nat, i + m = s.size → Ev (fun k => impl_GoodName.l0 k s (s.size : Int) (i : Int)) ((decide (1 ≤ s.size) && decide (s.size ≤ 20)) && allFrom (fun i => isLet (bt s i) || bt s i == 95 || (i != 0 && isDig (bt s i))) m i) := by
    intro m
    induction m with
    | zero =>
      intro i hi
      refine Ev.step (fun k => impl_GoodName.l0.eq_2 _ _ _ k) (Ev.neg (by omega) (Ev.const_bind (in_impl _ _ _) (Ev.cast (Ev.now _) ?_)))
      rw [allFrom, Bool.and_true]
      congr 1 <;> exact decide_eq_decide.2 (by omega)
    | succ m ih =>
      intro i hi
      refine Ev.step (fun k => impl_GoodName.l0.eq_2 _ _ _ k) (Ev.pos (by omega) (Ev.pos (by omega) (Ev.pos (by omega) (Ev.const_bind (let_impl _) ?_))))
      rw [w64 (by omega) (by omega), allFrom]
      cases h : isLet (bt s i) with
      | true => exact Ev.pos rfl (Ev.cast (ih (i + 1) (by omega)) (by simp))
      | false =>
        refine Ev.neg (by decide) (Ev.ite (fun h5 => Ev.cast (ih (i + 1) (by omega)) (by simp [h5])) (fun h5 => Ev.ite (fun h0 => Ev.cast (Ev.now _) ?_) (fun h0 => Ev.const_bind (dig_impl _) ?_)))
        · have h0' : (i != 0) = false := by rw [bne_eq_false_iff_eq]; omega
          have h5' : (bt s (i : Int) == 95) = false := beq_eq_false_iff_ne.2 h5
          simp only [h5', h0', Bool.false_or, Bool.false_and, Bool.and_false]
        · have h0' : (i != 0) = true := by rw [bne_iff_ne]; omega
          have h5' : (bt s (i : Int) == 95) = false := beq_eq_false_iff_ne.2 h5
          simp only [h5', Bool.false_or, h0', Bool.true_and]
          cases hd : isDig (bt s i) with
          | true => exact Ev.pos rfl (Ev.cast (ih (i + 1) (by omega)) (by simp))
          | false => exact Ev.neg (by decide) (Ev.cast (Ev.now _) (by simp))
  exact key s.size 0 (by omega)
/-! chords -/
def chordAt (l : List Int) (i : Nat) : Bool := (decide (0 ≤ rd l (i : Int)) && decide (rd l (i : Int) ≤ 99)) && (if i = 0 then true else !decide (rd l ((i : Int) - 1) ≥ rd l (i : Int)))
def chordOk (l : List Int) : Bool := (decide (1 ≤ l.length) && decide (l.length ≤ 4)) && allFrom (chordAt l) l.length 0
theorem chord_spec (l : List Int) (hl : l.length ≤ maxLen) : Ev (fun k => spec_l17Chord.f k l) (chordOk l) := by
  rw [maxLen_eq] at hl
  have key : ∀ m i : Nat, i + m = l.length → Ev (fun k => spec_l17Chord.l0 k l l (l.length : Int) (i : Int)) (allFrom (chordAt l) m i) := by
    intro m
    induction m with
    | zero => exact fun i hi => Ev.step (fun k => spec_l17Chord.l0.eq_2 _ _ _ _ k) (Ev.neg (by omega) (Ev.now _))
    | succ m ih =>
      intro i hi
      refine Ev.step (fun k => spec_l17Chord.l0.eq_2 _ _ _ _ k) (Ev.pos (by omega) (Ev.pos (by omega) (Ev.pos (by omega) (Ev.const_bind (in_spec _ _ _) ?_))))
      rw [allFrom, chordAt, w_succ (by omega), Bool.and_assoc (_ && _)]
      refine Ev.and (fun _ => ?_)
      by_cases h0 : i = 0
      · rw [if_pos h0, Bool.true_and]
        exact Ev.neg (by omega) (ih (i + 1) (by omega))
      · rw [if_neg h0, w_pred (by omega)]
        refine Ev.pos (by omega) (Ev.pos (by omega) (Ev.pos (by omega) ?_))
        by_cases hg : rd l ((i : Int) - 1) ≥ rd l (i : Int)
        · rw [decide_eq_true hg]; exact Ev.pos hg (Ev.now _)
        · rw [decide_eq_false hg]; exact Ev.neg hg (ih (i + 1) (by omega))
  have hj : ∀ b, Ev (fun k => spec_l17Chord.j0 k l b) (!b && allFrom (chordAt l) l.length 0) := fun b => Ev.step (fun k => spec_l17Chord.j0.eq_2 _ _ k) (Ev.andn (fun _ => key l.length 0 (by omega)))
  unfold spec_l17Chord.f chordOk
  by_cases h : 1 ≤ l.length
  · refine Ev.neg (by omega) (Ev.cast (hj _) ?_)
    rw [decide_eq_true h, Bool.true_and]
    congr 1
    by_cases h2 : l.length ≤ 4
    · rw [decide_eq_true h2, decide_eq_false (by omega)]; rfl
    · rw [decide_eq_false h2, decide_eq_true (by omega)]; rfl
  · refine Ev.pos (by omega) (Ev.cast (hj _) ?_)
    rw [decide_eq_false h]; rfl
theorem chord_impl (l : List Int) (hl : l.length ≤ maxLen) : Ev (fun k => impl_isChord.f k l) (chordOk l) := by
  rw [maxLen_eq] at hl
  have key : ∀ m i : Nat, i + m = l.length → Ev (fun k => impl_isChord.l0 k l l (l.length : Int) (i : Int)) (allFrom (chordAt l) m i && (decide (1 ≤ l.length) && decide (l.length ≤ 4))) := by
    intro m
    induction m with
    | zero =>
      intro i hi
      refine Ev.step (fun k => impl_isChord.l0.eq_2 _ _ _ _ k) (Ev.neg (by omega) (Ev.const_bind (in_impl _ _ _) (Ev.cast (Ev.now _) ?_)))
      rw [allFrom, Bool.true_and]
      congr 1 <;> exact decide_eq_decide.2 (by omega)
    | succ m ih =>
      intro i hi
      refine Ev.step (fun k => impl_isChord.l0.eq_2 _ _ _ _ k) (Ev.pos (by omega) (Ev.pos (by omega) (Ev.pos (by omega) (Ev.const_bind (show impl_isKey.f _ = some _ by unfold impl_isKey.f; rw [in_impl]; rfl) ?_))))
      rw [allFrom, chordAt, w_succ (by omega)]
      generalize hL : (decide (1 ≤ l.length) && decide (l.length ≤ 4)) = L at ih ⊢
      rw [Bool.and_assoc (_ && _), Bool.and_assoc (_ && _)]
      refine Ev.and (fun _ => ?_)
      by_cases h0 : i = 0
      · rw [if_pos h0, Bool.true_and]
        exact Ev.neg (by omega) (ih (i + 1) (by omega))
      · rw [if_neg h0, w_pred (by omega)]
        refine Ev.pos (by omega) (Ev.pos (by omega) (Ev.pos (by omega) ?_))
        by_cases hg : rd l ((i : Int) - 1) ≥ rd l (i : Int)
        · rw [decide_eq_true hg]; exact Ev.pos hg (Ev.now _)
        · rw [decide_eq_false hg]; exact Ev.neg hg (ih (i + 1) (by omega))
  unfold impl_isChord.f chordOk
  exact Ev.cast (key l.length 0 (by omega)) (Bool.and_comm _ _)
abbrev Bd := S53
abbrev rB (l : List Bd) (i : Int) : Bd := rd_T53 l i
theorem rdB {L : List Bd} {i : Nat} (h : i < L.length) : rB L (i : Int) = L[i] := rdOf_get (d := z53) h
def bindAt (l : List Bd) (i : Nat) : Bool := nameOk (rB l (i : Int)).f0 && (chordOk (rB l (i : Int)).f1 && ((if i = 0 then true else Op.bytesLess (rB l ((i : Int) - 1)).f0.toList (rB l (i : Int)).f0.toList) && !((l.take i).any fun o => decide (o.f1 = (rB l (i : Int)).f1))))
def bindsOk (l : List Bd) : Bool := decide (l.length ≤ 20) && allFrom (bindAt l) l.length 0
def BOk (z : Bd) : Prop := z.f0.size ≤ maxLen ∧ z.f1.length ≤ maxLen
theorem same_spec (a b : List Int) (ha : a.length ≤ maxLen) : Ev (fun k => spec_l17Same.f k a b) (decide (a = b)) :=
  sameInts_ev spec_l17Same.l0 (fun k x y n i => spec_l17Same.l0.eq_2 _ _ _ _ k) a b ha
theorem same_impl (a b : List Int) (ha : a.length ≤ maxLen) : Ev (fun k => slices_Equal_int_int.f k a b) (decide (a = b)) :=
  sameInts_ev slices_Equal_int_int.l0 (fun k x y n i => slices_Equal_int_int.l0.eq_2 _ _ _ _ k) a b ha
theorem binds_spec (l : List Bd) (hl : l.length ≤ maxLen) (ho : ∀ z ∈ l, BOk z) : Ev (fun k => spec_GoodBinds.f k l) (bindsOk l) := by
  rw [maxLen_eq] at hl
  have inner : ∀ (i : Nat) (nm : ByteArray) (ch : List Int) (R : Bool), Ev (fun k => spec_GoodBinds.l0 k l l (l.length : Int) (wrap64 ((i : Int) + 1))) R → ∀ (Y : List Bd), (∀ z ∈ Y, BOk z) → Y.length ≤ 9223372036854775807 → ∀ m j : Nat, j + m = Y.length → Ev (fun k => spec_GoodBinds.l1 k l l (l.length : Int) (i : Int) Y (Y.length : Int) (j : Int) nm ch) (!((Y.drop j).any fun o => decide (o.f1 = ch)) && R) := by
    intro i nm ch R hR Y hY hYl m
    induction m with
    | zero =>
      intro j hj
      rw [List.drop_of_length_le (by omega)]
      exact Ev.step (fun k => spec_GoodBinds.l1.eq_2 _ _ _ _ _ _ _ _ _ k) (Ev.neg (by omega) (Ev.cast hR (by simp)))
    | succ m ih =>
      intro j hj
      have hj' : j < Y.length := by omega
      refine Ev.step (fun k => spec_GoodBinds.l1.eq_2 _ _ _ _ _ _ _ _ _ k) (Ev.pos (by omega) (Ev.pos (by omega) (Ev.pos (by omega) ?_)))
      rw [List.drop_eq_getElem_cons hj', List.any_cons, w_succ (by omega)]
      have e : rd_T53 Y (j : Int) = Y[j] := rdB hj'
      rw [e]
      refine Ev.bind (same_spec _ ch (hY _ (List.getElem_mem _)).2) ?_
      cases hd : decide (Y[j].f1 = ch) with
      | true => exact Ev.pos rfl (Ev.now _)
      | false => exact Ev.neg (by decide) (by rw [Bool.false_or]; exact ih (j + 1) (by omega))
  have key : ∀ m i : Nat, i + m = l.length → Ev (fun k => spec_GoodBinds.l0 k l l (l.length : Int) (i : Int)) (allFrom (bindAt l) m i) := by
    intro m
    induction m with
    | zero => exact fun i hi => Ev.step (fun k => spec_GoodBinds.l0.eq_2 _ _ _ _ k) (Ev.neg (by omega) (Ev.now _))
    | succ m ih =>
      intro i hi
      have hi' : i < l.length := by omega
      have ok := ho _ (List.getElem_mem hi')
      rw [← rdB hi'] at ok
      have hR : Ev (fun k => spec_GoodBinds.l0 k l l (l.length : Int) (wrap64 ((i : Int) + 1))) (allFrom (bindAt l) m (i + 1)) := by rw [w_succ (by omega)]; exact ih (i + 1) (by omega)
      have hj : ∀ b, Ev (fun k => spec_GoodBinds.j1 k l (i : Int) l (l.length : Int) (i : Int) b (rB l (i : Int)).f0 (rB l (i : Int)).f1) (!b && (!((l.take i).any fun o => decide (o.f1 = (rB l (i : Int)).f1)) && allFrom (bindAt l) m (i + 1))) := fun b => by
        refine Ev.step (fun k => spec_GoodBinds.j1.eq_2 _ _ _ _ _ _ _ _ k) (Ev.andn (fun _ => Ev.pos (by omega) (Ev.pos (by omega) (Ev.some_bind ?_))))
        rw [Int.toNat_natCast]
        have h := inner i (rB l (i : Int)).f0 (rB l (i : Int)).f1 _ hR (l.take i) (fun z hz => ho z (List.mem_of_mem_take hz)) (by rw [List.length_take]; omega) (l.take i).length 0 (by omega)
        rw [List.drop_zero] at h
        exact h
      refine Ev.step (fun k => spec_GoodBinds.l0.eq_2 _ _ _ _ k) (Ev.pos (by omega) (Ev.pos (by omega) (Ev.pos (by omega) ?_)))
      have n1 := name_spec (rB l (i : Int)).f0 ok.1
      have c1 := chord_spec (rB l (i : Int)).f1 ok.2
      rw [allFrom, bindAt]
      cases hn : nameOk (rB l (i : Int)).f0 with
      | false => rw [hn] at n1; exact Ev.bind n1 (Ev.neg (by decide) (Ev.cast (hj true) (by simp)))
      | true =>
        rw [hn] at n1
        refine Ev.bind n1 (Ev.pos rfl ?_)
        cases hc : chordOk (rB l (i : Int)).f1 with
        | false => rw [hc] at c1; exact Ev.bind c1 (Ev.neg (by decide) (Ev.cast (hj true) (by simp)))
        | true =>
          rw [hc] at c1
          refine Ev.bind c1 (Ev.pos rfl ?_)
          by_cases h0 : i = 0
          · rw [if_pos h0]
            exact Ev.neg (by omega) (Ev.cast (hj false) (by simp))
          · rw [if_neg h0, w_pred (by omega)]
            refine Ev.pos (by omega) (Ev.pos (by omega) (Ev.pos (by omega) (Ev.cast (hj _) ?_)))
            simp [Bool.and_assoc]
  unfold spec_GoodBinds.f bindsOk
  by_cases h : l.length ≤ 20
  · exact Ev.neg (by omega) (Ev.cast (key l.length 0 (by omega)) (by rw [decide_eq_true h, Bool.true_and]))
  · exact Ev.pos (by omega) (Ev.cast (Ev.now _) (by rw [decide_eq_false h]; rfl))
theorem place_impl (l : List Bd) (hl : l.length ≤ maxLen) (ho : ∀ z ∈ l, BOk z) (c : List Int) : Ev (fun k => impl_chordPlace.f k l c) (idxP (fun z : Bd => decide (z.f1 = c)) l) := by
  have h := index_ev z53 (fun k z => impl_chordPlace_1_captured.f k z.f0 z.f1 c) (fun z : Bd => decide (z.f1 = c)) (slices_IndexFunc_impl_Bind_impl_Bind_at_impl_chordPlace_1.l0 c) (fun k x n i => slices_IndexFunc_impl_Bind_impl_Bind_at_impl_chordPlace_1.l0.eq_2 _ _ _ _ k) l hl (fun z hz => by unfold impl_chordPlace_1_captured.f; exact Ev.bind (same_impl _ c (ho z hz).2) (Ev.now _))
  unfold impl_chordPlace.f slices_IndexFunc_impl_Bind_impl_Bind_at_impl_chordPlace_1.f
  exact Ev.bind h (Ev.now _)
theorem binds_impl (l : List Bd) (hl : l.length ≤ maxLen) (ho : ∀ z ∈ l, BOk z) : Ev (fun k => impl_GoodBinds.f k l) (bindsOk l) := by
  have hl' := hl
  rw [maxLen_eq] at hl
  have key : ∀ m i : Nat, i + m = l.length → Ev (fun k => impl_GoodBinds.l0 k l l (l.length : Int) (i : Int)) (allFrom (bindAt l) m i && decide (l.length ≤ 20)) := by
    intro m
    induction m with
    | zero => exact fun i hi => Ev.step (fun k => impl_GoodBinds.l0.eq_2 _ _ _ _ k) (Ev.neg (by omega) (Ev.cast (Ev.now _) (by rw [allFrom, Bool.true_and]; exact decide_eq_decide.2 (by omega))))
    | succ m ih =>
      intro i hi
      have hi' : i < l.length := by omega
      have ok := ho _ (List.getElem_mem hi')
      rw [← rdB hi'] at ok
      have n1 := name_impl (rB l (i : Int)).f0 ok.1
      have c1 := chord_impl (rB l (i : Int)).f1 ok.2
      have p1 := place_impl l hl' ho (rB l (i : Int)).f1
      have hp := idxP_first (fun z : Bd => decide (z.f1 = (rB l (i : Int)).f1)) l i hi' (by rw [← rdB hi']; simp)
      have tail : Ev (fun k => (impl_isChord.f k (rB l (i : Int)).f1).bind fun t => if t = true then ((impl_chordPlace.f k l (rB l (i : Int)).f1).bind fun t => if t = (i : Int) then impl_GoodBinds.l0 k l l (l.length : Int) (wrap64 ((i : Int) + 1)) else some false) else some false) (chordOk (rB l (i : Int)).f1 && (!((l.take i).any fun o => decide (o.f1 = (rB l (i : Int)).f1)) && (allFrom (bindAt l) m (i + 1) && decide (l.length ≤ 20)))) := by
        refine Ev.bind c1 (Ev.and (fun _ => Ev.bind p1 ?_))
        rw [w_succ (by omega)]
        cases ha : ((l.take i).any fun o => decide (o.f1 = (rB l (i : Int)).f1)) with
        | true => exact Ev.neg (fun h => by rw [hp.1 h] at ha; cases ha) (Ev.now _)
        | false => exact Ev.pos (hp.2 ha) (Ev.cast (ih (i + 1) (by omega)) (by simp))
      refine Ev.step (fun k => impl_GoodBinds.l0.eq_2 _ _ _ _ k) (Ev.pos (by omega) (Ev.pos (by omega) (Ev.pos (by omega) (Ev.bind n1 ?_))))
      rw [allFrom, bindAt]
      cases hn : nameOk (rB l (i : Int)).f0 with
      | false => exact Ev.neg (by decide) (Ev.now _)
      | true =>
        refine Ev.pos rfl ?_
        by_cases h0 : i = 0
        · rw [if_pos h0]
          exact Ev.neg (by omega) (Ev.cast tail (by simp [Bool.and_assoc]))
        · rw [if_neg h0, w_pred (by omega)]
          refine Ev.pos (by omega) (Ev.pos (by omega) (Ev.pos (by omega) ?_))
          cases hb : Op.bytesLess (rB l ((i : Int) - 1)).f0.toList (rB l (i : Int)).f0.toList with
          | true => exact Ev.pos rfl (Ev.cast tail (by simp [Bool.and_assoc]))
          | false => exact Ev.neg (by decide) (Ev.cast (Ev.now _) (by simp))
  unfold impl_GoodBinds.f bindsOk
  exact Ev.cast (key l.length 0 (by omega)) (Bool.and_comm _ _)
theorem to_ints (l : List Int) (hl : (l.length : Int) ≤ 1048576) : Ev (fun k => laws_toIntS.f k l) l := by
  have h := toS_ev (0 : Int) (id : Int → Int) 0 laws_toIntS.l0 (fun k x y i => laws_toIntS.l0.eq_2 x y i k) l (by omega)
  rw [List.map_id] at h
  exact Ev.pos (by omega) (Ev.pos (by omega) h)
theorem eq_ints (l : List Int) (hl : (l.length : Int) ≤ 1048576) : Ev (fun k => laws_eqIntS.f k l l) true :=
  eqInt_ev laws_eqIntS.l0 (fun k x y i => laws_eqIntS.l0.eq_2 x y i k) l (by rw [maxLen_eq]; omega)
theorem sz_binds (l : List S49) (hl : l.length ≤ maxLen) (hs : ∀ z ∈ l, z.f0.size ≤ maxLen ∧ z.f1.length ≤ maxLen) {a : Int} (h0 : 0 ≤ a) (h1 : a ≤ 1048576) : ∃ t, t ≤ 1048576 ∧ (¬ t < 0 → (l.length : Int) ≤ 1048576 ∧ ∀ z ∈ l, (z.f1.length : Int) ≤ 1048576) ∧ Ev (fun k => laws_szBindS.f k l a) t := by
  unfold laws_szBindS.f
  have e := sz_left (n := l.length) h0 h1 hl
  rw [maxLen_eq] at hl
  by_cases hn : wrap64 (a - (l.length : Int)) < 0
  · exact ⟨-1, by omega, by omega, Ev.pos hn (Ev.now _)⟩
  · rw [if_neg hn] at e
    have e := Option.some.inj e
    rw [e] at hn ⊢
    have hr := (roomLeft_ok hn).1
    obtain ⟨t, ht, hts, he⟩ := sizesP_ev (fun z : S49 => (z.f1.length : Int) ≤ 1048576) z49 (fun _ z r => laws_szBind.f z.f0 z.f1 r) laws_szBindS.l0 (fun k x r i => laws_szBindS.l0.eq_2 x r i k) l (by omega)
      (fun z hz r h0 h1 => by
        have e2 := sz_left (n := z.f0.size) h0 h1 (hs z hz).1
        unfold laws_szBind.f
        by_cases hm : wrap64 (r - (z.f0.size : Int)) < 0
        · exact ⟨-1, by omega, fun h => absurd (by omega) h, Ev.pos hm (Ev.now _)⟩
        · rw [if_neg hm] at e2
          have e2 := Option.some.inj e2
          rw [e2] at hm ⊢
          have hm' := roomLeft_ok hm
          refine ⟨roomLeft z.f1.length (roomLeft z.f0.size r), roomLeft_le (roomLeft_le h1), fun h => ?_, Ev.neg hm (Ev.const_bind (sz_left (by omega) (roomLeft_le h1) (hs z hz).2) (Ev.mk fun _ => room_again _ _))⟩
          have := (roomLeft_ok h).1
          omega) (roomLeft l.length a) (by omega) (roomLeft_le h1)
    exact ⟨t, ht, fun h => ⟨by omega, hts h⟩, Ev.neg hn he⟩
def asBind (b : S49) : S53 := ⟨b.f0, b.f1⟩
theorem to_binds (l : List S49) (hl : (l.length : Int) ≤ 1048576) (hs : ∀ z ∈ l, (z.f1.length : Int) ≤ 1048576) : Ev (fun k => laws_toBindS.f k l) (l.map asBind) := by
  have ht := toK_ev z53 asBind z49 (fun k z => (laws_toBind.f k z.f0 z.f1).bind fun t => some (⟨t.1, t.2⟩ : S53)) laws_toBindS.l0 (fun k x y i => by
      rw [laws_toBindS.l0]
      split
      · split
        · simp only [Option.bind_assoc, Option.bind_some]; rfl
        · rfl
      · rfl) l (by omega) (fun z hz => Ev.bind (Ev.bind (to_ints z.f1 (hs z hz)) (Ev.now _)) (Ev.now _))
  unfold laws_toBindS.f
  exact Ev.pos (by omega) (Ev.pos (by omega) ht)
theorem eq_binds (l : List S53) (hl : (l.length : Int) ≤ 1048576) (hs : ∀ z ∈ l, (z.f1.length : Int) ≤ 1048576) : Ev (fun k => laws_eqBindS.f k l l) true := by
  unfold laws_eqBindS.f
  exact eqK_ev z53 (fun k a b => laws_eqBind.f k a.f0 a.f1 b.f0 b.f1) laws_eqBindS.l0 (fun k x y i => laws_eqBindS.l0.eq_2 x y i k) l (by rw [maxLen_eq]; omega) (fun a ha => Ev.pos rfl (Ev.bind (eq_ints a.f1 (hs a ha)) (Ev.pos rfl (Ev.now _))))
theorem mapK_ev {α : Type} (one : Nat → α → Int → Option (Int × α)) (b : Int → Prop) : ∀ (l : List α) (c : Int), 1 ≤ c → c + (l.length : Int) * 4194304 ≤ 4611686018427387000 → (∀ e ∈ l, ∀ c, 1 ≤ c → c ≤ 4611686018427387000 - 4194304 → ∃ t e', c ≤ t ∧ t ≤ c + 4194304 ∧ Ev (fun k => one k e c) (t, e')) →
    ∃ t ys, c ≤ t ∧ t ≤ c + (l.length : Int) * 4194304 ∧ Ev (fun k => mapK (one k) l c) (t, ys)
  | [], c, _, _, _ => ⟨c, [], by omega, by simp, Ev.now _⟩
  | e :: l, c, h1, h2, h => by
    rw [List.length_cons] at h2
    obtain ⟨t, e', t1, t2, he⟩ := h e (List.mem_cons_self) c h1 (by omega)
    obtain ⟨u, ys, u1, u2, hu⟩ := mapK_ev one b l t (by omega) (by omega) (fun z hz => h z (List.mem_cons_of_mem _ hz))
    exact ⟨u, e' :: ys, by omega, by rw [List.length_cons]; omega, Ev.bind he (Ev.bind hu (Ev.now _))⟩
theorem mark_ints_at (l : List Int) (c : Int) (hc : 1 ≤ c) (hb : c + (l.length : Int) ≤ 4611686018427387000) : Ev (fun k => laws_markIntS.f k l c) (c + (l.length : Int), marks l.length c) :=
  markInt_ev laws_markIntS.l0 (fun k x c i => laws_markIntS.l0.eq_2 x c i k) c hc l (by omega)
theorem mark_binds (l : List S53) (hs : ∀ z ∈ l, (z.f1.length : Int) ≤ 1048576) (hl : (l.length : Int) ≤ 1048576) : ∃ t ys, 1 ≤ t ∧ t ≤ 1 + (l.length : Int) * 4194304 ∧ Ev (fun k => laws_markBindS.f k l 1) (t, ys) := by
  obtain ⟨put, hput⟩ := markText_ev laws_markText.l0 (fun k x s => laws_markText.l0.eq_2 x s k)
  obtain ⟨t, ys, h1, h2, h3⟩ := mapK_ev laws_markBindS.one (fun _ => True) l 1 (by omega) (by omega) (fun e he c h1 h2 => by
    have hk := hs e he
    refine ⟨c + 1 + (e.f1.length : Int), ⟨put c, marks e.f1.length (c + 1)⟩, by omega, by omega, ?_⟩
    unfold laws_markBindS.one
    refine Ev.bind (hput c h1 (by omega)) ?_
    rw [w64 (n := c + 1) (by omega) (by omega)]
    exact Ev.bind (mark_ints_at e.f1 (c + 1) (by omega) (by omega)) (Ev.now _))
  exact ⟨t, ys, h1, h2, h3⟩
abbrev Pr := S65
/-! the laws' helpers -/
theorem sz_press (l : List S71) {s : Int} (h0 : 0 ≤ s) (h1 : s ≤ 1048576) (hl : l.length ≤ maxLen) : laws_szPressS.f l s = some (roomLeft l.length s) := sz_left h0 h1 hl
def asPress (b : S71) : Pr := ⟨b.f0, b.f1, b.f2⟩
theorem to_press (l : List S71) (hl : (l.length : Int) ≤ 1048576) : Ev (fun k => laws_toPressS.f k l) (l.map asPress) := by
  have ht := toS_ev z65 asPress z71 laws_toPressS.l0 (fun k x y i => by rw [laws_toPressS.l0]; simp only [laws_toPress.f, Option.bind_some]; rfl) l (by omega)
  unfold laws_toPressS.f
  exact Ev.pos (by omega) (Ev.pos (by omega) ht)
theorem eq_press (l : List Pr) (hl : (l.length : Int) ≤ 1048576) : Ev (fun k => laws_eqPressS.f k l l) true := by
  unfold laws_eqPressS.f
  exact eqT_ev z65 (fun a b => laws_eqPress.f a.f0 a.f1 a.f2 b.f0 b.f1 b.f2) laws_eqPressS.l0 (fun k x y i => laws_eqPressS.l0.eq_2 x y i k) (fun a => by simp [laws_eqPress.f]) l (by rw [maxLen_eq]; omega)
/-! events -/
def evAt (l : List Pr) (i : Nat) : Bool := (decide (0 ≤ (rd_T65 l (i : Int)).f0) && decide ((rd_T65 l (i : Int)).f0 ≤ 100000)) && ((decide (0 ≤ (rd_T65 l (i : Int)).f1) && decide ((rd_T65 l (i : Int)).f1 ≤ 99)) && (if i = 0 then true else !decide ((rd_T65 l ((i : Int) - 1)).f0 > (rd_T65 l (i : Int)).f0)))
theorem ev_loop (l : List Pr) (hl : l.length ≤ maxLen) (R : Bool) (G : Nat → Int → Option Bool)
    (hG : ∀ k (i : Int), G (k + 1) i = if i < (l.length : Int) then (if 0 ≤ i then (if i < (l.length : Int) then (if (decide (0 ≤ (rd_T65 l i).f0) && decide ((rd_T65 l i).f0 ≤ 100000)) = true then (if (decide (0 ≤ (rd_T65 l i).f1) && decide ((rd_T65 l i).f1 ≤ 99)) = true then (if i > 0 then (if 0 ≤ wrap64 (i - 1) then (if wrap64 (i - 1) < (l.length : Int) then (if (rd_T65 l (wrap64 (i - 1))).f0 > (rd_T65 l i).f0 then some false else G k (wrap64 (i + 1))) else none) else none) else G k (wrap64 (i + 1))) else some false) else some false) else none) else none) else some R) :
    Ev (fun k => G k 0) (allFrom (evAt l) l.length 0 && R) := by
  rw [maxLen_eq] at hl
  have key : ∀ m i : Nat, i + m = l.length → Ev (fun k => G k (i : Int)) (allFrom (evAt l) m i && R) := by
    intro m
    induction m with
    | zero => exact fun i hi => Ev.step (fun k => hG k _) (Ev.neg (by omega) (Ev.now _))
    | succ m ih =>
      intro i hi
      refine Ev.step (fun k => hG k _) (Ev.pos (by omega) (Ev.pos (by omega) (Ev.pos (by omega) ?_)))
      rw [allFrom, evAt, Bool.and_assoc, Bool.and_assoc]
      refine Ev.and (fun _ => ?_)
      rw [Bool.and_assoc]
      refine Ev.and (fun _ => ?_)
      rw [w_succ (by omega), w_pred (by omega)]
      by_cases hz : i = 0
      · rw [if_pos hz, Bool.true_and]
        exact Ev.neg (by omega) (ih (i + 1) (by omega))
      · rw [if_neg hz]
        refine Ev.pos (by omega) (Ev.pos (by omega) (Ev.pos (by omega) ?_))
        by_cases hp : (rd_T65 l ((i : Int) - 1)).f0 > (rd_T65 l (i : Int)).f0
        · rw [decide_eq_true hp]; exact Ev.pos hp (Ev.now _)
        · rw [decide_eq_false hp, Bool.not_false, Bool.true_and]; exact Ev.neg hp (ih (i + 1) (by omega))
  exact key l.length 0 (by omega)
def evOk (l : List Pr) : Bool := allFrom (evAt l) l.length 0 && decide ((l.length : Int) ≤ 200)
theorem ev_impl (l : List Pr) (hl : l.length ≤ maxLen) : Ev (fun k => impl_areEvents.f k l) (evOk l) := by
  unfold impl_areEvents.f evOk
  exact ev_loop l hl _ (fun k i => impl_areEvents.l0 k l l (l.length : Int) i) (fun k i => by
    rw [impl_areEvents.l0]
    simp only [impl_isTime.f, impl_isKey.f, in_impl, Option.bind_some])
theorem ev_spec (l : List Pr) (hl : l.length ≤ maxLen) : Ev (fun k => spec_l17Events.f k l) (evOk l) := by
  unfold spec_l17Events.f evOk
  by_cases h : (l.length : Int) > 200
  · refine Ev.pos h (Ev.cast (Ev.now _) ?_)
    rw [decide_eq_false (show ¬ (l.length : Int) ≤ 200 by omega), Bool.and_false]
  · refine Ev.neg h ?_
    rw [decide_eq_true (show (l.length : Int) ≤ 200 by omega)]
    exact ev_loop l hl true (fun k i => spec_l17Events.l0 k l l (l.length : Int) i) (fun k i => by
      rw [spec_l17Events.l0]
      simp only [in_spec, Option.bind_some])
def keysOf (H : List Bool) : Nat → Nat → List Int
  | 0, _ => []
  | n + 1, i => (if H.getD i false = true then [(i : Int)] else []) ++ keysOf H n (i + 1)
/-! the keys that are held, in their order -/
theorem keys_len (H : List Bool) : ∀ n i, (keysOf H n i).length ≤ n
  | 0, _ => Nat.le_refl _
  | n + 1, i => by
    have ih := keys_len H n (i + 1)
    rw [keysOf, List.length_append]
    split <;> simp <;> omega
theorem keys_mem (H : List Bool) : ∀ n i x, x ∈ keysOf H n i → (i : Int) ≤ x ∧ x < (i : Int) + n
  | 0, _, x, h => by simp [keysOf] at h
  | n + 1, i, x, h => by
    rw [keysOf] at h
    rcases List.mem_append.1 h with h | h
    · split at h
      · rw [List.mem_singleton.1 h]; omega
      · simp at h
    · have := keys_mem H n (i + 1) x h; omega
theorem keys_split (H : List Bool) : ∀ m n i, keysOf H (m + n) i = keysOf H m i ++ keysOf H n (i + m)
  | 0, n, i => by rw [Nat.zero_add, Nat.add_zero, keysOf, List.nil_append]
  | m + 1, n, i => by
    rw [show m + 1 + n = (m + n) + 1 by omega, keysOf, keys_split H m n (i + 1), keysOf, List.append_assoc, show i + 1 + m = i + (m + 1) by omega]
theorem keys_congr {H H' : List Bool} : ∀ n i, (∀ t, i ≤ t → t < i + n → H.getD t false = H'.getD t false) → keysOf H n i = keysOf H' n i
  | 0, _, _ => rfl
  | n + 1, i, h => by
    rw [keysOf, keysOf, h i (Nat.le_refl _) (by omega), keys_congr n (i + 1) (fun t h1 h2 => h t (by omega) (by omega))]
theorem getD_set (H : List Bool) (v t : Nat) (b : Bool) (hv : v < H.length) : (H.set v b).getD t false = if v = t then b else H.getD t false := by
  rw [List.getD_eq_getElem?_getD, List.getD_eq_getElem?_getD, List.getElem?_set]
  by_cases e : v = t
  · subst e; simp [hv]
  · simp [e]
theorem keys_at (H : List Bool) (v : Nat) (hv : v < 100) : keysOf H 100 0 = keysOf H v 0 ++ ((if H.getD v false = true then [(v : Int)] else []) ++ keysOf H (99 - v) (v + 1)) := by
  have h := keys_split H v ((99 - v) + 1) 0
  rw [show v + (99 - v + 1) = 100 by omega, Nat.zero_add] at h
  rw [h, keysOf]
theorem keys_set (H : List Bool) (v : Nat) (b : Bool) (hl : H.length = 100) (hv : v < 100) : keysOf (H.set v b) 100 0 = keysOf H v 0 ++ ((if b = true then [(v : Int)] else []) ++ keysOf H (99 - v) (v + 1)) := by
  have e1 : keysOf (H.set v b) v 0 = keysOf H v 0 := keys_congr v 0 (fun t h1 h2 => by rw [getD_set H v t b (by omega), if_neg (by omega)])
  have e2 : keysOf (H.set v b) (99 - v) (v + 1) = keysOf H (99 - v) (v + 1) := keys_congr (99 - v) (v + 1) (fun t h1 h2 => by rw [getD_set H v t b (by omega), if_neg (by omega)])
  rw [keys_at _ v hv, getD_set H v v b (by omega), if_pos rfl, e1, e2]
theorem keys_none (H : List Bool) (h : ∀ t, H.getD t false = false) : ∀ n i, keysOf H n i = []
  | 0, _ => rfl
  | n + 1, i => by
    rw [keysOf, h i, keys_none H h n (i + 1)]
    rfl
theorem put_skip (A B : List Int) (v : Int) (r : List Int) (hA : ∀ x ∈ A, x < v) (hn : A.length ≤ 1000) (hE : Ev (fun k => spec_l1Put.l0 k (A ++ B) v (A.length : Int)) r) : ∀ m i : Nat, i + m = A.length → Ev (fun k => spec_l1Put.l0 k (A ++ B) v (i : Int)) r := by
  intro m
  induction m with
  | zero => intro i hi; rw [show i = A.length by omega]; exact hE
  | succ m ih =>
    intro i hi
    have hl : (A ++ B).length = A.length + B.length := List.length_append
    have e : rd (A ++ B) (i : Int) = A[i]'(by omega) := by rw [rd_get (by omega), List.getElem_append_left (by omega)]
    have hlt := hA _ (List.getElem_mem (show i < A.length by omega))
    refine Ev.step (fun k => spec_l1Put.l0.eq_2 _ _ _ k) (Ev.pos (by omega) (Ev.pos (by omega) (Ev.pos (by omega) ?_)))
    rw [w_succ (by omega)]
    exact ih (i + 1) (by omega)
theorem put_absent (A B : List Int) (v : Int) (hA : ∀ x ∈ A, x < v) (hB : ∀ x ∈ B, v < x) (hn : A.length ≤ 1000) (hm : B.length ≤ 1000) : Ev (fun k => spec_l1Put.f k (A ++ B) v) (A ++ v :: B) := by
  have hl : (A ++ B).length = A.length + B.length := List.length_append
  have ht : (A ++ B).take A.length = A := by simp
  have hd : (A ++ B).drop A.length = B := by simp
  unfold spec_l1Put.f
  refine put_skip A B v _ hA hn ?_ A.length 0 (by omega)
  have chain : Ev (fun _ : Nat => (some A).bind fun y108 => (if ([] : List Int).length + y108.length < 17592186044416 then ((some (([] : List Int) ++ y108 : List Int)).bind fun y112 => (if y112.length < 17592186044416 then ((some (y112 ++ [v] : List Int)).bind fun y115 => ((some B).bind fun y118 => (if y115.length + y118.length < 17592186044416 then (some (y115 ++ y118)) else (none)))) else (none))) else (none))) (A ++ v :: B) := by
    refine Ev.mk (fun _ => ?_)
    simp only [Option.bind_some, List.nil_append, List.length_nil, List.length_append, List.length_singleton]
    rw [if_pos (by omega), if_pos (by omega), if_pos (by omega), List.append_assoc]
    rfl
  refine Ev.step (fun k => spec_l1Put.l0.eq_2 _ _ _ k) ?_
  rw [Int.toNat_natCast, ht, hd]
  by_cases h : (A.length : Int) < ((A ++ B).length : Int)
  · have e : rd (A ++ B) (A.length : Int) = B[0]'(by omega) := by
      rw [rd_get (by omega), List.getElem_append_right (by omega)]
      congr 1
      omega
    have hlt := hB _ (List.getElem_mem (show 0 < B.length by omega))
    exact Ev.pos h (Ev.pos (by omega) (Ev.neg (by omega) (Ev.neg (by omega) (Ev.pos (by omega) chain))))
  · exact Ev.neg h (Ev.pos (by omega) (Ev.pos (by omega) chain))
theorem put_there (A B : List Int) (v : Int) (hA : ∀ x ∈ A, x < v) (hn : A.length ≤ 1000) : Ev (fun k => spec_l1Put.f k (A ++ v :: B) v) (A ++ v :: B) := by
  have hl : (A ++ v :: B).length = A.length + (B.length + 1) := by simp
  have e : rd (A ++ v :: B) (A.length : Int) = v := by
    rw [rd_get (by omega), List.getElem_append_right (by omega)]
    simp
  unfold spec_l1Put.f
  refine put_skip A (v :: B) v _ hA hn ?_ A.length 0 (by omega)
  refine Ev.step (fun k => spec_l1Put.l0.eq_2 _ _ _ k) (Ev.pos (by omega) (Ev.pos (by omega) (Ev.neg (by omega) (Ev.pos e (Ev.now _)))))
theorem drop_ev (L : List Int) (a v : Int) (b : Bool) (hn : L.length ≤ 1000) : ∀ (m i : Nat) (o : List Int), i + m = L.length → o.length ≤ i → Ev (fun k => spec_l17Press.l0 k o L (L.length : Int) (i : Int) a v b) (o ++ (L.drop i).filter (fun x => !decide (x = v))) := by
  intro m
  induction m with
  | zero =>
    intro i o hi ho
    refine Ev.step (fun k => spec_l17Press.l0.eq_2 _ _ _ _ _ _ _ k) (Ev.neg (by omega) (Ev.cast (Ev.now _) ?_))
    rw [List.drop_of_length_le (by omega)]
    simp
  | succ m ih =>
    intro i o hi ho
    have hi' : i < L.length := by omega
    refine Ev.step (fun k => spec_l17Press.l0.eq_2 _ _ _ _ _ _ _ k) (Ev.pos (by omega) (Ev.pos (by omega) (Ev.pos (by omega) ?_)))
    rw [rd_get hi', w_succ (by omega), List.drop_eq_getElem_cons hi']
    by_cases h : L[i] = v
    · refine Ev.pos h (Ev.cast (ih (i + 1) o (by omega) (by omega)) ?_)
      rw [List.filter_cons_of_neg (by simp [h])]
    · refine Ev.neg h (Ev.pos (by omega) (Ev.cast (ih (i + 1) _ (by omega) (by rw [List.length_append, List.length_singleton]; omega)) ?_))
      rw [List.filter_cons_of_pos (by simp [h]), List.append_assoc]
      rfl
theorem press_ev (H : List Bool) (hl : H.length = 100) (t v : Int) (b : Bool) (h0 : 0 ≤ v) (h1 : v ≤ 99) : Ev (fun k => spec_l17Press.f k (keysOf H 100 0) t v b) (keysOf (H.set v.toNat b) 100 0) := by
  obtain ⟨n, rfl⟩ := Int.eq_ofNat_of_zero_le h0
  have hn : n < 100 := by omega
  rw [Int.toNat_natCast, keys_set H n b hl hn, keys_at H n hn]
  have hA : ∀ x ∈ keysOf H n 0, x < (n : Int) := fun x hx => by have := keys_mem H n 0 x hx; omega
  have hB : ∀ x ∈ keysOf H (99 - n) (n + 1), (n : Int) < x := fun x hx => by have := keys_mem H _ _ x hx; omega
  have lA := keys_len H n 0
  have lB := keys_len H (99 - n) (n + 1)
  generalize keysOf H n 0 = A at *
  generalize keysOf H (99 - n) (n + 1) = B at *
  unfold spec_l17Press.f
  cases b with
  | true =>
    refine Ev.pos rfl ?_
    cases hv : H.getD n false with
    | true => exact Ev.bind (put_there A B n hA (by omega)) (Ev.now _)
    | false => exact Ev.bind (put_absent A B n hA hB (by omega) (by omega)) (Ev.now _)
  | false =>
    refine Ev.neg (by decide) ?_
    have fA : A.filter (fun x => !decide (x = (n : Int))) = A := List.filter_eq_self.2 (fun x hx => by have := hA x hx; simp; omega)
    have fB : B.filter (fun x => !decide (x = (n : Int))) = B := List.filter_eq_self.2 (fun x hx => by have := hB x hx; simp; omega)
    cases hv : H.getD n false with
    | true =>
      refine Ev.cast (drop_ev (A ++ ([(n : Int)] ++ B)) t n false (by simp; omega) (A ++ ([(n : Int)] ++ B)).length 0 [] (by omega) (Nat.le_refl _)) ?_
      rw [List.drop_zero, List.nil_append, List.filter_append, List.filter_append, fA, fB]
      simp
    | false =>
      refine Ev.cast (drop_ev (A ++ ([] ++ B)) t n false (by simp; omega) (A ++ ([] ++ B)).length 0 [] (by omega) (Nat.le_refl _)) ?_
      rw [List.drop_zero, List.nil_append, List.filter_append, List.filter_append, fA, fB]
      simp
theorem eq_meant (l : List S69) (hl : (l.length : Int) ≤ 1048576) : Ev (fun k => laws_eqMeantS.f k l l) true := by
  unfold laws_eqMeantS.f
  exact eqT_ev z69 (fun a b => laws_eqMeant.f a.f0 a.f1 a.f2 b.f0 b.f1 b.f2) laws_eqMeantS.l0 (fun k x y i => laws_eqMeantS.l0.eq_2 x y i k) (fun a => by simp [laws_eqMeant.f]) l (by rw [maxLen_eq]; omega)
def mM (put : Int → ByteArray) : Nat → Int → List S69
  | 0, _ => []
  | n + 1, c => ⟨c, put (c + 1), (Int.tmod (c + 1 + 1) 3) == 0⟩ :: mM put n (c + 1 + 1 + 1)
theorem mM_len (put : Int → ByteArray) : ∀ n c, (mM put n c).length = n
  | 0, _ => rfl
  | n + 1, c => by rw [mM, List.length_cons, mM_len put n]
theorem rd_set {xs : List S69} {i : Nat} (h : i < xs.length) (v : S69) : rd_T69 (xs.set i v) (i : Int) = v := by
  have e : rd_T69 (xs.set i v) (i : Int) = (xs.set i v)[i]'(by simpa using h) := rdOf_get (d := z69) (by simpa using h)
  rw [e, List.getElem_set_self]
theorem mark_meant_at (put : Int → ByteArray) (hp : ∀ c, 1 ≤ c → c ≤ 4611686018427387904 → Ev (fun k => laws_markText.f k c) (put c)) : ∀ (m i : Nat) (c : Int) (x : List S69), i + m = x.length → (x.length : Int) ≤ 1048576 → 1 ≤ c → c + 3 * (m : Int) ≤ 4611686018427387000 → Ev (fun k => laws_markMeantS.l0 k x c (i : Int)) (c + 3 * (m : Int), x.take i ++ mM put m c) := by
  intro m
  induction m with
  | zero =>
    intro i c x hi _ _ _
    refine Ev.step (fun k => laws_markMeantS.l0.eq_2 _ _ _ k) (Ev.neg (by omega) (Ev.cast (Ev.now _) ?_))
    rw [mM, List.append_nil, List.take_of_length_le (by omega)]
    simp
  | succ m ih =>
    intro i c x hi hx hc hc'
    have hix : i < x.length := by omega
    refine Ev.step (fun k => laws_markMeantS.l0.eq_2 _ _ _ k) (Ev.pos (by omega) (Ev.pos (by omega) (Ev.some_bind ?_)))
    rw [w64 (n := c + 1) (by omega) (by omega), w64 (n := c + 1 + 1) (by omega) (by omega), w64 (n := c + 1 + 1 + 1) (by omega) (by omega), w_succ (by omega), Int.toNat_natCast]
    refine Ev.bind (hp _ (by omega) (by omega)) (Ev.some_bind ?_)
    rw [rd_set (by simpa using hix), rd_set (by simpa using hix), List.set_set, List.set_set]
    refine Ev.cast (ih (i + 1) (c + 1 + 1 + 1) (x.set i ⟨c, put (c + 1), (Int.tmod (c + 1 + 1) 3) == 0⟩) (by rw [List.length_set]; omega) (by rw [List.length_set]; omega) (by omega) (by omega)) ?_
    have e : (x.set i (⟨c, put (c + 1), (Int.tmod (c + 1 + 1) 3) == 0⟩ : S69)).take (i + 1) = x.take i ++ [⟨c, put (c + 1), (Int.tmod (c + 1 + 1) 3) == 0⟩] := by
      rw [List.take_succ_eq_append_getElem (by simpa using hix), List.getElem_set_self, List.take_set_of_le (Nat.le_refl i)]
    rw [e, mM, List.append_assoc, show c + 1 + 1 + 1 + 3 * (m : Int) = c + 3 * ((m + 1 : Nat) : Int) by omega]
    rfl
theorem held_meant_at (put : Int → ByteArray) (hp : ∀ c, 1 ≤ c → c ≤ 4611686018427387904 → Ev (fun k => laws_markText.f k c) (put c)) : ∀ (m j : Nat) (c : Int) (X : List S69), X.drop j = mM put m c → (X.length : Int) ≤ 1048576 → j ≤ X.length → 1 ≤ c → c + 3 * (m : Int) ≤ 4611686018427387000 → Ev (fun k => laws_heldMeantS.l0 k X c (j : Int)) (c + 3 * (m : Int)) := by
  intro m
  induction m with
  | zero =>
    intro j c X hX hl hj _ _
    have h0 : (X.drop j).length = 0 := by rw [hX]; rfl
    rw [List.length_drop] at h0
    exact Ev.step (fun k => laws_heldMeantS.l0.eq_2 _ _ _ k) (Ev.neg (by omega) (Ev.cast (Ev.now _) (by simp)))
  | succ m ih =>
    intro j c X hX hl hj hc hc'
    have h0 : (X.drop j).length = m + 1 := by rw [hX, mM_len]
    rw [List.length_drop] at h0
    have hjx : j < X.length := by omega
    rw [List.drop_eq_getElem_cons hjx, mM] at hX
    obtain ⟨e1, e2⟩ := List.cons.inj hX
    have er : rd_T69 X (j : Int) = X[j] := rdOf_get (d := z69) hjx
    refine Ev.step (fun k => laws_heldMeantS.l0.eq_2 _ _ _ k) (Ev.pos (by omega) (Ev.pos (by omega) ?_))
    rw [er, e1, w64 (n := c + 1) (by omega) (by omega), w64 (n := c + 1 + 1) (by omega) (by omega), w64 (n := c + 1 + 1 + 1) (by omega) (by omega), w_succ (by omega)]
    refine Ev.pos rfl (Ev.bind (hp _ (by omega) (by omega)) (Ev.pos rfl (Ev.neg (by simp) ?_)))
    exact Ev.cast (ih (j + 1) (c + 1 + 1 + 1) X e2 hl (by omega) (by omega) (by omega)) (by omega)
theorem mark_press_at : ∀ (m i : Nat) (c : Int) (x : List Pr), i + m = x.length → (x.length : Int) ≤ 1048576 → 1 ≤ c → c + 3 * (m : Int) ≤ 4611686018427387000 → Yes (fun r : Int × List Pr => r.1 = c + 3 * (m : Int)) (fun k => laws_markPressS.l0 k x c (i : Int)) := by
  intro m
  induction m with
  | zero => exact fun i c x hi _ _ _ => Yes.step (fun k => laws_markPressS.l0.eq_2 _ _ _ k) (Yes.neg (by omega) (Yes.now _ (by simp)))
  | succ m ih =>
    intro i c x hi hx hc hc'
    have nxt : ∀ X : List Pr, X.length = x.length → Yes (fun r : Int × List Pr => r.1 = c + 3 * ((m + 1 : Nat) : Int)) (fun k => laws_markPressS.l0 k X (c + 1 + 1 + 1) ((i + 1 : Nat) : Int)) := fun X hX => by
      obtain ⟨r, hr, e⟩ := ih (i + 1) (c + 1 + 1 + 1) X (by omega) (by omega) (by omega) (by omega)
      exact ⟨r, by show r.1 = _; rw [hr]; omega, e⟩
    refine Yes.step (fun k => laws_markPressS.l0.eq_2 _ _ _ k) (Yes.pos (by omega) (Yes.pos (by omega) ?_))
    rw [w64 (n := c + 1) (by omega) (by omega), w64 (n := c + 1 + 1) (by omega) (by omega), w64 (n := c + 1 + 1 + 1) (by omega) (by omega), w_succ (by omega)]
    exact Yes.cbind rfl (Yes.cbind rfl (nxt _ (by simp)))
/-! which binds hold -/
theorem in14 (x : Int) (L : List Int) (hl : L.length ≤ 9223372036854775807) : Ev (fun k => spec_l14In.f k L x) (L.contains x) := by
  have key : ∀ m i : Nat, i + m = L.length → Ev (fun k => spec_l14In.l0 k x L (L.length : Int) (i : Int)) ((L.drop i).contains x) := by
    intro m
    induction m with
    | zero =>
      intro i hi
      rw [List.drop_of_length_le (by omega)]
      exact Ev.step (fun k => spec_l14In.l0.eq_2 _ _ _ _ k) (Ev.neg (by omega) (Ev.now _))
    | succ m ih =>
      intro i hi
      have hi' : i < L.length := by omega
      rw [List.drop_eq_getElem_cons hi', List.contains_cons]
      refine Ev.step (fun k => spec_l14In.l0.eq_2 _ _ _ _ k) (Ev.pos (by omega) (Ev.pos (by omega) (Ev.pos (by omega) ?_)))
      rw [rd_get hi', w_succ (by omega)]
      by_cases h : L[i] = x
      · exact Ev.pos h (Ev.cast (Ev.now _) (by simp [h]))
      · exact Ev.neg h (Ev.cast (ih (i + 1) (by omega)) (by simp [Ne.symm h]))
  exact key L.length 0 (by omega)
theorem all17 (c L : List Int) (hc : c.length ≤ 9223372036854775807) (hl : L.length ≤ 9223372036854775807) : Ev (fun k => spec_l17All.f k c L) (c.all fun x => L.contains x) := by
  have key : ∀ m i : Nat, i + m = c.length → Ev (fun k => spec_l17All.l0 k L c (c.length : Int) (i : Int)) ((c.drop i).all fun x => L.contains x) := by
    intro m
    induction m with
    | zero =>
      intro i hi
      rw [List.drop_of_length_le (by omega)]
      exact Ev.step (fun k => spec_l17All.l0.eq_2 _ _ _ _ k) (Ev.neg (by omega) (Ev.now _))
    | succ m ih =>
      intro i hi
      have hi' : i < c.length := by omega
      rw [List.drop_eq_getElem_cons hi', List.all_cons]
      refine Ev.step (fun k => spec_l17All.l0.eq_2 _ _ _ _ k) (Ev.pos (by omega) (Ev.pos (by omega) (Ev.pos (by omega) ?_)))
      rw [rd_get hi', w_succ (by omega)]
      exact Ev.bind (in14 _ L hl) (Ev.and (fun _ => ih (i + 1) (by omega)))
  exact key c.length 0 (by omega)
theorem keys_has (H : List Bool) : ∀ n i x : Nat, (keysOf H n i).contains (x : Int) = (decide (i ≤ x) && decide (x < i + n) && H.getD x false)
  | 0, i, x => by
    rw [keysOf]
    by_cases h : i ≤ x
    · rw [decide_eq_false (show ¬ x < i + 0 by omega)]; simp
    · rw [decide_eq_false h]; simp
  | n + 1, i, x => by
    have ih := keys_has H n (i + 1) x
    rw [keysOf]
    by_cases hx : x = i
    · subst hx
      cases hv : H.getD x false with
      | true => simp
      | false =>
        rw [if_neg (by decide), List.nil_append, ih, decide_eq_false (show ¬ x + 1 ≤ x by omega)]
        simp
    · have e : ((if H.getD i false = true then [(i : Int)] else []) ++ keysOf H n (i + 1)).contains (x : Int) = (keysOf H n (i + 1)).contains (x : Int) := by
        split
        · rw [List.singleton_append, List.contains_cons]
          have : ((x : Int) == (i : Int)) = false := by
            rw [beq_eq_false_iff_ne]
            omega
          rw [this, Bool.false_or]
        · rfl
      rw [e, ih]
      congr 1
      rw [decide_eq_decide.2 (show (i + 1 ≤ x) ↔ (i ≤ x) by omega), decide_eq_decide.2 (show (x < i + 1 + n) ↔ (x < i + (n + 1)) by omega)]
theorem all_keys (H : List Bool) (c : List Int) (hin : impl_MeantBy.inKeys c = true) : (c.all fun x => (keysOf H 100 0).contains x) = impl_MeantBy.all H c := by
  unfold impl_MeantBy.all
  rw [Bool.eq_iff_iff, List.all_eq_true, List.all_eq_true]
  have e : ∀ x ∈ c, (keysOf H 100 0).contains x = impl_MeantBy.hd H x := fun x hx => by
    have hb : 0 ≤ x ∧ x ≤ 99 := by simpa using List.all_eq_true.1 hin x hx
    obtain ⟨n, rfl⟩ := Int.eq_ofNat_of_zero_le hb.1
    rw [keys_has H 100 0 n]
    unfold impl_MeantBy.hd
    rw [Int.toNat_natCast, decide_eq_true (Nat.zero_le n), decide_eq_true (show n < 0 + 100 by omega)]
    rfl
  exact ⟨fun h x hx => by rw [← e x hx]; exact h x hx, fun h x hx => by rw [e x hx]; exact h x hx⟩
theorem holds_spec (H : List Bool) (l : List Bd) (hl : l.length ≤ 1000) (ho : ∀ z ∈ l, z.f1.length ≤ 1048576) (hin : ∀ z ∈ l, impl_MeantBy.inKeys z.f1 = true) : Ev (fun k => spec_l17Holds.f k l (keysOf H 100 0)) (impl_MeantBy.holds H l) := by
  have hkl := keys_len H 100 0
  have hal := all_keys H
  generalize keysOf H 100 0 = L at hkl hal
  have hhl : (impl_MeantBy.holds H l).length = l.length := by unfold impl_MeantBy.holds; rw [List.length_map]
  have inner : ∀ (i : Nat) (b : Bd) (R : List Bool), b ∈ l → ∀ m j : Nat, j + m = l.length → ∀ X : List Bool, i < X.length → Ev (fun k => spec_l17Holds.l0 k l L (if (l.drop j).any (impl_MeantBy.longer H b) = true then X.set i false else X) l (l.length : Int) (wrap64 ((i : Int) + 1))) R → Ev (fun k => spec_l17Holds.l1 k l L X (i : Int) l (l.length : Int) (i : Int) l (l.length : Int) (j : Int) b.f0 b.f1) R := by
    intro i b R hb m
    have hbl := ho b hb
    induction m with
    | zero =>
      intro j hj X hX hR
      rw [List.drop_of_length_le (by omega)] at hR
      exact Ev.step (fun k => spec_l17Holds.l1.eq_2 _ _ _ _ _ _ _ _ _ _ _ _ k) (Ev.neg (by omega) hR)
    | succ m ih =>
      intro j hj X hX hR
      have hj' : j < l.length := by omega
      have er : rd_T53 l (j : Int) = l[j] := rdB hj'
      have hol := ho _ (List.getElem_mem hj')
      have hoi := hin _ (List.getElem_mem hj')
      rw [List.drop_eq_getElem_cons hj', List.any_cons] at hR
      refine Ev.step (fun k => spec_l17Holds.l1.eq_2 _ _ _ _ _ _ _ _ _ _ _ _ k) (Ev.pos (by omega) (Ev.pos (by omega) (Ev.pos (by omega) ?_)))
      rw [er, w_succ (by omega)]
      have hlg : impl_MeantBy.longer H b l[j] = (decide (l[j].f1.length > b.f1.length) && (impl_MeantBy.all H l[j].f1 && b.f1.all (fun x => l[j].f1.contains x))) := rfl
      have a1 := all17 l[j].f1 L (by omega) (by omega)
      rw [hal _ hoi] at a1
      have a2 := all17 b.f1 l[j].f1 (by omega) (by omega)
      by_cases c1 : l[j].f1.length > b.f1.length
      · rw [decide_eq_true c1, Bool.true_and] at hlg
        refine Ev.pos (by omega) (Ev.bind a1 ?_)
        cases h1 : impl_MeantBy.all H l[j].f1 with
        | false =>
          rw [h1, Bool.false_and] at hlg
          rw [hlg, Bool.false_or] at hR
          exact Ev.neg (by decide) (ih (j + 1) (by omega) X hX hR)
        | true =>
          rw [h1, Bool.true_and] at hlg
          refine Ev.pos rfl (Ev.bind a2 ?_)
          cases h2 : (b.f1.all fun x => l[j].f1.contains x) with
          | false =>
            rw [h2] at hlg
            rw [hlg, Bool.false_or] at hR
            exact Ev.neg (by decide) (ih (j + 1) (by omega) X hX hR)
          | true =>
            rw [h2] at hlg
            rw [hlg, Bool.true_or, if_pos rfl] at hR
            refine Ev.pos rfl (Ev.pos (by omega) (Ev.pos (by omega) ?_))
            rw [Int.toNat_natCast]
            refine ih (j + 1) (by omega) (X.set i false) (by rw [List.length_set]; exact hX) ?_
            split
            · rw [List.set_set]; exact hR
            · exact hR
      · rw [decide_eq_false c1, Bool.false_and] at hlg
        rw [hlg, Bool.false_or] at hR
        exact Ev.neg (by omega) (ih (j + 1) (by omega) X hX hR)
  have key : ∀ m i : Nat, i + m = l.length → Ev (fun k => spec_l17Holds.l0 k l L ((impl_MeantBy.holds H l).take i ++ List.replicate m false) l (l.length : Int) (i : Int)) (impl_MeantBy.holds H l) := by
    intro m
    induction m with
    | zero =>
      intro i hi
      refine Ev.step (fun k => spec_l17Holds.l0.eq_2 _ _ _ _ _ _ k) (Ev.neg (by omega) (Ev.cast (Ev.now _) ?_))
      rw [List.take_of_length_le (by omega)]
      simp
    | succ m ih =>
      intro i hi
      have hi' : i < l.length := by omega
      have er : rd_T53 l (i : Int) = l[i] := rdB hi'
      have a1 := all17 l[i].f1 L (by have := ho _ (List.getElem_mem hi'); omega) (by omega)
      rw [hal _ (hin _ (List.getElem_mem hi'))] at a1
      have hXl : ((impl_MeantBy.holds H l).take i ++ List.replicate (m + 1) false).length = l.length := by
        rw [List.length_append, List.length_take, List.length_replicate]
        omega
      refine Ev.step (fun k => spec_l17Holds.l0.eq_2 _ _ _ _ _ _ k) (Ev.pos (by omega) (Ev.pos (by omega) (Ev.pos (by omega) ?_)))
      rw [er]
      refine Ev.bind a1 (Ev.pos (by omega) ?_)
      rw [Int.toNat_natCast]
      refine inner i l[i] _ (List.getElem_mem hi') l.length 0 (by omega) _ (by rw [List.length_set]; omega) ?_
      rw [List.drop_zero, w_succ (by omega)]
      have hset : ∀ v, ((impl_MeantBy.holds H l).take i ++ List.replicate (m + 1) false).set i v = (impl_MeantBy.holds H l).take i ++ (v :: List.replicate m false) := fun v => by
        rw [List.set_append_right _ _ (by rw [List.length_take]; omega), List.length_take, show i - min i (impl_MeantBy.holds H l).length = 0 by omega, List.replicate_succ, List.set_cons_zero]
      have hfin : (if l.any (impl_MeantBy.longer H l[i]) = true then (((impl_MeantBy.holds H l).take i ++ List.replicate (m + 1) false).set i (impl_MeantBy.all H l[i].f1)).set i false else ((impl_MeantBy.holds H l).take i ++ List.replicate (m + 1) false).set i (impl_MeantBy.all H l[i].f1)) = (impl_MeantBy.holds H l).take (i + 1) ++ List.replicate m false := by
        have e : (impl_MeantBy.holds H l).take (i + 1) = (impl_MeantBy.holds H l).take i ++ [impl_MeantBy.all H l[i].f1 && !(l.any (impl_MeantBy.longer H l[i]))] := by
          rw [List.take_succ_eq_append_getElem (by omega)]
          congr 2
          unfold impl_MeantBy.holds
          rw [List.getElem_map]
        rw [e, List.append_assoc]
        cases l.any (impl_MeantBy.longer H l[i]) with
        | true => rw [if_pos rfl, List.set_set, hset]; simp
        | false => rw [if_neg (by decide), hset]; simp
      rw [hfin]
      exact ih (i + 1) (by omega)
  unfold spec_l17Holds.f
  rw [Int.toNat_natCast]
  exact Ev.pos (by omega) (Ev.pos (by omega) (key l.length 0 (by omega)))
theorem changes_spec (l : List Bd) (e : Pr) (L : List Int) (As Ns : List Bool) (es : List Pr) (i : Nat) (R : List S69 × Bool) (hl : l.length ≤ 1000) (hA : As.length = l.length) (hN : Ns.length = l.length) :
    ∀ m j : Nat, j + m = l.length → ∀ out : List S69, (out.length : Int) + (m : Int) ≤ 4000000 → Ev (fun k => spec_MeantBy.l0 k l (out ++ impl_MeantBy.changes e l Ns As m j) L Ns es (es.length : Int) (wrap64 ((i : Int) + 1))) R → Ev (fun k => spec_MeantBy.l1 k l out L As Ns es (es.length : Int) (i : Int) l (l.length : Int) (j : Int) e.f0 e.f1 e.f2) R := by
  intro m
  induction m with
  | zero =>
    intro j hj out _ hR
    rw [impl_MeantBy.changes, List.append_nil] at hR
    exact Ev.step (fun k => spec_MeantBy.l1.eq_2 _ _ _ _ _ _ _ _ _ _ _ _ _ _ k) (Ev.neg (by omega) hR)
  | succ m ih =>
    intro j hj out ho hR
    refine Ev.step (fun k => spec_MeantBy.l1.eq_2 _ _ _ _ _ _ _ _ _ _ _ _ _ _ k) (Ev.pos (by omega) (Ev.pos (by omega) (Ev.pos (by omega) (Ev.pos (by omega) (Ev.pos (by omega) ?_)))))
    rw [w_succ (by omega)]
    rw [impl_MeantBy.changes] at hR
    have eN : rdOf false Ns (j : Int) = Ns.getD j false := by unfold rdOf; rw [Int.toNat_natCast]
    have eA : rdOf false As (j : Int) = As.getD j false := by unfold rdOf; rw [Int.toNat_natCast]
    rw [eN, eA]
    by_cases hq : (Ns.getD j false == As.getD j false) = true
    · rw [if_pos hq, List.nil_append] at hR
      exact Ev.neg (by rw [bne, hq]; decide) (ih (j + 1) (by omega) out (by omega) hR)
    · rw [if_neg hq, ← List.append_assoc] at hR
      refine Ev.pos (by rw [bne, Bool.eq_false_iff.2 hq]; rfl) (Ev.pos (by omega) (ih (j + 1) (by omega) _ (by rw [List.length_append, List.length_singleton]; omega) hR))
theorem chs_len (e : Pr) (l : List Bd) (Ns As : List Bool) : ∀ n i, (impl_MeantBy.changes e l Ns As n i).length ≤ n
  | 0, _ => Nat.le_refl _
  | n + 1, i => by
    have := chs_len e l Ns As n (i + 1)
    rw [impl_MeantBy.changes, List.length_append]
    split <;> simp <;> omega
theorem run_take (l : List Bd) (es : List Pr) (i : Nat) (h : i < es.length) : impl_MeantBy.run l (es.take (i + 1)) = impl_MeantBy.step l (impl_MeantBy.run l (es.take i)) es[i] := by
  unfold impl_MeantBy.run
  rw [List.take_succ_eq_append_getElem h, List.foldl_append]
  rfl
theorem run_ok (l : List Bd) (es : List Pr) : ∀ i : Nat, i ≤ es.length → (impl_MeantBy.run l (es.take i)).1.length = 100 ∧ (impl_MeantBy.run l (es.take i)).2.1.length = l.length ∧ (impl_MeantBy.run l (es.take i)).2.2.length ≤ i * l.length := by
  intro i
  induction i with
  | zero =>
    intro _
    rw [List.take_zero]
    exact ⟨List.length_replicate, by show (impl_MeantBy.holds _ l).length = _; unfold impl_MeantBy.holds; rw [List.length_map], Nat.zero_le _⟩
  | succ i ih =>
    intro h
    obtain ⟨h1, h2, h3⟩ := ih (by omega)
    rw [run_take l es i (by omega)]
    unfold impl_MeantBy.step
    refine ⟨by rw [List.length_set]; exact h1, by show (impl_MeantBy.holds _ l).length = _; unfold impl_MeantBy.holds; rw [List.length_map], ?_⟩
    have hc := chs_len es[i] l (impl_MeantBy.holds ((impl_MeantBy.run l (es.take i)).1.set es[i].f1.toNat es[i].f2) l) (impl_MeantBy.run l (es.take i)).2.1 l.length 0
    show (_ ++ _ : List _).length ≤ _
    rw [List.length_append, Nat.add_mul, Nat.one_mul]
    omega
theorem none_holds (l : List Bd) (hc : ∀ z ∈ l, z.f1 ≠ []) : impl_MeantBy.holds (List.replicate 100 false) l = List.replicate l.length false := by
  unfold impl_MeantBy.holds
  apply List.ext_getElem
  · rw [List.length_map, List.length_replicate]
  · intro i h1 h2
    rw [List.getElem_map, List.getElem_replicate]
    have hne := hc _ (List.getElem_mem (show i < l.length by simpa using h1))
    have : impl_MeantBy.all (List.replicate 100 false) (l[i]'(by simpa using h1)).f1 = false := by
      unfold impl_MeantBy.all
      cases hcs : (l[i]'(by simpa using h1)).f1 with
      | nil => exact absurd hcs hne
      | cons x t =>
        rw [List.all_cons]
        have : impl_MeantBy.hd (List.replicate 100 false) x = false := by
          unfold impl_MeantBy.hd
          rw [List.getD_eq_getElem?_getD, List.getElem?_replicate]
          split <;> rfl
        rw [this]
        rfl
    rw [this]
    rfl
theorem meantBy_spec (l : List Bd) (es : List Pr) (hl : l.length ≤ 20) (hes : es.length ≤ 200) (ho : ∀ z ∈ l, z.f1.length ≤ 1048576) (hin : ∀ z ∈ l, impl_MeantBy.inKeys z.f1 = true) (hne : ∀ z ∈ l, z.f1 ≠ []) (hev : ∀ e ∈ es, 0 ≤ e.f1 ∧ e.f1 ≤ 99) :
    Ev (fun k => spec_MeantBy.l0 k l ([] : List S69) ([] : List Int) (List.replicate l.length false) es (es.length : Int) 0) ((impl_MeantBy.run l es).2.2, true) := by
  have key : ∀ m i : Nat, i + m = es.length → Ev (fun k => spec_MeantBy.l0 k l (impl_MeantBy.run l (es.take i)).2.2 (keysOf (impl_MeantBy.run l (es.take i)).1 100 0) (impl_MeantBy.run l (es.take i)).2.1 es (es.length : Int) (i : Int)) ((impl_MeantBy.run l es).2.2, true) := by
    intro m
    induction m with
    | zero =>
      intro i hi
      rw [List.take_of_length_le (show es.length ≤ i by omega)]
      exact Ev.step (fun k => spec_MeantBy.l0.eq_2 _ _ _ _ _ _ _ k) (Ev.neg (by omega) (Ev.now _))
    | succ m ih =>
      intro i hi
      have hi' : i < es.length := by omega
      have er : rd_T65 es (i : Int) = es[i] := getD_get hi'
      have hin2 := hev _ (List.getElem_mem hi')
      obtain ⟨h1, h2, h3⟩ := run_ok l es i (by omega)
      have nx := ih (i + 1) (by omega)
      rw [run_take l es i hi'] at nx
      unfold impl_MeantBy.step at nx
      generalize impl_MeantBy.run l (es.take i) = s at h1 h2 h3 nx ⊢
      refine Ev.step (fun k => spec_MeantBy.l0.eq_2 _ _ _ _ _ _ _ k) (Ev.pos (by omega) (Ev.pos (by omega) (Ev.pos (by omega) ?_)))
      rw [er]
      refine Ev.bind (press_ev s.1 h1 es[i].f0 es[i].f1 es[i].f2 hin2.1 hin2.2) (Ev.bind (holds_spec _ l (by omega) ho hin) ?_)
      have h4 : s.2.2.length ≤ 4000 := by
        have : i * l.length ≤ 200 * 20 := Nat.mul_le_mul (by omega) hl
        omega
      refine changes_spec l es[i] _ s.2.1 _ es i _ (by omega) h2 (by unfold impl_MeantBy.holds; rw [List.length_map]) l.length 0 (by omega) s.2.2 (by omega) ?_
      rw [w_succ (by omega)]
      exact nx
  have h := key es.length 0 (by omega)
  rw [List.take_zero] at h
  have e1 : keysOf (impl_MeantBy.run l []).1 100 0 = [] := keys_none _ (fun t => by
    show (List.replicate 100 false).getD t false = false
    rw [List.getD_eq_getElem?_getD, List.getElem?_replicate]
    split <;> rfl) _ _
  have e2 : (impl_MeantBy.run l []).2.1 = List.replicate l.length false := none_holds l hne
  rw [e1, e2] at h
  exact h
theorem binds_facts (l : List Bd) (h : bindsOk l = true) : l.length ≤ 20 ∧ ∀ z ∈ l, z.f1 ≠ [] ∧ impl_MeantBy.inKeys z.f1 = true := by
  rw [bindsOk, Bool.and_eq_true] at h
  refine ⟨of_decide_eq_true h.1, fun z hz => ?_⟩
  obtain ⟨i, hi, rfl⟩ := List.getElem_of_mem hz
  have h1 := (allFrom_iff _ _ _).1 h.2 i (by omega) (by omega)
  rw [bindAt, rdB hi] at h1
  simp only [Bool.and_eq_true] at h1
  have h2 := h1.2.1
  rw [chordOk] at h2
  simp only [Bool.and_eq_true, decide_eq_true_eq] at h2
  refine ⟨fun e => by rw [e] at h2; simp at h2, List.all_eq_true.2 fun x hx => ?_⟩
  obtain ⟨j, hj, rfl⟩ := List.getElem_of_mem hx
  have h3 := (allFrom_iff _ _ _).1 h2.2 j (by omega) (by omega)
  rw [chordAt, rd_get hj] at h3
  simp only [Bool.and_eq_true] at h3
  simpa using h3.1
theorem events_facts (l : List Pr) (h : evOk l = true) : l.length ≤ 200 ∧ ∀ e ∈ l, 0 ≤ e.f1 ∧ e.f1 ≤ 99 := by
  rw [evOk, Bool.and_eq_true, decide_eq_true_eq] at h
  refine ⟨by omega, fun e he => ?_⟩
  obtain ⟨i, hi, rfl⟩ := List.getElem_of_mem he
  have h1 := (allFrom_iff _ _ _).1 h.1 i (by omega) (by omega)
  unfold evAt at h1
  have er : rd_T65 l (i : Int) = l[i] := getD_get hi
  rw [er] at h1
  simp only [Bool.and_eq_true, decide_eq_true_eq] at h1
  exact h1.2.1
def meantR (l : List Bd) (es : List Pr) : List S69 × Bool := if (bindsOk l && evOk es) = true then ((impl_MeantBy.run l es).2.2, true) else ([], false)
theorem whole_spec (l : List Bd) (es : List Pr) (hl : l.length ≤ maxLen) (ho : ∀ z ∈ l, BOk z) (hn : ∀ z ∈ l, (z.f1.length : Int) ≤ 1048576) (hel : es.length ≤ maxLen) : Ev (fun k => spec_MeantBy.f k l es) (meantR l es) := by
  have hbad : ∀ R, R = (([] : List S69), false) → Ev (fun k => spec_MeantBy.j0 k l es true) R := fun R e => by subst e; exact Ev.step (fun k => spec_MeantBy.j0.eq_2 _ _ _ k) (Ev.pos rfl (Ev.now _))
  unfold spec_MeantBy.f meantR
  refine Ev.bind (binds_spec l hl ho) ?_
  cases hb : bindsOk l with
  | false => exact Ev.neg (by decide) (hbad _ (by simp))
  | true =>
    refine Ev.pos rfl (Ev.bind (ev_spec es hel) ?_)
    cases he : evOk es with
    | false => exact hbad _ (by simp)
    | true =>
      obtain ⟨b1, b2⟩ := binds_facts l hb
      obtain ⟨e1, e2⟩ := events_facts es he
      refine Ev.step (fun k => spec_MeantBy.j0.eq_2 _ _ _ k) (Ev.neg (by decide) (Ev.pos (by omega) (Ev.pos (by rw [Int.toNat_natCast]; omega) ?_)))
      rw [Int.toNat_natCast]
      exact meantBy_spec l es b1 e1 (fun z hz => by have := hn z hz; omega) (fun z hz => (b2 z hz).2) (fun z hz => (b2 z hz).1) e2
theorem whole_impl (l : List Bd) (es : List Pr) (hl : l.length ≤ maxLen) (ho : ∀ z ∈ l, BOk z) (hel : es.length ≤ maxLen) : Ev (fun k => impl_MeantBy.f k l es) (meantR l es) := by
  unfold impl_MeantBy.f meantR
  refine Ev.bind (binds_impl l hl ho) ?_
  cases hb : bindsOk l with
  | false => exact Ev.neg (by decide) (Ev.cast (Ev.now _) (by simp))
  | true =>
    refine Ev.pos rfl (Ev.bind (ev_impl es hel) ?_)
    cases he : evOk es with
    | false => exact Ev.neg (by decide) (Ev.cast (Ev.now _) (by simp))
    | true =>
      obtain ⟨b1, b2⟩ := binds_facts l hb
      obtain ⟨e1, e2⟩ := events_facts es he
      refine Ev.pos rfl (Ev.pos ?_ (Ev.now _))
      unfold impl_MeantBy.fits
      simp only [Bool.and_eq_true, decide_eq_true_eq, List.all_eq_true]
      exact ⟨by omega, by omega, fun z hz => (b2 z hz).2, fun e he => e2 e he⟩
theorem result_ok (l : List Bd) (es : List Pr) : ((meantR l es).1.length : Int) ≤ 4000 := by
  unfold meantR
  split
  · rename_i h
    rw [Bool.and_eq_true] at h
    obtain ⟨b1, _⟩ := binds_facts l h.1
    obtain ⟨e1, _⟩ := events_facts es h.2
    obtain ⟨_, _, h3⟩ := run_ok l es es.length (Nat.le_refl _)
    rw [List.take_length] at h3
    have : es.length * l.length ≤ 200 * 20 := Nat.mul_le_mul e1 b1
    show ((impl_MeantBy.run l es).2.2.length : Int) ≤ 4000
    omega
  · simp
theorem FnExactMeantBy : laws_FnExactMeantBy.Pure := by
  intro l es ⟨hl, hs⟩ ⟨hel, _⟩
  have hs' : ∀ z ∈ l, z.f0.size ≤ maxLen ∧ z.f1.length ≤ maxLen := fun z hz => ⟨(hs z hz).1, (hs z hz).2.1⟩
  refine Ev.rounds (r := true) ?_
  unfold laws_FnExactMeantBy.f
  obtain ⟨t, ht0, ht, he⟩ := sz_binds l hl hs' (a := 1048576) (by omega) (by omega)
  refine Ev.bind he (Ev.ite (fun _ => Ev.now _) (fun h => ?_))
  obtain ⟨hn, hns⟩ := ht h
  refine Ev.const_bind (sz_press es (by omega) (by omega) hel) (Ev.ite (fun _ => Ev.now _) (fun h2 => ?_))
  have hen := (roomLeft_ok h2).1
  have hen2 : (es.length : Int) ≤ 1048576 := by omega
  have tk := to_binds l hn hns
  have te := to_press es hen2
  have hxs : ∀ z ∈ l.map asBind, BOk z := by
    intro z hz
    obtain ⟨y, hy, rfl⟩ := List.mem_map.1 hz
    exact hs' y hy
  have hxn : ∀ z ∈ l.map asBind, (z.f1.length : Int) ≤ 1048576 := by
    intro z hz
    obtain ⟨y, hy, rfl⟩ := List.mem_map.1 hz
    exact hns y hy
  generalize hx : l.map asBind = xs at tk hxs hxn
  generalize hy : es.map asPress = ys at te
  have hxl : (xs.length : Int) ≤ 1048576 := by rw [← hx, List.length_map]; omega
  have hyl : (ys.length : Int) ≤ 1048576 := by rw [← hy, List.length_map]; omega
  have hxm : xs.length ≤ maxLen := by rw [maxLen_eq]; omega
  have hym : ys.length ≤ maxLen := by rw [maxLen_eq]; omega
  have hsp := whole_spec xs ys hxm hxs hxn hym
  have him := whole_impl xs ys hxm hxs hym
  have hrl := result_ok xs ys
  generalize meantR xs ys = R at hsp him hrl
  have er := eq_meant R.1 (by omega)
  have ex := eq_binds xs hxl hxn
  have ey := eq_press ys hyl
  obtain ⟨put, hp⟩ := markText_ev laws_markText.l0 (fun k x s => laws_markText.l0.eq_2 x s k)
  obtain ⟨t1, ys1, h11, h12, hm1⟩ := mark_binds xs hxn hxl
  obtain ⟨r2, hr2, hm2⟩ := mark_press_at ys.length 0 t1 ys (by omega) hyl h11 (by omega)
  have hm2' : Ev (fun k => laws_markPressS.f k ys t1) r2 := hm2
  have hm3 := mark_meant_at put hp R.1.length 0 1 R.1 (by omega) (by omega) (by omega) (by omega)
  rw [List.take_zero, List.nil_append] at hm3
  have hm3' : Ev (fun k => laws_markMeantS.f k R.1 1) (1 + 3 * (R.1.length : Int), mM put R.1.length 1) := hm3
  have hh := held_meant_at put hp R.1.length 0 1 (mM put R.1.length 1) (by rw [List.drop_zero]) (by rw [mM_len]; omega) (by omega) (by omega) (by omega)
  have hh' : Ev (fun k => laws_heldMeantS.f k (mM put R.1.length 1) 1) (1 + 3 * (R.1.length : Int)) := hh
  have hr2' : r2.1 = t1 + 3 * (ys.length : Int) := hr2
  refine Ev.bind tk (Ev.bind te (Ev.bind hsp (Ev.bind tk (Ev.bind te (Ev.bind him (Ev.bind er (Ev.pos rfl (Ev.pos rfl ?_))))))))
  refine Ev.bind tk (Ev.bind ex (Ev.pos rfl (Ev.bind te (Ev.bind ey (Ev.pos rfl (Ev.bind hm1 (Ev.bind hm2' (Ev.pos (by omega) ?_))))))))
  refine Ev.bind er (Ev.pos rfl (Ev.pos rfl (Ev.bind hm3' (Ev.bind hh' (Ev.pos (by omega) (Ev.pos rfl ?_))))))
  exact Ev.bind tk (Ev.bind te (Ev.bind him (Ev.bind er (Ev.pos rfl (Ev.pos rfl (Ev.bind hh' (Ev.pos (by omega) (Ev.pos rfl (Ev.now _)))))))))

end Go.Proofs.Ytfgdfnnddoncjaa.Pure
