/- MarksCrossed: the pure statement of the law: the program's marks are the reference's, for all clips, frames and steps. -/
import Derived.Test.YtikoiodbmnekfaaXFnExactMarksCrossedx11
import Derived.Test.YtikoiodbmnekfaaXLibMarksCrossed
namespace Go.Proofs.Ytikoiodbmnekfaa.Pure
open Go.RowKit Go.Proofs.Ytikoiodbmnekfaa.XFnExactMarksCrossed Go.Proofs.YtikoiodbmnekfaaW.PrintWords Go.Proofs.YtikoiodbmnekfaaW.PrintLast Go.Proofs.YtikoiodbmnekfaaW.PrintMore Go.Proofs.Ytikoiodbmnekfaa.X
set_option linter.unusedVariables false
set_option linter.unusedSimpArgs false

theorem in_spec (a b c : Int) : spec_l1In.f a b c = some (decide (b ≤ a) && decide (a ≤ c)) := by
  unfold spec_l1In.f
  by_cases h : b ≤ a <;> simp [h]
theorem in_impl (a b c : Int) : impl_inRange.f a b c = some (decide (b ≤ a) && decide (a ≤ c)) := by
  unfold impl_inRange.f
  by_cases h : b ≤ a <;> simp [h]
/-! names: letters, digits, '_', no digit first, 1 to 20 -/
def isDig (c : Int) : Bool := decide (48 ≤ c) && decide (c ≤ 57)
def isLet (c : Int) : Bool := (decide (97 ≤ c) && decide (c ≤ 122)) || (decide (65 ≤ c) && decide (c ≤ 90))
def nameOk (s : ByteArray) : Bool := (decide (1 ≤ s.size) && decide (s.size ≤ 20)) && allFrom (fun i => isLet (bt s i) || bt s i == 95 || (i != 0 && isDig (bt s i))) s.size 0
theorem dig_spec (c : Int) : spec_l1Digit.f c = some (isDig c) := by
  unfold spec_l1Digit.f isDig
  by_cases h : 48 ≤ c <;> simp [h]
theorem dig_impl (c : Int) : impl_isDigit.f c = some (isDig c) := by
  unfold impl_isDigit.f isDig
  by_cases h : 48 ≤ c <;> simp [h]
theorem let_spec (c : Int) : spec_l1Letter.f c = some (isLet c || c == 95) := by
  unfold spec_l1Letter.f isLet
  by_cases h1 : 97 ≤ c <;> by_cases h2 : c ≤ 122 <;> by_cases h3 : 65 ≤ c <;> by_cases h4 : c ≤ 90 <;> simp [h1, h2, h3, h4]
theorem let_impl (c : Int) : impl_isLetter.f c = some (isLet c) := by
  unfold impl_isLetter.f isLet
  by_cases h1 : 97 ≤ c <;> by_cases h2 : c ≤ 122 <;> by_cases h3 : 65 ≤ c <;> by_cases h4 : c ≤ 90 <;> simp [h1, h2, h3, h4]
theorem let_not_dig (c : Int) (h : isDig c = true) : (isLet c || c == 95) = false := by
  unfold isDig at h
  unfold isLet
  simp at h ⊢
  omega
theorem name_spec_l (s : ByteArray) (hs : s.size ≤ maxLen) : ∀ m i : Nat, i + m = s.size → Ev (fun k => spec_GoodName.l0 k s (i : Int)) (allFrom (fun i => isLet (bt s i) || bt s i == 95 || isDig (bt s i)) m i) := by
  rw [maxLen_eq] at hs
  intro m
  induction m with
  | zero => exact fun i hi => Ev.step (fun k => spec_GoodName.l0.eq_2 _ _ k) (Ev.neg (by omega) (Ev.now _))
  | succ m ih =>
    intro i hi
    refine Ev.step (fun k => spec_GoodName.l0.eq_2 _ _ k) (Ev.pos (by omega) (Ev.pos (by omega) (Ev.const_bind (let_spec _) ?_)))
    rw [w64 (by omega) (by omega), allFrom]
    cases h : (isLet (bt s i) || bt s i == 95) with
    | true => exact Ev.pos rfl (Ev.cast (ih (i + 1) (by omega)) (by simp))
    | false =>
      refine Ev.neg (by decide) (Ev.const_bind (dig_spec _) ?_)
      rw [Bool.false_or]
      exact Ev.and (fun _ => ih (i + 1) (by omega))
theorem name_spec (s : ByteArray) (hs : s.size ≤ maxLen) : Ev (fun k => spec_GoodName.f k s) (nameOk s) := by
  have hj : ∀ b, Ev (fun k => spec_GoodName.j0 k s b) (!b && allFrom (fun i => isLet (bt s i) || bt s i == 95 || isDig (bt s i)) s.size 0) := fun b =>
    Ev.step (fun k => spec_GoodName.j0.eq_2 _ _ k) (Ev.andn (fun _ => name_spec_l s hs s.size 0 (by omega)))
  unfold spec_GoodName.f
  refine Ev.ite (fun h => Ev.cast (hj true) ?_) (fun h => Ev.ite (fun h2 => Ev.cast (hj true) ?_) (fun h2 => Ev.pos (by omega) (Ev.const_bind (dig_spec _) (Ev.cast (hj _) ?_))))
  · simp only [nameOk, decide_eq_false (show ¬ 1 ≤ s.size by omega), Bool.false_and, Bool.not_true]
  · simp only [nameOk, decide_eq_false (show ¬ s.size ≤ 20 by omega), Bool.and_false, Bool.false_and, Bool.not_true]
  · obtain ⟨n, hn⟩ : ∃ n, s.size = n + 1 := ⟨s.size - 1, by omega⟩
    simp only [nameOk, hn, decide_eq_true (show 1 ≤ n + 1 by omega), decide_eq_true (show n + 1 ≤ 20 by omega), Bool.true_and, allFrom]
    rw [allFrom_congr (p := fun i => isLet (bt s i) || bt s i == 95 || isDig (bt s i)) (q := fun i => isLet (bt s i) || bt s i == 95 || (i != 0 && isDig (bt s i))) n (0 + 1) (fun j h1 _ => by
      have : (j != 0) = true := by rw [bne_iff_ne]; omega
      simp only [this, Bool.true_and])]
    rw [show ((0 : Nat) : Int) = 0 from rfl, show ((0 : Nat) != 0) = false from rfl, Bool.false_and, Bool.or_false, ← Bool.and_assoc]
    cases hd : isDig (bt s 0) with
    | true => rw [let_not_dig _ hd]; rfl
    | false => rw [Bool.or_false, Bool.not_false, Bool.true_and]
theorem name_impl (s : ByteArray) (hs : s.size ≤ maxLen) : Ev (fun k => impl_GoodName.f k s) (nameOk s) := by
  rw [maxLen_eq] at hs
  have key : ∀ m i : Nat, i + m = s.size → Ev (fun k => impl_GoodName.l0 k s (s.size : Int) (i : Int)) ((decide (1 ≤ s.size) && decide (s.size ≤ 20)) && allFrom (fun i => isLet (bt s i) || bt s i == 95 || (i != 0 && isDig (bt s i))) m i) := by
    intro m
    induction m with
    | zero =>
      intro i hi
      refine Ev.step (fun k => impl_GoodName.l0.eq_2 _ _ _ k) (Ev.neg (by omega) (Ev.const_bind (in_impl _ _ _) (Ev.cast (Ev.now _) ?_)))
      rw [allFrom, Bool.and_true]
      congr 1 <;> exact decide_eq_decide.2 (by omega)
    | succ m ih =>
      intro i hi
      refine Ev.step (fun k => impl_GoodName.l0.eq_2 _ _ _ k) (Ev.pos (by omega) (Ev.pos (by omega) (Ev.pos (by omega) (Ev.const_bind (let_impl _) ?_))))
      rw [w64 (by omega) (by omega), allFrom]
      cases h : isLet (bt s i) with
      | true => exact Ev.pos rfl (Ev.cast (ih (i + 1) (by omega)) (by simp))
      | false =>
        refine Ev.neg (by decide) (Ev.ite (fun h5 => Ev.cast (ih (i + 1) (by omega)) (by simp [h5])) (fun h5 => Ev.ite (fun h0 => Ev.cast (Ev.now _) ?_) (fun h0 => Ev.const_bind (dig_impl _) ?_)))
        · have h0' : (i != 0) = false := by rw [bne_eq_false_iff_eq]; omega
          have h5' : (bt s (i : Int) == 95) = false := beq_eq_false_iff_ne.2 h5
          simp only [h5', h0', Bool.false_or, Bool.false_and, Bool.and_false]
        · have h0' : (i != 0) = true := by rw [bne_iff_ne]; omega
          have h5' : (bt s (i : Int) == 95) = false := beq_eq_false_iff_ne.2 h5
          simp only [h5', Bool.false_or, h0', Bool.true_and]
          cases hd : isDig (bt s i) with
          | true => exact Ev.pos rfl (Ev.cast (ih (i + 1) (by omega)) (by simp))
          | false => exact Ev.neg (by decide) (Ev.cast (Ev.now _) (by simp))
  exact key s.size 0 (by omega)
/-! keys of a track -/
def valueOk (a : Int) : Bool := decide (-100000 ≤ a) && decide (a ≤ 100000)
theorem value_spec (a : Int) : spec_l11Value.f a = some (valueOk a) := by unfold spec_l11Value.f; rw [in_spec]; rfl
theorem value_impl (a : Int) : impl_isKeyValue.f a = some (valueOk a) := by unfold impl_isKeyValue.f; rw [in_impl]; rfl
def keyOk (n : Int) (l : List S75) (i : Nat) : Bool :=
  (decide (0 ≤ (rd_T75 l (i : Int)).f0) && decide ((rd_T75 l (i : Int)).f0 ≤ n)) && (valueOk (rd_T75 l (i : Int)).f1 && (i == 0 || decide ((rd_T75 l ((i : Int) - 1)).f0 < (rd_T75 l (i : Int)).f0)))
def keysOk (n : Int) (l : List S75) : Bool := (decide (1 ≤ l.length) && decide (l.length ≤ 60)) && allFrom (keyOk n l) l.length 0
theorem keys_spec (n : Int) (l : List S75) (hl : l.length ≤ maxLen) : Ev (fun k => spec_l11Keys.f k l n) (keysOk (wrap64 (n - 1)) l) := by
  rw [maxLen_eq] at hl
  have key : ∀ m i : Nat, i + m = l.length → Ev (fun k => spec_l11Keys.l0 k l n l (l.length : Int) (i : Int)) (allFrom (keyOk (wrap64 (n - 1)) l) m i) := by
    intro m
    induction m with
    | zero => exact fun i hi => Ev.step (fun k => spec_l11Keys.l0.eq_2 _ _ _ _ _ k) (Ev.neg (by omega) (Ev.now _))
    | succ m ih =>
      intro i hi
      refine Ev.step (fun k => spec_l11Keys.l0.eq_2 _ _ _ _ _ k) (Ev.pos (by omega) (Ev.pos (by omega) (Ev.pos (by omega) ?_)))
      simp only [in_spec, value_spec, Option.bind_some]
      rw [w_succ (by omega), allFrom, keyOk, and3]
      refine Ev.and (fun _ => Ev.and (fun _ => ?_))
      by_cases h0 : i = 0
      · subst h0
        exact Ev.neg (by omega) (Ev.cast (ih 1 (by omega)) (by simp))
      · rw [w_pred (by omega)]
        have h0' : (i == 0) = false := beq_eq_false_iff_ne.2 h0
        refine Ev.pos (by omega) (Ev.pos (by omega) (Ev.pos (by omega) ?_))
        rw [h0', Bool.false_or]
        exact Ev.ite (fun h => Ev.cast (Ev.now _) (by rw [decide_eq_false (by omega), Bool.false_and])) (fun h => Ev.cast (ih (i + 1) (by omega)) (by rw [decide_eq_true (by omega), Bool.true_and]))
  have hj : ∀ b, Ev (fun k => spec_l11Keys.j0 k l n b) (!b && allFrom (keyOk (wrap64 (n - 1)) l) l.length 0) := fun b =>
    Ev.step (fun k => spec_l11Keys.j0.eq_2 _ _ _ k) (Ev.andn (fun _ => key l.length 0 (by omega)))
  unfold spec_l11Keys.f keysOk
  refine Ev.ite (fun h => Ev.cast (hj _) ?_) (fun h => Ev.cast (hj _) ?_)
  · rw [decide_eq_false (show ¬ 1 ≤ l.length by omega)]; rfl
  · rw [decide_eq_true (show 1 ≤ l.length by omega), Bool.true_and]
    congr 1
    by_cases h2 : l.length ≤ 60
    · rw [decide_eq_true h2, decide_eq_false (by omega)]; rfl
    · rw [decide_eq_false h2, decide_eq_true (by omega)]; rfl
theorem keys_impl (n : Int) (l : List S75) (hl : l.length ≤ maxLen) : Ev (fun k => impl_areKeys.f k l n) (keysOk (wrap64 (n - 1)) l) := by
  rw [maxLen_eq] at hl
  unfold impl_areKeys.f keysOk
  generalize hL : (decide (1 ≤ l.length) && decide (l.length ≤ 60)) = L
  have sw : ∀ x y : Bool, (L && (x && y)) = (x && (L && y)) := fun x y => by rw [← Bool.and_assoc, Bool.and_comm L x, Bool.and_assoc]
  have key : ∀ m i : Nat, i + m = l.length → Ev (fun k => impl_areKeys.l0 k l n l (l.length : Int) (i : Int)) (L && allFrom (keyOk (wrap64 (n - 1)) l) m i) := by
    intro m
    induction m with
    | zero =>
      intro i hi
      refine Ev.step (fun k => impl_areKeys.l0.eq_2 _ _ _ _ _ k) (Ev.neg (by omega) (Ev.const_bind (in_impl _ _ _) (Ev.cast (Ev.now _) ?_)))
      rw [allFrom, Bool.and_true, ← hL]
      congr 1 <;> exact decide_eq_decide.2 (by omega)
    | succ m ih =>
      intro i hi
      refine Ev.step (fun k => impl_areKeys.l0.eq_2 _ _ _ _ _ k) (Ev.pos (by omega) (Ev.pos (by omega) (Ev.pos (by omega) ?_)))
      simp only [in_impl, value_impl, Option.bind_some]
      rw [w_succ (by omega), allFrom, keyOk, and3, sw, sw]
      refine Ev.and (fun _ => Ev.and (fun _ => ?_))
      by_cases h0 : i = 0
      · subst h0
        exact Ev.neg (by omega) (Ev.cast (ih 1 (by omega)) (by simp))
      · rw [w_pred (by omega)]
        have h0' : (i == 0) = false := beq_eq_false_iff_ne.2 h0
        refine Ev.pos (by omega) (Ev.pos (by omega) (Ev.pos (by omega) ?_))
        rw [h0', Bool.false_or, sw]
        exact Ev.ite (fun h => Ev.cast (Ev.now _) (by rw [decide_eq_false (by omega), Bool.false_and])) (fun h => Ev.cast (ih (i + 1) (by omega)) (by rw [decide_eq_true (by omega), Bool.true_and]))
  exact key l.length 0 (by omega)
theorem keys_yes {n : Int} {l : List S75} (h : keysOk n l = true) : (1 ≤ l.length ∧ l.length ≤ 60) ∧ ∀ i : Nat, i < l.length → (0 ≤ (rd_T75 l (i : Int)).f0 ∧ (rd_T75 l (i : Int)).f0 ≤ n) ∧ (-100000 ≤ (rd_T75 l (i : Int)).f1 ∧ (rd_T75 l (i : Int)).f1 ≤ 100000) ∧ (i = 0 ∨ (rd_T75 l ((i : Int) - 1)).f0 < (rd_T75 l (i : Int)).f0) := by
  unfold keysOk at h
  simp only [Bool.and_eq_true, decide_eq_true_eq] at h
  refine ⟨h.1, fun i hi => ?_⟩
  have := (allFrom_iff _ _ _).1 h.2 i (by omega) (by omega)
  simpa [keyOk, valueOk, Bool.and_eq_true, Bool.or_eq_true, decide_eq_true_eq, beq_iff_eq] using this
/-! clips -/
abbrev Tk := S53
abbrev Mk := S57
abbrev rT (l : List Tk) (i : Int) : Tk := rd_T53 l i
abbrev rM (l : List Mk) (i : Int) : Mk := rd_T57 l i
theorem rT_get {L : List Tk} {i : Nat} (h : i < L.length) : rT L (i : Int) = L[i] := rdOf_get (d := z53) h
theorem rM_get {L : List Mk} {i : Nat} (h : i < L.length) : rM L (i : Int) = L[i] := rdOf_get (d := z57) h
def tless (l : List Tk) (i : Nat) : Bool := if i = 0 then true else Op.bytesLess (rT l ((i : Int) - 1)).f0.toList (rT l (i : Int)).f0.toList
def mless (l : List Mk) (i : Nat) : Bool := if i = 0 then true else (!decide ((rM l ((i : Int) - 1)).f0 > (rM l (i : Int)).f0) && (!decide ((rM l ((i : Int) - 1)).f0 = (rM l (i : Int)).f0) || Op.bytesLess (rM l ((i : Int) - 1)).f1.toList (rM l (i : Int)).f1.toList))
def trackOk (n : Int) (l : List Tk) (i : Nat) : Bool := nameOk (rT l (i : Int)).f0 && (keysOk (wrap64 (n - 1)) (rT l (i : Int)).f1 && tless l i)
def markOk (n : Int) (l : List Mk) (i : Nat) : Bool := (decide (0 ≤ (rM l (i : Int)).f0) && decide ((rM l (i : Int)).f0 ≤ wrap64 (n - 1))) && (nameOk (rM l (i : Int)).f1 && mless l i)
def clipOk (n : Int) (ts : List Tk) (ms : List Mk) : Bool := (decide (1 ≤ n) && decide (n ≤ 60)) && ((decide (ts.length ≤ 8) && decide (ms.length ≤ 20)) && (allFrom (trackOk n ts) ts.length 0 && allFrom (markOk n ms) ms.length 0))
def COk (ts : List Tk) (ms : List Mk) : Prop := (ts.length ≤ maxLen ∧ ∀ z ∈ ts, z.f0.size ≤ maxLen ∧ z.f1.length ≤ maxLen) ∧ (ms.length ≤ maxLen ∧ ∀ z ∈ ms, z.f1.size ≤ maxLen)
/-- The order of the marks, as both ask it. -/
theorem mless_ev (ms : List Mk) (i : Nat) (hi : i < ms.length) (hl : ms.length ≤ 9223372036854775807) {g : Nat → Option Bool} {R : Bool} (hg : Ev g R) :
    Ev (fun k => if (i : Int) > 0 then (if 0 ≤ (wrap64 ((i : Int) - 1)) then (if (wrap64 ((i : Int) - 1)) < (ms.length : Int) then (if (rM ms (wrap64 ((i : Int) - 1))).f0 > (rM ms (i : Int)).f0 then (some false) else (if (rM ms (wrap64 ((i : Int) - 1))).f0 = (rM ms (i : Int)).f0 then (if ((Op.bytesLess ((rM ms (wrap64 ((i : Int) - 1))).f1.toList) (rM ms (i : Int)).f1.toList) = true) then g k else (some false)) else g k)) else (none)) else (none)) else g k) (mless ms i && R) := by
  unfold mless
  by_cases h0 : i = 0
  · subst h0
    exact Ev.neg (by omega) (Ev.cast hg (by simp))
  · rw [if_neg h0, w_pred (by omega)]
    refine Ev.pos (by omega) (Ev.pos (by omega) (Ev.pos (by omega) ?_))
    by_cases h1 : (rM ms ((i : Int) - 1)).f0 > (rM ms (i : Int)).f0
    · exact Ev.pos h1 (Ev.cast (Ev.now _) (by rw [decide_eq_true h1]; rfl))
    · refine Ev.neg h1 ?_
      rw [decide_eq_false h1, Bool.not_false, Bool.true_and]
      by_cases h2 : (rM ms ((i : Int) - 1)).f0 = (rM ms (i : Int)).f0
      · refine Ev.pos h2 ?_
        rw [decide_eq_true h2, Bool.not_true, Bool.false_or]
        exact Ev.and (fun _ => hg)
      · exact Ev.neg h2 (Ev.cast hg (by rw [decide_eq_false h2]; rfl))
theorem marks_spec (n : Int) (ts : List Tk) (ms : List Mk) (hl : ms.length ≤ maxLen) (hs : ∀ z ∈ ms, z.f1.size ≤ maxLen) : Ev (fun k => spec_GoodClip.l1 k ms (ms.length : Int) 0 n ts ms) (allFrom (markOk n ms) ms.length 0) := by
  rw [maxLen_eq] at hl
  have key : ∀ m i : Nat, i + m = ms.length → Ev (fun k => spec_GoodClip.l1 k ms (ms.length : Int) (i : Int) n ts ms) (allFrom (markOk n ms) m i) := by
    intro m
    induction m with
    | zero => exact fun i hi => Ev.step (fun k => spec_GoodClip.l1.eq_2 _ _ _ _ _ _ k) (Ev.neg (by omega) (Ev.now _))
    | succ m ih =>
      intro i hi
      have hi' : i < ms.length := by omega
      have hz := hs _ (List.getElem_mem hi')
      rw [← rM_get hi'] at hz
      have hR : Ev (fun k => spec_GoodClip.l1 k ms (ms.length : Int) (wrap64 ((i : Int) + 1)) n ts ms) (allFrom (markOk n ms) m (i + 1)) := by rw [w_succ (by omega)]; exact ih (i + 1) (by omega)
      have hj : ∀ b, Ev (fun k => spec_GoodClip.j3 k (i : Int) ms (ms.length : Int) (i : Int) b n ts ms (rM ms (i : Int)).f0 (rM ms (i : Int)).f1) (!b && (mless ms i && allFrom (markOk n ms) m (i + 1))) := fun b =>
        Ev.step (fun k => spec_GoodClip.j3.eq_2 _ _ _ _ _ _ _ _ _ _ k) (Ev.andn (fun _ => mless_ev ms i hi' hl hR))
      refine Ev.step (fun k => spec_GoodClip.l1.eq_2 _ _ _ _ _ _ k) (Ev.pos (by omega) (Ev.pos (by omega) (Ev.pos (by omega) (Ev.const_bind (in_spec _ _ _) ?_))))
      rw [allFrom, markOk]
      cases hc : (decide (0 ≤ (rM ms (i : Int)).f0) && decide ((rM ms (i : Int)).f0 ≤ wrap64 (n - 1))) with
      | false => exact Ev.neg (by decide) (Ev.cast (hj true) (by simp))
      | true => exact Ev.pos rfl (Ev.bind (name_spec _ hz) (Ev.cast (hj _) (by rw [Bool.not_not, Bool.true_and, Bool.and_assoc])))
  exact key ms.length 0 (by omega)
theorem marks_impl (n : Int) (ts : List Tk) (ms : List Mk) (hl : ms.length ≤ maxLen) (hs : ∀ z ∈ ms, z.f1.size ≤ maxLen) : Ev (fun k => impl_GoodClip.l1 k ms (ms.length : Int) 0 n ts ms) (allFrom (markOk n ms) ms.length 0) := by
  rw [maxLen_eq] at hl
  have key : ∀ m i : Nat, i + m = ms.length → Ev (fun k => impl_GoodClip.l1 k ms (ms.length : Int) (i : Int) n ts ms) (allFrom (markOk n ms) m i) := by
    intro m
    induction m with
    | zero => exact fun i hi => Ev.step (fun k => impl_GoodClip.l1.eq_2 _ _ _ _ _ _ k) (Ev.neg (by omega) (Ev.now _))
    | succ m ih =>
      intro i hi
      have hi' : i < ms.length := by omega
      have hz := hs _ (List.getElem_mem hi')
      rw [← rM_get hi'] at hz
      have hR : Ev (fun k => impl_GoodClip.l1 k ms (ms.length : Int) (wrap64 ((i : Int) + 1)) n ts ms) (allFrom (markOk n ms) m (i + 1)) := by rw [w_succ (by omega)]; exact ih (i + 1) (by omega)
      have hj : ∀ b, Ev (fun k => impl_GoodClip.j3 k (i : Int) ms (ms.length : Int) (i : Int) b n ts ms (rM ms (i : Int)).f0 (rM ms (i : Int)).f1) (!b && (mless ms i && allFrom (markOk n ms) m (i + 1))) := fun b =>
        Ev.step (fun k => impl_GoodClip.j3.eq_2 _ _ _ _ _ _ _ _ _ _ k) (Ev.andn (fun _ => mless_ev ms i hi' hl hR))
      refine Ev.step (fun k => impl_GoodClip.l1.eq_2 _ _ _ _ _ _ k) (Ev.pos (by omega) (Ev.pos (by omega) (Ev.pos (by omega) (Ev.bind (name_impl _ hz) ?_))))
      rw [allFrom, markOk]
      cases hn : nameOk (rM ms (i : Int)).f1 with
      | false => exact Ev.neg (by decide) (Ev.cast (hj true) (by simp))
      | true => exact Ev.pos rfl (Ev.const_bind (in_impl _ _ _) (Ev.cast (hj _) (by simp only [Bool.not_not, Bool.true_and, Bool.and_assoc])))
  exact key ms.length 0 (by omega)
theorem tracks_spec (n : Int) (ts : List Tk) (ms : List Mk) (ho : COk ts ms) : Ev (fun k => spec_GoodClip.l0 k ts (ts.length : Int) 0 n ts ms) (allFrom (trackOk n ts) ts.length 0 && allFrom (markOk n ms) ms.length 0) := by
  obtain ⟨⟨hl, hs⟩, h2, h3⟩ := ho
  have hE := marks_spec n ts ms h2 h3
  rw [maxLen_eq] at hl
  generalize allFrom (markOk n ms) ms.length 0 = R2 at hE ⊢
  have key : ∀ m i : Nat, i + m = ts.length → Ev (fun k => spec_GoodClip.l0 k ts (ts.length : Int) (i : Int) n ts ms) (allFrom (trackOk n ts) m i && R2) := by
    intro m
    induction m with
    | zero => exact fun i hi => Ev.step (fun k => spec_GoodClip.l0.eq_2 _ _ _ _ _ _ k) (Ev.neg (by omega) (Ev.cast hE (by simp [allFrom])))
    | succ m ih =>
      intro i hi
      have hi' : i < ts.length := by omega
      have hz := hs _ (List.getElem_mem hi')
      rw [← rT_get hi'] at hz
      have hR : Ev (fun k => spec_GoodClip.l0 k ts (ts.length : Int) (wrap64 ((i : Int) + 1)) n ts ms) (allFrom (trackOk n ts) m (i + 1) && R2) := by rw [w_succ (by omega)]; exact ih (i + 1) (by omega)
      refine Ev.step (fun k => spec_GoodClip.l0.eq_2 _ _ _ _ _ _ k) (Ev.pos (by omega) (Ev.pos (by omega) (Ev.pos (by omega) (Ev.bind (name_spec _ hz.1) ?_))))
      rw [allFrom, trackOk]
      simp only [Bool.and_assoc]
      refine Ev.and (fun _ => Ev.bind (keys_spec _ _ hz.2) (Ev.and (fun _ => ?_)))
      unfold tless
      by_cases h0 : i = 0
      · subst h0
        exact Ev.neg (by omega) (Ev.cast hR (by simp))
      · rw [if_neg h0, w_pred (by omega)]
        exact Ev.pos (by omega) (Ev.pos (by omega) (Ev.pos (by omega) (Ev.and (fun _ => hR))))
  exact key ts.length 0 (by omega)
theorem tracks_impl (n : Int) (ts : List Tk) (ms : List Mk) (ho : COk ts ms) : Ev (fun k => impl_GoodClip.l0 k ts (ts.length : Int) 0 n ts ms) (allFrom (trackOk n ts) ts.length 0 && allFrom (markOk n ms) ms.length 0) := by
  obtain ⟨⟨hl, hs⟩, h2, h3⟩ := ho
  have hE := marks_impl n ts ms h2 h3
  rw [maxLen_eq] at hl
  generalize allFrom (markOk n ms) ms.length 0 = R2 at hE ⊢
  have key : ∀ m i : Nat, i + m = ts.length → Ev (fun k => impl_GoodClip.l0 k ts (ts.length : Int) (i : Int) n ts ms) (allFrom (trackOk n ts) m i && R2) := by
    intro m
    induction m with
    | zero => exact fun i hi => Ev.step (fun k => impl_GoodClip.l0.eq_2 _ _ _ _ _ _ k) (Ev.neg (by omega) (Ev.cast hE (by simp [allFrom])))
    | succ m ih =>
      intro i hi
      have hi' : i < ts.length := by omega
      have hz := hs _ (List.getElem_mem hi')
      rw [← rT_get hi'] at hz
      have hR : Ev (fun k => impl_GoodClip.l0 k ts (ts.length : Int) (wrap64 ((i : Int) + 1)) n ts ms) (allFrom (trackOk n ts) m (i + 1) && R2) := by rw [w_succ (by omega)]; exact ih (i + 1) (by omega)
      refine Ev.step (fun k => impl_GoodClip.l0.eq_2 _ _ _ _ _ _ k) (Ev.pos (by omega) (Ev.pos (by omega) (Ev.pos (by omega) (Ev.bind (name_impl _ hz.1) ?_))))
      rw [allFrom, trackOk]
      simp only [Bool.and_assoc]
      refine Ev.and (fun _ => ?_)
      unfold tless
      by_cases h0 : i = 0
      · subst h0
        exact Ev.neg (by omega) (Ev.bind (keys_impl _ _ hz.2) (Ev.and (fun _ => Ev.cast hR (by simp))))
      · rw [if_neg h0, w_pred (by omega)]
        refine Ev.pos (by omega) (Ev.pos (by omega) (Ev.pos (by omega) ?_))
        cases hb : Op.bytesLess (rT ts ((i : Int) - 1)).f0.toList (rT ts (i : Int)).f0.toList with
        | false => exact Ev.neg (by decide) (Ev.cast (Ev.now _) (by simp))
        | true => exact Ev.pos rfl (Ev.bind (keys_impl _ _ hz.2) (Ev.and (fun _ => Ev.cast hR (by simp))))
  exact key ts.length 0 (by omega)
theorem clip_spec (n : Int) (ts : List Tk) (ms : List Mk) (ho : COk ts ms) : Ev (fun k => spec_GoodClip.f k n ts ms) (clipOk n ts ms) := by
  have hj : ∀ b, Ev (fun k => spec_GoodClip.j0 k b n ts ms) (!b && (allFrom (trackOk n ts) ts.length 0 && allFrom (markOk n ms) ms.length 0)) := fun b =>
    Ev.step (fun k => spec_GoodClip.j0.eq_2 _ _ _ _ k) (Ev.andn (fun _ => tracks_spec n ts ms ho))
  unfold spec_GoodClip.f clipOk
  refine Ev.const_bind (in_spec _ _ _) ?_
  cases hc : (decide (1 ≤ n) && decide (n ≤ 60)) with
  | false => exact Ev.neg (by decide) (Ev.cast (hj true) (by simp))
  | true =>
    refine Ev.pos rfl (Ev.ite (fun h => Ev.cast (hj true) ?_) (fun h => Ev.cast (hj _) ?_))
    · rw [decide_eq_false (show ¬ ts.length ≤ 8 by omega)]; simp
    · rw [decide_eq_true (show ts.length ≤ 8 by omega), Bool.true_and, Bool.true_and]
      congr 1
      by_cases h2 : ms.length ≤ 20
      · rw [decide_eq_true h2, decide_eq_false (by omega)]; rfl
      · rw [decide_eq_false h2, decide_eq_true (by omega)]; rfl
theorem clip_impl (n : Int) (ts : List Tk) (ms : List Mk) (ho : COk ts ms) : Ev (fun k => impl_GoodClip.f k n ts ms) (clipOk n ts ms) := by
  have hj : ∀ b, Ev (fun k => impl_GoodClip.j0 k b n ts ms) (!b && (allFrom (trackOk n ts) ts.length 0 && allFrom (markOk n ms) ms.length 0)) := fun b =>
    Ev.step (fun k => impl_GoodClip.j0.eq_2 _ _ _ _ k) (Ev.andn (fun _ => tracks_impl n ts ms ho))
  unfold impl_GoodClip.f clipOk
  refine Ev.const_bind (in_impl _ _ _) ?_
  cases hc : (decide (1 ≤ n) && decide (n ≤ 60)) with
  | false => exact Ev.neg (by decide) (Ev.cast (hj true) (by simp))
  | true =>
    refine Ev.pos rfl (Ev.ite (fun h => Ev.cast (hj true) ?_) (fun h => Ev.cast (hj _) ?_))
    · rw [decide_eq_false (show ¬ ts.length ≤ 8 by omega)]; simp
    · rw [decide_eq_true (show ts.length ≤ 8 by omega), Bool.true_and, Bool.true_and]
      congr 1
      by_cases h2 : ms.length ≤ 20
      · rw [decide_eq_true h2, decide_eq_false (by omega)]; rfl
      · rw [decide_eq_false h2, decide_eq_true (by omega)]; rfl
theorem sz_tracks (l : List S70) (hl : l.length ≤ maxLen) (hs : ∀ z ∈ l, z.f0.size ≤ maxLen ∧ z.f1.length ≤ maxLen) {a : Int} (h0 : 0 ≤ a) (h1 : a ≤ 1048576) : ∃ t, t ≤ 1048576 ∧ (¬ t < 0 → (l.length : Int) ≤ 1048576 ∧ ∀ z ∈ l, (z.f1.length : Int) ≤ 1048576) ∧ Ev (fun k => laws_szTrackS.f k l a) t := by
  unfold laws_szTrackS.f
  have e := sz_left (n := l.length) h0 h1 hl
  rw [maxLen_eq] at hl
  by_cases hn : wrap64 (a - (l.length : Int)) < 0
  · exact ⟨-1, by omega, by omega, Ev.pos hn (Ev.now _)⟩
  · rw [if_neg hn] at e
    have e := Option.some.inj e
    rw [e] at hn ⊢
    have hr := (roomLeft_ok hn).1
    obtain ⟨t, ht, hts, he⟩ := sizesP_ev (fun z : S70 => (z.f1.length : Int) ≤ 1048576) z70 (fun _ z r => laws_szTrack.f z.f0 z.f1 r) laws_szTrackS.l0 (fun k x r i => laws_szTrackS.l0.eq_2 x r i k) l (by omega)
      (fun z hz r h0 h1 => by
        have e2 := sz_left (n := z.f0.size) h0 h1 (hs z hz).1
        unfold laws_szTrack.f
        by_cases hm : wrap64 (r - (z.f0.size : Int)) < 0
        · exact ⟨-1, by omega, fun h => absurd (by omega) h, Ev.pos hm (Ev.now _)⟩
        · rw [if_neg hm] at e2
          have e2 := Option.some.inj e2
          rw [e2] at hm ⊢
          have hm' := roomLeft_ok hm
          refine ⟨roomLeft z.f1.length (roomLeft z.f0.size r), roomLeft_le (roomLeft_le h1), fun h => ?_, Ev.neg hm (Ev.const_bind (sz_left (by omega) (roomLeft_le h1) (hs z hz).2) (Ev.mk fun _ => room_again _ _))⟩
          have := (roomLeft_ok h).1
          omega) (roomLeft l.length a) (by omega) (roomLeft_le h1)
    exact ⟨t, ht, fun h => ⟨by omega, hts h⟩, Ev.neg hn he⟩
theorem sz_marks (l : List S72) (hl : l.length ≤ maxLen) (hs : ∀ z ∈ l, z.f1.size ≤ maxLen) {a : Int} (h0 : 0 ≤ a) (h1 : a ≤ 1048576) : ∃ t, t ≤ 1048576 ∧ (¬ t < 0 → (l.length : Int) ≤ 1048576) ∧ Ev (fun k => laws_szMarkS.f k l a) t := by
  unfold laws_szMarkS.f
  have e := sz_left (n := l.length) h0 h1 hl
  rw [maxLen_eq] at hl
  by_cases hn : wrap64 (a - (l.length : Int)) < 0
  · exact ⟨-1, by omega, by omega, Ev.pos hn (Ev.now _)⟩
  · rw [if_neg hn] at e
    have e := Option.some.inj e
    rw [e] at hn ⊢
    have hr := (roomLeft_ok hn).1
    obtain ⟨t, ht, he⟩ := sizes_ev z72 (fun _ z r => laws_szMark.f z.f0 z.f1 r) laws_szMarkS.l0 (fun k x r i => laws_szMarkS.l0.eq_2 x r i k) l (by omega)
      (fun z hz r h0 h1 => ⟨roomLeft z.f1.size r, roomLeft_le h1, Ev.mk fun _ => sz_left h0 h1 (hs z hz)⟩) (roomLeft l.length a) (by omega) (roomLeft_le h1)
    exact ⟨t, ht, fun _ => by omega, Ev.neg hn he⟩
theorem sz_clip (n : Int) (ts : List S70) (ms : List S72) (hl : ts.length ≤ maxLen) (hs : ∀ z ∈ ts, z.f0.size ≤ maxLen ∧ z.f1.length ≤ maxLen) (hl2 : ms.length ≤ maxLen) (hs2 : ∀ z ∈ ms, z.f1.size ≤ maxLen) :
    ∃ t, (¬ t < 0 → ((ts.length : Int) ≤ 1048576 ∧ ∀ z ∈ ts, (z.f1.length : Int) ≤ 1048576) ∧ (ms.length : Int) ≤ 1048576) ∧ Ev (fun k => laws_szClip.f k n ts ms 1048576) t := by
  obtain ⟨t, h1, h2, he⟩ := sz_tracks ts hl hs (a := 1048576) (by omega) (by omega)
  unfold laws_szClip.f
  by_cases hn : t < 0
  · exact ⟨-1, fun h => absurd (by omega) h, Ev.bind he (Ev.pos hn (Ev.now _))⟩
  · obtain ⟨t2, _, g2, ge⟩ := sz_marks ms hl2 hs2 (a := t) (by omega) h1
    exact ⟨if t2 < 0 then -1 else t2, fun h => ⟨h2 hn, g2 (by split at h <;> omega)⟩, Ev.bind he (Ev.neg hn (Ev.bind ge (Ev.mk fun _ => by split <;> rfl)))⟩
def asKey (b : S88) : S75 := ⟨b.f0, b.f1⟩
def asTrack (b : S70) : Tk := ⟨b.f0, b.f1.map asKey⟩
def asMark (b : S72) : Mk := ⟨b.f0, b.f1⟩
theorem to_keys (l : List S88) (hl : (l.length : Int) ≤ 1048576) : Ev (fun k => laws_toKeyS.f k l) (l.map asKey) := by
  have h := toS_ev z75 asKey z88 laws_toKeyS.l0 (fun k x y i => laws_toKeyS.l0.eq_2 x y i k) l (by omega)
  exact Ev.pos (by omega) (Ev.pos (by omega) h)
theorem to_tracks (l : List S70) (hl : (l.length : Int) ≤ 1048576) (hs : ∀ z ∈ l, (z.f1.length : Int) ≤ 1048576) : Ev (fun k => laws_toTrackS.f k l) (l.map asTrack) := by
  have ht := toK_ev z53 asTrack z70 (fun k z => (laws_toTrack.f k z.f0 z.f1).bind fun t => some (⟨t.1, t.2⟩ : Tk)) laws_toTrackS.l0 (fun k x y i => by
      rw [laws_toTrackS.l0]
      split
      · split
        · simp only [Option.bind_assoc, Option.bind_some]; rfl
        · rfl
      · rfl) l (by omega) (fun z hz => Ev.bind (Ev.bind (to_keys z.f1 (hs z hz)) (Ev.now _)) (Ev.now _))
  unfold laws_toTrackS.f
  exact Ev.pos (by omega) (Ev.pos (by omega) ht)
theorem to_marks (l : List S72) (hl : (l.length : Int) ≤ 1048576) : Ev (fun k => laws_toMarkS.f k l) (l.map asMark) := by
  have h := toS_ev z57 asMark z72 laws_toMarkS.l0 (fun k x y i => laws_toMarkS.l0.eq_2 x y i k) l (by omega)
  exact Ev.pos (by omega) (Ev.pos (by omega) h)
theorem to_clip (n : Int) (ts : List S70) (ms : List S72) (hl : (ts.length : Int) ≤ 1048576) (hs : ∀ z ∈ ts, (z.f1.length : Int) ≤ 1048576) (hm : (ms.length : Int) ≤ 1048576) : Ev (fun k => laws_toClip.f k n ts ms) (n, ts.map asTrack, ms.map asMark) :=
  Ev.bind (to_tracks ts hl hs) (Ev.bind (to_marks ms hm) (Ev.now _))
theorem eq_keys (l : List S75) (hl : (l.length : Int) ≤ 1048576) : Ev (fun k => laws_eqKeyS.f k l l) true := by
  unfold laws_eqKeyS.f
  exact eqT_ev z75 (fun a b => laws_eqKey.f a.f0 a.f1 b.f0 b.f1) laws_eqKeyS.l0 (fun k x y i => laws_eqKeyS.l0.eq_2 x y i k) (fun a => by unfold laws_eqKey.f; rw [if_pos rfl, if_pos rfl]) l (by rw [maxLen_eq]; omega)
theorem eq_tracks (l : List Tk) (hl : (l.length : Int) ≤ 1048576) (hs : ∀ z ∈ l, (z.f1.length : Int) ≤ 1048576) : Ev (fun k => laws_eqTrackS.f k l l) true := by
  unfold laws_eqTrackS.f
  exact eqK_ev z53 (fun k a b => laws_eqTrack.f k a.f0 a.f1 b.f0 b.f1) laws_eqTrackS.l0 (fun k x y i => laws_eqTrackS.l0.eq_2 x y i k) l (by rw [maxLen_eq]; omega) (fun a ha => Ev.pos rfl (Ev.bind (eq_keys a.f1 (hs a ha)) (Ev.pos rfl (Ev.now _))))
theorem eq_marks (l : List Mk) (hl : (l.length : Int) ≤ 1048576) : Ev (fun k => laws_eqMarkS.f k l l) true := by
  unfold laws_eqMarkS.f
  exact eqT_ev z57 (fun a b => laws_eqMark.f a.f0 a.f1 b.f0 b.f1) laws_eqMarkS.l0 (fun k x y i => laws_eqMarkS.l0.eq_2 x y i k) (fun a => by unfold laws_eqMark.f; rw [if_pos rfl, if_pos rfl]) l (by rw [maxLen_eq]; omega)
theorem eq_clip (n : Int) (ts : List Tk) (ms : List Mk) (hl : (ts.length : Int) ≤ 1048576) (hs : ∀ z ∈ ts, (z.f1.length : Int) ≤ 1048576) (hm : (ms.length : Int) ≤ 1048576) : Ev (fun k => laws_eqClip.f k n ts ms n ts ms) true :=
  Ev.pos rfl (Ev.bind (eq_tracks ts hl hs) (Ev.pos rfl (Ev.bind (eq_marks ms hm) (Ev.pos rfl (Ev.now _)))))
/-- What the law says of a clip's sizes. -/
theorem clip_sizes (ts : List S70) (ms : List S72) (hl : (ts.length : Int) ≤ 1048576) (hs : ∀ z ∈ ts, (z.f1.length : Int) ≤ 1048576) (hn : ∀ z ∈ ts, z.f0.size ≤ maxLen) (hm : (ms.length : Int) ≤ 1048576) (hn2 : ∀ z ∈ ms, z.f1.size ≤ maxLen) :
    ((ts.map asTrack).length : Int) ≤ 1048576 ∧ (∀ z ∈ ts.map asTrack, (z.f1.length : Int) ≤ 1048576) ∧ ((ms.map asMark).length : Int) ≤ 1048576 ∧ COk (ts.map asTrack) (ms.map asMark) := by
  have a1 : ∀ z ∈ ts.map asTrack, (z.f1.length : Int) ≤ 1048576 := by
    intro z hz
    obtain ⟨y, hy, rfl⟩ := List.mem_map.1 hz
    have := hs y hy
    simp only [asTrack, List.length_map]
    exact this
  refine ⟨by rw [List.length_map]; exact hl, a1, by rw [List.length_map]; exact hm, ⟨by rw [List.length_map, maxLen_eq]; omega, fun z hz => ?_⟩, by rw [List.length_map, maxLen_eq]; omega, fun z hz => ?_⟩
  · have := a1 z hz
    obtain ⟨y, hy, rfl⟩ := List.mem_map.1 hz
    exact ⟨hn y hy, by rw [maxLen_eq]; omega⟩
  · obtain ⟨y, hy, rfl⟩ := List.mem_map.1 hz
    exact hn2 y hy
theorem text_ev : ∃ put : Int → ByteArray, ∀ c, 1 ≤ c → c ≤ 4611686018427387904 → Ev (fun k => laws_markText.f k c) (put c) :=
  markText_ev laws_markText.l0 (fun k x s => laws_markText.l0.eq_2 x s k)
theorem mapK_ev {α : Type} (one : Nat → α → Int → Option (Int × α)) (b : Int → Prop) : ∀ (l : List α) (c : Int), 1 ≤ c → c + (l.length : Int) * 4194304 ≤ 4611686018427387000 → (∀ e ∈ l, ∀ c, 1 ≤ c → c ≤ 4611686018427387000 - 4194304 → ∃ t e', c ≤ t ∧ t ≤ c + 4194304 ∧ Ev (fun k => one k e c) (t, e')) →
    ∃ t ys, c ≤ t ∧ t ≤ c + (l.length : Int) * 4194304 ∧ Ev (fun k => mapK (one k) l c) (t, ys)
  | [], c, _, _, _ => ⟨c, [], by omega, by simp, Ev.now _⟩
  | e :: l, c, h1, h2, h => by
    rw [List.length_cons] at h2
    obtain ⟨t, e', t1, t2, he⟩ := h e (List.mem_cons_self) c h1 (by omega)
    obtain ⟨u, ys, u1, u2, hu⟩ := mapK_ev one b l t (by omega) (by omega) (fun z hz => h z (List.mem_cons_of_mem _ hz))
    exact ⟨u, e' :: ys, by omega, by rw [List.length_cons]; omega, Ev.bind he (Ev.bind hu (Ev.now _))⟩
theorem mark_keys (l : List S75) (c : Int) (hc : 1 ≤ c) (hb : c + 2 * (l.length : Int) ≤ 4611686018427387904) : ∃ ys, Ev (fun k => laws_markKeyS.f k l c) (c + 2 * (l.length : Int), ys) := by
  have key : ∀ (m i : Nat) (xs : List S75) (c : Int), i + m = xs.length → xs.length ≤ 4611686018427387904 → 1 ≤ c → c + 2 * (m : Int) ≤ 4611686018427387904 → ∃ ys, Ev (fun k => laws_markKeyS.l0 k xs c (i : Int)) (c + 2 * (m : Int), ys) := by
    intro m
    induction m with
    | zero => exact fun i xs c hi _ _ _ => ⟨xs, Ev.step (fun k => laws_markKeyS.l0.eq_2 _ _ _ k) (Ev.neg (by omega) (Ev.cast (Ev.now _) (by simp)))⟩
    | succ m ih =>
      intro i xs c hi hx h1 h2
      obtain ⟨ys, hy⟩ := ih (i + 1) ((xs.set i ⟨c, (rd_T75 xs (i : Int)).f1⟩).set i ⟨(rd_T75 (xs.set i ⟨c, (rd_T75 xs (i : Int)).f1⟩) (i : Int)).f0, c + 1⟩) (c + 2) (by simp; omega) (by simp; omega) (by omega) (by omega)
      refine ⟨ys, Ev.step (fun k => laws_markKeyS.l0.eq_2 _ _ _ k) (Ev.pos (by omega) (Ev.pos (by omega) (Ev.some_bind ?_)))⟩
      rw [w64 (n := c + 1) (by omega) (by omega), w64 (n := c + 1 + 1) (by omega) (by omega), w_succ (by omega), Int.toNat_natCast, show c + 1 + 1 = c + 2 by omega]
      exact Ev.cast hy (by rw [show c + 2 + 2 * (m : Int) = c + 2 * ((m + 1 : Nat) : Int) by omega])
  exact key l.length 0 l c (by omega) (by omega) hc hb
theorem mark_marks (l : List S57) (c : Int) (hc : 1 ≤ c) (hb : c + 2 * (l.length : Int) ≤ 4611686018427387904) : ∃ ys, Ev (fun k => laws_markMarkS.f k l c) (c + 2 * (l.length : Int), ys) := by
  obtain ⟨put, hput⟩ := text_ev
  have key : ∀ (m i : Nat) (xs : List S57) (c : Int), i + m = xs.length → xs.length ≤ 4611686018427387904 → 1 ≤ c → c + 2 * (m : Int) ≤ 4611686018427387904 → ∃ ys, Ev (fun k => laws_markMarkS.l0 k xs c (i : Int)) (c + 2 * (m : Int), ys) := by
    intro m
    induction m with
    | zero => exact fun i xs c hi _ _ _ => ⟨xs, Ev.step (fun k => laws_markMarkS.l0.eq_2 _ _ _ k) (Ev.neg (by omega) (Ev.cast (Ev.now _) (by simp)))⟩
    | succ m ih =>
      intro i xs c hi hx h1 h2
      obtain ⟨ys, hy⟩ := ih (i + 1) ((xs.set i ⟨c, (rd_T57 xs (i : Int)).f1⟩).set i ⟨(rd_T57 (xs.set i ⟨c, (rd_T57 xs (i : Int)).f1⟩) (i : Int)).f0, put (c + 1)⟩) (c + 2) (by simp; omega) (by simp; omega) (by omega) (by omega)
      refine ⟨ys, Ev.step (fun k => laws_markMarkS.l0.eq_2 _ _ _ k) (Ev.pos (by omega) (Ev.pos (by omega) (Ev.some_bind ?_)))⟩
      rw [w64 (n := c + 1) (by omega) (by omega), w64 (n := c + 1 + 1) (by omega) (by omega), w_succ (by omega), Int.toNat_natCast, show c + 1 + 1 = c + 2 by omega]
      exact Ev.bind (hput (c + 1) (by omega) (by omega)) (Ev.cast hy (by rw [show c + 2 + 2 * (m : Int) = c + 2 * ((m + 1 : Nat) : Int) by omega]))
  exact key l.length 0 l c (by omega) (by omega) hc hb
theorem mark_clip (n : Int) (ts : List Tk) (ms : List Mk) (hl : (ts.length : Int) ≤ 1048576) (hs : ∀ z ∈ ts, (z.f1.length : Int) ≤ 1048576) (hm : (ms.length : Int) ≤ 1048576) : ∃ t xs ys, 1 ≤ t ∧ Ev (fun k => laws_markClip.f k n ts ms 1) (t, xs, ys) := by
  obtain ⟨put, hput⟩ := text_ev
  obtain ⟨t, xs, h1, h2, he⟩ := mapK_ev laws_markTrackS.one (fun _ => True) ts 1 (by omega) (by omega) (fun e he c h1 h2 => by
    have hk := hs e he
    obtain ⟨ys, hy⟩ := mark_keys e.f1 (c + 1) (by omega) (by omega)
    refine ⟨c + 1 + 2 * (e.f1.length : Int), ⟨put c, ys⟩, by omega, by omega, ?_⟩
    unfold laws_markTrackS.one
    refine Ev.bind (hput c h1 (by omega)) ?_
    rw [w64 (n := c + 1) (by omega) (by omega)]
    exact Ev.bind hy (Ev.now _))
  obtain ⟨ys, hy⟩ := mark_marks ms t (by omega) (by omega)
  exact ⟨t + 2 * (ms.length : Int), xs, ys, by omega, Ev.bind he (Ev.bind hy (Ev.now _))⟩
theorem mark_strs (l : List ByteArray) (hl : (l.length : Int) ≤ 1048576) : ∃ ys, Ev (fun k => laws_markStringS.f k l 1) (1 + (l.length : Int), ys) ∧ Ev (fun k => laws_heldStringS.f k ys 1) (1 + (l.length : Int)) := by
  obtain ⟨put, hT⟩ := markText_ev laws_markText.l0 (fun k x s => laws_markText.l0.eq_2 x s k)
  exact ⟨_, mark_ev laws_markText.f put laws_markStringS.l0 (fun k x c i => laws_markStringS.l0.eq_2 x c i k) hT 1 (by omega) l (by omega),
    held_ev (fun s : ByteArray => s.toList) ByteArray.empty laws_markText.f put laws_heldStringS.l0 (fun k x c i => laws_heldStringS.l0.eq_2 x c i k) hT l.length 1 (by omega) (by omega)⟩
theorem eq_strs1 (l : List ByteArray) (hl : (l.length : Int) ≤ 1048576) : Ev (fun k => laws_eqStringS.f k l l) true :=
  eqS_ev (fun s : ByteArray => s.toList) ByteArray.empty laws_eqStringS.l0 (fun k x y i => laws_eqStringS.l0.eq_2 x y i k) l (by rw [maxLen_eq]; omega)
theorem cross_in (n f : Int) (ts : List Tk) (ms : List Mk) (m j N : Nat) (hj : j + (m + 1) = N) (hN : N ≤ 600)
    (hk : ∀ o : List ByteArray, o.length + m * 20 ≤ 12000 → Both (fun r => r.1.length ≤ 12000) (fun k => spec_MarksCrossed.l0 k f (m : Int) o n ts ms) (fun k => impl_MarksCrossed.l0 k f o (N : Int) ((j + 1 : Nat) : Int) n ts ms)) :
    ∀ (q i : Nat) (o : List ByteArray), i + q = ms.length → ms.length ≤ 20 → o.length + q + m * 20 ≤ 12000 → Both (fun r => r.1.length ≤ 12000) (fun k => spec_MarksCrossed.l1 k f ((m + 1 : Nat) : Int) o ms (ms.length : Int) (i : Int) n ts ms) (fun k => impl_MarksCrossed.l1 k f o (N : Int) (j : Int) ms (ms.length : Int) (i : Int) n ts ms) := by
  intro q
  induction q with
  | zero =>
    intro i o hi _ ho
    refine Both.step (fun k => spec_MarksCrossed.l1.eq_2 _ _ _ _ _ _ _ _ _ k) (fun k => impl_MarksCrossed.l1.eq_2 _ _ _ _ _ _ _ _ _ _ k) (Both.neg (by omega) (by omega) ?_)
    rw [w_succ (by omega), w64 (n := ((m + 1 : Nat) : Int) - 1) (by omega) (by omega), show ((m + 1 : Nat) : Int) - 1 = (m : Int) by omega]
    exact hk o (by omega)
  | succ q ih =>
    intro i o hi hl ho
    refine Both.step (fun k => spec_MarksCrossed.l1.eq_2 _ _ _ _ _ _ _ _ _ k) (fun k => impl_MarksCrossed.l1.eq_2 _ _ _ _ _ _ _ _ _ _ k) (Both.pos (by omega) (by omega) (Both.pos (by omega) (by omega) (Both.pos (by omega) (by omega) ?_)))
    rw [w_succ (by omega)]
    refine Both.ite (fun _ => Both.pos (by omega) (by omega) (ih (i + 1) _ (by omega) hl (by simp; omega))) (fun _ => ih (i + 1) _ (by omega) hl (by omega))
theorem cross_both (n : Int) (ts : List Tk) (ms : List Mk) (hn : 1 ≤ n) (hl : ms.length ≤ 20) (N : Nat) (hN : N ≤ 600) :
    ∀ (m j : Nat) (f : Int) (o : List ByteArray), j + m = N → o.length + m * 20 ≤ 12000 → Both (fun r => r.1.length ≤ 12000) (fun k => spec_MarksCrossed.l0 k f (m : Int) o n ts ms) (fun k => impl_MarksCrossed.l0 k f o (N : Int) (j : Int) n ts ms) := by
  intro m
  induction m with
  | zero =>
    intro j f o hj ho
    exact Both.step (fun k => spec_MarksCrossed.l0.eq_2 _ _ _ _ _ _ k) (fun k => impl_MarksCrossed.l0.eq_2 _ _ _ _ _ _ _ k) (Both.neg (by omega) (by omega) (Both.now _ (show o.length ≤ 12000 by omega)))
  | succ m ih =>
    intro j f o hj ho
    exact Both.step (fun k => spec_MarksCrossed.l0.eq_2 _ _ _ _ _ _ k) (fun k => impl_MarksCrossed.l0.eq_2 _ _ _ _ _ _ _ k) (Both.pos (by omega) (by omega) (Both.neg (by omega) (by omega) (cross_in n _ ts ms m j N hj hN (fun o ho => ih (j + 1) _ o (by omega) ho) ms.length 0 o (by omega) hl (by omega))))
theorem both (n f s : Int) (ts : List Tk) (ms : List Mk) (ho : COk ts ms) : Both (fun r => r.1.length ≤ 12000) (fun k => spec_MarksCrossed.f k n ts ms f s) (fun k => impl_MarksCrossed.f k n ts ms f s) := by
  have sT : Ev (fun k => spec_MarksCrossed.j0 k f s true n ts ms) ([], 0, false) := Ev.step (fun k => spec_MarksCrossed.j0.eq_2 _ _ _ _ _ _ k) (Ev.pos rfl (Ev.now _))
  have iT : Ev (fun k => impl_MarksCrossed.j0 k f s true n ts ms) ([], 0, false) := Ev.step (fun k => impl_MarksCrossed.j0.eq_2 _ _ _ _ _ _ k) (Ev.pos rfl (Ev.now _))
  have c1 := clip_spec n ts ms ho
  have c2 := clip_impl n ts ms ho
  unfold spec_MarksCrossed.f impl_MarksCrossed.f impl_isFrame.f
  cases hc : clipOk n ts ms with
  | false => rw [hc] at c1 c2; exact ⟨([], 0, false), by simp, Ev.bind c1 (Ev.neg (by decide) sT), Ev.bind (Ev.bind c2 (Ev.neg (by decide) (Ev.now _))) (Ev.neg (by decide) iT)⟩
  | true =>
    rw [hc] at c1 c2
    have hc2 := hc
    simp only [clipOk, Bool.and_eq_true, decide_eq_true_eq] at hc2
    obtain ⟨⟨n0, n1⟩, ⟨_, l20⟩, _, _⟩ := hc2
    cases hf : (decide (0 ≤ f) && decide (f ≤ wrap64 (n - 1))) with
    | false => exact ⟨([], 0, false), by simp, Ev.bind c1 (Ev.pos rfl (Ev.const_bind (in_spec _ _ _) (by rw [hf]; exact Ev.neg (by decide) sT))), Ev.bind (Ev.bind c2 (Ev.pos rfl (Ev.const_bind (in_impl _ _ _) (by rw [hf]; exact Ev.now _)))) (Ev.neg (by decide) iT)⟩
    | true =>
      have S : ∀ {r g}, Ev g r → Ev (fun k => (spec_GoodClip.f k n ts ms).bind fun t => if t = true then ((spec_l1In.f f 0 (wrap64 (n - 1))).bind fun t2 => if t2 = true then g k else spec_MarksCrossed.j0 k f s true n ts ms) else spec_MarksCrossed.j0 k f s true n ts ms) r := fun h => Ev.bind c1 (Ev.pos rfl (Ev.const_bind (in_spec _ _ _) (by rw [hf]; exact Ev.pos rfl h)))
      have I : Ev (fun k => (impl_GoodClip.f k n ts ms).bind fun t => if t = true then ((impl_inRange.f f 0 (wrap64 (n - 1))).bind fun t => some t) else some false) true := Ev.bind c2 (Ev.pos rfl (Ev.const_bind (in_impl _ _ _) (by rw [hf]; exact Ev.now _)))
      cases hs : (decide (0 ≤ s) && decide (s ≤ 600)) with
      | false => exact ⟨([], 0, false), by simp, S (Ev.const_bind (in_spec _ _ _) (by rw [hs]; exact sT)), Ev.bind I (Ev.pos rfl (Ev.const_bind (in_impl _ _ _) (by rw [hs]; exact iT)))⟩
      | true =>
        simp only [Bool.and_eq_true, decide_eq_true_eq] at hs
        obtain ⟨N, rfl⟩ := Int.eq_ofNat_of_zero_le hs.1
        obtain ⟨r, hr, h1, h2⟩ := cross_both n ts ms n0 l20 N (by omega) N 0 f [] (by omega) (by simp; omega)
        refine ⟨r, hr, S (Ev.const_bind (in_spec _ _ _) ?_), Ev.bind I (Ev.pos rfl (Ev.const_bind (in_impl _ _ _) ?_))⟩
        · rw [decide_eq_true hs.1, decide_eq_true hs.2]
          exact Ev.step (fun k => spec_MarksCrossed.j0.eq_2 _ _ _ _ _ _ k) (Ev.neg (by decide) h1)
        · rw [decide_eq_true hs.1, decide_eq_true hs.2]
          exact Ev.step (fun k => impl_MarksCrossed.j0.eq_2 _ _ _ _ _ _ k) (Ev.neg (by decide) h2)
theorem FnExactMarksCrossed : laws_FnExactMarksCrossed.Pure := by
  intro n ts ms f s _ ⟨hl, hs⟩ ⟨hl2, hs2⟩ _ _
  have hs' : ∀ z ∈ ts, z.f0.size ≤ maxLen ∧ z.f1.length ≤ maxLen := fun z hz => ⟨(hs z hz).1, (hs z hz).2.1⟩
  have hs2' : ∀ z ∈ ms, z.f1.size ≤ maxLen := fun z hz => (hs2 z hz).2
  refine Ev.rounds (r := true) ?_
  unfold laws_FnExactMarksCrossed.f
  obtain ⟨t, ht, he⟩ := sz_clip n ts ms hl hs' hl2 hs2'
  refine Ev.bind he (Ev.ite (fun _ => Ev.now _) (fun h => ?_))
  obtain ⟨⟨h1, h2⟩, h3⟩ := ht h
  have tk := to_clip n ts ms h1 h2 h3
  obtain ⟨g1, g2, g3, ho⟩ := clip_sizes ts ms h1 h2 (fun z hz => (hs' z hz).1) h3 hs2'
  generalize ts.map asTrack = xs at tk g1 g2 ho
  generalize ms.map asMark = ys at tk g3 ho
  obtain ⟨⟨r0, r1, r2⟩, hr, b1, b2⟩ := both n f s xs ys ho
  have hr : r0.length ≤ 12000 := hr
  have hq := eq_strs1 r0 (by omega)
  obtain ⟨q, us, vs, hq1, hm⟩ := mark_clip n xs ys g1 g2 g3
  obtain ⟨zs, hk, hh⟩ := mark_strs r0 (by omega)
  exact Ev.bind tk (Ev.bind b1 (Ev.bind tk (Ev.bind b2 (Ev.bind hq (Ev.pos rfl (Ev.pos rfl (Ev.pos rfl (Ev.bind tk (Ev.bind (eq_clip n xs ys g1 g2 g3) (Ev.pos rfl (Ev.bind hm (Ev.pos (by show ¬ q < 0; omega) (Ev.bind hq (Ev.pos rfl (Ev.pos rfl (Ev.pos rfl (Ev.bind hk (Ev.bind hh (Ev.pos (by omega) (Ev.pos rfl (Ev.bind tk (Ev.bind b2 (Ev.bind hq (Ev.pos rfl (Ev.pos rfl (Ev.pos rfl (Ev.bind hh (Ev.pos (by omega) (Ev.pos rfl (Ev.now _))))))))))))))))))))))))))))))

end Go.Proofs.Ytikoiodbmnekfaa.Pure
