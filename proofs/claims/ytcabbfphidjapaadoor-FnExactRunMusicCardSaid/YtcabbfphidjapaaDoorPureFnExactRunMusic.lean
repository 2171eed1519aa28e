/- RunMusic: the pure statement of the law: the program's music runs as the reference's, beat for beat, for all sections, music and numbers of beats. -/
import Derived.Test.YtcabbfphidjapaaDoorXFnExactRunMusicx13
import Derived.Test.YtcabbfphidjapaaDoorXLibRunMusic
namespace Go.Proofs.YtcabbfphidjapaaDoor.Pure
open Go.RowKit Go.Proofs.YtcabbfphidjapaaDoor.XFnExactRunMusic Go.Proofs.YtcabbfphidjapaaDoorW.PrintWords Go.Proofs.YtcabbfphidjapaaDoorW.PrintLast Go.Proofs.YtcabbfphidjapaaDoorW.PrintMore Go.Proofs.YtcabbfphidjapaaDoor.X
set_option linter.unusedVariables false
set_option linter.unusedSimpArgs false

theorem in_spec (a b c : Int) : spec_l1In.f a b c = some (decide (b ≤ a) && decide (a ≤ c)) := by
  unfold spec_l1In.f
  by_cases h : b ≤ a <;> simp [h]
theorem in_impl (a b c : Int) : impl_inRange.f a b c = some (decide (b ≤ a) && decide (a ≤ c)) := by
  unfold impl_inRange.f
  by_cases h : b ≤ a <;> simp [h]
/-! names: letters, digits, '_', no digit first, 1 to 20 -/
def isDig (c : Int) : Bool := decide (48 ≤ c) && decide (c ≤ 57)
def isLet (c : Int) : Bool := (decide (97 ≤ c) && decide (c ≤ 122)) || (decide (65 ≤ c) && decide (c ≤ 90))
def nameOk (s : ByteArray) : Bool := (decide (1 ≤ s.size) && decide (s.size ≤ 20)) && allFrom (fun i => isLet (bt s i) || bt s i == 95 || (i != 0 && isDig (bt s i))) s.size 0
theorem dig_spec (c : Int) : spec_l1Digit.f c = some (isDig c) := by
  unfold spec_l1Digit.f isDig
  by_cases h : 48 ≤ c <;> simp [h]
theorem dig_impl (c : Int) : impl_isDigit.f c = some (isDig c) := by
  unfold impl_isDigit.f isDig
  by_cases h : 48 ≤ c <;> simp [h]
theorem let_spec (c : Int) : spec_l1Letter.f c = some (isLet c || c == 95) := by
  unfold spec_l1Letter.f isLet
  by_cases h1 : 97 ≤ c <;> by_cases h2 : c ≤ 122 <;> by_cases h3 : 65 ≤ c <;> by_cases h4 : c ≤ 90 <;> simp [h1, h2, h3, h4]
theorem let_impl (c : Int) : impl_isLetter.f c = some (isLet c) := by
  unfold impl_isLetter.f isLet
  by_cases h1 : 97 ≤ c <;> by_cases h2 : c ≤ 122 <;> by_cases h3 : 65 ≤ c <;> by_cases h4 : c ≤ 90 <;> simp [h1, h2, h3, h4]
theorem let_not_dig (c : Int) (h : isDig c = true) : (isLet c || c == 95) = false := by
  unfold isDig at h
  unfold isLet
  simp at h ⊢
  omega
theorem name_spec_l (s : ByteArray) (hs : s.size ≤ maxLen) : ∀ m i : Nat, i + m = s.size → Ev (fun k => spec_GoodName.l0 k s (i : Int)) (allFrom (fun i => isLet (bt s i) || bt s i == 95 || isDig (bt s i)) m i) := by
  rw [maxLen_eq] at hs
  intro m
  induction m with
  | zero => exact fun i hi => Ev.step (fun k => spec_GoodName.l0.eq_2 _ _ k) (Ev.neg (by omega) (Ev.now _))
  | succ m ih =>
    intro i hi
    refine Ev.step (fun k => spec_GoodName.l0.eq_2 _ _ k) (Ev.pos (by omega) (Ev.pos (by omega) (Ev.const_bind (let_spec _) ?_)))
    rw [w64 (by omega) (by omega), allFrom]
    cases h : (isLet (bt s i) || bt s i == 95) with
    | true => exact Ev.pos rfl (Ev.cast (ih (i + 1) (by omega)) (by simp))
    | false =>
      refine Ev.neg (by decide) (Ev.const_bind (dig_spec _) ?_)
      rw [Bool.false_or]
      exact Ev.and (fun _ => ih (i + 1) (by omega))
theorem name_spec (s : ByteArray) (hs : s.size ≤ maxLen) : Ev (fun k => spec_GoodName.f k s) (nameOk s) := by
  have hj : ∀ b, Ev (fun k => spec_GoodName.j0 k s b) (!b && allFrom (fun i => isLet (bt s i) || bt s i == 95 || isDig (bt s i)) s.size 0) := fun b =>
    Ev.step (fun k => spec_GoodName.j0.eq_2 _ _ k) (Ev.andn (fun _ => name_spec_l s hs s.size 0 (by omega)))
  unfold spec_GoodName.f
  refine Ev.ite (fun h => Ev.cast (hj true) ?_) (fun h => Ev.ite (fun h2 => Ev.cast (hj true) ?_) (fun h2 => Ev.pos (by omega) (Ev.const_bind (dig_spec _) (Ev.cast (hj _) ?_))))
  · simp only [nameOk, decide_eq_false (show ¬ 1 ≤ s.size by omega), Bool.false_and, Bool.not_true]
  · simp only [nameOk, decide_eq_false (show ¬ s.size ≤ 20 by omega), Bool.and_false, Bool.false_and, Bool.not_true]
  · obtain ⟨n, hn⟩ : ∃ n, s.size = n + 1 := ⟨s.size - 1, by omega⟩
    simp only [nameOk, hn, decide_eq_true (show 1 ≤ n + 1 by omega), decide_eq_true (show n + 1 ≤ 20 by omega), Bool.true_and, allFrom]
    rw [allFrom_congr (p := fun i => isLet (bt s i) || bt s i == 95 || isDig (bt s i)) (q := fun i => isLet (bt s i) || bt s i == 95 || (i != 0 && isDig (bt s i))) n (0 + 1) (fun j h1 _ => by
      have : (j != 0) = true := by rw [bne_iff_ne]; omega
      simp only [this, Bool.true_and])]
    rw [show ((0 : Nat) : Int) = 0 from rfl, show ((0 : Nat) != 0) = false from rfl, Bool.false_and, Bool.or_false, ← Bool.and_assoc]
    cases hd : isDig (bt s 0) with
    | true => rw [let_not_dig _ hd]; rfl
    | false => rw [Bool.or_false, Bool.not_false, Bool.true_and]
theorem name_impl (s : ByteArray) (hs : s.size ≤ maxLen) : Ev (fun k => impl_GoodName.f k s) (nameOk s) := by
  rw [maxLen_eq] at hs
  have key : ∀ m i : Nat, i + m = s.size → Ev (fun k => impl_GoodName.l0 k s (s.size : Int) (i : Int)) ((decide (1 ≤ s.size) && decide (s.size ≤ 20)) && allFrom (fun i => isLet (bt s i) || bt s i == 95 || (i != 0 && isDig (bt s i))) m i) := by
    intro m
    induction m with
    | zero =>
      intro i hi
      refine Ev.step (fun k => impl_GoodName.l0.eq_2 _ _ _ k) (Ev.neg (by omega) (Ev.const_bind (in_impl _ _ _) (Ev.cast (Ev.now _) ?_)))
      rw [allFrom, Bool.and_true]
      congr 1 <;> exact decide_eq_decide.2 (by omega)
    | succ m ih =>
      intro i hi
      refine Ev.step (fun k => impl_GoodName.l0.eq_2 _ _ _ k) (Ev.pos (by omega) (Ev.pos (by omega) (Ev.pos (by omega) (Ev.const_bind (let_impl _) ?_))))
      rw [w64 (by omega) (by omega), allFrom]
      cases h : isLet (bt s i) with
      | true => exact Ev.pos rfl (Ev.cast (ih (i + 1) (by omega)) (by simp))
      | false =>
        refine Ev.neg (by decide) (Ev.ite (fun h5 => Ev.cast (ih (i + 1) (by omega)) (by simp [h5])) (fun h5 => Ev.ite (fun h0 => Ev.cast (Ev.now _) ?_) (fun h0 => Ev.const_bind (dig_impl _) ?_)))
        · have h0' : (i != 0) = false := by rw [bne_eq_false_iff_eq]; omega
          have h5' : (bt s (i : Int) == 95) = false := beq_eq_false_iff_ne.2 h5
          simp only [h5', h0', Bool.false_or, Bool.false_and, Bool.and_false]
        · have h0' : (i != 0) = true := by rw [bne_iff_ne]; omega
          have h5' : (bt s (i : Int) == 95) = false := beq_eq_false_iff_ne.2 h5
          simp only [h5', Bool.false_or, h0', Bool.true_and]
          cases hd : isDig (bt s i) with
          | true => exact Ev.pos rfl (Ev.cast (ih (i + 1) (by omega)) (by simp))
          | false => exact Ev.neg (by decide) (Ev.cast (Ev.now _) (by simp))
  exact key s.size 0 (by omega)
/-! rising lists of numbers below a bound -/
def exitAt (b : Int) (e : List Int) (i : Nat) : Bool := (decide (0 ≤ rd e (i : Int)) && decide (rd e (i : Int) ≤ wrap64 (b - 1))) && (if i = 0 then true else !decide (rd e ((i : Int) - 1) ≥ rd e (i : Int)))
theorem exits_loop (b : Int) (e : List Int) (he : e.length ≤ maxLen) (G : Nat → Int → Option Bool) (E : Nat → Option Bool) (R : Bool) (hE : Ev E R)
    (hG : ∀ k i, G (k + 1) i = if i < (e.length : Int) then (if 0 ≤ i then (if i < (e.length : Int) then ((some (decide (0 ≤ rd e i) && decide (rd e i ≤ wrap64 (b - 1)))).bind fun t => if t = true then (if i > 0 then (if 0 ≤ wrap64 (i - 1) then (if wrap64 (i - 1) < (e.length : Int) then (if rd e (wrap64 (i - 1)) ≥ rd e i then some false else G k (wrap64 (i + 1))) else none) else none) else G k (wrap64 (i + 1))) else some false) else none) else none) else E k) :
    Ev (fun k => G k 0) (allFrom (exitAt b e) e.length 0 && R) := by
  rw [maxLen_eq] at he
  have key : ∀ m i : Nat, i + m = e.length → Ev (fun k => G k (i : Int)) (allFrom (exitAt b e) m i && R) := by
    intro m
    induction m with
    | zero => exact fun i hi => Ev.step (fun k => hG k _) (Ev.neg (by omega) (Ev.cast hE (by rw [allFrom, Bool.true_and])))
    | succ m ih =>
      intro i hi
      refine Ev.step (fun k => hG k _) (Ev.pos (by omega) (Ev.pos (by omega) (Ev.pos (by omega) (Ev.some_bind ?_))))
      rw [allFrom, exitAt, w_succ (by omega), Bool.and_assoc (_ && _), Bool.and_assoc (_ && _)]
      refine Ev.and (fun _ => ?_)
      by_cases h0 : i = 0
      · rw [if_pos h0, Bool.true_and]
        exact Ev.neg (by omega) (ih (i + 1) (by omega))
      · rw [if_neg h0, w_pred (by omega)]
        refine Ev.pos (by omega) (Ev.pos (by omega) (Ev.pos (by omega) ?_))
        by_cases hg : rd e ((i : Int) - 1) ≥ rd e (i : Int)
        · rw [decide_eq_true hg]; exact Ev.pos hg (Ev.now _)
        · rw [decide_eq_false hg]; exact Ev.neg hg (Ev.cast (ih (i + 1) (by omega)) (by simp))
  exact key e.length 0 (by omega)
/-! sections -/
abbrev Sn := S49
abbrev rS (l : List Sn) (i : Int) : Sn := rd_T49 l i
theorem rSg {l : List Sn} {i : Nat} (h : i < l.length) : rS l (i : Int) = l[i] := rdOf_get (d := z49) h
def nmS (s : ByteArray) (z : Sn) : Bool := z.f0.toList == s.toList
def secAt (l : List Sn) (i : Nat) : Bool := nameOk (rS l (i : Int)).f0 && (!((l.take i).any (nmS (rS l (i : Int)).f0)) && ((decide (1 ≤ (rS l (i : Int)).f1) && decide ((rS l (i : Int)).f1 ≤ 64)) && (l.any (nmS (rS l (i : Int)).f3) && allFrom (exitAt (rS l (i : Int)).f1 (rS l (i : Int)).f2) (rS l (i : Int)).f2.length 0)))
def secsOk (l : List Sn) : Bool := (decide (1 ≤ l.length) && decide (l.length ≤ 64)) && allFrom (secAt l) l.length 0
def SOk (z : Sn) : Prop := z.f0.size ≤ maxLen ∧ z.f2.length ≤ maxLen ∧ z.f3.size ≤ maxLen
theorem sec_spec (l : List Sn) (hl : l.length ≤ maxLen) (s : ByteArray) : Ev (fun k => spec_l15Section.f k l s) (idxP (nmS s) l) :=
  index_ev z49 (fun _ z => some (nmS s z)) (nmS s) (fun k x n i => spec_l15Section.l0 k s x n i) (fun k x n i => by
    rw [spec_l15Section.l0]
    simp only [Option.bind_some, nmS, beq_iff_eq]
    rfl) l hl (fun z _ => Ev.now _)
theorem sec_impl (l : List Sn) (hl : l.length ≤ maxLen) (s : ByteArray) : Ev (fun k => impl_sectionAt.f k l s) (idxP (nmS s) l) := by
  have h := index_ev z49 (fun _ z => impl_sectionAt_1_captured.f z.f0 z.f1 z.f2 z.f3 s) (nmS s) (slices_IndexFunc_impl_Section_impl_Section_at_impl_sectionAt_1.l0 s) (fun k x n i => slices_IndexFunc_impl_Section_impl_Section_at_impl_sectionAt_1.l0.eq_2 _ _ _ _ k) l hl (fun z _ => Ev.now _)
  unfold impl_sectionAt.f slices_IndexFunc_impl_Section_impl_Section_at_impl_sectionAt_1.f
  exact Ev.bind h (Ev.now _)
theorem idx_lt {α : Type} (p : α → Bool) (xs : List α) : decide (idxP p xs < 0) = !xs.any p := by
  rw [← idxP_any]
  by_cases h : idxP p xs < 0
  · rw [decide_eq_true h, decide_eq_false (by omega)]; rfl
  · rw [decide_eq_false h, decide_eq_true (by omega)]; rfl
theorem secs_spec (l : List Sn) (hl : l.length ≤ maxLen) (ho : ∀ z ∈ l, SOk z) : Ev (fun k => spec_l15Sections.f k l) (secsOk l) := by
  have hl' := hl
  rw [maxLen_eq] at hl
  have key : ∀ m i : Nat, i + m = l.length → Ev (fun k => spec_l15Sections.l0 k l l (l.length : Int) (i : Int)) (allFrom (secAt l) m i) := by
    intro m
    induction m with
    | zero => exact fun i hi => Ev.step (fun k => spec_l15Sections.l0.eq_2 _ _ _ _ k) (Ev.neg (by omega) (Ev.now _))
    | succ m ih =>
      intro i hi
      have hi' : i < l.length := by omega
      have ok := ho _ (List.getElem_mem hi')
      rw [← rSg hi'] at ok
      have hR : Ev (fun k => spec_l15Sections.l0 k l l (l.length : Int) (wrap64 ((i : Int) + 1))) (allFrom (secAt l) m (i + 1)) := by rw [w_succ (by omega)]; exact ih (i + 1) (by omega)
      generalize hz : rS l (i : Int) = z at ok
      have hj : ∀ b, Ev (fun k => spec_l15Sections.j2 k l l (l.length : Int) (i : Int) b z.f0 z.f1 z.f2 z.f3) (!b && (allFrom (exitAt z.f1 z.f2) z.f2.length 0 && allFrom (secAt l) m (i + 1))) := fun b =>
        Ev.step (fun k => spec_l15Sections.j2.eq_2 _ _ _ _ _ _ _ _ _ k) (Ev.andn (fun _ => exits_loop z.f1 z.f2 ok.2.1 (fun k i' => spec_l15Sections.l1 k l l (l.length : Int) (i : Int) z.f2 (z.f2.length : Int) i' z.f0 z.f1 z.f2 z.f3) _ _ hR (fun k i' => by rw [spec_l15Sections.l1, in_spec])))
      have n1 := name_spec z.f0 ok.1
      have s1 := sec_spec (l.take i) (by rw [List.length_take, maxLen_eq]; omega) z.f0
      have s2 := sec_spec l hl' z.f3
      refine Ev.step (fun k => spec_l15Sections.l0.eq_2 _ _ _ _ k) (Ev.pos (by omega) (Ev.pos (by omega) (Ev.pos (by omega) ?_)))
      have hz' : rd_T49 l (i : Int) = z := hz
      rw [allFrom, secAt, hz, hz']
      cases hn : nameOk z.f0 with
      | false => rw [hn] at n1; exact Ev.bind n1 (Ev.neg (by decide) (Ev.cast (hj true) (by simp)))
      | true =>
        rw [hn] at n1
        refine Ev.bind n1 (Ev.pos rfl (Ev.pos (by omega) ?_))
        rw [Int.toNat_natCast]
        refine Ev.bind s1 ?_
        have hlt := idx_lt (nmS z.f0) (l.take i)
        cases ha : (l.take i).any (nmS z.f0) with
        | true =>
          rw [ha] at hlt
          exact Ev.pos (by have := of_decide_eq_false hlt; omega) (Ev.cast (hj true) (by simp))
        | false =>
          rw [ha] at hlt
          refine Ev.neg (by have := of_decide_eq_true hlt; omega) (Ev.const_bind (in_spec _ _ _) ?_)
          cases hb : (decide (1 ≤ z.f1) && decide (z.f1 ≤ 64)) with
          | false => exact Ev.neg (by decide) (Ev.cast (hj true) (by simp))
          | true => exact Ev.pos rfl (Ev.bind s2 (Ev.cast (hj _) (by rw [idx_lt]; simp [Bool.and_assoc])))
  have hj : ∀ b, Ev (fun k => spec_l15Sections.j0 k l b) (!b && allFrom (secAt l) l.length 0) := fun b => Ev.step (fun k => spec_l15Sections.j0.eq_2 _ _ k) (Ev.andn (fun _ => key l.length 0 (by omega)))
  unfold spec_l15Sections.f secsOk
  by_cases h : 1 ≤ l.length
  · refine Ev.neg (by omega) (Ev.cast (hj _) ?_)
    rw [decide_eq_true h, Bool.true_and]
    congr 1
    by_cases h2 : l.length ≤ 64
    · rw [decide_eq_true h2, decide_eq_false (by omega)]; rfl
    · rw [decide_eq_false h2, decide_eq_true (by omega)]; rfl
  · refine Ev.pos (by omega) (Ev.cast (hj _) ?_)
    rw [decide_eq_false h]; rfl
theorem secs_impl (l : List Sn) (hl : l.length ≤ maxLen) (ho : ∀ z ∈ l, SOk z) : Ev (fun k => impl_areSections.f k l) (secsOk l) := by
  have hl' := hl
  rw [maxLen_eq] at hl
  have key : ∀ m i : Nat, i + m = l.length → Ev (fun k => impl_areSections.l0 k l l (l.length : Int) (i : Int)) (allFrom (secAt l) m i && (decide (1 ≤ l.length) && decide (l.length ≤ 64))) := by
    intro m
    induction m with
    | zero =>
      intro i hi
      refine Ev.step (fun k => impl_areSections.l0.eq_2 _ _ _ _ k) (Ev.neg (by omega) (Ev.const_bind (in_impl _ _ _) (Ev.cast (Ev.now _) ?_)))
      rw [allFrom, Bool.true_and]
      congr 1 <;> exact decide_eq_decide.2 (by omega)
    | succ m ih =>
      intro i hi
      have hi' : i < l.length := by omega
      have ok := ho _ (List.getElem_mem hi')
      rw [← rSg hi'] at ok
      have hf := idxP_first (nmS (rS l (i : Int)).f0) l i hi' (by rw [← rSg hi']; simp [nmS])
      generalize hL : (decide (1 ≤ l.length) && decide (l.length ≤ 64)) = L at ih ⊢
      have hR : Ev (fun k => impl_areSections.l0 k l l (l.length : Int) (wrap64 ((i : Int) + 1))) (allFrom (secAt l) m (i + 1) && L) := by rw [w_succ (by omega)]; exact ih (i + 1) (by omega)
      generalize hz : rS l (i : Int) = z at ok hf
      have hj : ∀ b, Ev (fun k => impl_areSections.j1 k l l (l.length : Int) (i : Int) b z.f0 z.f1 z.f2 z.f3) (!b && (allFrom (exitAt z.f1 z.f2) z.f2.length 0 && (allFrom (secAt l) m (i + 1) && L))) := fun b =>
        Ev.step (fun k => impl_areSections.j1.eq_2 _ _ _ _ _ _ _ _ _ k) (Ev.andn (fun _ => exits_loop z.f1 z.f2 ok.2.1 (fun k i' => impl_areSections.l1 k l l (l.length : Int) (i : Int) z.f2 (z.f2.length : Int) i' z.f0 z.f1 z.f2 z.f3) _ _ hR (fun k i' => by rw [impl_areSections.l1, in_impl])))
      have n1 := name_impl z.f0 ok.1
      have s1 := sec_impl l hl' z.f0
      have s2 := sec_impl l hl' z.f3
      refine Ev.step (fun k => impl_areSections.l0.eq_2 _ _ _ _ k) (Ev.pos (by omega) (Ev.pos (by omega) (Ev.pos (by omega) ?_)))
      have hz' : rd_T49 l (i : Int) = z := hz
      rw [allFrom, secAt, hz, hz']
      cases hn : nameOk z.f0 with
      | false => rw [hn] at n1; exact Ev.bind n1 (Ev.neg (by decide) (Ev.cast (hj true) (by simp)))
      | true =>
        rw [hn] at n1
        refine Ev.bind n1 (Ev.pos rfl (Ev.bind s1 ?_))
        cases ha : (l.take i).any (nmS z.f0) with
        | true => exact Ev.neg (fun h => by rw [hf.1 h] at ha; cases ha) (Ev.cast (hj true) (by simp))
        | false =>
          refine Ev.pos (hf.2 ha) (Ev.const_bind (in_impl _ _ _) ?_)
          cases hb : (decide (1 ≤ z.f1) && decide (z.f1 ≤ 64)) with
          | false => exact Ev.neg (by decide) (Ev.cast (hj true) (by simp))
          | true => exact Ev.pos rfl (Ev.bind s2 (Ev.cast (hj _) (by rw [idx_lt]; simp [Bool.and_assoc])))
  unfold impl_areSections.f secsOk
  exact Ev.cast (key l.length 0 (by omega)) (Bool.and_comm _ _)
/-- What is asked of a piece of music. -/
def musicOk (l : List Sn) (s : ByteArray) (beat : Int) (want : ByteArray) : Bool := secsOk l && (l.any (nmS s) && ((decide (0 ≤ beat) && decide (beat ≤ wrap64 ((rS l (idxP (nmS s) l)).f1 - 1))) && (decide (want.toList = ([] : List UInt8)) || l.any (nmS want))))
theorem music_spec (l : List Sn) (hl : l.length ≤ maxLen) (ho : ∀ z ∈ l, SOk z) (s : ByteArray) (b : Int) (t : ByteArray) : Ev (fun k => spec_GoodMusic.f k l s b t) (musicOk l s b t) := by
  have h1 := secs_spec l hl ho
  have h2 := sec_spec l hl s
  have h3 := sec_spec l hl t
  have hr := idxP_range (nmS s) l
  have e2 := idxP_any (nmS s) l
  have e3 := idxP_any (nmS t) l
  unfold spec_GoodMusic.f musicOk
  refine Ev.bind h1 (Ev.and (fun _ => Ev.bind h2 ?_))
  rw [← e2]
  refine Ev.andp (fun hge => Ev.pos (by omega) (Ev.pos hr.2 (Ev.const_bind (in_spec _ _ _) (Ev.and (fun _ => ?_)))))
  by_cases ht : t.toList = ([] : List UInt8)
  · rw [decide_eq_true ht, Bool.true_or]; exact Ev.pos ht (Ev.now _)
  · rw [decide_eq_false ht, Bool.false_or, ← e3]; exact Ev.neg ht (Ev.bind h3 (Ev.now _))
theorem music_impl (l : List Sn) (hl : l.length ≤ maxLen) (ho : ∀ z ∈ l, SOk z) (s : ByteArray) (b : Int) (t : ByteArray) : Ev (fun k => impl_GoodMusic.f k l s b t) (musicOk l s b t) := by
  have h1 := secs_impl l hl ho
  have h2 := sec_impl l hl s
  have h3 := sec_impl l hl t
  have hr := idxP_range (nmS s) l
  have e2 := idxP_any (nmS s) l
  have e3 := idxP_any (nmS t) l
  unfold impl_GoodMusic.f musicOk
  refine Ev.bind h2 (Ev.bind h1 (Ev.and (fun _ => ?_)))
  rw [← e2]
  refine Ev.andp (fun hge => Ev.pos (by omega) (Ev.pos hr.2 (Ev.const_bind (in_impl _ _ _) (Ev.and (fun _ => ?_)))))
  by_cases ht : t.toList = ([] : List UInt8)
  · rw [decide_eq_true ht, Bool.true_or]; exact Ev.pos ht (Ev.now _)
  · rw [decide_eq_false ht, Bool.false_or, ← e3]; exact Ev.neg ht (Ev.bind h3 (Ev.now _))
theorem sz_ints (l : List Int) {a : Int} (h0 : 0 ≤ a) (h1 : a ≤ 1048576) (hl : l.length ≤ maxLen) : laws_szIntS.f l a = some (roomLeft l.length a) := sz_left h0 h1 hl
theorem to_ints (l : List Int) (hl : (l.length : Int) ≤ 1048576) : Ev (fun k => laws_toIntS.f k l) l := by
  have h := toS_ev (0 : Int) (id : Int → Int) 0 laws_toIntS.l0 (fun k x y i => laws_toIntS.l0.eq_2 x y i k) l (by omega)
  rw [List.map_id] at h
  exact Ev.pos (by omega) (Ev.pos (by omega) h)
theorem eq_ints (l : List Int) (hl : (l.length : Int) ≤ 1048576) : Ev (fun k => laws_eqIntS.f k l l) true :=
  eqInt_ev laws_eqIntS.l0 (fun k x y i => laws_eqIntS.l0.eq_2 x y i k) l (by rw [maxLen_eq]; omega)
theorem sz_sections (l : List S46) (hl : l.length ≤ maxLen) (hs : ∀ z ∈ l, z.f0.size ≤ maxLen ∧ z.f2.length ≤ maxLen ∧ z.f3.size ≤ maxLen) {a : Int} (h0 : 0 ≤ a) (h1 : a ≤ 1048576) : ∃ t, t ≤ 1048576 ∧ (¬ t < 0 → (l.length : Int) ≤ 1048576 ∧ ∀ z ∈ l, (z.f2.length : Int) ≤ 1048576) ∧ Ev (fun k => laws_szSectionS.f k l a) t := by
  unfold laws_szSectionS.f
  have e := sz_left (n := l.length) h0 h1 hl
  rw [maxLen_eq] at hl
  by_cases hn : wrap64 (a - (l.length : Int)) < 0
  · exact ⟨-1, by omega, by omega, Ev.pos hn (Ev.now _)⟩
  · rw [if_neg hn] at e
    have e := Option.some.inj e
    rw [e] at hn ⊢
    have hr := (roomLeft_ok hn).1
    obtain ⟨t, ht, hts, he⟩ := sizesP_ev (fun z : S46 => (z.f2.length : Int) ≤ 1048576) z46 (fun _ z r => laws_szSection.f z.f0 z.f1 z.f2 z.f3 r) laws_szSectionS.l0 (fun k x r i => laws_szSectionS.l0.eq_2 x r i k) l (by omega)
      (fun z hz r h0 h1 => by
        obtain ⟨hz0, hz2, hz3⟩ := hs z hz
        have e2 := sz_left (n := z.f0.size) h0 h1 hz0
        unfold laws_szSection.f
        by_cases hm : wrap64 (r - (z.f0.size : Int)) < 0
        · exact ⟨-1, by omega, fun h => absurd (by omega) h, Ev.pos hm (Ev.now _)⟩
        · rw [if_neg hm] at e2
          have e2 := Option.some.inj e2
          rw [e2] at hm ⊢
          have hm' := roomLeft_ok hm
          have e3 := sz_ints z.f2 (a := roomLeft z.f0.size r) (by omega) (roomLeft_le h1) hz2
          by_cases hm2 : roomLeft z.f2.length (roomLeft z.f0.size r) < 0
          · exact ⟨-1, by omega, fun h => absurd (by omega) h, Ev.neg hm (Ev.const_bind e3 (Ev.pos hm2 (Ev.now _)))⟩
          · have hm3 := roomLeft_ok hm2
            refine ⟨roomLeft z.f3.size (roomLeft z.f2.length (roomLeft z.f0.size r)), roomLeft_le (roomLeft_le (roomLeft_le h1)), fun _ => by omega, Ev.neg hm (Ev.const_bind e3 (Ev.neg hm2 ?_))⟩
            exact Ev.mk fun _ => sz_left (n := z.f3.size) (by omega) (roomLeft_le (roomLeft_le h1)) hz3) (roomLeft l.length a) (by omega) (roomLeft_le h1)
    exact ⟨t, ht, fun h => ⟨by omega, hts h⟩, Ev.neg hn he⟩
theorem sz_music (s : ByteArray) (b : Int) (t : ByteArray) (hs : s.size ≤ maxLen) (ht : t.size ≤ maxLen) {a : Int} (h0 : 0 ≤ a) (h1 : a ≤ 1048576) : ∃ r, laws_szMusic.f s b t a = some r := by
  unfold laws_szMusic.f
  split
  · exact ⟨_, rfl⟩
  · split <;> exact ⟨_, rfl⟩
def asSection (b : S46) : Sn := ⟨b.f0, b.f1, b.f2, b.f3⟩
theorem to_sections (l : List S46) (hl : (l.length : Int) ≤ 1048576) (hs : ∀ z ∈ l, (z.f2.length : Int) ≤ 1048576) : Ev (fun k => laws_toSectionS.f k l) (l.map asSection) := by
  have ht := toK_ev z49 asSection z46 (fun k z => (laws_toSection.f k z.f0 z.f1 z.f2 z.f3).bind fun t => some (⟨t.1, t.2.1, t.2.2.1, t.2.2.2⟩ : Sn)) laws_toSectionS.l0 (fun k x y i => by
      rw [laws_toSectionS.l0]
      split
      · split
        · simp only [Option.bind_assoc, Option.bind_some]; rfl
        · rfl
      · rfl) l (by omega) (fun z hz => Ev.bind (Ev.bind (to_ints z.f2 (hs z hz)) (Ev.now _)) (Ev.now _))
  unfold laws_toSectionS.f
  exact Ev.pos (by omega) (Ev.pos (by omega) ht)
theorem eq_sections (l : List Sn) (hl : (l.length : Int) ≤ 1048576) (hs : ∀ z ∈ l, (z.f2.length : Int) ≤ 1048576) : Ev (fun k => laws_eqSectionS.f k l l) true := by
  unfold laws_eqSectionS.f
  exact eqK_ev z49 (fun k a b => laws_eqSection.f k a.f0 a.f1 a.f2 a.f3 b.f0 b.f1 b.f2 b.f3) laws_eqSectionS.l0 (fun k x y i => laws_eqSectionS.l0.eq_2 x y i k) l (by rw [maxLen_eq]; omega) (fun a ha => Ev.pos rfl (Ev.pos rfl (Ev.bind (eq_ints a.f2 (hs a ha)) (Ev.pos rfl (Ev.pos rfl (Ev.now _))))))
theorem mark_strs (l : List ByteArray) (hl : (l.length : Int) ≤ 1048576) : ∃ ys, Ev (fun k => laws_markStringS.f k l 1) (1 + (l.length : Int), ys) ∧ Ev (fun k => laws_heldStringS.f k ys 1) (1 + (l.length : Int)) := by
  obtain ⟨put, hT⟩ := markText_ev laws_markText.l0 (fun k x s => laws_markText.l0.eq_2 x s k)
  exact ⟨_, mark_ev laws_markText.f put laws_markStringS.l0 (fun k x c i => laws_markStringS.l0.eq_2 x c i k) hT 1 (by omega) l (by omega),
    held_ev (fun s : ByteArray => s.toList) ByteArray.empty laws_markText.f put laws_heldStringS.l0 (fun k x c i => laws_heldStringS.l0.eq_2 x c i k) hT l.length 1 (by omega) (by omega)⟩
theorem eq_strs1 (l : List ByteArray) (hl : (l.length : Int) ≤ 1048576) : Ev (fun k => laws_eqStringS.f k l l) true :=
  eqS_ev (fun s : ByteArray => s.toList) ByteArray.empty laws_eqStringS.l0 (fun k x y i => laws_eqStringS.l0.eq_2 x y i k) l (by rw [maxLen_eq]; omega)
theorem text_ev : ∃ put : Int → ByteArray, ∀ c, 1 ≤ c → c ≤ 4611686018427387904 → Ev (fun k => laws_markText.f k c) (put c) :=
  markText_ev laws_markText.l0 (fun k x s => laws_markText.l0.eq_2 x s k)
theorem mapK_ev {α : Type} (one : Nat → α → Int → Option (Int × α)) (b : Int → Prop) : ∀ (l : List α) (c : Int), 1 ≤ c → c + (l.length : Int) * 4194304 ≤ 4611686018427387000 → (∀ e ∈ l, ∀ c, 1 ≤ c → c ≤ 4611686018427387000 - 4194304 → ∃ t e', c ≤ t ∧ t ≤ c + 4194304 ∧ Ev (fun k => one k e c) (t, e')) →
    ∃ t ys, c ≤ t ∧ t ≤ c + (l.length : Int) * 4194304 ∧ Ev (fun k => mapK (one k) l c) (t, ys)
  | [], c, _, _, _ => ⟨c, [], by omega, by simp, Ev.now _⟩
  | e :: l, c, h1, h2, h => by
    rw [List.length_cons] at h2
    obtain ⟨t, e', t1, t2, he⟩ := h e (List.mem_cons_self) c h1 (by omega)
    obtain ⟨u, ys, u1, u2, hu⟩ := mapK_ev one b l t (by omega) (by omega) (fun z hz => h z (List.mem_cons_of_mem _ hz))
    exact ⟨u, e' :: ys, by omega, by rw [List.length_cons]; omega, Ev.bind he (Ev.bind hu (Ev.now _))⟩
theorem mark_intsAt (l : List Int) (c : Int) (hc : 1 ≤ c) (hl : c + (l.length : Int) ≤ 4611686018427387904) : Ev (fun k => laws_markIntS.f k l c) (c + (l.length : Int), marks l.length c) :=
  markInt_ev laws_markIntS.l0 (fun k x c i => laws_markIntS.l0.eq_2 x c i k) c hc l hl
/-- A number of one or two digits, written. -/
def num (n : Nat) : ByteArray := if n < 10 then strOfNums [48 + (n : Int)] else strOfNums [48 + ((n / 10 : Nat) : Int)] ++ strOfNums [48 + ((n % 10 : Nat) : Int)]
theorem num_impl : ∀ n : Fin 64, impl_digits.f (n.val : Int) = some (num n.val) := by decide +kernel
theorem num_size : ∀ n : Fin 64, (num n.val).size ≤ 2 := by decide +kernel
theorem num_spec (n : Nat) (hn : n < 64) : Ev (fun k => spec_l1Num.f k (n : Int)) (num n) := by
  have one : ∀ m : Nat, m < 10 → Ev (fun k => spec_l1Num.f k (m : Int)) (strOfNums [48 + (m : Int)]) := by
    intro m hm
    refine Ev.step (fun k => spec_l1Num.f.eq_2 _ k) (Ev.neg (by omega) (Ev.pos (by omega) ((Ev.now _).cast ?_)))
    rw [w64 (n := 48 + (m : Int)) (by omega) (by omega), Int.emod_eq_of_lt (by omega) (by omega)]
  unfold num
  by_cases h : n < 10
  · rw [if_pos h]; exact one n h
  · rw [if_neg h]
    have e1 : wrap64 (Int.tdiv (n : Int) 10) = ((n / 10 : Nat) : Int) := by rw [Int.tdiv_eq_ediv_of_nonneg (by omega), w64 (by omega) (by omega)]; omega
    have e2 : wrap64 (48 + Int.tmod (n : Int) 10) % 256 = 48 + ((n % 10 : Nat) : Int) := by
      rw [Int.tmod_eq_emod_of_nonneg (by omega), w64 (by omega) (by omega), Int.emod_eq_of_lt (by omega) (by omega)]; omega
    have o := one (n / 10) (by omega)
    rw [← e1] at o
    refine Ev.step (fun k => spec_l1Num.f.eq_2 _ k) (Ev.neg (by omega) (Ev.neg (by omega) (Ev.bind o (Ev.some_bind ?_))))
    rw [e2, e1]
    exact Ev.pos (by show (1 : Nat) + 1 ≤ _; omega) (Ev.now _)
theorem size_of {a b : ByteArray} (h : a.toList = b.toList) : a.size = b.size := by
  rw [ByteArray.toList_eq, ByteArray.toList_eq] at h
  have := congrArg List.length h
  simpa using this
/-- Whether a beat is among the exits, in both. -/
theorem exits_ev (L : List Int) (b : Int) (hl : L.length ≤ maxLen) : ∃ v : Bool, Ev (fun k => spec_l14In.f k L b) v ∧ Ev (fun k => slices_Contains_int_int.f k L b) v := by
  rw [maxLen_eq] at hl
  have key : ∀ m i : Nat, i + m = L.length → ∃ z : Int, Ev (fun k => spec_l14In.l0 k b L (L.length : Int) (i : Int)) (decide (z ≥ 0)) ∧ Ev (fun k => slices_Index_int_int.l0 k L b (L.length : Int) (i : Int)) z := by
    intro m
    induction m with
    | zero => exact fun i hi => ⟨-1, Ev.step (fun k => spec_l14In.l0.eq_2 _ _ _ _ k) (Ev.neg (by omega) (Ev.now _)), Ev.step (fun k => slices_Index_int_int.l0.eq_2 _ _ _ _ k) (Ev.neg (by omega) (Ev.now _))⟩
    | succ m ih =>
      intro i hi
      obtain ⟨z, h1, h2⟩ := ih (i + 1) (by omega)
      rw [← w_succ (show i < 9223372036854775807 by omega)] at h1 h2
      by_cases c : rd L (i : Int) = b
      · exact ⟨(i : Int), Ev.step (fun k => spec_l14In.l0.eq_2 _ _ _ _ k) (Ev.pos (by omega) (Ev.pos (by omega) (Ev.pos (by omega) (Ev.pos c ((Ev.now _).cast (by rw [decide_eq_true (by omega)])))))), Ev.step (fun k => slices_Index_int_int.l0.eq_2 _ _ _ _ k) (Ev.pos (by omega) (Ev.pos (by omega) (Ev.pos (by omega) (Ev.pos c.symm (Ev.now _)))))⟩
      · exact ⟨z, Ev.step (fun k => spec_l14In.l0.eq_2 _ _ _ _ k) (Ev.pos (by omega) (Ev.pos (by omega) (Ev.pos (by omega) (Ev.neg c h1)))), Ev.step (fun k => slices_Index_int_int.l0.eq_2 _ _ _ _ k) (Ev.pos (by omega) (Ev.pos (by omega) (Ev.pos (by omega) (Ev.neg (fun e => c e.symm) h2))))⟩
  obtain ⟨z, h1, h2⟩ := key L.length 0 (by omega)
  exact ⟨_, h1, Ev.bind h2 (Ev.now _)⟩
abbrev R5 := ByteArray × Int × ByteArray × List ByteArray × Bool
/-- What holds of good music: its section is there, the beat within it, what it wants is there. -/
structure Fine (l : List Sn) (s : ByteArray) (b : Int) (t : ByteArray) : Prop where
  sec : l.any (nmS s) = true
  b0 : 0 ≤ b
  b1 : b ≤ (rS l (idxP (nmS s) l)).f1 - 1
  want : t.toList = ([] : List UInt8) ∨ l.any (nmS t) = true
structure Secs (l : List Sn) : Prop where
  len : l.length ≤ 64
  name : ∀ i : Nat, i < l.length → (rS l (i : Int)).f0.size ≤ 20
  beats : ∀ i : Nat, i < l.length → 1 ≤ (rS l (i : Int)).f1 ∧ (rS l (i : Int)).f1 ≤ 64
  next : ∀ i : Nat, i < l.length → l.any (nmS (rS l (i : Int)).f3) = true
theorem Secs.of {l : List Sn} (h : secsOk l = true) : Secs l := by
  unfold secsOk at h
  simp only [Bool.and_eq_true, decide_eq_true_eq] at h
  have g : ∀ i : Nat, i < l.length → secAt l i = true := fun i hi => (allFrom_iff _ _ _).1 h.2 i (by omega) (by omega)
  refine ⟨h.1.2, fun i hi => ?_, fun i hi => ?_, fun i hi => ?_⟩ <;> have q := g i hi <;> unfold secAt at q <;> simp only [Bool.and_eq_true, decide_eq_true_eq] at q
  · have := q.1; unfold nameOk at this; simp only [Bool.and_eq_true, decide_eq_true_eq] at this; omega
  · exact q.2.2.1
  · exact q.2.2.2.1
theorem at_ {l : List Sn} {s : ByteArray} (h : l.any (nmS s) = true) : ∃ i : Nat, i < l.length ∧ idxP (nmS s) l = (i : Int) := by
  have r := idxP_range (nmS s) l
  have e := idxP_any (nmS s) l
  rw [h] at e
  have := of_decide_eq_true e
  exact ⟨(idxP (nmS s) l).toNat, by omega, by omega⟩
theorem short {l : List Sn} (S : Secs l) {s : ByteArray} (h : l.any (nmS s) = true) : s.size ≤ 20 := by
  obtain ⟨z, hz, hn⟩ := List.any_eq_true.1 h
  obtain ⟨i, hi, rfl⟩ := List.getElem_of_mem hz
  have := S.name i hi
  rw [rSg hi] at this
  rw [← size_of (beq_iff_eq.1 hn)]; exact this
abbrev Q5 : R5 → Prop := fun r => r.2.2.2.1.length ≤ 1000
theorem start {l : List Sn} (S : Secs l) {s t : ByteArray} (h : l.any (nmS s) = true) (ht : t.toList = ([] : List UInt8) ∨ l.any (nmS t) = true) : Fine l s 0 t := by
  obtain ⟨i, hi, e⟩ := at_ h
  have := S.beats i hi
  exact ⟨h, by omega, by rw [e]; omega, ht⟩
theorem nil_toList : (⟨#[]⟩ : ByteArray).toList = ([] : List UInt8) := by rw [ByteArray.toList_eq]
/-- One beat is played, behind what may have been gone over to. -/
theorem beat {l : List Sn} (S : Secs l) (hl : l.length ≤ maxLen) (N : Int) (hN : N ≤ 1000) (m : Nat)
    (ih : ∀ (j : Nat) (out : List ByteArray) (s : ByteArray) (b : Int) (t : ByteArray), (j : Int) + m = N → out.length = j → Fine l s b t → Both Q5 (fun k => spec_RunMusic.l0 k l (N - j) out s b t) (fun k => impl_RunMusic.l0 k l out N (j : Int) s b t))
    (j : Nat) (out : List ByteArray) (s : ByteArray) (b : Int) (t : ByteArray) (hj : (j : Int) + (m + 1) = N) (ho : out.length = j) (F : Fine l s b t) :
    Both Q5 (fun k => if s.size + 1 ≤ 9223372036854775807 then ((spec_l1Num.f k b).bind fun u => (if (s ++ (⟨#[58]⟩ : ByteArray)).size + u.size ≤ 9223372036854775807 then (if out.length < 8796093022208 then ((some (out ++ [(s ++ (⟨#[58]⟩ : ByteArray)) ++ u] : List ByteArray)).bind fun y => (if b + 1 = (rS l (idxP (nmS s) l)).f1 then (spec_RunMusic.l0 k l (wrap64 (N - j - 1)) y (rS l (idxP (nmS s) l)).f3 0 t) else (spec_RunMusic.l0 k l (wrap64 (N - j - 1)) y s (b + 1) t))) else (none)) else (none))) else (none))
      (fun k => impl_RunMusic.j3 k l out N (j : Int) s b t) := by
  obtain ⟨i, hi, e⟩ := at_ F.sec
  have bt := S.beats i hi
  have sz := short S F.sec
  have b0 := F.b0; have b1 := F.b1
  rw [e] at b1 ⊢
  obtain ⟨n, rfl⟩ := Int.eq_ofNat_of_zero_le b0
  have hn : n < 64 := by omega
  have di := num_impl ⟨n, hn⟩
  have ds : (num n).size ≤ 2 := num_size ⟨n, hn⟩
  have dp := num_spec n hn
  have c1 : s.size + 1 ≤ 9223372036854775807 := by omega
  have c2 : (s ++ (⟨#[58]⟩ : ByteArray)).size + (num n).size ≤ 9223372036854775807 := by
    rw [ByteArray.size_append]; show s.size + 1 + _ ≤ _; omega
  have w1 := am_ (show wrap64 (N - j - 1) = N - ((j + 1 : Nat) : Int) from by rw [w64 (by omega) (by omega)]; omega)
  have w2 := am_ (show wrap64 ((n : Int) + 1) = (n : Int) + 1 from w64 (by omega) (by omega))
  have w3 := am_ (show wrap64 ((j : Int) + 1) = ((j + 1 : Nat) : Int) from w_succ (by omega))
  have sc := sec_impl l hl s
  rw [e] at sc
  have o1 : (out ++ [(s ++ (⟨#[58]⟩ : ByteArray)) ++ num n]).length = j + 1 := by simp [ho]
  refine Both.rstep (fun k => impl_RunMusic.j3.eq_2 _ _ _ _ _ _ _ k) ?_
  simp only [w1.out, w2.out, w3.out]
  refine Both.pos c1 c1 (Both.bind (P := fun u => u = num n) ⟨_, rfl, dp, Ev.mk fun _ => di⟩ (fun u hu => ?_))
  subst hu
  refine Both.pos c2 c2 (Both.pos (by omega) (by omega) ?_)
  simp only [Option.bind_some]
  have fin : Both Q5 (fun k => if (n : Int) + 1 = (rS l (i : Int)).f1 then (spec_RunMusic.l0 k l (N - ((j + 1 : Nat) : Int)) (out ++ [(s ++ (⟨#[58]⟩ : ByteArray)) ++ num n]) (rS l (i : Int)).f3 0 t) else (spec_RunMusic.l0 k l (N - ((j + 1 : Nat) : Int)) (out ++ [(s ++ (⟨#[58]⟩ : ByteArray)) ++ num n]) s ((n : Int) + 1) t))
      (fun k => if (n : Int) + 1 = (rS l (i : Int)).f1 then (impl_RunMusic.l0 k l (out ++ [(s ++ (⟨#[58]⟩ : ByteArray)) ++ num n]) N ((j + 1 : Nat) : Int) (rS l (i : Int)).f3 0 t) else (impl_RunMusic.l0 k l (out ++ [(s ++ (⟨#[58]⟩ : ByteArray)) ++ num n]) N ((j + 1 : Nat) : Int) s ((n : Int) + 1) t)) := by
    refine Both.ite (fun _ => ih (j + 1) _ _ _ _ (by omega) o1 (start S (S.next i hi) F.want)) (fun c => ih (j + 1) _ _ _ _ (by omega) o1 ⟨F.sec, by omega, by rw [e]; omega, F.want⟩)
  obtain ⟨r, hq, h1, h2⟩ := fin
  exact ⟨r, hq, h1, Ev.bind sc (Ev.pos (by omega) (Ev.pos (by omega) h2))⟩
theorem runs {l : List Sn} (S : Secs l) (hl : l.length ≤ maxLen) (hx : ∀ z ∈ l, z.f2.length ≤ maxLen) (N : Int) (hN : N ≤ 1000) : ∀ (m : Nat) (j : Nat) (out : List ByteArray) (s : ByteArray) (b : Int) (t : ByteArray), (j : Int) + m = N → out.length = j → Fine l s b t → Both Q5 (fun k => spec_RunMusic.l0 k l (N - j) out s b t) (fun k => impl_RunMusic.l0 k l out N (j : Int) s b t) := by
  intro m
  induction m with
  | zero =>
    intro j out s b t hj ho F
    exact Both.step (fun k => spec_RunMusic.l0.eq_2 _ _ _ _ _ _ k) (fun k => impl_RunMusic.l0.eq_2 _ _ _ _ _ _ _ k) (Both.neg (by omega) (by omega) (Both.now _ (by show out.length ≤ 1000; omega)))
  | succ m ih =>
    intro j out s b t hj ho F
    obtain ⟨i, hi, e⟩ := at_ F.sec
    have s1 := sec_spec l hl s
    have s2 := sec_impl l hl s
    rw [e] at s1 s2
    have stay : Both Q5 (fun k => spec_RunMusic.j2 k l (N - j) out false s b t (rS l (i : Int)).f0 (rS l (i : Int)).f1 (rS l (i : Int)).f2 (rS l (i : Int)).f3) (fun k => impl_RunMusic.j2 k l out N (j : Int) false s b t) := by
      have h := beat S hl N hN m ih j out s b t (by omega) ho F
      rw [e] at h
      have bt := S.beats i hi
      have b0 := F.b0; have b1 := F.b1
      rw [e] at b1
      have w := am_ (show wrap64 (b + 1) = b + 1 from w64 (by omega) (by omega))
      refine Both.step (fun k => spec_RunMusic.j2.eq_2 _ _ _ _ _ _ _ _ _ _ _ k) (fun k => impl_RunMusic.j2.eq_2 _ _ _ _ _ _ _ _ k) (Both.neg (by simp) (by simp) ?_)
      simp only [w.out]
      exact h
    refine Both.step (fun k => spec_RunMusic.l0.eq_2 _ _ _ _ _ _ k) (fun k => impl_RunMusic.l0.eq_2 _ _ _ _ _ _ _ k) (Both.pos (by omega) (by omega) (Both.bind (P := fun z => z = (i : Int)) ⟨_, rfl, s1, s2⟩ (fun z hz => ?_)))
    subst hz
    refine Both.pos (by omega) (by omega) (Both.pos (by omega) (by omega) (Both.ite (fun _ => stay) (fun c => ?_)))
    have hw : l.any (nmS t) = true := F.want.resolve_left c
    obtain ⟨v, v1, v2⟩ := exits_ev (rS l (i : Int)).f2 b (by rw [rSg hi]; exact hx _ (List.getElem_mem hi))
    refine Both.bind (P := fun u => u = v) ⟨v, rfl, v1, v2⟩ (fun u hu => ?_)
    subst hu
    cases u with
    | false => exact stay
    | true =>
      obtain ⟨i2, hi2, e2⟩ := at_ hw
      have s3 := sec_spec l hl t
      rw [e2] at s3
      have h := beat S hl N hN m ih j out t 0 ⟨#[]⟩ (by omega) ho (start S hw (.inl nil_toList))
      rw [e2] at h
      simp only [Int.zero_add] at h
      obtain ⟨r, hq, h1, h2⟩ := h
      exact ⟨r, hq, Ev.step (fun k => spec_RunMusic.j2.eq_2 _ _ _ _ _ _ _ _ _ _ _ k) (Ev.pos rfl (Ev.bind s3 (Ev.pos (by omega) (Ev.pos (by omega) h1)))), Ev.step (fun k => impl_RunMusic.j2.eq_2 _ _ _ _ _ _ _ _ k) (Ev.pos rfl h2)⟩
theorem both {l : List Sn} (hl : l.length ≤ maxLen) (ho : ∀ z ∈ l, SOk z) (s : ByteArray) (b : Int) (t : ByteArray) (n : Int) : Both Q5 (fun k => spec_RunMusic.f k l s b t n) (fun k => impl_RunMusic.f k l s b t n) := by
  have no : Both Q5 (fun k => spec_RunMusic.j0 k l n true s b t) (fun k => impl_RunMusic.j0 k l n true s b t) :=
    Both.step (fun k => spec_RunMusic.j0.eq_2 _ _ _ _ _ _ k) (fun k => impl_RunMusic.j0.eq_2 _ _ _ _ _ _ k) (Both.pos rfl rfl (Both.now _ (by simp)))
  unfold spec_RunMusic.f impl_RunMusic.f
  refine Both.bind (P := fun v => v = musicOk l s b t) ⟨_, rfl, music_spec l hl ho s b t, music_impl l hl ho s b t⟩ (fun v hv => ?_)
  subst hv
  simp only [in_spec, in_impl, Option.bind_some]
  refine Both.ite (fun c => ?_) (fun _ => no)
  cases c2 : (decide (0 ≤ n) && decide (n ≤ 1000)) with
  | false => exact no
  | true =>
    simp only [Bool.and_eq_true, decide_eq_true_eq] at c2
    unfold musicOk at c
    simp only [Bool.and_eq_true, Bool.or_eq_true, decide_eq_true_eq] at c
    obtain ⟨c0, c1, ⟨c3, c4⟩, c5⟩ := c
    have S := Secs.of c0
    obtain ⟨i, hi, e⟩ := at_ c1
    have bt := S.beats i hi
    rw [e, w64 (by omega) (by omega)] at c4
    have F : Fine l s b t := ⟨c1, c3, by rw [e]; exact c4, c5⟩
    refine Both.step (fun k => spec_RunMusic.j0.eq_2 _ _ _ _ _ _ k) (fun k => impl_RunMusic.j0.eq_2 _ _ _ _ _ _ k) (Both.neg (by simp) (by simp) ?_)
    have h := runs S hl (fun z hz => (ho z hz).2.1) n c2.2 n.toNat 0 [] s b t (by omega) rfl F
    simpa using h
theorem mark_sections (l : List Sn) (hl : (l.length : Int) ≤ 1048576) (hs : ∀ z ∈ l, (z.f2.length : Int) ≤ 1048576) : ∃ t ys, 1 ≤ t ∧ Ev (fun k => laws_markSectionS.f k l 1) (t, ys) := by
  obtain ⟨put, hp⟩ := text_ev
  obtain ⟨t, ys, h1, _, h⟩ := mapK_ev laws_markSectionS.one (fun _ => True) l 1 (by omega) (by omega) (fun e he c h0 h1 => by
    have hn := hs e he
    have w1 : wrap64 (c + 1) = c + 1 := w64 (by omega) (by omega)
    have w2 : wrap64 (c + 1 + 1) = c + 1 + 1 := w64 (by omega) (by omega)
    have w3 : wrap64 (c + 1 + 1 + (e.f2.length : Int) + 1) = c + 1 + 1 + (e.f2.length : Int) + 1 := w64 (by omega) (by omega)
    refine ⟨c + 1 + 1 + (e.f2.length : Int) + 1, ⟨put c, c + 1, marks e.f2.length (c + 1 + 1), put (c + 1 + 1 + (e.f2.length : Int))⟩, by omega, by omega, ?_⟩
    unfold laws_markSectionS.one
    simp only [w1, w2]
    refine Ev.bind (hp c (by omega) (by omega)) (Ev.bind (mark_intsAt e.f2 (c + 1 + 1) (by omega) (by omega)) ?_)
    exact Ev.bind (hp _ (by show 1 ≤ c + 1 + 1 + (e.f2.length : Int); omega) (by show c + 1 + 1 + (e.f2.length : Int) ≤ _; omega)) ((Ev.now _).cast (by simp only [w3])))
  exact ⟨t, ys, h1, h⟩
theorem FnExactRunMusic : laws_FnExactRunMusic.Pure := by
  intro l s b t n ⟨hl, hs⟩ hss _ hts _
  have hs' : ∀ z ∈ l, z.f0.size ≤ maxLen ∧ z.f2.length ≤ maxLen ∧ z.f3.size ≤ maxLen := fun z hz => ⟨(hs z hz).1, (hs z hz).2.2.1.1, (hs z hz).2.2.2⟩
  refine Ev.rounds (r := true) ?_
  unfold laws_FnExactRunMusic.f
  obtain ⟨q, hq, ht, he⟩ := sz_sections l hl hs' (a := 1048576) (by omega) (by omega)
  refine Ev.bind he (Ev.ite (fun _ => Ev.now _) (fun h => ?_))
  obtain ⟨hn, hns⟩ := ht h
  obtain ⟨r, hr⟩ := sz_music s b t hss hts (a := q) (by omega) hq
  refine Ev.const_bind hr (Ev.ite (fun _ => Ev.now _) (fun _ => ?_))
  have tk := to_sections l hn hns
  have hxs : ∀ z ∈ l.map asSection, SOk z := by
    intro z hz
    obtain ⟨y, hy, rfl⟩ := List.mem_map.1 hz
    exact hs' y hy
  have hxn : ∀ z ∈ l.map asSection, (z.f2.length : Int) ≤ 1048576 := by
    intro z hz
    obtain ⟨y, hy, rfl⟩ := List.mem_map.1 hz
    exact hns y hy
  generalize hx : l.map asSection = xs at tk hxs hxn
  have hxl : (xs.length : Int) ≤ 1048576 := by rw [← hx, List.length_map]; omega
  have hxm : xs.length ≤ maxLen := by rw [maxLen_eq]; omega
  obtain ⟨⟨y0, y1, y2, y3, y4⟩, hy, k1, k2⟩ := both hxm hxs s b t n
  have hy : y3.length ≤ 1000 := hy
  have em : laws_eqMusic.f y0 y1 y2 y0 y1 y2 = some true := by unfold laws_eqMusic.f; rw [if_pos rfl, if_pos rfl, if_pos rfl]
  have es := eq_strs1 y3 (by omega)
  obtain ⟨mt, mY, m1, hm⟩ := mark_sections xs hxl hxn
  obtain ⟨zs, z1, z2⟩ := mark_strs y3 (by omega)
  exact Ev.bind tk (Ev.const_bind rfl (Ev.bind k1 (Ev.bind tk (Ev.const_bind rfl (Ev.bind k2 (Ev.const_bind em (Ev.pos rfl (Ev.bind es (Ev.pos rfl (Ev.pos rfl (Ev.bind tk (Ev.bind (eq_sections xs hxl hxn) (Ev.pos rfl
    (Ev.bind hm (Ev.pos (by show ¬ mt < 0; omega) (Ev.const_bind em (Ev.pos rfl (Ev.bind es (Ev.pos rfl (Ev.pos rfl (Ev.bind z1 (Ev.bind z2 (Ev.pos (by omega) (Ev.pos rfl
    (Ev.bind tk (Ev.const_bind rfl (Ev.bind k2 (Ev.const_bind em (Ev.pos rfl (Ev.bind es (Ev.pos rfl (Ev.pos rfl (Ev.bind z2 (Ev.pos (by omega) (Ev.pos rfl (Ev.now _))))))))))))))))))))))))))))))))))))

end Go.Proofs.YtcabbfphidjapaaDoor.Pure
