/- AskMusic: the pure statement of the law: the program's music is the reference's, for all sections, music and names. -/
import Derived.Test.YtjaljjdmolhhpaaXFnExactAskMusicx10
import Derived.Test.YtjaljjdmolhhpaaXLibAskMusic
namespace Go.Proofs.Ytjaljjdmolhhpaa.Pure
open Go.RowKit Go.Proofs.Ytjaljjdmolhhpaa.XFnExactAskMusic Go.Proofs.YtjaljjdmolhhpaaW.PrintWords Go.Proofs.YtjaljjdmolhhpaaW.PrintLast Go.Proofs.YtjaljjdmolhhpaaW.PrintMore Go.Proofs.Ytjaljjdmolhhpaa.X
set_option linter.unusedVariables false
set_option linter.unusedSimpArgs false

theorem in_spec (a b c : Int) : spec_l1In.f a b c = some (decide (b ≤ a) && decide (a ≤ c)) := by
  unfold spec_l1In.f
  by_cases h : b ≤ a <;> simp [h]
theorem in_impl (a b c : Int) : impl_inRange.f a b c = some (decide (b ≤ a) && decide (a ≤ c)) := by
  unfold impl_inRange.f
  by_cases h : b ≤ a <;> simp [h]
/-! names: letters, digits, '_', no digit first, 1 to 20 -/
def isDig (c : Int) : Bool := decide (48 ≤ c) && decide (c ≤ 57)
def isLet (c : Int) : Bool := (decide (97 ≤ c) && decide (c ≤ 122)) || (decide (65 ≤ c) && decide (c ≤ 90))
def nameOk (s : ByteArray) : Bool := (decide (1 ≤ s.size) && decide (s.size ≤ 20)) && allFrom (fun i => isLet (bt s i) || bt s i == 95 || (i != 0 && isDig (bt s i))) s.size 0
theorem dig_spec (c : Int) : spec_l1Digit.f c = some (isDig c) := by
  unfold spec_l1Digit.f isDig
  by_cases h : 48 ≤ c <;> simp [h]
theorem dig_impl (c : Int) : impl_isDigit.f c = some (isDig c) := by
  unfold impl_isDigit.f isDig
  by_cases h : 48 ≤ c <;> simp [h]
theorem let_spec (c : Int) : spec_l1Letter.f c = some (isLet c || c == 95) := by
  unfold spec_l1Letter.f isLet
  by_cases h1 : 97 ≤ c <;> by_cases h2 : c ≤ 122 <;> by_cases h3 : 65 ≤ c <;> by_cases h4 : c ≤ 90 <;> simp [h1, h2, h3, h4]
theorem let_impl (c : Int) : impl_isLetter.f c = some (isLet c) := by
  unfold impl_isLetter.f isLet
  by_cases h1 : 97 ≤ c <;> by_cases h2 : c ≤ 122 <;> by_cases h3 : 65 ≤ c <;> by_cases h4 : c ≤ 90 <;> simp [h1, h2, h3, h4]
theorem let_not_dig (c : Int) (h : isDig c = true) : (isLet c || c == 95) = false := by
  unfold isDig at h
  unfold isLet
  simp at h ⊢
  omega
theorem name_spec_l (s : ByteArray) (hs : s.size ≤ maxLen) : ∀ m i : Nat, i + m = s.size → Ev (fun k => spec_GoodName.l0 k s (i : Int)) (allFrom (fun i => isLet (bt s i) || bt s i == 95 || isDig (bt s i)) m i) := by
  rw [maxLen_eq] at hs
  intro m
  induction m with
  | zero => exact fun i hi => Ev.step (fun k => spec_GoodName.l0.eq_2 _ _ k) (Ev.neg (by omega) (Ev.now _))
  | succ m ih =>
    intro i hi
    refine Ev.step (fun k => spec_GoodName.l0.eq_2 _ _ k) (Ev.pos (by omega) (Ev.pos (by omega) (Ev.const_bind (let_spec _) ?_)))
    rw [w64 (by omega) (by omega), allFrom]
    cases h : (isLet (bt s i) || bt s i == 95) with
    | true => exact Ev.pos rfl (Ev.cast (ih (i + 1) (by omega)) (by simp))
    | false =>
      refine Ev.neg (by decide) (Ev.const_bind (dig_spec _) ?_)
      rw [Bool.false_or]
      exact Ev.and (fun _ => ih (i + 1) (by omega))
theorem name_spec (s : ByteArray) (hs : s.size ≤ maxLen) : Ev (fun k => spec_GoodName.f k s) (nameOk s) := by
  have hj : ∀ b, Ev (fun k => spec_GoodName.j0 k s b) (!b && allFrom (fun i => isLet (bt s i) || bt s i == 95 || isDig (bt s i)) s.size 0) := fun b =>
    Ev.step (fun k => spec_GoodName.j0.eq_2 _ _ k) (Ev.andn (fun _ => name_spec_l s hs s.size 0 (by omega)))
  unfold spec_GoodName.f
  refine Ev.ite (fun h => Ev.cast (hj true) ?_) (fun h => Ev.ite (fun h2 => Ev.cast (hj true) ?_) (fun h2 => Ev.pos (by omega) (Ev.const_bind (dig_spec _) (Ev.cast (hj _) ?_))))
  · simp only [nameOk, decide_eq_false (show ¬ 1 ≤ s.size by omega), Bool.false_and, Bool.not_true]
  · simp only [nameOk, decide_eq_false (show ¬ s.size ≤ 20 by omega), Bool.and_false, Bool.false_and, Bool.not_true]
  · obtain ⟨n, hn⟩ : ∃ n, s.size = n + 1 := ⟨s.size - 1, by omega⟩
    simp only [nameOk, hn, decide_eq_true (show 1 ≤ n + 1 by omega), decide_eq_true (show n + 1 ≤ 20 by omega), Bool.true_and, allFrom]
    rw [allFrom_congr (p := fun i => isLet (bt s i) || bt s i == 95 || isDig (bt s i)) (q := fun i => isLet (bt s i) || bt s i == 95 || (i != 0 && isDig (bt s i))) n (0 + 1) (fun j h1 _ => by
      have : (j != 0) = true := by rw [bne_iff_ne]; omega
      simp only [this, Bool.true_and])]
    rw [show ((0 : Nat) : Int) = 0 from rfl, show ((0 : Nat) != 0) = false from rfl, Bool.false_and, Bool.or_false, ← Bool.and_assoc]
    cases hd : isDig (bt s 0) with
    | true => rw [let_not_dig _ hd]; rfl
    | false => rw [Bool.or_false, Bool.not_false, Bool.true_and]
theorem name_impl (s : ByteArray) (hs : s.size ≤ maxLen) : Ev (fun k => impl_GoodName.f k s) (nameOk s) := by
  rw [maxLen_eq] at hs
  have key : ∀ m i : Nat, i + m = s.size → Ev (fun k => impl_GoodName.l0 k s (s.size : Int) (i : Int)) ((decide (1 ≤ s.size) && decide (s.size ≤ 20)) && allFrom (fun i => isLet (bt s i) || bt s i == 95 || (i != 0 && isDig (bt s i))) m i) := by
    intro m
    induction m with
    | zero =>
      intro i hi
      refine Ev.step (fun k => impl_GoodName.l0.eq_2 _ _ _ k) (Ev.neg (by omega) (Ev.const_bind (in_impl _ _ _) (Ev.cast (Ev.now _) ?_)))
      rw [allFrom, Bool.and_true]
      congr 1 <;> exact decide_eq_decide.2 (by omega)
    | succ m ih =>
      intro i hi
      refine Ev.step (fun k => impl_GoodName.l0.eq_2 _ _ _ k) (Ev.pos (by omega) (Ev.pos (by omega) (Ev.pos (by omega) (Ev.const_bind (let_impl _) ?_))))
      rw [w64 (by omega) (by omega), allFrom]
      cases h : isLet (bt s i) with
      | true => exact Ev.pos rfl (Ev.cast (ih (i + 1) (by omega)) (by simp))
      | false =>
        refine Ev.neg (by decide) (Ev.ite (fun h5 => Ev.cast (ih (i + 1) (by omega)) (by simp [h5])) (fun h5 => Ev.ite (fun h0 => Ev.cast (Ev.now _) ?_) (fun h0 => Ev.const_bind (dig_impl _) ?_)))
        · have h0' : (i != 0) = false := by rw [bne_eq_false_iff_eq]; omega
          have h5' : (bt s (i : Int) == 95) = false := beq_eq_false_iff_ne.2 h5
          simp only [h5', h0', Bool.false_or, Bool.false_and, Bool.and_false]
        · have h0' : (i != 0) = true := by rw [bne_iff_ne]; omega
          have h5' : (bt s (i : Int) == 95) = false := beq_eq_false_iff_ne.2 h5
          simp only [h5', Bool.false_or, h0', Bool.true_and]
          cases hd : isDig (bt s i) with
          | true => exact Ev.pos rfl (Ev.cast (ih (i + 1) (by omega)) (by simp))
          | false => exact Ev.neg (by decide) (Ev.cast (Ev.now _) (by simp))
  exact key s.size 0 (by omega)
/-! rising lists of numbers below a bound -/
def exitAt (b : Int) (e : List Int) (i : Nat) : Bool := (decide (0 ≤ rd e (i : Int)) && decide (rd e (i : Int) ≤ wrap64 (b - 1))) && (if i = 0 then true else !decide (rd e ((i : Int) - 1) ≥ rd e (i : Int)))
theorem exits_loop (b : Int) (e : List Int) (he : e.length ≤ maxLen) (G : Nat → Int → Option Bool) (E : Nat → Option Bool) (R : Bool) (hE : Ev E R)
    (hG : ∀ k i, G (k + 1) i = if i < (e.length : Int) then (if 0 ≤ i then (if i < (e.length : Int) then ((some (decide (0 ≤ rd e i) && decide (rd e i ≤ wrap64 (b - 1)))).bind fun t => if t = true then (if i > 0 then (if 0 ≤ wrap64 (i - 1) then (if wrap64 (i - 1) < (e.length : Int) then (if rd e (wrap64 (i - 1)) ≥ rd e i then some false else G k (wrap64 (i + 1))) else none) else none) else G k (wrap64 (i + 1))) else some false) else none) else none) else E k) :
    Ev (fun k => G k 0) (allFrom (exitAt b e) e.length 0 && R) := by
  rw [maxLen_eq] at he
  have key : ∀ m i : Nat, i + m = e.length → Ev (fun k => G k (i : Int)) (allFrom (exitAt b e) m i && R) := by
    intro m
    induction m with
    | zero => exact fun i hi => Ev.step (fun k => hG k _) (Ev.neg (by omega) (Ev.cast hE (by rw [allFrom, Bool.true_and])))
    | succ m ih =>
      intro i hi
      refine Ev.step (fun k => hG k _) (Ev.pos (by omega) (Ev.pos (by omega) (Ev.pos (by omega) (Ev.some_bind ?_))))
      rw [allFrom, exitAt, w_succ (by omega), Bool.and_assoc (_ && _), Bool.and_assoc (_ && _)]
      refine Ev.and (fun _ => ?_)
      by_cases h0 : i = 0
      · rw [if_pos h0, Bool.true_and]
        exact Ev.neg (by omega) (ih (i + 1) (by omega))
      · rw [if_neg h0, w_pred (by omega)]
        refine Ev.pos (by omega) (Ev.pos (by omega) (Ev.pos (by omega) ?_))
        by_cases hg : rd e ((i : Int) - 1) ≥ rd e (i : Int)
        · rw [decide_eq_true hg]; exact Ev.pos hg (Ev.now _)
        · rw [decide_eq_false hg]; exact Ev.neg hg (Ev.cast (ih (i + 1) (by omega)) (by simp))
  exact key e.length 0 (by omega)
/-! sections -/
abbrev Sn := S159
abbrev rS (l : List Sn) (i : Int) : Sn := rd_T159 l i
theorem rSg {l : List Sn} {i : Nat} (h : i < l.length) : rS l (i : Int) = l[i] := rdOf_get (d := z159) h
def nmS (s : ByteArray) (z : Sn) : Bool := z.f0.toList == s.toList
def secAt (l : List Sn) (i : Nat) : Bool := nameOk (rS l (i : Int)).f0 && (!((l.take i).any (nmS (rS l (i : Int)).f0)) && ((decide (1 ≤ (rS l (i : Int)).f1) && decide ((rS l (i : Int)).f1 ≤ 64)) && (l.any (nmS (rS l (i : Int)).f3) && allFrom (exitAt (rS l (i : Int)).f1 (rS l (i : Int)).f2) (rS l (i : Int)).f2.length 0)))
def secsOk (l : List Sn) : Bool := (decide (1 ≤ l.length) && decide (l.length ≤ 64)) && allFrom (secAt l) l.length 0
def SOk (z : Sn) : Prop := z.f0.size ≤ maxLen ∧ z.f2.length ≤ maxLen ∧ z.f3.size ≤ maxLen
theorem sec_spec (l : List Sn) (hl : l.length ≤ maxLen) (s : ByteArray) : Ev (fun k => spec_l15Section.f k l s) (idxP (nmS s) l) :=
  index_ev z159 (fun _ z => some (nmS s z)) (nmS s) (fun k x n i => spec_l15Section.l0 k s x n i) (fun k x n i => by
    rw [spec_l15Section.l0]
    simp only [Option.bind_some, nmS, beq_iff_eq]
    rfl) l hl (fun z _ => Ev.now _)
theorem sec_impl (l : List Sn) (hl : l.length ≤ maxLen) (s : ByteArray) : Ev (fun k => impl_sectionAt.f k l s) (idxP (nmS s) l) := by
  have h := index_ev z159 (fun _ z => impl_sectionAt_1_captured.f z.f0 z.f1 z.f2 z.f3 s) (nmS s) (slices_IndexFunc_impl_Section_impl_Section_at_impl_sectionAt_1.l0 s) (fun k x n i => slices_IndexFunc_impl_Section_impl_Section_at_impl_sectionAt_1.l0.eq_2 _ _ _ _ k) l hl (fun z _ => Ev.now _)
  unfold impl_sectionAt.f slices_IndexFunc_impl_Section_impl_Section_at_impl_sectionAt_1.f
  exact Ev.bind h (Ev.now _)
theorem idx_lt {α : Type} (p : α → Bool) (xs : List α) : decide (idxP p xs < 0) = !xs.any p := by
  rw [← idxP_any]
  by_cases h : idxP p xs < 0
  · rw [decide_eq_true h, decide_eq_false (by omega)]; rfl
  · rw [decide_eq_false h, decide_eq_true (by omega)]; rfl
theorem secs_spec (l : List Sn) (hl : l.length ≤ maxLen) (ho : ∀ z ∈ l, SOk z) : Ev (fun k => spec_l15Sections.f k l) (secsOk l) := by
  have hl' := hl
  rw [maxLen_eq] at hl
  have key : ∀ m i : Nat, i + m = l.length → Ev (fun k => spec_l15Sections.l0 k l l (l.length : Int) (i : Int)) (allFrom (secAt l) m i) := by
    intro m
    induction m with
    | zero => exact fun i hi => Ev.step (fun k => spec_l15Sections.l0.eq_2 _ _ _ _ k) (Ev.neg (by omega) (Ev.now _))
    | succ m ih =>
      intro i hi
      have hi' : i < l.length := by omega
      have ok := ho _ (List.getElem_mem hi')
      rw [← rSg hi'] at ok
      have hR : Ev (fun k => spec_l15Sections.l0 k l l (l.length : Int) (wrap64 ((i : Int) + 1))) (allFrom (secAt l) m (i + 1)) := by rw [w_succ (by omega)]; exact ih (i + 1) (by omega)
      generalize hz : rS l (i : Int) = z at ok
      have hj : ∀ b, Ev (fun k => spec_l15Sections.j2 k l l (l.length : Int) (i : Int) b z.f0 z.f1 z.f2 z.f3) (!b && (allFrom (exitAt z.f1 z.f2) z.f2.length 0 && allFrom (secAt l) m (i + 1))) := fun b =>
        Ev.step (fun k => spec_l15Sections.j2.eq_2 _ _ _ _ _ _ _ _ _ k) (Ev.andn (fun _ => exits_loop z.f1 z.f2 ok.2.1 (fun k i' => spec_l15Sections.l1 k l l (l.length : Int) (i : Int) z.f2 (z.f2.length : Int) i' z.f0 z.f1 z.f2 z.f3) _ _ hR (fun k i' => by rw [spec_l15Sections.l1, in_spec])))
      have n1 := name_spec z.f0 ok.1
      have s1 := sec_spec (l.take i) (by rw [List.length_take, maxLen_eq]; omega) z.f0
      have s2 := sec_spec l hl' z.f3
      refine Ev.step (fun k => spec_l15Sections.l0.eq_2 _ _ _ _ k) (Ev.pos (by omega) (Ev.pos (by omega) (Ev.pos (by omega) ?_)))
      have hz' : rd_T159 l (i : Int) = z := hz
      rw [allFrom, secAt, hz, hz']
      cases hn : nameOk z.f0 with
      | false => rw [hn] at n1; exact Ev.bind n1 (Ev.neg (by decide) (Ev.cast (hj true) (by simp)))
      | true =>
        rw [hn] at n1
        refine Ev.bind n1 (Ev.pos rfl (Ev.pos (by omega) ?_))
        rw [Int.toNat_natCast]
        refine Ev.bind s1 ?_
        have hlt := idx_lt (nmS z.f0) (l.take i)
        cases ha : (l.take i).any (nmS z.f0) with
        | true =>
          rw [ha] at hlt
          exact Ev.pos (by have := of_decide_eq_false hlt; omega) (Ev.cast (hj true) (by simp))
        | false =>
          rw [ha] at hlt
          refine Ev.neg (by have := of_decide_eq_true hlt; omega) (Ev.const_bind (in_spec _ _ _) ?_)
          cases hb : (decide (1 ≤ z.f1) && decide (z.f1 ≤ 64)) with
          | false => exact Ev.neg (by decide) (Ev.cast (hj true) (by simp))
          | true => exact Ev.pos rfl (Ev.bind s2 (Ev.cast (hj _) (by rw [idx_lt]; simp [Bool.and_assoc])))
  have hj : ∀ b, Ev (fun k => spec_l15Sections.j0 k l b) (!b && allFrom (secAt l) l.length 0) := fun b => Ev.step (fun k => spec_l15Sections.j0.eq_2 _ _ k) (Ev.andn (fun _ => key l.length 0 (by omega)))
  unfold spec_l15Sections.f secsOk
  by_cases h : 1 ≤ l.length
  · refine Ev.neg (by omega) (Ev.cast (hj _) ?_)
    rw [decide_eq_true h, Bool.true_and]
    congr 1
    by_cases h2 : l.length ≤ 64
    · rw [decide_eq_true h2, decide_eq_false (by omega)]; rfl
    · rw [decide_eq_false h2, decide_eq_true (by omega)]; rfl
  · refine Ev.pos (by omega) (Ev.cast (hj _) ?_)
    rw [decide_eq_false h]; rfl
theorem secs_impl (l : List Sn) (hl : l.length ≤ maxLen) (ho : ∀ z ∈ l, SOk z) : Ev (fun k => impl_areSections.f k l) (secsOk l) := by
  have hl' := hl
  rw [maxLen_eq] at hl
  have key : ∀ m i : Nat, i + m = l.length → Ev (fun k => impl_areSections.l0 k l l (l.length : Int) (i : Int)) (allFrom (secAt l) m i && (decide (1 ≤ l.length) && decide (l.length ≤ 64))) := by
    intro m
    induction m with
    | zero =>
      intro i hi
      refine Ev.step (fun k => impl_areSections.l0.eq_2 _ _ _ _ k) (Ev.neg (by omega) (Ev.const_bind (in_impl _ _ _) (Ev.cast (Ev.now _) ?_)))
      rw [allFrom, Bool.true_and]
      congr 1 <;> exact decide_eq_decide.2 (by omega)
    | succ m ih =>
      intro i hi
      have hi' : i < l.length := by omega
      have ok := ho _ (List.getElem_mem hi')
      rw [← rSg hi'] at ok
      have hf := idxP_first (nmS (rS l (i : Int)).f0) l i hi' (by rw [← rSg hi']; simp [nmS])
      generalize hL : (decide (1 ≤ l.length) && decide (l.length ≤ 64)) = L at ih ⊢
      have hR : Ev (fun k => impl_areSections.l0 k l l (l.length : Int) (wrap64 ((i : Int) + 1))) (allFrom (secAt l) m (i + 1) && L) := by rw [w_succ (by omega)]; exact ih (i + 1) (by omega)
      generalize hz : rS l (i : Int) = z at ok hf
      have hj : ∀ b, Ev (fun k => impl_areSections.j1 k l l (l.length : Int) (i : Int) b z.f0 z.f1 z.f2 z.f3) (!b && (allFrom (exitAt z.f1 z.f2) z.f2.length 0 && (allFrom (secAt l) m (i + 1) && L))) := fun b =>
        Ev.step (fun k => impl_areSections.j1.eq_2 _ _ _ _ _ _ _ _ _ k) (Ev.andn (fun _ => exits_loop z.f1 z.f2 ok.2.1 (fun k i' => impl_areSections.l1 k l l (l.length : Int) (i : Int) z.f2 (z.f2.length : Int) i' z.f0 z.f1 z.f2 z.f3) _ _ hR (fun k i' => by rw [impl_areSections.l1, in_impl])))
      have n1 := name_impl z.f0 ok.1
      have s1 := sec_impl l hl' z.f0
      have s2 := sec_impl l hl' z.f3
      refine Ev.step (fun k => impl_areSections.l0.eq_2 _ _ _ _ k) (Ev.pos (by omega) (Ev.pos (by omega) (Ev.pos (by omega) ?_)))
      have hz' : rd_T159 l (i : Int) = z := hz
      rw [allFrom, secAt, hz, hz']
      cases hn : nameOk z.f0 with
      | false => rw [hn] at n1; exact Ev.bind n1 (Ev.neg (by decide) (Ev.cast (hj true) (by simp)))
      | true =>
        rw [hn] at n1
        refine Ev.bind n1 (Ev.pos rfl (Ev.bind s1 ?_))
        cases ha : (l.take i).any (nmS z.f0) with
        | true => exact Ev.neg (fun h => by rw [hf.1 h] at ha; cases ha) (Ev.cast (hj true) (by simp))
        | false =>
          refine Ev.pos (hf.2 ha) (Ev.const_bind (in_impl _ _ _) ?_)
          cases hb : (decide (1 ≤ z.f1) && decide (z.f1 ≤ 64)) with
          | false => exact Ev.neg (by decide) (Ev.cast (hj true) (by simp))
          | true => exact Ev.pos rfl (Ev.bind s2 (Ev.cast (hj _) (by rw [idx_lt]; simp [Bool.and_assoc])))
  unfold impl_areSections.f secsOk
  exact Ev.cast (key l.length 0 (by omega)) (Bool.and_comm _ _)
/-- What is asked of a piece of music. -/
def musicOk (l : List Sn) (s : ByteArray) (beat : Int) (want : ByteArray) : Bool := secsOk l && (l.any (nmS s) && ((decide (0 ≤ beat) && decide (beat ≤ wrap64 ((rS l (idxP (nmS s) l)).f1 - 1))) && (decide (want.toList = ([] : List UInt8)) || l.any (nmS want))))
theorem music_spec (l : List Sn) (hl : l.length ≤ maxLen) (ho : ∀ z ∈ l, SOk z) (s : ByteArray) (b : Int) (t : ByteArray) : Ev (fun k => spec_GoodMusic.f k l s b t) (musicOk l s b t) := by
  have h1 := secs_spec l hl ho
  have h2 := sec_spec l hl s
  have h3 := sec_spec l hl t
  have hr := idxP_range (nmS s) l
  have e2 := idxP_any (nmS s) l
  have e3 := idxP_any (nmS t) l
  unfold spec_GoodMusic.f musicOk
  refine Ev.bind h1 (Ev.and (fun _ => Ev.bind h2 ?_))
  rw [← e2]
  refine Ev.andp (fun hge => Ev.pos (by omega) (Ev.pos hr.2 (Ev.const_bind (in_spec _ _ _) (Ev.and (fun _ => ?_)))))
  by_cases ht : t.toList = ([] : List UInt8)
  · rw [decide_eq_true ht, Bool.true_or]; exact Ev.pos ht (Ev.now _)
  · rw [decide_eq_false ht, Bool.false_or, ← e3]; exact Ev.neg ht (Ev.bind h3 (Ev.now _))
theorem music_impl (l : List Sn) (hl : l.length ≤ maxLen) (ho : ∀ z ∈ l, SOk z) (s : ByteArray) (b : Int) (t : ByteArray) : Ev (fun k => impl_GoodMusic.f k l s b t) (musicOk l s b t) := by
  have h1 := secs_impl l hl ho
  have h2 := sec_impl l hl s
  have h3 := sec_impl l hl t
  have hr := idxP_range (nmS s) l
  have e2 := idxP_any (nmS s) l
  have e3 := idxP_any (nmS t) l
  unfold impl_GoodMusic.f musicOk
  refine Ev.bind h2 (Ev.bind h1 (Ev.and (fun _ => ?_)))
  rw [← e2]
  refine Ev.andp (fun hge => Ev.pos (by omega) (Ev.pos hr.2 (Ev.const_bind (in_impl _ _ _) (Ev.and (fun _ => ?_)))))
  by_cases ht : t.toList = ([] : List UInt8)
  · rw [decide_eq_true ht, Bool.true_or]; exact Ev.pos ht (Ev.now _)
  · rw [decide_eq_false ht, Bool.false_or, ← e3]; exact Ev.neg ht (Ev.bind h3 (Ev.now _))
theorem sz_ints (l : List Int) {a : Int} (h0 : 0 ≤ a) (h1 : a ≤ 1048576) (hl : l.length ≤ maxLen) : laws_szIntS.f l a = some (roomLeft l.length a) := sz_left h0 h1 hl
theorem to_ints (l : List Int) (hl : (l.length : Int) ≤ 1048576) : Ev (fun k => laws_toIntS.f k l) l := by
  have h := toS_ev (0 : Int) (id : Int → Int) 0 laws_toIntS.l0 (fun k x y i => laws_toIntS.l0.eq_2 x y i k) l (by omega)
  rw [List.map_id] at h
  exact Ev.pos (by omega) (Ev.pos (by omega) h)
theorem eq_ints (l : List Int) (hl : (l.length : Int) ≤ 1048576) : Ev (fun k => laws_eqIntS.f k l l) true :=
  eqInt_ev laws_eqIntS.l0 (fun k x y i => laws_eqIntS.l0.eq_2 x y i k) l (by rw [maxLen_eq]; omega)
theorem sz_sections (l : List S156) (hl : l.length ≤ maxLen) (hs : ∀ z ∈ l, z.f0.size ≤ maxLen ∧ z.f2.length ≤ maxLen ∧ z.f3.size ≤ maxLen) {a : Int} (h0 : 0 ≤ a) (h1 : a ≤ 1048576) : ∃ t, t ≤ 1048576 ∧ (¬ t < 0 → (l.length : Int) ≤ 1048576 ∧ ∀ z ∈ l, (z.f2.length : Int) ≤ 1048576) ∧ Ev (fun k => laws_szSectionS.f k l a) t := by
  unfold laws_szSectionS.f
  have e := sz_left (n := l.length) h0 h1 hl
  rw [maxLen_eq] at hl
  by_cases hn : wrap64 (a - (l.length : Int)) < 0
  · exact ⟨-1, by omega, by omega, Ev.pos hn (Ev.now _)⟩
  · rw [if_neg hn] at e
    have e := Option.some.inj e
    rw [e] at hn ⊢
    have hr := (roomLeft_ok hn).1
    obtain ⟨t, ht, hts, he⟩ := sizesP_ev (fun z : S156 => (z.f2.length : Int) ≤ 1048576) z156 (fun _ z r => laws_szSection.f z.f0 z.f1 z.f2 z.f3 r) laws_szSectionS.l0 (fun k x r i => laws_szSectionS.l0.eq_2 x r i k) l (by omega)
      (fun z hz r h0 h1 => by
        obtain ⟨hz0, hz2, hz3⟩ := hs z hz
        have e2 := sz_left (n := z.f0.size) h0 h1 hz0
        unfold laws_szSection.f
        by_cases hm : wrap64 (r - (z.f0.size : Int)) < 0
        · exact ⟨-1, by omega, fun h => absurd (by omega) h, Ev.pos hm (Ev.now _)⟩
        · rw [if_neg hm] at e2
          have e2 := Option.some.inj e2
          rw [e2] at hm ⊢
          have hm' := roomLeft_ok hm
          have e3 := sz_ints z.f2 (a := roomLeft z.f0.size r) (by omega) (roomLeft_le h1) hz2
          by_cases hm2 : roomLeft z.f2.length (roomLeft z.f0.size r) < 0
          · exact ⟨-1, by omega, fun h => absurd (by omega) h, Ev.neg hm (Ev.const_bind e3 (Ev.pos hm2 (Ev.now _)))⟩
          · have hm3 := roomLeft_ok hm2
            refine ⟨roomLeft z.f3.size (roomLeft z.f2.length (roomLeft z.f0.size r)), roomLeft_le (roomLeft_le (roomLeft_le h1)), fun _ => by omega, Ev.neg hm (Ev.const_bind e3 (Ev.neg hm2 ?_))⟩
            exact Ev.mk fun _ => sz_left (n := z.f3.size) (by omega) (roomLeft_le (roomLeft_le h1)) hz3) (roomLeft l.length a) (by omega) (roomLeft_le h1)
    exact ⟨t, ht, fun h => ⟨by omega, hts h⟩, Ev.neg hn he⟩
theorem sz_music (s : ByteArray) (b : Int) (t : ByteArray) (hs : s.size ≤ maxLen) (ht : t.size ≤ maxLen) {a : Int} (h0 : 0 ≤ a) (h1 : a ≤ 1048576) : ∃ r, laws_szMusic.f s b t a = some r := by
  unfold laws_szMusic.f
  split
  · exact ⟨_, rfl⟩
  · split <;> exact ⟨_, rfl⟩
def asSection (b : S156) : Sn := ⟨b.f0, b.f1, b.f2, b.f3⟩
theorem to_sections (l : List S156) (hl : (l.length : Int) ≤ 1048576) (hs : ∀ z ∈ l, (z.f2.length : Int) ≤ 1048576) : Ev (fun k => laws_toSectionS.f k l) (l.map asSection) := by
  have ht := toK_ev z159 asSection z156 (fun k z => (laws_toSection.f k z.f0 z.f1 z.f2 z.f3).bind fun t => some (⟨t.1, t.2.1, t.2.2.1, t.2.2.2⟩ : Sn)) laws_toSectionS.l0 (fun k x y i => by
      rw [laws_toSectionS.l0]
      split
      · split
        · simp only [Option.bind_assoc, Option.bind_some]; rfl
        · rfl
      · rfl) l (by omega) (fun z hz => Ev.bind (Ev.bind (to_ints z.f2 (hs z hz)) (Ev.now _)) (Ev.now _))
  unfold laws_toSectionS.f
  exact Ev.pos (by omega) (Ev.pos (by omega) ht)
theorem eq_sections (l : List Sn) (hl : (l.length : Int) ≤ 1048576) (hs : ∀ z ∈ l, (z.f2.length : Int) ≤ 1048576) : Ev (fun k => laws_eqSectionS.f k l l) true := by
  unfold laws_eqSectionS.f
  exact eqK_ev z159 (fun k a b => laws_eqSection.f k a.f0 a.f1 a.f2 a.f3 b.f0 b.f1 b.f2 b.f3) laws_eqSectionS.l0 (fun k x y i => laws_eqSectionS.l0.eq_2 x y i k) l (by rw [maxLen_eq]; omega) (fun a ha => Ev.pos rfl (Ev.pos rfl (Ev.bind (eq_ints a.f2 (hs a ha)) (Ev.pos rfl (Ev.pos rfl (Ev.now _))))))
theorem FnExactAskMusic : laws_FnExactAskMusic.Pure := by
  intro l s b t nm ⟨hl, hs⟩ hss _ hts hnm
  have hs' : ∀ z ∈ l, z.f0.size ≤ maxLen ∧ z.f2.length ≤ maxLen ∧ z.f3.size ≤ maxLen := fun z hz => ⟨(hs z hz).1, (hs z hz).2.2.1.1, (hs z hz).2.2.2⟩
  refine Ev.rounds (r := true) ?_
  unfold laws_FnExactAskMusic.f
  refine Ev.ite (fun _ => Ev.now _) (fun _ => ?_)
  obtain ⟨q, hq, ht, he⟩ := sz_sections l hl hs' (a := 1048576) (by omega) (by omega)
  refine Ev.bind he (Ev.ite (fun _ => Ev.now _) (fun h => ?_))
  obtain ⟨hn, hns⟩ := ht h
  obtain ⟨r, hr⟩ := sz_music s b t hss hts (a := q) (by omega) hq
  refine Ev.const_bind hr (Ev.ite (fun _ => Ev.now _) (fun _ => ?_))
  have tk := to_sections l hn hns
  have hxs : ∀ z ∈ l.map asSection, SOk z := by
    intro z hz
    obtain ⟨y, hy, rfl⟩ := List.mem_map.1 hz
    exact hs' y hy
  have hxn : ∀ z ∈ l.map asSection, (z.f2.length : Int) ≤ 1048576 := by
    intro z hz
    obtain ⟨y, hy, rfl⟩ := List.mem_map.1 hz
    exact hns y hy
  generalize hx : l.map asSection = xs at tk hxs hxn
  have hxl : (xs.length : Int) ≤ 1048576 := by rw [← hx, List.length_map]; omega
  have hxm : xs.length ≤ maxLen := by rw [maxLen_eq]; omega
  have h1 := music_spec xs hxm hxs s b t
  have h2 := music_impl xs hxm hxs s b t
  have g1 := sec_spec xs hxm nm
  have g2 := sec_impl xs hxm nm
  have both : ∃ y : ByteArray × Int × ByteArray × Bool, Ev (fun k => spec_AskMusic.f k xs s b t nm) y ∧ Ev (fun k => impl_AskMusic.f k xs s b t nm) y := by
    unfold spec_AskMusic.f impl_AskMusic.f
    cases hm : musicOk xs s b t with
    | false =>
      rw [hm] at h1 h2
      exact ⟨_, Ev.bind h1 (Ev.neg (by decide) (Ev.now _)), Ev.bind h2 (Ev.neg (by decide) (Ev.now _))⟩
    | true =>
      rw [hm] at h1 h2
      by_cases hi : idxP (nmS nm) xs < 0
      · exact ⟨_, Ev.bind h1 (Ev.pos rfl (Ev.bind g1 (Ev.pos hi (Ev.now _)))), Ev.bind h2 (Ev.pos rfl (Ev.bind g2 (Ev.pos hi (Ev.now _))))⟩
      · exact ⟨_, Ev.bind h1 (Ev.pos rfl (Ev.bind g1 (Ev.neg hi (Ev.now _)))), Ev.bind h2 (Ev.pos rfl (Ev.bind g2 (Ev.neg hi (Ev.now _))))⟩
  obtain ⟨⟨y0, y1, y2, y3⟩, k1, k2⟩ := both
  have em : laws_eqMusic.f y0 y1 y2 y0 y1 y2 = some true := by unfold laws_eqMusic.f; rw [if_pos rfl, if_pos rfl, if_pos rfl]
  exact Ev.bind tk (Ev.const_bind rfl (Ev.bind k1 (Ev.bind tk (Ev.const_bind rfl (Ev.bind k2 (Ev.const_bind em (Ev.pos rfl (Ev.step (fun k => laws_FnExactAskMusic.j0.eq_2 _ _ _ k) (Ev.neg (by simp) (Ev.bind tk (Ev.bind (eq_sections xs hxl hxn) (Ev.pos rfl (Ev.now _)))))))))))))

end Go.Proofs.Ytjaljjdmolhhpaa.Pure
