/- Buffered: the pure statement of the law: the last place that fits, looked for from behind, is the one that a walk from the front keeps. -/
import Derived.Test.YtpfddgchlllkpaaXFnExactBufferedx4
import Derived.Test.YtpfddgchlllkpaaXLibBuffered
namespace Go.Proofs.Ytpfddgchlllkpaa.Pure
open Go.RowKit Go.Proofs.Ytpfddgchlllkpaa.XFnExactBuffered Go.Proofs.YtpfddgchlllkpaaW.PrintWords Go.Proofs.YtpfddgchlllkpaaW.PrintLast Go.Proofs.YtpfddgchlllkpaaW.PrintMore Go.Proofs.Ytpfddgchlllkpaa.X
set_option linter.unusedVariables false
set_option linter.unusedSimpArgs false

theorem in_spec (a b c : Int) : spec_l1In.f a b c = some (decide (b ≤ a) && decide (a ≤ c)) := by
  unfold spec_l1In.f
  by_cases h : b ≤ a <;> simp [h]
theorem in_impl (a b c : Int) : impl_inRange.f a b c = some (decide (b ≤ a) && decide (a ≤ c)) := by
  unfold impl_inRange.f
  by_cases h : b ≤ a <;> simp [h]
/-! names: letters, digits, '_', no digit first, 1 to 20 -/
def isDig (c : Int) : Bool := decide (48 ≤ c) && decide (c ≤ 57)
def isLet (c : Int) : Bool := (decide (97 ≤ c) && decide (c ≤ 122)) || (decide (65 ≤ c) && decide (c ≤ 90))
def nameOk (s : ByteArray) : Bool := (decide (1 ≤ s.size) && decide (s.size ≤ 20)) && allFrom (fun i => isLet (bt s i) || bt s i == 95 || (i != 0 && isDig (bt s i))) s.size 0
theorem dig_spec (c : Int) : spec_l1Digit.f c = some (isDig c) := by
  unfold spec_l1Digit.f isDig
  by_cases h : 48 ≤ c <;> simp [h]
theorem dig_impl (c : Int) : impl_isDigit.f c = some (isDig c) := by
  unfold impl_isDigit.f isDig
  by_cases h : 48 ≤ c <;> simp [h]
theorem let_spec (c : Int) : spec_l1Letter.f c = some (isLet c || c == 95) := by
  unfold spec_l1Letter.f isLet
  by_cases h1 : 97 ≤ c <;> by_cases h2 : c ≤ 122 <;> by_cases h3 : 65 ≤ c <;> by_cases h4 : c ≤ 90 <;> simp [h1, h2, h3, h4]
theorem let_impl (c : Int) : impl_isLetter.f c = some (isLet c) := by
  unfold impl_isLetter.f isLet
  by_cases h1 : 97 ≤ c <;> by_cases h2 : c ≤ 122 <;> by_cases h3 : 65 ≤ c <;> by_cases h4 : c ≤ 90 <;> simp [h1, h2, h3, h4]
theorem let_not_dig (c : Int) (h : isDig c = true) : (isLet c || c == 95) = false := by
  unfold isDig at h
  unfold isLet
  simp at h ⊢
  omega
theorem name_spec_l (s : ByteArray) (hs : s.size ≤ maxLen) : ∀ m i : Nat, i + m = s.size → Ev (fun k => spec_GoodName.l0 k s (i : Int)) (allFrom (fun i => isLet (bt s i) || bt s i == 95 || isDig (bt s i)) m i) := by
  rw [maxLen_eq] at hs
  intro m
  induction m with
  | zero => exact fun i hi => Ev.step (fun k => spec_GoodName.l0.eq_2 _ _ k) (Ev.neg (by omega) (Ev.now _))
  | succ m ih =>
    intro i hi
    refine Ev.step (fun k => spec_GoodName.l0.eq_2 _ _ k) (Ev.pos (by omega) (Ev.pos (by omega) (Ev.const_bind (let_spec _) ?_)))
    rw [w64 (by omega) (by omega), allFrom]
    cases h : (isLet (bt s i) || bt s i == 95) with
    | true => exact Ev.pos rfl (Ev.cast (ih (i + 1) (by omega)) (by simp))
    | false =>
      refine Ev.neg (by decide) (Ev.const_bind (dig_spec _) ?_)
      rw [Bool.false_or]
      exact Ev.and (fun _ => ih (i + 1) (by omega))
theorem name_spec (s : ByteArray) (hs : s.size ≤ maxLen) : Ev (fun k => spec_GoodName.f k s) (nameOk s) := by
  have hj : ∀ b, Ev (fun k => spec_GoodName.j0 k s b) (!b && allFrom (fun i => isLet (bt s i) || bt s i == 95 || isDig (bt s i)) s.size 0) := fun b =>
    Ev.step (fun k => spec_GoodName.j0.eq_2 _ _ k) (Ev.andn (fun _ => name_spec_l s hs s.size 0 (by omega)))
  unfold spec_GoodName.f
  refine Ev.ite (fun h => Ev.cast (hj true) ?_) (fun h => Ev.ite (fun h2 => Ev.cast (hj true) ?_) (fun h2 => Ev.pos (by omega) (Ev.const_bind (dig_spec _) (Ev.cast (hj _) ?_))))
  · simp only [nameOk, decide_eq_false (show ¬ 1 ≤ s.size by omega), Bool.false_and, Bool.not_true]
  · simp only [nameOk, decide_eq_false (show ¬ s.size ≤ 20 by omega), Bool.and_false, Bool.false_and, Bool.not_true]
  · obtain ⟨n, hn⟩ : ∃ n, s.size = n + 1 := ⟨s.size - 1, by omega⟩
    simp only [nameOk, hn, decide_eq_true (show 1 ≤ n + 1 by omega), decide_eq_true (show n + 1 ≤ 20 by omega), Bool.true_and, allFrom]
    rw [allFrom_congr (p := fun i => isLet (bt s i) || bt s i == 95 || isDig (bt s i)) (q := fun i => isLet (bt s i) || bt s i == 95 || (i != 0 && isDig (bt s i))) n (0 + 1) (fun j h1 _ => by
      have : (j != 0) = true := by rw [bne_iff_ne]; omega
      simp only [this, Bool.true_and])]
    rw [show ((0 : Nat) : Int) = 0 from rfl, show ((0 : Nat) != 0) = false from rfl, Bool.false_and, Bool.or_false, ← Bool.and_assoc]
    cases hd : isDig (bt s 0) with
    | true => rw [let_not_dig _ hd]; rfl
    | false => rw [Bool.or_false, Bool.not_false, Bool.true_and]
theorem name_impl (s : ByteArray) (hs : s.size ≤ maxLen) : Ev (fun k => impl_GoodName.f k s) (nameOk s) := by
  rw [maxLen_eq] at hs
  have key : ∀ m i : Nat, i + m = s.size → Ev (fun k => impl_GoodName.l0 k s (s.size : Int) (i : Int)) ((decide (1 ≤ s.size) && decide (s.size ≤ 20)) && allFrom (fun i => isLet (bt s i) || bt s i == 95 || (i != 0 && isDig (bt s i))) m i) := by
    intro m
    induction m with
    | zero =>
      intro i hi
      refine Ev.step (fun k => impl_GoodName.l0.eq_2 _ _ _ k) (Ev.neg (by omega) (Ev.const_bind (in_impl _ _ _) (Ev.cast (Ev.now _) ?_)))
      rw [allFrom, Bool.and_true]
      congr 1 <;> exact decide_eq_decide.2 (by omega)
    | succ m ih =>
      intro i hi
      refine Ev.step (fun k => impl_GoodName.l0.eq_2 _ _ _ k) (Ev.pos (by omega) (Ev.pos (by omega) (Ev.pos (by omega) (Ev.const_bind (let_impl _) ?_))))
      rw [w64 (by omega) (by omega), allFrom]
      cases h : isLet (bt s i) with
      | true => exact Ev.pos rfl (Ev.cast (ih (i + 1) (by omega)) (by simp))
      | false =>
        refine Ev.neg (by decide) (Ev.ite (fun h5 => Ev.cast (ih (i + 1) (by omega)) (by simp [h5])) (fun h5 => Ev.ite (fun h0 => Ev.cast (Ev.now _) ?_) (fun h0 => Ev.const_bind (dig_impl _) ?_)))
        · have h0' : (i != 0) = false := by rw [bne_eq_false_iff_eq]; omega
          have h5' : (bt s (i : Int) == 95) = false := beq_eq_false_iff_ne.2 h5
          simp only [h5', h0', Bool.false_or, Bool.false_and, Bool.and_false]
        · have h0' : (i != 0) = true := by rw [bne_iff_ne]; omega
          have h5' : (bt s (i : Int) == 95) = false := beq_eq_false_iff_ne.2 h5
          simp only [h5', Bool.false_or, h0', Bool.true_and]
          cases hd : isDig (bt s i) with
          | true => exact Ev.pos rfl (Ev.cast (ih (i + 1) (by omega)) (by simp))
          | false => exact Ev.neg (by decide) (Ev.cast (Ev.now _) (by simp))
  exact key s.size 0 (by omega)
/-! what is meant -/
theorem and5 (a b c d e : Bool) : (((a && (b && c)) && d) && e) = (a && (b && (c && (d && e)))) := by cases a <;> cases b <;> cases c <;> rfl
def meantOk (L : List S69) (i : Nat) : Bool := (decide (0 ≤ (rd_T69 L (i : Int)).f0) && decide ((rd_T69 L (i : Int)).f0 ≤ 100000)) && (nameOk (rd_T69 L (i : Int)).f1 && (if i = 0 then true else !decide ((rd_T69 L ((i : Int) - 1)).f0 > (rd_T69 L (i : Int)).f0)))
def meantsOk (L : List S69) : Bool := decide (L.length ≤ 200) && allFrom (meantOk L) L.length 0
theorem rdM {L : List S69} {i : Nat} (h : i < L.length) : rd_T69 L (i : Int) = L[i] := rdOf_get (d := z69) h
theorem meant_spec (L : List S69) (hl : L.length ≤ maxLen) (hs : ∀ z ∈ L, z.f1.size ≤ maxLen) : Ev (fun k => spec_l17Meant.f k L) (meantsOk L) := by
  rw [maxLen_eq] at hl
  have key : ∀ m i : Nat, i + m = L.length → Ev (fun k => spec_l17Meant.l0 k L L (L.length : Int) (i : Int)) (allFrom (meantOk L) m i) := by
    intro m
    induction m with
    | zero => exact fun i hi => Ev.step (fun k => spec_l17Meant.l0.eq_2 _ _ _ _ k) (Ev.neg (by omega) (Ev.now _))
    | succ m ih =>
      intro i hi
      have hn := name_spec (rd_T69 L (i : Int)).f1 (by rw [rdM (by omega)]; exact hs _ (List.getElem_mem _))
      refine Ev.step (fun k => spec_l17Meant.l0.eq_2 _ _ _ _ k) (Ev.pos (by omega) (Ev.pos (by omega) (Ev.pos (by omega) (Ev.const_bind (in_spec _ _ _) ?_))))
      rw [allFrom, meantOk, w_succ (by omega), and3]
      refine Ev.and (fun _ => Ev.bind hn (Ev.and (fun _ => ?_)))
      by_cases h0 : i = 0
      · rw [if_pos h0, Bool.true_and]
        exact Ev.neg (by omega) (ih (i + 1) (by omega))
      · rw [if_neg h0, w_pred (by omega)]
        refine Ev.pos (by omega) (Ev.pos (by omega) (Ev.pos (by omega) ?_))
        by_cases hg : (rd_T69 L ((i : Int) - 1)).f0 > (rd_T69 L (i : Int)).f0
        · rw [decide_eq_true hg]; exact Ev.pos hg (Ev.now _)
        · rw [decide_eq_false hg]; exact Ev.neg hg (ih (i + 1) (by omega))
  unfold spec_l17Meant.f meantsOk
  by_cases h : L.length ≤ 200
  · exact Ev.neg (by omega) (Ev.cast (key L.length 0 (by omega)) (by rw [decide_eq_true h, Bool.true_and]))
  · exact Ev.pos (by omega) (Ev.cast (Ev.now _) (by rw [decide_eq_false h]; rfl))
theorem meant_impl (L : List S69) (hl : L.length ≤ maxLen) (hs : ∀ z ∈ L, z.f1.size ≤ maxLen) : Ev (fun k => impl_areMeant.f k L) (meantsOk L) := by
  rw [maxLen_eq] at hl
  have key : ∀ m i : Nat, i + m = L.length → Ev (fun k => impl_areMeant.l0 k L L (L.length : Int) (i : Int)) (allFrom (meantOk L) m i && decide (L.length ≤ 200)) := by
    intro m
    induction m with
    | zero => exact fun i hi => Ev.step (fun k => impl_areMeant.l0.eq_2 _ _ _ _ k) (Ev.neg (by omega) (Ev.cast (Ev.now _) (by rw [allFrom, Bool.true_and]; exact decide_eq_decide.2 (by omega))))
    | succ m ih =>
      intro i hi
      have hn := name_impl (rd_T69 L (i : Int)).f1 (by rw [rdM (by omega)]; exact hs _ (List.getElem_mem _))
      refine Ev.step (fun k => impl_areMeant.l0.eq_2 _ _ _ _ k) (Ev.pos (by omega) (Ev.pos (by omega) (Ev.pos (by omega) (Ev.const_bind (show impl_isTime.f _ = some _ by unfold impl_isTime.f; rw [in_impl]; rfl) ?_))))
      rw [allFrom, meantOk, w_succ (by omega), and5]
      refine Ev.and (fun _ => Ev.bind hn (Ev.and (fun _ => ?_)))
      by_cases h0 : i = 0
      · rw [if_pos h0, Bool.true_and]
        exact Ev.neg (by omega) (ih (i + 1) (by omega))
      · rw [if_neg h0, w_pred (by omega)]
        refine Ev.pos (by omega) (Ev.pos (by omega) (Ev.pos (by omega) ?_))
        by_cases hg : (rd_T69 L ((i : Int) - 1)).f0 > (rd_T69 L (i : Int)).f0
        · rw [decide_eq_true hg]; exact Ev.pos hg (Ev.now _)
        · rw [decide_eq_false hg]; exact Ev.neg hg (ih (i + 1) (by omega))
  unfold impl_areMeant.f meantsOk
  exact Ev.cast (key L.length 0 (by omega)) (Bool.and_comm _ _)
theorem sz_meant (l : List S67) (hl : l.length ≤ maxLen) (hs : ∀ z ∈ l, z.f1.size ≤ maxLen) {a : Int} (h0 : 0 ≤ a) (h1 : a ≤ 1048576) : ∃ t, t ≤ 1048576 ∧ (¬ t < 0 → (l.length : Int) ≤ 1048576) ∧ Ev (fun k => laws_szMeantS.f k l a) t := by
  unfold laws_szMeantS.f
  have e := sz_left (n := l.length) h0 h1 hl
  rw [maxLen_eq] at hl
  by_cases hn : wrap64 (a - (l.length : Int)) < 0
  · exact ⟨-1, by omega, by omega, Ev.pos hn (Ev.now _)⟩
  · rw [if_neg hn] at e
    have e := Option.some.inj e
    rw [e] at hn ⊢
    have hr := (roomLeft_ok hn).1
    obtain ⟨t, ht, he⟩ := sizes_ev z67 (fun _ z r => laws_szMeant.f z.f0 z.f1 z.f2 r) laws_szMeantS.l0 (fun k x r i => laws_szMeantS.l0.eq_2 x r i k) l (by omega)
      (fun z hz r h0 h1 => ⟨roomLeft z.f1.size r, roomLeft_le h1, Ev.mk (fun _ => sz_left h0 h1 (hs z hz))⟩) (roomLeft l.length a) (by omega) (roomLeft_le h1)
    exact ⟨t, ht, fun _ => by omega, Ev.neg hn he⟩
def asMeant (b : S67) : S69 := ⟨b.f0, b.f1, b.f2⟩
theorem to_meant (l : List S67) (hl : (l.length : Int) ≤ 1048576) : Ev (fun k => laws_toMeantS.f k l) (l.map asMeant) := by
  have ht := toS_ev z69 asMeant z67 laws_toMeantS.l0 (fun k x y i => by rw [laws_toMeantS.l0]; simp only [laws_toMeant.f, Option.bind_some]; rfl) l (by omega)
  unfold laws_toMeantS.f
  exact Ev.pos (by omega) (Ev.pos (by omega) ht)
theorem eq_meant (l : List S69) (hl : (l.length : Int) ≤ 1048576) : Ev (fun k => laws_eqMeantS.f k l l) true := by
  unfold laws_eqMeantS.f
  exact eqT_ev z69 (fun a b => laws_eqMeant.f a.f0 a.f1 a.f2 b.f0 b.f1 b.f2) laws_eqMeantS.l0 (fun k x y i => laws_eqMeantS.l0.eq_2 x y i k) (fun a => by simp [laws_eqMeant.f]) l (by rw [maxLen_eq]; omega)
theorem keep_loop (a : ByteArray) (t u : Int) (L : List S69) (hl : L.length ≤ maxLen) : ∀ (m i : Nat), i + m = L.length → Ev (fun k => spec_Buffered.l0 k a t u (impl_Buffered.back (fun j => impl_Buffered.hit a t u (rd_T69 L (j : Int))) i) L (L.length : Int) (i : Int)) (impl_Buffered.back (fun j => impl_Buffered.hit a t u (rd_T69 L (j : Int))) L.length, true)
  | 0, i, h => by
    have e : i = L.length := by omega
    rw [e]
    exact Ev.step (fun k => spec_Buffered.l0.eq_2 _ _ _ _ _ _ _ k) (Ev.neg (by omega) (Ev.now _))
  | m + 1, i, h => by
    rw [maxLen_eq] at hl
    have ih := keep_loop a t u L (by rw [maxLen_eq]; exact hl) m (i + 1) (by omega)
    rw [impl_Buffered.back] at ih
    refine Ev.step (fun k => spec_Buffered.l0.eq_2 _ _ _ _ _ _ _ k) (Ev.pos (by omega) (Ev.pos (by omega) (Ev.pos (by omega) ?_)))
    rw [w_succ (by omega)]
    simp only [in_spec, Option.bind_some]
    unfold impl_Buffered.hit at ih ⊢
    generalize impl_Buffered.back _ i = b at ih ⊢
    cases h2 : (rd_T69 L (i : Int)).f2 with
    | false =>
      rw [h2] at ih
      rw [if_neg (by simp)] at ih
      exact Ev.neg (by decide) ih
    | true =>
      rw [h2] at ih
      by_cases h1 : (rd_T69 L (i : Int)).f1.toList = a.toList
      · have e1 : ((rd_T69 L (i : Int)).f1.toList == a.toList) = true := beq_iff_eq.2 h1
        rw [e1] at ih
        refine Ev.pos rfl (Ev.pos h1 ?_)
        simp only [Bool.true_and] at ih
        exact Ev.ite (fun c => by rw [if_pos c] at ih; exact ih) (fun c => by rw [if_neg c] at ih; exact ih)
      · have e1 : ((rd_T69 L (i : Int)).f1.toList == a.toList) = false := beq_eq_false_iff_ne.2 h1
        rw [e1, if_neg (by simp)] at ih
        exact Ev.pos rfl (Ev.neg h1 ih)
theorem time_impl (a : Int) : impl_isTime.f a = some (decide (0 ≤ a) && decide (a ≤ 100000)) := by
  unfold impl_isTime.f
  rw [in_impl]
  rfl
theorem both (L : List S69) (a : ByteArray) (t u : Int) (hl : (L.length : Int) ≤ 1048576) (hs : ∀ z ∈ L, z.f1.size ≤ maxLen) (ha : a.size ≤ maxLen) : ∃ r, Ev (fun k => spec_Buffered.f k L a t u) r ∧ Ev (fun k => impl_Buffered.f k L a t u) r := by
  have hL : L.length ≤ maxLen := by rw [maxLen_eq]; omega
  have m1 := meant_spec L hL hs
  have m2 := meant_impl L hL hs
  have n1 := name_spec a ha
  have n2 := name_impl a ha
  have bad : ∀ b, b = true → Ev (fun k => spec_Buffered.j0 k L a t u b) (0, false) := fun b hb => Ev.step (fun k => spec_Buffered.j0.eq_2 _ _ _ _ _ k) (Ev.pos hb (Ev.now _))
  unfold spec_Buffered.f impl_Buffered.f
  simp only [in_spec, time_impl, Option.bind_some]
  cases hm : meantsOk L with
  | false =>
    rw [hm] at m1 m2
    exact ⟨(0, false), Ev.bind m1 (Ev.neg (by decide) (bad _ rfl)), Ev.bind m2 (Ev.neg (by decide) (Ev.now _))⟩
  | true =>
    rw [hm] at m1 m2
    cases hn : nameOk a with
    | false =>
      rw [hn] at n1 n2
      exact ⟨(0, false), Ev.bind m1 (Ev.pos rfl (Ev.bind n1 (Ev.neg (by decide) (bad _ rfl)))), Ev.bind m2 (Ev.pos rfl (Ev.bind n2 (Ev.neg (by decide) (Ev.now _))))⟩
    | true =>
      rw [hn] at n1 n2
      cases ht : (decide (0 ≤ t) && decide (t ≤ 100000)) with
      | false => exact ⟨(0, false), Ev.bind m1 (Ev.pos rfl (Ev.bind n1 (Ev.pos rfl (Ev.neg (by decide) (bad _ rfl))))), Ev.bind m2 (Ev.pos rfl (Ev.bind n2 (Ev.pos rfl (Ev.neg (by decide) (Ev.now _)))))⟩
      | true =>
        cases hu : (decide (0 ≤ u) && decide (u ≤ 100000)) with
        | false => exact ⟨(0, false), Ev.bind m1 (Ev.pos rfl (Ev.bind n1 (Ev.pos rfl (Ev.pos rfl (bad _ rfl))))), Ev.bind m2 (Ev.pos rfl (Ev.bind n2 (Ev.pos rfl (Ev.pos rfl (Ev.neg (by decide) (Ev.now _))))))⟩
        | true =>
          have hk := keep_loop a t u L hL L.length 0 (by omega)
          exact ⟨_, Ev.bind m1 (Ev.pos rfl (Ev.bind n1 (Ev.pos rfl (Ev.pos rfl (Ev.step (fun k => spec_Buffered.j0.eq_2 _ _ _ _ _ k) (Ev.neg (by decide) hk)))))), Ev.bind m2 (Ev.pos rfl (Ev.bind n2 (Ev.pos rfl (Ev.pos rfl (Ev.pos rfl (Ev.now _))))))⟩
theorem FnExactBuffered : laws_FnExactBuffered.Pure := by
  intro l a t u ⟨hl, hls⟩ ha ht hu
  have hls' : ∀ z ∈ l, z.f1.size ≤ maxLen := fun z hz => (hls z hz).2.1
  refine Ev.rounds (r := true) ?_
  unfold laws_FnExactBuffered.f
  refine Ev.ite (fun _ => Ev.now _) (fun hL => ?_)
  obtain ⟨s, _, hs, he⟩ := sz_meant l hl hls' (a := 1048576) (by omega) (by omega)
  refine Ev.bind he (Ev.ite (fun _ => Ev.now _) (fun h2 => ?_))
  have hn := hs h2
  have tl := to_meant l hn
  have hxs : ∀ z ∈ l.map asMeant, z.f1.size ≤ maxLen := by
    intro z hz
    obtain ⟨y, hy, rfl⟩ := List.mem_map.1 hz
    exact hls' y hy
  generalize hx : l.map asMeant = xs at tl hxs
  have hxl : (xs.length : Int) ≤ 1048576 := by rw [← hx, List.length_map]; omega
  obtain ⟨r, h1, h3⟩ := both xs a t u hxl hxs ha
  exact Ev.bind tl (Ev.bind h1 (Ev.bind tl (Ev.bind h3 (Ev.pos rfl (Ev.pos rfl (Ev.bind tl (Ev.bind (eq_meant xs hxl) (Ev.pos rfl (Ev.now _)))))))))

end Go.Proofs.Ytpfddgchlllkpaa.Pure
