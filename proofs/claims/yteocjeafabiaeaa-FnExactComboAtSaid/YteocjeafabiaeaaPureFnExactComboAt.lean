/- ComboAt: the pure statement of the law: the program's places are the reference's, for all that is meant and all combos. -/
import Derived.Test.YteocjeafabiaeaaXFnExactComboAtx8
import Derived.Test.YteocjeafabiaeaaXLib
namespace Go.Proofs.Yteocjeafabiaeaa.Pure
open Go.RowKit Go.Proofs.Yteocjeafabiaeaa.XFnExactComboAt Go.Proofs.YteocjeafabiaeaaW.PrintWords Go.Proofs.YteocjeafabiaeaaW.PrintLast Go.Proofs.YteocjeafabiaeaaW.PrintMore Go.Proofs.Yteocjeafabiaeaa.X
set_option linter.unusedVariables false
set_option linter.unusedSimpArgs false

theorem in_spec (a b c : Int) : spec_l1In.f a b c = some (decide (b ≤ a) && decide (a ≤ c)) := by
  unfold spec_l1In.f
  by_cases h : b ≤ a <;> simp [h]
theorem in_impl (a b c : Int) : impl_inRange.f a b c = some (decide (b ≤ a) && decide (a ≤ c)) := by
  unfold impl_inRange.f
  by_cases h : b ≤ a <;> simp [h]
/-! names: letters, digits, '_', no digit first, 1 to 20 -/
def isDig (c : Int) : Bool := decide (48 ≤ c) && decide (c ≤ 57)
def isLet (c : Int) : Bool := (decide (97 ≤ c) && decide (c ≤ 122)) || (decide (65 ≤ c) && decide (c ≤ 90))
def nameOk (s : ByteArray) : Bool := (decide (1 ≤ s.size) && decide (s.size ≤ 20)) && allFrom (fun i => isLet (bt s i) || bt s i == 95 || (i != 0 && isDig (bt s i))) s.size 0
theorem dig_spec (c : Int) : spec_l1Digit.f c = some (isDig c) := by
  unfold spec_l1Digit.f isDig
  by_cases h : 48 ≤ c <;> simp [h]
theorem dig_impl (c : Int) : impl_isDigit.f c = some (isDig c) := by
  unfold impl_isDigit.f isDig
  by_cases h : 48 ≤ c <;> simp [h]
theorem let_spec (c : Int) : spec_l1Letter.f c = some (isLet c || c == 95) := by
  unfold spec_l1Letter.f isLet
  by_cases h1 : 97 ≤ c <;> by_cases h2 : c ≤ 122 <;> by_cases h3 : 65 ≤ c <;> by_cases h4 : c ≤ 90 <;> simp [h1, h2, h3, h4]
theorem let_impl (c : Int) : impl_isLetter.f c = some (isLet c) := by
  unfold impl_isLetter.f isLet
  by_cases h1 : 97 ≤ c <;> by_cases h2 : c ≤ 122 <;> by_cases h3 : 65 ≤ c <;> by_cases h4 : c ≤ 90 <;> simp [h1, h2, h3, h4]
theorem let_not_dig (c : Int) (h : isDig c = true) : (isLet c || c == 95) = false := by
  unfold isDig at h
  unfold isLet
  simp at h ⊢
  omega
theorem name_spec_l (s : ByteArray) (hs : s.size ≤ maxLen) : ∀ m i : Nat, i + m = s.size → Ev (fun k => spec_GoodName.l0 k s (i : Int)) (allFrom (fun i => isLet (bt s i) || bt s i == 95 || isDig (bt s i)) m i) := by
  rw [maxLen_eq] at hs
  intro m
  induction m with
  | zero => exact fun i hi => Ev.step (fun k => spec_GoodName.l0.eq_2 _ _ k) (Ev.neg (by omega) (Ev.now _))
  | succ m ih =>
    intro i hi
    refine Ev.step (fun k => spec_GoodName.l0.eq_2 _ _ k) (Ev.pos (by omega) (Ev.pos (by omega) (Ev.const_bind (let_spec _) ?_)))
    rw [w64 (by omega) (by omega), allFrom]
    cases h : (isLet (bt s i) || bt s i == 95) with
    | true => exact Ev.pos rfl (Ev.cast (ih (i + 1) (by omega)) (by simp))
    | false =>
      refine Ev.neg (by decide) (Ev.const_bind (dig_spec _) ?_)
      rw [Bool.false_or]
      exact Ev.and (fun _ => ih (i + 1) (by omega))
theorem name_spec (s : ByteArray) (hs : s.size ≤ maxLen) : Ev (fun k => spec_GoodName.f k s) (nameOk s) := by
  have hj : ∀ b, Ev (fun k => spec_GoodName.j0 k s b) (!b && allFrom (fun i => isLet (bt s i) || bt s i == 95 || isDig (bt s i)) s.size 0) := fun b =>
    Ev.step (fun k => spec_GoodName.j0.eq_2 _ _ k) (Ev.andn (fun _ => name_spec_l s hs s.size 0 (by omega)))
  unfold spec_GoodName.f
  refine Ev.ite (fun h => Ev.cast (hj true) ?_) (fun h => Ev.ite (fun h2 => Ev.cast (hj true) ?_) (fun h2 => Ev.pos (by omega) (Ev.const_bind (dig_spec _) (Ev.cast (hj _) ?_))))
  · simp only [nameOk, decide_eq_false (show ¬ 1 ≤ s.size by omega), Bool.false_and, Bool.not_true]
  · simp only [nameOk, decide_eq_false (show ¬ s.size ≤ 20 by omega), Bool.and_false, Bool.false_and, Bool.not_true]
  · obtain ⟨n, hn⟩ : ∃ n, s.size = n + 1 := ⟨s.size - 1, by omega⟩
    simp only [nameOk, hn, decide_eq_true (show 1 ≤ n + 1 by omega), decide_eq_true (show n + 1 ≤ 20 by omega), Bool.true_and, allFrom]
    rw [allFrom_congr (p := fun i => isLet (bt s i) || bt s i == 95 || isDig (bt s i)) (q := fun i => isLet (bt s i) || bt s i == 95 || (i != 0 && isDig (bt s i))) n (0 + 1) (fun j h1 _ => by
      have : (j != 0) = true := by rw [bne_iff_ne]; omega
      simp only [this, Bool.true_and])]
    rw [show ((0 : Nat) : Int) = 0 from rfl, show ((0 : Nat) != 0) = false from rfl, Bool.false_and, Bool.or_false, ← Bool.and_assoc]
    cases hd : isDig (bt s 0) with
    | true => rw [let_not_dig _ hd]; rfl
    | false => rw [Bool.or_false, Bool.not_false, Bool.true_and]
theorem name_impl (s : ByteArray) (hs : s.size ≤ maxLen) : Ev (fun k => impl_GoodName.f k s) (nameOk s) := by
  rw [maxLen_eq] at hs
  have key : ∀ m i : Nat, i + m = s.size → Ev (fun k => impl_GoodName.l0 k s (s.size : Int) (i : Int)) ((decide (1 ≤ s.size) && decide (s.size ≤ 20)) && allFrom (fun i => isLet (bt s i) || bt s i == 95 || (i != 0 && isDig (bt s i))) m i) := by
    intro m
    induction m with
    | zero =>
      intro i hi
      refine Ev.step (fun k => impl_GoodName.l0.eq_2 _ _ _ k) (Ev.neg (by omega) (Ev.const_bind (in_impl _ _ _) (Ev.cast (Ev.now _) ?_)))
      rw [allFrom, Bool.and_true]
      congr 1 <;> exact decide_eq_decide.2 (by omega)
    | succ m ih =>
      intro i hi
      refine Ev.step (fun k => impl_GoodName.l0.eq_2 _ _ _ k) (Ev.pos (by omega) (Ev.pos (by omega) (Ev.pos (by omega) (Ev.const_bind (let_impl _) ?_))))
      rw [w64 (by omega) (by omega), allFrom]
      cases h : isLet (bt s i) with
      | true => exact Ev.pos rfl (Ev.cast (ih (i + 1) (by omega)) (by simp))
      | false =>
        refine Ev.neg (by decide) (Ev.ite (fun h5 => Ev.cast (ih (i + 1) (by omega)) (by simp [h5])) (fun h5 => Ev.ite (fun h0 => Ev.cast (Ev.now _) ?_) (fun h0 => Ev.const_bind (dig_impl _) ?_)))
        · have h0' : (i != 0) = false := by rw [bne_eq_false_iff_eq]; omega
          have h5' : (bt s (i : Int) == 95) = false := beq_eq_false_iff_ne.2 h5
          simp only [h5', h0', Bool.false_or, Bool.false_and, Bool.and_false]
        · have h0' : (i != 0) = true := by rw [bne_iff_ne]; omega
          have h5' : (bt s (i : Int) == 95) = false := beq_eq_false_iff_ne.2 h5
          simp only [h5', Bool.false_or, h0', Bool.true_and]
          cases hd : isDig (bt s i) with
          | true => exact Ev.pos rfl (Ev.cast (ih (i + 1) (by omega)) (by simp))
          | false => exact Ev.neg (by decide) (Ev.cast (Ev.now _) (by simp))
  exact key s.size 0 (by omega)
/-! what is meant -/
theorem and5 (a b c d e : Bool) : (((a && (b && c)) && d) && e) = (a && (b && (c && (d && e)))) := by cases a <;> cases b <;> cases c <;> rfl
def meantOk (L : List S44) (i : Nat) : Bool := (decide (0 ≤ (rd_T44 L (i : Int)).f0) && decide ((rd_T44 L (i : Int)).f0 ≤ 100000)) && (nameOk (rd_T44 L (i : Int)).f1 && (if i = 0 then true else !decide ((rd_T44 L ((i : Int) - 1)).f0 > (rd_T44 L (i : Int)).f0)))
def meantsOk (L : List S44) : Bool := decide (L.length ≤ 200) && allFrom (meantOk L) L.length 0
theorem rdM {L : List S44} {i : Nat} (h : i < L.length) : rd_T44 L (i : Int) = L[i] := rdOf_get (d := z44) h
theorem meant_spec (L : List S44) (hl : L.length ≤ maxLen) (hs : ∀ z ∈ L, z.f1.size ≤ maxLen) : Ev (fun k => spec_l17Meant.f k L) (meantsOk L) := by
  rw [maxLen_eq] at hl
  have key : ∀ m i : Nat, i + m = L.length → Ev (fun k => spec_l17Meant.l0 k L L (L.length : Int) (i : Int)) (allFrom (meantOk L) m i) := by
    intro m
    induction m with
    | zero => exact fun i hi => Ev.step (fun k => spec_l17Meant.l0.eq_2 _ _ _ _ k) (Ev.neg (by omega) (Ev.now _))
    | succ m ih =>
      intro i hi
      have hn := name_spec (rd_T44 L (i : Int)).f1 (by rw [rdM (by omega)]; exact hs _ (List.getElem_mem _))
      refine Ev.step (fun k => spec_l17Meant.l0.eq_2 _ _ _ _ k) (Ev.pos (by omega) (Ev.pos (by omega) (Ev.pos (by omega) (Ev.const_bind (in_spec _ _ _) ?_))))
      rw [allFrom, meantOk, w_succ (by omega), and3]
      refine Ev.and (fun _ => Ev.bind hn (Ev.and (fun _ => ?_)))
      by_cases h0 : i = 0
      · rw [if_pos h0, Bool.true_and]
        exact Ev.neg (by omega) (ih (i + 1) (by omega))
      · rw [if_neg h0, w_pred (by omega)]
        refine Ev.pos (by omega) (Ev.pos (by omega) (Ev.pos (by omega) ?_))
        by_cases hg : (rd_T44 L ((i : Int) - 1)).f0 > (rd_T44 L (i : Int)).f0
        · rw [decide_eq_true hg]; exact Ev.pos hg (Ev.now _)
        · rw [decide_eq_false hg]; exact Ev.neg hg (ih (i + 1) (by omega))
  unfold spec_l17Meant.f meantsOk
  by_cases h : L.length ≤ 200
  · exact Ev.neg (by omega) (Ev.cast (key L.length 0 (by omega)) (by rw [decide_eq_true h, Bool.true_and]))
  · exact Ev.pos (by omega) (Ev.cast (Ev.now _) (by rw [decide_eq_false h]; rfl))
theorem meant_impl (L : List S44) (hl : L.length ≤ maxLen) (hs : ∀ z ∈ L, z.f1.size ≤ maxLen) : Ev (fun k => impl_areMeant.f k L) (meantsOk L) := by
  rw [maxLen_eq] at hl
  have key : ∀ m i : Nat, i + m = L.length → Ev (fun k => impl_areMeant.l0 k L L (L.length : Int) (i : Int)) (allFrom (meantOk L) m i && decide (L.length ≤ 200)) := by
    intro m
    induction m with
    | zero => exact fun i hi => Ev.step (fun k => impl_areMeant.l0.eq_2 _ _ _ _ k) (Ev.neg (by omega) (Ev.cast (Ev.now _) (by rw [allFrom, Bool.true_and]; exact decide_eq_decide.2 (by omega))))
    | succ m ih =>
      intro i hi
      have hn := name_impl (rd_T44 L (i : Int)).f1 (by rw [rdM (by omega)]; exact hs _ (List.getElem_mem _))
      refine Ev.step (fun k => impl_areMeant.l0.eq_2 _ _ _ _ k) (Ev.pos (by omega) (Ev.pos (by omega) (Ev.pos (by omega) (Ev.const_bind (show impl_isTime.f _ = some _ by unfold impl_isTime.f; rw [in_impl]; rfl) ?_))))
      rw [allFrom, meantOk, w_succ (by omega), and5]
      refine Ev.and (fun _ => Ev.bind hn (Ev.and (fun _ => ?_)))
      by_cases h0 : i = 0
      · rw [if_pos h0, Bool.true_and]
        exact Ev.neg (by omega) (ih (i + 1) (by omega))
      · rw [if_neg h0, w_pred (by omega)]
        refine Ev.pos (by omega) (Ev.pos (by omega) (Ev.pos (by omega) ?_))
        by_cases hg : (rd_T44 L ((i : Int) - 1)).f0 > (rd_T44 L (i : Int)).f0
        · rw [decide_eq_true hg]; exact Ev.pos hg (Ev.now _)
        · rw [decide_eq_false hg]; exact Ev.neg hg (ih (i + 1) (by omega))
  unfold impl_areMeant.f meantsOk
  exact Ev.cast (key L.length 0 (by omega)) (Bool.and_comm _ _)
theorem eq_ints (l : List Int) (hl : (l.length : Int) ≤ 1048576) : Ev (fun k => laws_eqIntS.f k l l) true :=
  eqInt_ev laws_eqIntS.l0 (fun k x y i => laws_eqIntS.l0.eq_2 x y i k) l (by rw [maxLen_eq]; omega)
theorem mark_ints (l : List Int) (hl : (l.length : Int) ≤ 4611686018427387000) : Ev (fun k => laws_markIntS.f k l 1) (1 + (l.length : Int), marks l.length 1) :=
  markInt_ev laws_markIntS.l0 (fun k x c i => laws_markIntS.l0.eq_2 x c i k) 1 (by omega) l (by omega)
theorem held_ints (n : Nat) (hn : (n : Int) ≤ 4611686018427387000) : Ev (fun k => laws_heldIntS.f k (marks n 1) 1) (1 + (n : Int)) :=
  heldInt_ev laws_heldIntS.l0 (fun k x c i => laws_heldIntS.l0.eq_2 x c i k) n 1 (by omega) (by omega)
theorem sz_strs (l : List ByteArray) (hl : l.length ≤ maxLen) (hs : ∀ z ∈ l, z.size ≤ maxLen) {a : Int} (h0 : 0 ≤ a) (h1 : a ≤ 1048576) : ∃ t, t ≤ 1048576 ∧ (¬ t < 0 → (l.length : Int) ≤ 1048576) ∧ Ev (fun k => laws_szStringS.f k l a) t := by
  unfold laws_szStringS.f
  have e := sz_left (n := l.length) h0 h1 hl
  rw [maxLen_eq] at hl
  by_cases hn : wrap64 (a - (l.length : Int)) < 0
  · exact ⟨-1, by omega, by omega, Ev.pos hn (Ev.now _)⟩
  · rw [if_neg hn] at e
    have e := Option.some.inj e
    rw [e] at hn ⊢
    have hr := (roomLeft_ok hn).1
    obtain ⟨t, ht, he⟩ := sizes_ev ByteArray.empty (fun _ z r => if wrap64 (r - (z.size : Int)) < 0 then some (-1) else some (wrap64 (r - (z.size : Int)))) laws_szStringS.l0 (fun k x r i => by
      rw [laws_szStringS.l0]
      split
      · split
        · split
          · rfl
          · rename_i h_; exact (if_neg h_).symm
        · rfl
      · rfl) l (by omega)
      (fun z hz r h0 h1 => ⟨roomLeft z.size r, roomLeft_le h1, Ev.mk (fun _ => sz_left h0 h1 (hs z hz))⟩) (roomLeft l.length a) (by omega) (roomLeft_le h1)
    exact ⟨t, ht, fun _ => by omega, Ev.neg hn he⟩
theorem to_strs (l : List ByteArray) (hl : (l.length : Int) ≤ 1048576) : Ev (fun k => laws_toStringS.f k l) l := by
  have ht := toS_ev ByteArray.empty (id : ByteArray → ByteArray) ByteArray.empty laws_toStringS.l0 (fun k x y i => laws_toStringS.l0.eq_2 x y i k) l (by omega)
  rw [List.map_id] at ht
  unfold laws_toStringS.f
  exact Ev.pos (by omega) (Ev.pos (by omega) ht)
theorem eq_strs (l : List ByteArray) (hl : (l.length : Int) ≤ 1048576) : Ev (fun k => laws_eqStringS.f k l l) true :=
  eqS_ev (fun s : ByteArray => s.toList) ByteArray.empty laws_eqStringS.l0 (fun k x y i => laws_eqStringS.l0.eq_2 x y i k) l (by rw [maxLen_eq]; omega)
theorem sz_meant (l : List S40) (hl : l.length ≤ maxLen) (hs : ∀ z ∈ l, z.f1.size ≤ maxLen) {a : Int} (h0 : 0 ≤ a) (h1 : a ≤ 1048576) : ∃ t, t ≤ 1048576 ∧ (¬ t < 0 → (l.length : Int) ≤ 1048576) ∧ Ev (fun k => laws_szMeantS.f k l a) t := by
  unfold laws_szMeantS.f
  have e := sz_left (n := l.length) h0 h1 hl
  rw [maxLen_eq] at hl
  by_cases hn : wrap64 (a - (l.length : Int)) < 0
  · exact ⟨-1, by omega, by omega, Ev.pos hn (Ev.now _)⟩
  · rw [if_neg hn] at e
    have e := Option.some.inj e
    rw [e] at hn ⊢
    have hr := (roomLeft_ok hn).1
    obtain ⟨t, ht, he⟩ := sizes_ev z40 (fun _ z r => laws_szMeant.f z.f0 z.f1 z.f2 r) laws_szMeantS.l0 (fun k x r i => laws_szMeantS.l0.eq_2 x r i k) l (by omega)
      (fun z hz r h0 h1 => ⟨roomLeft z.f1.size r, roomLeft_le h1, Ev.mk (fun _ => sz_left h0 h1 (hs z hz))⟩) (roomLeft l.length a) (by omega) (roomLeft_le h1)
    exact ⟨t, ht, fun _ => by omega, Ev.neg hn he⟩
def asMeant (b : S40) : S44 := ⟨b.f0, b.f1, b.f2⟩
theorem to_meant (l : List S40) (hl : (l.length : Int) ≤ 1048576) : Ev (fun k => laws_toMeantS.f k l) (l.map asMeant) := by
  have ht := toS_ev z44 asMeant z40 laws_toMeantS.l0 (fun k x y i => by rw [laws_toMeantS.l0]; simp only [laws_toMeant.f, Option.bind_some]; rfl) l (by omega)
  unfold laws_toMeantS.f
  exact Ev.pos (by omega) (Ev.pos (by omega) ht)
theorem eq_meant (l : List S44) (hl : (l.length : Int) ≤ 1048576) : Ev (fun k => laws_eqMeantS.f k l l) true := by
  unfold laws_eqMeantS.f
  exact eqT_ev z44 (fun a b => laws_eqMeant.f a.f0 a.f1 a.f2 b.f0 b.f1 b.f2) laws_eqMeantS.l0 (fun k x y i => laws_eqMeantS.l0.eq_2 x y i k) (fun a => by simp [laws_eqMeant.f]) l (by rw [maxLen_eq]; omega)
theorem mark_meant (put : Int → ByteArray) (hp : ∀ c, 1 ≤ c → c ≤ 4611686018427387904 → Ev (fun k => laws_markText.f k c) (put c)) (l : List S44) (hl : (l.length : Int) ≤ 1048576) : Yes (fun r : Int × List S44 => r.1 = 1 + 3 * (l.length : Int)) (fun k => laws_markMeantS.f k l 1) := by
  have key : ∀ (m i : Nat) (c : Int) (x : List S44), i + m = x.length → (x.length : Int) ≤ 1048576 → 1 ≤ c → c + 3 * (m : Int) ≤ 4194304 → Yes (fun r : Int × List S44 => r.1 = c + 3 * (m : Int)) (fun k => laws_markMeantS.l0 k x c (i : Int)) := by
    intro m
    induction m with
    | zero => exact fun i c x hi _ _ _ => Yes.step (fun k => laws_markMeantS.l0.eq_2 _ _ _ k) (Yes.neg (by omega) (Yes.now _ (by simp)))
    | succ m ih =>
      intro i c x hi hx hc hc'
      have nxt : ∀ X : List S44, X.length = x.length → Yes (fun r : Int × List S44 => r.1 = c + 3 * ((m + 1 : Nat) : Int)) (fun k => laws_markMeantS.l0 k X (c + 1 + 1 + 1) ((i + 1 : Nat) : Int)) := fun X hX => by
        obtain ⟨r, hr, e⟩ := ih (i + 1) (c + 1 + 1 + 1) X (by omega) (by omega) (by omega) (by omega)
        exact ⟨r, by show r.1 = _; rw [hr]; omega, e⟩
      refine Yes.step (fun k => laws_markMeantS.l0.eq_2 _ _ _ k) (Yes.pos (by omega) (Yes.pos (by omega) ?_))
      rw [w64 (n := c + 1) (by omega) (by omega), w64 (n := c + 1 + 1) (by omega) (by omega), w64 (n := c + 1 + 1 + 1) (by omega) (by omega), w_succ (by omega)]
      exact Yes.cbind rfl (Yes.bind (hp _ (by omega) (by omega)) (Yes.cbind rfl (nxt _ (by simp))))
  exact key l.length 0 1 l (by omega) hl (by omega) (by omega)
abbrev gM (L : List S44) (p : Int) : S44 := rd_T44 L p
def sameAt (L : List S44) (C : List ByteArray) (Y : List Int) (j : Nat) : Bool := (gM L (rd Y (j : Int))).f1.toList == (rdOf ByteArray.empty C (j : Int)).toList
/-- The reference's inner loop. -/
theorem same_spec (L : List S44) (C : List ByteArray) (most : Int) (ps hs : List Int) (q : Int) (xs : List S44) (n i : Int) (Y : List Int) (hY : Y.length ≤ C.length) (hC : C.length ≤ 10) (hp : ∀ p ∈ Y, 0 ≤ p ∧ p < (L.length : Int)) (r : List Int × Bool) :
    ∀ (m j : Nat) (b : Bool), j + m = Y.length → Ev (fun k => if (b && allFrom (sameAt L C Y) m j) = true then (if hs.length < 17592186044416 then (spec_ComboAt.l1 k L C most ps (hs ++ [q]) xs n (wrap64 (i + 1))) else none) else spec_ComboAt.l1 k L C most ps hs xs n (wrap64 (i + 1))) r →
      Ev (fun k => spec_ComboAt.l2 k L C most ps hs q b xs n i Y (Y.length : Int) (j : Int)) r := by
  intro m
  induction m with
  | zero =>
    intro j b hj h
    rw [allFrom, Bool.and_true] at h
    exact Ev.step (fun k => spec_ComboAt.l2.eq_2 _ _ _ _ _ _ _ _ _ _ _ _ _ k) (Ev.neg (by omega) h)
  | succ m ih =>
    intro j b hj h
    have hm : rd Y (j : Int) ∈ Y := by rw [rd_get (by omega)]; exact List.getElem_mem _
    refine Ev.step (fun k => spec_ComboAt.l2.eq_2 _ _ _ _ _ _ _ _ _ _ _ _ _ k) (Ev.pos (by omega) (Ev.pos (by omega) (Ev.pos (by omega) ?_)))
    rw [allFrom] at h
    rw [w_succ (by omega)]
    cases b with
    | true =>
      refine Ev.pos rfl (Ev.pos (hp _ hm).1 (Ev.pos (hp _ hm).2 (Ev.pos (by omega) (ih (j + 1) _ (by omega) ?_))))
      rw [Bool.true_and] at h
      exact h
    | false =>
      refine Ev.neg (by decide) (ih (j + 1) _ (by omega) ?_)
      rw [Bool.false_and] at h ⊢
      exact h
theorem rd_map (L : List S44) (Y : List Int) {j : Nat} (h : j < Y.length) : rd_T44 (Y.map (gM L)) (j : Int) = gM L (rd Y (j : Int)) := by
  rw [rdM (by rw [List.length_map]; exact h), List.getElem_map, rd_get h]
theorem same_impl (L : List S44) (C : List ByteArray) (Y : List Int) (hY : Y.length = C.length) (hC : C.length ≤ 10) : Ev (fun k => slices_EqualFunc_impl_Meant_string_impl_Meant_string_at_impl_ComboAt_2.f k (Y.map (gM L)) C) (allFrom (sameAt L C Y) Y.length 0) := by
  have key : ∀ (m j : Nat), j + m = Y.length → Ev (fun k => slices_EqualFunc_impl_Meant_string_impl_Meant_string_at_impl_ComboAt_2.l0 k C (Y.map (gM L)) ((Y.map (gM L)).length : Int) (j : Int)) (allFrom (sameAt L C Y) m j) := by
    intro m
    rw [List.length_map]
    induction m with
    | zero => exact fun j hj => Ev.step (fun k => slices_EqualFunc_impl_Meant_string_impl_Meant_string_at_impl_ComboAt_2.l0.eq_2 _ _ _ _ k) (Ev.neg (by omega) (Ev.now _))
    | succ m ih =>
      intro j hj
      refine Ev.step (fun k => slices_EqualFunc_impl_Meant_string_impl_Meant_string_at_impl_ComboAt_2.l0.eq_2 _ _ _ _ k) (Ev.pos (by omega) (Ev.pos (by omega) (Ev.pos (by rw [List.length_map]; omega) (Ev.pos (by omega) ?_))))
      unfold impl_ComboAt_2.f
      rw [rd_map L Y (by omega), allFrom, w_succ (by omega)]
      exact Ev.const_bind rfl (Ev.and (fun _ => ih (j + 1) (by omega)))
  unfold slices_EqualFunc_impl_Meant_string_impl_Meant_string_at_impl_ComboAt_2.f
  exact Ev.pos (by rw [List.length_map]; omega) (key Y.length 0 (by omega))
theorem hits_both (L : List S44) (C : List ByteArray) (most : Int) (hL : (L.length : Int) ≤ 1048576) (h1 : 1 ≤ C.length) (hC : C.length ≤ 10) : ∀ (m i : Nat) (ps hs : List Int), i + m = L.length → ps.length ≤ i → hs.length ≤ i → (∀ p ∈ ps, 0 ≤ p ∧ p < (L.length : Int)) →
    Both (fun r : List Int × Bool => (r.1.length : Int) ≤ 1048576) (fun k => spec_ComboAt.l1 k L C most ps hs L (L.length : Int) (i : Int)) (fun k => impl_ComboAt.l0 k C most (ps.map (gM L)) hs L (L.length : Int) (i : Int)) := by
  intro m
  induction m with
  | zero => exact fun i ps hs hi _ hh _ => Both.step (fun k => spec_ComboAt.l1.eq_2 _ _ _ _ _ _ _ _ k) (fun k => impl_ComboAt.l0.eq_2 _ _ _ _ _ _ _ k) (Both.neg (by omega) (by omega) (Both.now _ (by show (hs.length : Int) ≤ _; omega)))
  | succ m ih =>
    intro i ps hs hi hps hh hp
    refine Both.step (fun k => spec_ComboAt.l1.eq_2 _ _ _ _ _ _ _ _ k) (fun k => impl_ComboAt.l0.eq_2 _ _ _ _ _ _ _ k) (Both.pos (by omega) (by omega) (Both.pos (by omega) (by omega) (Both.pos (by omega) (by omega) ?_)))
    rw [w_succ (by omega)]
    refine Both.ite (fun hon => ?_) (fun _ => ih (i + 1) ps hs (by omega) (by omega) (by omega) hp)
    have hp' : ∀ p ∈ ps ++ [(i : Int)], 0 ≤ p ∧ p < (L.length : Int) := fun p hm => by
      rcases List.mem_append.1 hm with h | h
      · exact hp p h
      · rw [List.mem_singleton.1 h]; omega
    have em : ps.map (gM L) ++ [(⟨(rd_T44 L (i : Int)).f0, (rd_T44 L (i : Int)).f1, (rd_T44 L (i : Int)).f2⟩ : S44)] = (ps ++ [(i : Int)]).map (gM L) := by
      rw [List.map_append, List.map_singleton]
    have hpl : (ps ++ [(i : Int)]).length ≤ i + 1 := by simp; omega
    have hpos : 0 < (ps ++ [(i : Int)]).length := by simp
    refine Both.pos (by omega) (by rw [List.length_map]; omega) (Both.cbind2 rfl rfl ?_)
    rw [em]
    generalize ps ++ [(i : Int)] = qs at hp' hpl hpos
    have nxt : ∀ hs' : List Int, hs'.length ≤ i + 1 → Both (fun r : List Int × Bool => (r.1.length : Int) ≤ 1048576) (fun k => spec_ComboAt.l1 k L C most qs hs' L (L.length : Int) ((i + 1 : Nat) : Int)) (fun k => impl_ComboAt.l0 k C most (qs.map (gM L)) hs' L (L.length : Int) ((i + 1 : Nat) : Int)) := fun hs' h => ih (i + 1) qs hs' (by omega) hpl h hp'
    refine Both.ite2 (by rw [List.length_map]) (fun _ => nxt hs (by omega)) (fun hge => ?_)
    rw [List.length_map, w64 (n := (qs.length : Int) - (C.length : Int)) (by omega) (by omega)]
    refine Both.pos (by omega) (by omega) (Both.pos (by omega) (by omega) (Both.cbind2 rfl rfl ?_))
    rw [← List.map_drop]
    have hlen : (qs.drop ((qs.length : Int) - (C.length : Int)).toNat).length = C.length := by rw [List.length_drop]; omega
    have hpd : ∀ p ∈ qs.drop ((qs.length : Int) - (C.length : Int)).toNat, 0 ≤ p ∧ p < (L.length : Int) := fun p hm => hp' p (List.mem_of_mem_drop hm)
    generalize qs.drop ((qs.length : Int) - (C.length : Int)).toNat = Y at hlen hpd
    have e0 : rd_T44 (Y.map (gM L)) 0 = gM L (rd Y 0) := rd_map L Y (j := 0) (by omega)
    have h0 := hpd (rd Y 0) (by rw [show (0 : Int) = ((0 : Nat) : Int) from rfl, rd_get (by omega)]; exact List.getElem_mem _)
    have hI := same_impl L C Y hlen hC
    have S := fun r => same_spec L C most qs hs (i : Int) L (L.length : Int) (i : Int) Y (by omega) hC hpd r Y.length 0
    rw [w_succ (by omega)] at S
    rw [e0]
    generalize hB : allFrom (sameAt L C Y) Y.length 0 = B at hI S
    by_cases hmost : wrap64 ((rd_T44 L (i : Int)).f0 - (gM L (rd Y 0)).f0) ≤ most
    · cases B with
      | true =>
        obtain ⟨r, hr, s, t⟩ := nxt (hs ++ [(i : Int)]) (by simp; omega)
        refine ⟨r, hr, Ev.pos (by omega) (Ev.pos h0.1 (Ev.pos h0.2 (S r _ (by omega) ?_))), Ev.bind hI (Ev.pos rfl (Ev.pos (by rw [List.length_map]; omega) (Ev.pos hmost (Ev.pos (by omega) t))))⟩
        exact Ev.pos (by rw [decide_eq_true hmost]; rfl) (Ev.pos (by omega) s)
      | false =>
        obtain ⟨r, hr, s, t⟩ := nxt hs (by omega)
        exact ⟨r, hr, Ev.pos (by omega) (Ev.pos h0.1 (Ev.pos h0.2 (S r _ (by omega) (Ev.neg (by simp) s)))), Ev.bind hI (Ev.neg (by decide) t)⟩
    · obtain ⟨r, hr, s, t⟩ := nxt hs (by omega)
      refine ⟨r, hr, Ev.pos (by omega) (Ev.pos h0.1 (Ev.pos h0.2 (S r _ (by omega) (Ev.neg (by rw [decide_eq_false hmost]; simp) s)))), Ev.bind hI ?_⟩
      exact Ev.ite (fun _ => Ev.pos (by rw [List.length_map]; omega) (Ev.neg hmost t)) (fun _ => t)
theorem names_spec (L : List S44) (C : List ByteArray) (most : Int) (hl : C.length ≤ maxLen) (hs : ∀ z ∈ C, z.size ≤ maxLen) (r : List Int × Bool) (h1 : C.all nameOk = true → Ev (fun k => spec_ComboAt.l1 k L C most [] [] L (L.length : Int) 0) r) (h2 : C.all nameOk = false → r = ([], false)) : Ev (fun k => spec_ComboAt.l0 k L C most C (C.length : Int) 0) r := by
  rw [maxLen_eq] at hl
  have key : ∀ (m i : Nat), i + m = C.length → ((C.drop i).all nameOk = true → Ev (fun k => spec_ComboAt.l1 k L C most [] [] L (L.length : Int) 0) r) → ((C.drop i).all nameOk = false → r = ([], false)) → Ev (fun k => spec_ComboAt.l0 k L C most C (C.length : Int) (i : Int)) r := by
    intro m
    induction m with
    | zero =>
      intro i hi h1 _
      rw [List.drop_of_length_le (by omega)] at h1
      exact Ev.step (fun k => spec_ComboAt.l0.eq_2 _ _ _ _ _ _ k) (Ev.neg (by omega) (h1 rfl))
    | succ m ih =>
      intro i hi h1 h2
      have hi' : i < C.length := by omega
      have hn := name_spec C[i] (hs _ (List.getElem_mem _))
      rw [List.drop_eq_getElem_cons hi', List.all_cons] at h1 h2
      refine Ev.step (fun k => spec_ComboAt.l0.eq_2 _ _ _ _ _ _ k) (Ev.pos (by omega) (Ev.pos (by omega) (Ev.pos (by omega) ?_)))
      rw [w_succ (by omega), rdOf_get hi']
      cases hb : nameOk C[i] with
      | true =>
        rw [hb, Bool.true_and] at h1 h2
        rw [hb] at hn
        exact Ev.bind hn (Ev.pos rfl (ih (i + 1) (by omega) h1 h2))
      | false =>
        rw [hb, Bool.false_and] at h2
        rw [hb] at hn
        exact Ev.bind hn (Ev.neg (by decide) (Ev.cast (Ev.now _) (h2 rfl).symm))
  exact key C.length 0 (by omega) h1 h2
theorem names_impl (C : List ByteArray) (hl : C.length ≤ maxLen) (hs : ∀ z ∈ C, z.size ≤ maxLen) : Ev (fun k => slices_ContainsFunc_string_string_at_impl_ComboAt_1.f k C) (!C.all nameOk) := by
  have h := contains_ev ByteArray.empty (fun k z => impl_ComboAt_1.f k z) (fun z => !nameOk z) slices_IndexFunc_string_string_at_impl_ComboAt_1.l0 (fun k x n i => slices_IndexFunc_string_string_at_impl_ComboAt_1.l0.eq_2 x n i k) C hl (fun z hz => by unfold impl_ComboAt_1.f; exact Ev.bind (name_impl z (hs z hz)) (Ev.now _))
  unfold slices_ContainsFunc_string_string_at_impl_ComboAt_1.f slices_IndexFunc_string_string_at_impl_ComboAt_1.f
  exact Ev.cast h (by rw [← any_not nameOk C, Bool.not_not])
theorem both (L : List S44) (C : List ByteArray) (most : Int) (hL : (L.length : Int) ≤ 1048576) (hLs : ∀ z ∈ L, z.f1.size ≤ maxLen) (hl : C.length ≤ maxLen) (hs : ∀ z ∈ C, z.size ≤ maxLen) : Both (fun r : List Int × Bool => (r.1.length : Int) ≤ 1048576) (fun k => spec_ComboAt.f k L C most) (fun k => impl_ComboAt.f k L C most) := by
  have no : ((([] : List Int), false).1.length : Int) ≤ 1048576 := by simp
  have sT : Ev (fun k => spec_ComboAt.j0 k L C most true) ([], false) := Ev.step (fun k => spec_ComboAt.j0.eq_2 _ _ _ _ k) (Ev.pos rfl (Ev.now _))
  have iT : Ev (fun k => impl_ComboAt.j0 k L C most true) ([], false) := Ev.step (fun k => impl_ComboAt.j0.eq_2 _ _ _ _ k) (Ev.pos rfl (Ev.now _))
  have hL' : L.length ≤ maxLen := by rw [maxLen_eq]; omega
  have m1 := meant_spec L hL' hLs
  have m2 := meant_impl L hL' hLs
  have n2 := names_impl C hl hs
  have ti : ∀ n, impl_isTime.f n = some (decide (0 ≤ n) && decide (n ≤ 100000)) := fun n => by unfold impl_isTime.f; rw [in_impl]; rfl
  unfold spec_ComboAt.f impl_ComboAt.f
  cases hm : meantsOk L with
  | false =>
    rw [hm] at m1 m2
    exact ⟨_, no, Ev.bind m1 (Ev.neg (by decide) sT), Ev.bind m2 (Ev.neg (by decide) iT)⟩
  | true =>
    rw [hm] at m1 m2
    by_cases hc1 : (C.length : Int) < 1
    · refine ⟨_, no, Ev.bind m1 (Ev.pos rfl (Ev.pos hc1 sT)), Ev.bind m2 (Ev.pos rfl (Ev.const_bind (in_impl _ _ _) (Ev.neg ?_ iT)))⟩
      rw [decide_eq_false (show ¬ 1 ≤ (C.length : Int) by omega)]; simp
    · by_cases hc2 : (C.length : Int) > 10
      · refine ⟨_, no, Ev.bind m1 (Ev.pos rfl (Ev.neg hc1 (Ev.pos hc2 sT))), Ev.bind m2 (Ev.pos rfl (Ev.const_bind (in_impl _ _ _) (Ev.neg ?_ iT)))⟩
        rw [decide_eq_false (show ¬ (C.length : Int) ≤ 10 by omega)]; simp
      · have hin : (decide (1 ≤ (C.length : Int)) && decide ((C.length : Int) ≤ 10)) = true := by rw [decide_eq_true (by omega), decide_eq_true (by omega)]; rfl
        have I : ∀ {r g}, Ev g r → Ev (fun k => (impl_areMeant.f k L).bind fun t => if t = true then ((impl_inRange.f (C.length : Int) 1 10).bind fun t => if t = true then g k else impl_ComboAt.j0 k L C most true) else impl_ComboAt.j0 k L C most true) r := fun h => Ev.bind m2 (Ev.pos rfl (Ev.const_bind (in_impl _ _ _) (Ev.pos hin h)))
        have S : ∀ {r g}, Ev g r → Ev (fun k => (spec_l17Meant.f k L).bind fun t => if t = true then (if (C.length : Int) < 1 then spec_ComboAt.j0 k L C most true else (if (C.length : Int) > 10 then spec_ComboAt.j0 k L C most true else g k)) else spec_ComboAt.j0 k L C most true) r := fun h => Ev.bind m1 (Ev.pos rfl (Ev.neg hc1 (Ev.neg hc2 h)))
        cases ht : (decide (0 ≤ most) && decide (most ≤ 100000)) with
        | false =>
          refine ⟨_, no, S (Ev.const_bind (in_spec _ _ _) ?_), I (Ev.bind n2 (Ev.ite (fun _ => iT) (fun _ => Ev.const_bind (ti _) ?_)))⟩
          · rw [ht]; exact sT
          · rw [ht]; exact iT
        | true =>
          have sF : ∀ {r}, Ev (fun k => spec_ComboAt.l0 k L C most C (C.length : Int) 0) r → Ev (fun k => (spec_l1In.f most 0 100000).bind fun t => spec_ComboAt.j0 k L C most (!t)) r := fun h => Ev.const_bind (in_spec _ _ _) (by rw [ht]; exact Ev.step (fun k => spec_ComboAt.j0.eq_2 _ _ _ _ k) (Ev.neg (by decide) h))
          cases hn : C.all nameOk with
          | false =>
            rw [hn] at n2
            exact ⟨_, no, S (sF (names_spec L C most hl hs _ (fun h => by rw [hn] at h; cases h) (fun _ => rfl))), I (Ev.bind n2 (Ev.pos rfl iT))⟩
          | true =>
            rw [hn] at n2
            obtain ⟨r, hr, s, t⟩ := hits_both L C most hL (by omega) (by omega) L.length 0 [] [] (by omega) (Nat.le_refl _) (Nat.le_refl _) (fun p h => by cases h)
            refine ⟨r, hr, S (sF (names_spec L C most hl hs _ (fun _ => s) (fun h => by rw [hn] at h; cases h))), I (Ev.bind n2 (Ev.neg (by decide) (Ev.const_bind (ti _) ?_)))⟩
            rw [ht]
            exact Ev.step (fun k => impl_ComboAt.j0.eq_2 _ _ _ _ k) (Ev.neg (by decide) t)
theorem FnExactComboAt : laws_FnExactComboAt.Pure := by
  intro L C most ⟨hl, hls⟩ ⟨hc, hcs⟩ _
  have hls' : ∀ z ∈ L, z.f1.size ≤ maxLen := fun z hz => (hls z hz).2.1
  refine Ev.rounds (r := true) ?_
  unfold laws_FnExactComboAt.f
  obtain ⟨t, ht, ht', he⟩ := sz_meant L hl hls' (a := 1048576) (by omega) (by omega)
  refine Ev.bind he (Ev.ite (fun _ => Ev.now _) (fun h => ?_))
  have hn := ht' h
  obtain ⟨t2, _, ht2, he2⟩ := sz_strs C hc hcs (a := t) (by omega) ht
  refine Ev.bind he2 (Ev.ite (fun _ => Ev.now _) (fun h2 => ?_))
  have hcn := ht2 h2
  have tl := to_meant L hn
  have tc := to_strs C hcn
  have hxs : ∀ z ∈ L.map asMeant, z.f1.size ≤ maxLen := by
    intro z hz
    obtain ⟨y, hy, rfl⟩ := List.mem_map.1 hz
    exact hls' y hy
  generalize hx : L.map asMeant = xs at tl hxs
  have hxl : (xs.length : Int) ≤ 1048576 := by rw [← hx, List.length_map]; omega
  obtain ⟨⟨r0, r1⟩, hr, h1, h2⟩ := both xs C most hxl hxs hc hcs
  have hr : (r0.length : Int) ≤ 1048576 := hr
  have hq := eq_ints r0 hr
  have hm := mark_ints r0 (by omega)
  have hh := held_ints r0.length (by omega)
  obtain ⟨put, hput⟩ := markText_ev laws_markText.l0 (fun k x s => laws_markText.l0.eq_2 _ _ k)
  obtain ⟨y, hy, em⟩ := mark_meant put hput xs hxl
  have ems := mark_ev laws_markText.f put laws_markStringS.l0 (fun k x c i => laws_markStringS.l0.eq_2 x c i k) hput y.1 (by rw [hy]; omega) C (by rw [hy]; omega)
  exact Ev.bind tl (Ev.bind tc (Ev.bind h1 (Ev.bind tl (Ev.bind tc (Ev.bind h2 (Ev.bind hq (Ev.pos rfl (Ev.step (fun k => laws_FnExactComboAt.j0.eq_2 _ _ _ _ _ _ _ _ _ _ k) (Ev.neg (by simp) (Ev.bind tl (Ev.bind (eq_meant xs hxl) (Ev.pos rfl (Ev.bind tc (Ev.bind (eq_strs C hcn) (Ev.pos rfl
    (Ev.bind em (Ev.bind ems (Ev.neg (by show ¬ (y.1 + (C.length : Int)) < 0; rw [hy]; omega) (Ev.bind hq (Ev.pos rfl (Ev.step (fun k => laws_FnExactComboAt.j1.eq_2 _ _ _ _ _ _ _ k) (Ev.neg (by simp) (Ev.bind hm (Ev.bind hh (Ev.neg (by omega) (Ev.pos rfl
    (Ev.bind tl (Ev.bind tc (Ev.bind h2 (Ev.bind hq (Ev.pos rfl (Ev.step (fun k => laws_FnExactComboAt.j2.eq_2 _ _ _ k) (Ev.neg (by simp) (Ev.bind hh (Ev.neg (by omega) (Ev.pos rfl (Ev.now _)))))))))))))))))))))))))))))))))))))

end Go.Proofs.Yteocjeafabiaeaa.Pure
