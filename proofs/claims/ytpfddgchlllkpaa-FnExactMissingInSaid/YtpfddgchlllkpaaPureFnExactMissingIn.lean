/- MissingIn: the pure statement of the law: the program's list of what is missing is the reference's, for all entries. -/
import Derived.Test.YtpfddgchlllkpaaXFnExactMissingInx6
import Derived.Test.YtpfddgchlllkpaaXLibMissingIn
namespace Go.Proofs.Ytpfddgchlllkpaa.Pure
open Go.RowKit Go.Proofs.Ytpfddgchlllkpaa.XFnExactMissingIn Go.Proofs.YtpfddgchlllkpaaW.PrintWords Go.Proofs.YtpfddgchlllkpaaW.PrintLast Go.Proofs.YtpfddgchlllkpaaW.PrintMore Go.Proofs.Ytpfddgchlllkpaa.X
set_option linter.unusedVariables false
set_option linter.unusedSimpArgs false

theorem in_impl (a b c : Int) : impl_inRange.f a b c = some (decide (b ≤ a) && decide (a ≤ c)) := by
  unfold impl_inRange.f
  by_cases h : b ≤ a <;> simp [h]
/-! names: letters, digits, '_', no digit first, 1 to 20 -/
def isDig (c : Int) : Bool := decide (48 ≤ c) && decide (c ≤ 57)
def isLet (c : Int) : Bool := (decide (97 ≤ c) && decide (c ≤ 122)) || (decide (65 ≤ c) && decide (c ≤ 90))
def nameOk (s : ByteArray) : Bool := (decide (1 ≤ s.size) && decide (s.size ≤ 20)) && allFrom (fun i => isLet (bt s i) || bt s i == 95 || (i != 0 && isDig (bt s i))) s.size 0
theorem dig_spec (c : Int) : spec_l1Digit.f c = some (isDig c) := by
  unfold spec_l1Digit.f isDig
  by_cases h : 48 ≤ c <;> simp [h]
theorem dig_impl (c : Int) : impl_isDigit.f c = some (isDig c) := by
  unfold impl_isDigit.f isDig
  by_cases h : 48 ≤ c <;> simp [h]
theorem let_spec (c : Int) : spec_l1Letter.f c = some (isLet c || c == 95) := by
  unfold spec_l1Letter.f isLet
  by_cases h1 : 97 ≤ c <;> by_cases h2 : c ≤ 122 <;> by_cases h3 : 65 ≤ c <;> by_cases h4 : c ≤ 90 <;> simp [h1, h2, h3, h4]
theorem let_impl (c : Int) : impl_isLetter.f c = some (isLet c) := by
  unfold impl_isLetter.f isLet
  by_cases h1 : 97 ≤ c <;> by_cases h2 : c ≤ 122 <;> by_cases h3 : 65 ≤ c <;> by_cases h4 : c ≤ 90 <;> simp [h1, h2, h3, h4]
theorem let_not_dig (c : Int) (h : isDig c = true) : (isLet c || c == 95) = false := by
  unfold isDig at h
  unfold isLet
  simp at h ⊢
  omega
theorem name_spec_l (s : ByteArray) (hs : s.size ≤ maxLen) : ∀ m i : Nat, i + m = s.size → Ev (fun k => spec_GoodName.l0 k s (i : Int)) (allFrom (fun i => isLet (bt s i) || bt s i == 95 || isDig (bt s i)) m i) := by
  rw [maxLen_eq] at hs
  intro m
  induction m with
  | zero => exact fun i hi => Ev.step (fun k => spec_GoodName.l0.eq_2 _ _ k) (Ev.neg (by omega) (Ev.now _))
  | succ m ih =>
    intro i hi
    refine Ev.step (fun k => spec_GoodName.l0.eq_2 _ _ k) (Ev.pos (by omega) (Ev.pos (by omega) (Ev.const_bind (let_spec _) ?_)))
    rw [w64 (by omega) (by omega), allFrom]
    cases h : (isLet (bt s i) || bt s i == 95) with
    | true => exact Ev.pos rfl (Ev.cast (ih (i + 1) (by omega)) (by simp))
    | false =>
      refine Ev.neg (by decide) (Ev.const_bind (dig_spec _) ?_)
      rw [Bool.false_or]
      exact Ev.and (fun _ => ih (i + 1) (by omega))
theorem name_spec (s : ByteArray) (hs : s.size ≤ maxLen) : Ev (fun k => spec_GoodName.f k s) (nameOk s) := by
  have hj : ∀ b, Ev (fun k => spec_GoodName.j0 k s b) (!b && allFrom (fun i => isLet (bt s i) || bt s i == 95 || isDig (bt s i)) s.size 0) := fun b =>
    Ev.step (fun k => spec_GoodName.j0.eq_2 _ _ k) (Ev.andn (fun _ => name_spec_l s hs s.size 0 (by omega)))
  unfold spec_GoodName.f
  refine Ev.ite (fun h => Ev.cast (hj true) ?_) (fun h => Ev.ite (fun h2 => Ev.cast (hj true) ?_) (fun h2 => Ev.pos (by omega) (Ev.const_bind (dig_spec _) (Ev.cast (hj _) ?_))))
  · simp only [nameOk, decide_eq_false (show ¬ 1 ≤ s.size by omega), Bool.false_and, Bool.not_true]
  · simp only [nameOk, decide_eq_false (show ¬ s.size ≤ 20 by omega), Bool.and_false, Bool.false_and, Bool.not_true]
  · obtain ⟨n, hn⟩ : ∃ n, s.size = n + 1 := ⟨s.size - 1, by omega⟩
    simp only [nameOk, hn, decide_eq_true (show 1 ≤ n + 1 by omega), decide_eq_true (show n + 1 ≤ 20 by omega), Bool.true_and, allFrom]
    rw [allFrom_congr (p := fun i => isLet (bt s i) || bt s i == 95 || isDig (bt s i)) (q := fun i => isLet (bt s i) || bt s i == 95 || (i != 0 && isDig (bt s i))) n (0 + 1) (fun j h1 _ => by
      have : (j != 0) = true := by rw [bne_iff_ne]; omega
      simp only [this, Bool.true_and])]
    rw [show ((0 : Nat) : Int) = 0 from rfl, show ((0 : Nat) != 0) = false from rfl, Bool.false_and, Bool.or_false, ← Bool.and_assoc]
    cases hd : isDig (bt s 0) with
    | true => rw [let_not_dig _ hd]; rfl
    | false => rw [Bool.or_false, Bool.not_false, Bool.true_and]
theorem name_impl (s : ByteArray) (hs : s.size ≤ maxLen) : Ev (fun k => impl_GoodName.f k s) (nameOk s) := by
  rw [maxLen_eq] at hs
  have key : ∀ m i : Nat, i + m = s.size → Ev (fun k => impl_GoodName.l0 k s (s.size : Int) (i : Int)) ((decide (1 ≤ s.size) && decide (s.size ≤ 20)) && allFrom (fun i => isLet (bt s i) || bt s i == 95 || (i != 0 && isDig (bt s i))) m i) := by
    intro m
    induction m with
    | zero =>
      intro i hi
      refine Ev.step (fun k => impl_GoodName.l0.eq_2 _ _ _ k) (Ev.neg (by omega) (Ev.const_bind (in_impl _ _ _) (Ev.cast (Ev.now _) ?_)))
      rw [allFrom, Bool.and_true]
      congr 1 <;> exact decide_eq_decide.2 (by omega)
    | succ m ih =>
      intro i hi
      refine Ev.step (fun k => impl_GoodName.l0.eq_2 _ _ _ k) (Ev.pos (by omega) (Ev.pos (by omega) (Ev.pos (by omega) (Ev.const_bind (let_impl _) ?_))))
      rw [w64 (by omega) (by omega), allFrom]
      cases h : isLet (bt s i) with
      | true => exact Ev.pos rfl (Ev.cast (ih (i + 1) (by omega)) (by simp))
      | false =>
        refine Ev.neg (by decide) (Ev.ite (fun h5 => Ev.cast (ih (i + 1) (by omega)) (by simp [h5])) (fun h5 => Ev.ite (fun h0 => Ev.cast (Ev.now _) ?_) (fun h0 => Ev.const_bind (dig_impl _) ?_)))
        · have h0' : (i != 0) = false := by rw [bne_eq_false_iff_eq]; omega
          have h5' : (bt s (i : Int) == 95) = false := beq_eq_false_iff_ne.2 h5
          simp only [h5', h0', Bool.false_or, Bool.false_and, Bool.and_false]
        · have h0' : (i != 0) = true := by rw [bne_iff_ne]; omega
          have h5' : (bt s (i : Int) == 95) = false := beq_eq_false_iff_ne.2 h5
          simp only [h5', Bool.false_or, h0', Bool.true_and]
          cases hd : isDig (bt s i) with
          | true => exact Ev.pos rfl (Ev.cast (ih (i + 1) (by omega)) (by simp))
          | false => exact Ev.neg (by decide) (Ev.cast (Ev.now _) (by simp))
  exact key s.size 0 (by omega)
/-! texts in rising order -/
theorem bl_trans : ∀ a b c : List UInt8, Op.bytesLess a b = true → Op.bytesLess b c = true → Op.bytesLess a c = true
  | _, [], c, h, _ => by cases ‹List UInt8› <;> simp [Op.bytesLess] at h
  | _, _ :: _, [], _, h => by simp [Op.bytesLess] at h
  | [], _ :: _, _ :: _, _, _ => by simp [Op.bytesLess]
  | x :: a, y :: b, z :: c, h1, h2 => by
    simp only [Op.bytesLess, Bool.or_eq_true, Bool.and_eq_true, decide_eq_true_eq, beq_iff_eq] at h1 h2 ⊢
    rcases h1 with h1 | ⟨rfl, h1⟩
    · rcases h2 with h2 | ⟨rfl, h2⟩
      · exact .inl (UInt8.lt_trans h1 h2)
      · exact .inl h1
    · rcases h2 with h2 | ⟨rfl, h2⟩
      · exact .inl h2
      · exact .inr ⟨rfl, bl_trans a b c h1 h2⟩
theorem bl_irrefl : ∀ a : List UInt8, Op.bytesLess a a = false
  | [] => rfl
  | x :: a => by simp [Op.bytesLess, bl_irrefl a]
theorem idxP_hit {α : Type} (p : α → Bool) : ∀ xs : List α, 0 ≤ idxP p xs → ∃ h : (idxP p xs).toNat < xs.length, p (xs[(idxP p xs).toNat]'h) = true
  | [], h => by simp [idxP] at h
  | x :: xs, h => by
    rw [idxP] at h
    by_cases hx : p x = true
    · have e : idxP p (x :: xs) = 0 := by rw [idxP, if_pos hx]
      simp only [e]
      exact ⟨by simp, hx⟩
    · rw [if_neg hx] at h
      by_cases hn : idxP p xs < 0
      · rw [if_pos hn] at h; omega
      · obtain ⟨h1, h2⟩ := idxP_hit p xs (by omega)
        have e : idxP p (x :: xs) = idxP p xs + 1 := by rw [idxP, if_neg hx, if_neg hn]
        have e2 : (idxP p xs + 1).toNat = (idxP p xs).toNat + 1 := by omega
        simp only [e, e2]
        exact ⟨by simp; omega, by simpa using h2⟩
theorem sz_strs (l : List ByteArray) (hl : l.length ≤ maxLen) (hs : ∀ z ∈ l, z.size ≤ maxLen) {a : Int} (h0 : 0 ≤ a) (h1 : a ≤ 1048576) : ∃ t, t ≤ 1048576 ∧ (¬ t < 0 → (l.length : Int) ≤ 1048576) ∧ Ev (fun k => laws_szStringS.f k l a) t := by
  unfold laws_szStringS.f
  have e := sz_left (n := l.length) h0 h1 hl
  rw [maxLen_eq] at hl
  by_cases hn : wrap64 (a - (l.length : Int)) < 0
  · exact ⟨-1, by omega, by omega, Ev.pos hn (Ev.now _)⟩
  · rw [if_neg hn] at e
    have e := Option.some.inj e
    rw [e] at hn ⊢
    have hr := (roomLeft_ok hn).1
    obtain ⟨t, ht, he⟩ := sizes_ev ByteArray.empty (fun _ z r => if wrap64 (r - (z.size : Int)) < 0 then some (-1) else some (wrap64 (r - (z.size : Int)))) laws_szStringS.l0 (fun k x r i => by
      rw [laws_szStringS.l0]
      split
      · split
        · split
          · rfl
          · rename_i h_; exact (if_neg h_).symm
        · rfl
      · rfl) l (by omega)
      (fun z hz r h0 h1 => ⟨roomLeft z.size r, roomLeft_le h1, Ev.mk (fun _ => sz_left h0 h1 (hs z hz))⟩) (roomLeft l.length a) (by omega) (roomLeft_le h1)
    exact ⟨t, ht, fun _ => by omega, Ev.neg hn he⟩
theorem to_strs (l : List ByteArray) (hl : (l.length : Int) ≤ 1048576) : Ev (fun k => laws_toStringS.f k l) l := by
  have ht := toS_ev ByteArray.empty (id : ByteArray → ByteArray) ByteArray.empty laws_toStringS.l0 (fun k x y i => laws_toStringS.l0.eq_2 x y i k) l (by omega)
  rw [List.map_id] at ht
  unfold laws_toStringS.f
  exact Ev.pos (by omega) (Ev.pos (by omega) ht)
theorem eq_strs (l : List ByteArray) (hl : (l.length : Int) ≤ 1048576) : Ev (fun k => laws_eqStringS.f k l l) true :=
  eqS_ev (fun s : ByteArray => s.toList) ByteArray.empty laws_eqStringS.l0 (fun k x y i => laws_eqStringS.l0.eq_2 x y i k) l (by rw [maxLen_eq]; omega)
abbrev En := S60
abbrev rE (l : List En) (i : Int) : En := rd_T60 l i
theorem rE_get {L : List En} {i : Nat} (h : i < L.length) : rE L (i : Int) = L[i] := rdOf_get (d := z60) h
def eless (l : List En) (i : Nat) : Bool := if i = 0 then true else Op.bytesLess (rE l ((i : Int) - 1)).f0.toList (rE l (i : Int)).f0.toList
def entryOk (l : List En) (i : Nat) : Bool := nameOk (rE l (i : Int)).f0 && eless l i
def entriesOk (l : List En) : Bool := decide (l.length ≤ 60) && allFrom (entryOk l) l.length 0
theorem keys_spec (l : List En) (hl : l.length ≤ maxLen) (hs : ∀ z ∈ l, z.f0.size ≤ maxLen) : Ev (fun k => spec_l19Keys.f k l) (entriesOk l) := by
  rw [maxLen_eq] at hl
  have key : ∀ m i : Nat, i + m = l.length → Ev (fun k => spec_l19Keys.l0 k l l (l.length : Int) (i : Int)) (allFrom (entryOk l) m i) := by
    intro m
    induction m with
    | zero => exact fun i hi => Ev.step (fun k => spec_l19Keys.l0.eq_2 _ _ _ _ k) (Ev.neg (by omega) (Ev.now _))
    | succ m ih =>
      intro i hi
      have hi' : i < l.length := by omega
      have hz := hs _ (List.getElem_mem hi')
      rw [← rE_get hi'] at hz
      refine Ev.step (fun k => spec_l19Keys.l0.eq_2 _ _ _ _ k) (Ev.pos (by omega) (Ev.pos (by omega) (Ev.pos (by omega) (Ev.bind (name_spec _ hz) ?_))))
      rw [allFrom, entryOk, Bool.and_assoc, w_succ (by omega)]
      refine Ev.and (fun _ => ?_)
      unfold eless
      by_cases h0 : i = 0
      · subst h0
        exact Ev.neg (by omega) (Ev.cast (ih 1 (by omega)) (by simp))
      · rw [if_neg h0, w_pred (by omega)]
        exact Ev.pos (by omega) (Ev.pos (by omega) (Ev.pos (by omega) (Ev.and (fun _ => ih (i + 1) (by omega)))))
  unfold spec_l19Keys.f entriesOk
  refine Ev.ite (fun h => Ev.cast (Ev.now _) ?_) (fun h => Ev.cast (key l.length 0 (by omega)) ?_)
  · rw [decide_eq_false (show ¬ l.length ≤ 60 by omega)]; rfl
  · rw [decide_eq_true (show l.length ≤ 60 by omega)]; rfl
theorem keys_impl (l : List En) (hl : l.length ≤ maxLen) (hs : ∀ z ∈ l, z.f0.size ≤ maxLen) : Ev (fun k => impl_areKeyed.f k l) (entriesOk l) := by
  rw [maxLen_eq] at hl
  unfold impl_areKeyed.f entriesOk
  have e60 : decide ((l.length : Int) ≤ 60) = decide (l.length ≤ 60) := decide_eq_decide.2 (by omega)
  generalize hL : decide (l.length ≤ 60) = L at e60
  have sw : ∀ x y : Bool, (L && (x && y)) = (x && (L && y)) := fun x y => by rw [← Bool.and_assoc, Bool.and_comm L x, Bool.and_assoc]
  have key : ∀ m i : Nat, i + m = l.length → Ev (fun k => impl_areKeyed.l0 k l l (l.length : Int) (i : Int)) (L && allFrom (entryOk l) m i) := by
    intro m
    induction m with
    | zero => exact fun i hi => Ev.step (fun k => impl_areKeyed.l0.eq_2 _ _ _ _ k) (Ev.neg (by omega) (Ev.cast (Ev.now _) (by rw [e60, allFrom, Bool.and_true])))
    | succ m ih =>
      intro i hi
      have hi' : i < l.length := by omega
      have hz := hs _ (List.getElem_mem hi')
      rw [← rE_get hi'] at hz
      refine Ev.step (fun k => impl_areKeyed.l0.eq_2 _ _ _ _ k) (Ev.pos (by omega) (Ev.pos (by omega) (Ev.pos (by omega) (Ev.bind (name_impl _ hz) ?_))))
      rw [allFrom, entryOk, Bool.and_assoc, sw, sw, w_succ (by omega)]
      refine Ev.and (fun _ => ?_)
      unfold eless
      by_cases h0 : i = 0
      · subst h0
        exact Ev.neg (by omega) (Ev.cast (ih 1 (by omega)) (by simp))
      · rw [if_neg h0, w_pred (by omega)]
        exact Ev.pos (by omega) (Ev.pos (by omega) (Ev.pos (by omega) (Ev.and (fun _ => ih (i + 1) (by omega)))))
  exact key l.length 0 (by omega)
/-- No two entries have one key. -/
theorem entries_one {l : List En} (h : entriesOk l = true) {i j : Nat} (hi : i < l.length) (hj : j < l.length) (e : l[i].f0.toList = l[j].f0.toList) : i = j := by
  simp only [entriesOk, Bool.and_eq_true] at h
  have adj : ∀ i, (hi : i + 1 < l.length) → Op.bytesLess (l[i]'(by omega)).f0.toList l[i + 1].f0.toList = true := by
    intro i hi
    have h2 := (allFrom_iff _ _ _).1 h.2 (i + 1) (by omega) (by omega)
    simp only [entryOk, eless, Bool.and_eq_true] at h2
    have h3 := h2.2
    rw [if_neg (by omega), show ((i + 1 : Nat) : Int) - 1 = (i : Int) by omega, rE_get (by omega), rE_get hi] at h3
    exact h3
  have lt : ∀ d i, (hd : i + d + 1 < l.length) → Op.bytesLess (l[i]'(by omega)).f0.toList l[i + d + 1].f0.toList = true := by
    intro d
    induction d with
    | zero => exact fun i hd => adj i hd
    | succ d ih => exact fun i hd => bl_trans _ _ _ (ih i (by omega)) (adj (i + d + 1) hd)
  rcases Nat.lt_trichotomy i j with h1 | h1 | h1
  · have h2 := lt (j - i - 1) i (by omega)
    simp only [show i + (j - i - 1) + 1 = j by omega] at h2
    rw [e, bl_irrefl] at h2
    cases h2
  · exact h1
  · have h2 := lt (i - j - 1) j (by omega)
    simp only [show j + (i - j - 1) + 1 = i by omega] at h2
    rw [e, bl_irrefl] at h2
    cases h2
def keyIs (s : ByteArray) (o : En) : Bool := o.f0.toList == s.toList
def foundIn (l : List En) (s : ByteArray) (b : Bool) : Bool := l.any fun o => keyIs s o && (o.f2 == b)
theorem found_eq {l : List En} (h : entriesOk l = true) (s : ByteArray) (b : Bool) (h0 : 0 ≤ idxP (keyIs s) l) : foundIn l s b = ((rE l (idxP (keyIs s) l)).f2 == b) := by
  obtain ⟨hi, hp⟩ := idxP_hit (keyIs s) l h0
  have e : rE l (idxP (keyIs s) l) = l[(idxP (keyIs s) l).toNat] := by
    have := rE_get hi
    rwa [Int.toNat_of_nonneg h0] at this
  rw [e, Bool.eq_iff_iff]
  unfold foundIn
  rw [List.any_eq_true]
  constructor
  · rintro ⟨o, ho, hq⟩
    obtain ⟨j, hj, rfl⟩ := List.getElem_of_mem ho
    simp only [Bool.and_eq_true] at hq
    have hij := entries_one h hi hj (by
      have h1 := hp; have h2 := hq.1
      simp only [keyIs, beq_iff_eq] at h1 h2
      rw [h1, h2])
    simp only [hij]
    exact hq.2
  · exact fun hq => ⟨_, List.getElem_mem hi, by rw [hp, hq]; rfl⟩
theorem found_none {l : List En} (s : ByteArray) (b : Bool) (h0 : idxP (keyIs s) l < 0) : foundIn l s b = false := by
  have h := idxP_any (keyIs s) l
  rw [decide_eq_false (by omega)] at h
  unfold foundIn
  rw [List.any_eq_false]
  intro o ho hq
  simp only [Bool.and_eq_true] at hq
  have : l.any (keyIs s) = true := List.any_eq_true.2 ⟨o, ho, hq.1⟩
  rw [← h] at this
  cases this
theorem inner (F T : List En) (o : List ByteArray) (i : Int) (s : ByteArray) (fs : List ByteArray) (b R : Bool) (hT : T.length ≤ 9223372036854775807) {x : List ByteArray × Bool}
    (hR : Ev (fun k => if R = true then (spec_MissingIn.l0 k T o F (F.length : Int) (wrap64 (i + 1))) else (if o.length < 8796093022208 then (spec_MissingIn.l0 k T (o ++ [s]) F (F.length : Int) (wrap64 (i + 1))) else (none))) x) :
    ∀ (m j : Nat) (fd : Bool), j + m = T.length → (fd || foundIn (T.drop j) s b) = R → Ev (fun k => spec_MissingIn.l1 k T o fd F (F.length : Int) i T (T.length : Int) (j : Int) s fs b) x := by
  intro m
  induction m with
  | zero =>
    intro j fd hj e
    rw [List.drop_of_length_le (by omega)] at e
    simp only [foundIn, List.any_nil, Bool.or_false] at e
    subst e
    exact Ev.step (fun k => spec_MissingIn.l1.eq_2 _ _ _ _ _ _ _ _ _ _ _ _ k) (Ev.neg (by omega) hR)
  | succ m ih =>
    intro j fd hj e
    have hj' : j < T.length := by omega
    rw [List.drop_eq_getElem_cons hj', foundIn, List.any_cons] at e
    have er : rd_T60 T (j : Int) = T[j] := rE_get hj'
    refine Ev.step (fun k => spec_MissingIn.l1.eq_2 _ _ _ _ _ _ _ _ _ _ _ _ k) (Ev.pos (by omega) (Ev.pos (by omega) (Ev.pos (by omega) ?_)))
    rw [w_succ (by omega), er]
    cases fd with
    | true => exact Ev.pos rfl (ih (j + 1) true (by omega) (by rw [← e]; simp))
    | false =>
      refine Ev.neg (by decide) ?_
      by_cases hk : T[j].f0.toList = s.toList
      · refine Ev.pos hk (ih (j + 1) _ (by omega) ?_)
        have : keyIs s T[j] = true := by simpa [keyIs] using hk
        rw [this, Bool.true_and, Bool.false_or] at e
        exact e
      · refine Ev.neg hk (ih (j + 1) _ (by omega) ?_)
        have : keyIs s T[j] = false := by simpa [keyIs] using hk
        rw [this, Bool.false_and, Bool.false_or, Bool.false_or] at e
        rw [Bool.false_or]
        exact e
theorem at_impl (T : List En) (hT : T.length ≤ maxLen) (s : ByteArray) : Ev (fun k => impl_entryAt.f k T s) (idxP (keyIs s) T) := by
  have h := index_ev z60 (fun _ z => impl_entryAt_1_captured.f z.f0 z.f1 z.f2 s) (keyIs s) (slices_IndexFunc_impl_Entry_impl_Entry_at_impl_entryAt_1.l0 s) (fun k x n i => slices_IndexFunc_impl_Entry_impl_Entry_at_impl_entryAt_1.l0.eq_2 s x n i k) T hT (fun z _ => Ev.now _)
  exact Ev.bind h (Ev.now _)
theorem miss_both (F T : List En) (hF : F.length ≤ 60) (hT : T.length ≤ 60) (hk : entriesOk T = true) : ∀ (m i : Nat) (o : List ByteArray), i + m = F.length → o.length ≤ i → Both (fun r => r.1.length ≤ 60) (fun k => spec_MissingIn.l0 k T o F (F.length : Int) (i : Int)) (fun k => impl_MissingIn.l0 k T o F (F.length : Int) (i : Int)) := by
  intro m
  induction m with
  | zero => exact fun i o hi ho => Both.step (fun k => spec_MissingIn.l0.eq_2 _ _ _ _ _ k) (fun k => impl_MissingIn.l0.eq_2 _ _ _ _ _ k) (Both.neg (by omega) (by omega) (Both.now _ (show o.length ≤ 60 by omega)))
  | succ m ih =>
    intro i o hi ho
    have ia := at_impl T (by rw [maxLen_eq]; omega) (rd_T60 F (i : Int)).f0
    have n1 := found_none (l := T) (rd_T60 F (i : Int)).f0 (rd_T60 F (i : Int)).f2
    have n2 := found_eq hk (rd_T60 F (i : Int)).f0 (rd_T60 F (i : Int)).f2
    have nr := idxP_range (keyIs (rd_T60 F (i : Int)).f0) T
    refine Both.step (fun k => spec_MissingIn.l0.eq_2 _ _ _ _ _ k) (fun k => impl_MissingIn.l0.eq_2 _ _ _ _ _ k) (Both.pos (by omega) (by omega) (Both.pos (by omega) (by omega) (Both.pos (by omega) (by omega) ?_)))
    generalize idxP (keyIs (rd_T60 F (i : Int)).f0) T = t at ia n1 n2 nr
    cases hf : foundIn T (rd_T60 F (i : Int)).f0 (rd_T60 F (i : Int)).f2 with
    | true =>
      obtain ⟨r, hr, h1, h2⟩ := ih (i + 1) o (by omega) (by omega)
      rw [← w_succ (by omega)] at h1 h2
      refine ⟨r, hr, inner F T o i _ _ _ true (by omega) (Ev.pos rfl h1) T.length 0 false (by omega) (by simpa using hf), Ev.bind ia ?_⟩
      by_cases h0 : t < 0
      · rw [n1 h0] at hf; cases hf
      · rw [n2 (by omega)] at hf
        refine Ev.neg h0 (Ev.pos (by omega) (Ev.pos (by omega) (Ev.neg ?_ h2)))
        rw [beq_iff_eq] at hf
        rw [hf]; simp
    | false =>
      obtain ⟨r, hr, h1, h2⟩ := ih (i + 1) (o ++ [(rd_T60 F (i : Int)).f0]) (by omega) (by simp; omega)
      rw [← w_succ (by omega)] at h1 h2
      refine ⟨r, hr, inner F T o i _ _ _ false (by omega) (Ev.neg (by decide) (Ev.pos (by omega) h1)) T.length 0 false (by omega) (by simpa using hf), Ev.bind ia ?_⟩
      by_cases h0 : t < 0
      · exact Ev.pos h0 (Ev.pos (by omega) h2)
      · rw [n2 (by omega)] at hf
        refine Ev.neg h0 (Ev.pos (by omega) (Ev.pos (by omega) (Ev.pos ?_ (Ev.pos (by omega) h2))))
        rw [beq_eq_false_iff_ne] at hf
        exact bne_iff_ne.2 hf
theorem both (F T : List En) (hF : F.length ≤ maxLen) (hFs : ∀ z ∈ F, z.f0.size ≤ maxLen) (hT : T.length ≤ maxLen) (hTs : ∀ z ∈ T, z.f0.size ≤ maxLen) : Both (fun r => r.1.length ≤ 60) (fun k => spec_MissingIn.f k F T) (fun k => impl_MissingIn.f k F T) := by
  have sT : Ev (fun k => spec_MissingIn.j0 k F T true) ([], false) := Ev.step (fun k => spec_MissingIn.j0.eq_2 _ _ _ k) (Ev.pos rfl (Ev.now _))
  have iT : Ev (fun k => impl_MissingIn.j0 k F T true) ([], false) := Ev.step (fun k => impl_MissingIn.j0.eq_2 _ _ _ k) (Ev.pos rfl (Ev.now _))
  have a1 := keys_spec F hF hFs
  have a2 := keys_impl F hF hFs
  have b1 := keys_spec T hT hTs
  have b2 := keys_impl T hT hTs
  unfold spec_MissingIn.f impl_MissingIn.f
  cases ha : entriesOk F with
  | false => rw [ha] at a1 a2; exact ⟨([], false), by simp, Ev.bind a1 (Ev.neg (by decide) sT), Ev.bind a2 (Ev.neg (by decide) iT)⟩
  | true =>
    rw [ha] at a1 a2
    cases hb : entriesOk T with
    | false => rw [hb] at b1 b2; exact ⟨([], false), by simp, Ev.bind a1 (Ev.pos rfl (Ev.bind b1 sT)), Ev.bind a2 (Ev.pos rfl (Ev.bind b2 iT))⟩
    | true =>
      rw [hb] at b1 b2
      have lF : F.length ≤ 60 := by simp only [entriesOk, Bool.and_eq_true, decide_eq_true_eq] at ha; exact ha.1
      have lT : T.length ≤ 60 := by have hb' := hb; simp only [entriesOk, Bool.and_eq_true, decide_eq_true_eq] at hb'; exact hb'.1
      obtain ⟨r, hr, h1, h2⟩ := miss_both F T lF lT hb F.length 0 [] (by omega) (by simp)
      exact ⟨r, hr, Ev.bind a1 (Ev.pos rfl (Ev.bind b1 (Ev.step (fun k => spec_MissingIn.j0.eq_2 _ _ _ k) (Ev.neg (by decide) h1)))), Ev.bind a2 (Ev.pos rfl (Ev.bind b2 (Ev.step (fun k => impl_MissingIn.j0.eq_2 _ _ _ k) (Ev.neg (by decide) h2))))⟩
/-! the law's own helpers -/
def EOk (z : S58) : Prop := z.f0.size ≤ maxLen ∧ z.f1.length ≤ maxLen ∧ ∀ y ∈ z.f1, y.size ≤ maxLen
theorem sz_entries (l : List S58) (hl : l.length ≤ maxLen) (hs : ∀ z ∈ l, EOk z) {a : Int} (h0 : 0 ≤ a) (h1 : a ≤ 1048576) : ∃ t, t ≤ 1048576 ∧ (¬ t < 0 → (l.length : Int) ≤ 1048576 ∧ ∀ z ∈ l, (z.f1.length : Int) ≤ 1048576) ∧ Ev (fun k => laws_szEntryS.f k l a) t := by
  unfold laws_szEntryS.f
  have e := sz_left (n := l.length) h0 h1 hl
  rw [maxLen_eq] at hl
  by_cases hn : wrap64 (a - (l.length : Int)) < 0
  · exact ⟨-1, by omega, by omega, Ev.pos hn (Ev.now _)⟩
  · rw [if_neg hn] at e
    have e := Option.some.inj e
    rw [e] at hn ⊢
    have hr := (roomLeft_ok hn).1
    obtain ⟨t, ht, hts, he⟩ := sizesP_ev (fun z : S58 => (z.f1.length : Int) ≤ 1048576) z58 (fun k z r => laws_szEntry.f k z.f0 z.f1 z.f2 r) laws_szEntryS.l0 (fun k x r i => laws_szEntryS.l0.eq_2 x r i k) l (by omega)
      (fun z hz r h0 h1 => by
        obtain ⟨hz0, hz1, hz2⟩ := hs z hz
        have e2 := sz_left (n := z.f0.size) h0 h1 hz0
        unfold laws_szEntry.f
        by_cases hm : wrap64 (r - (z.f0.size : Int)) < 0
        · exact ⟨-1, by omega, fun h => absurd (by omega) h, Ev.pos hm (Ev.now _)⟩
        · rw [if_neg hm] at e2
          have e2 := Option.some.inj e2
          rw [e2] at hm ⊢
          have hm' := roomLeft_ok hm
          obtain ⟨u, hu1, hu2, hu3⟩ := sz_strs z.f1 hz1 hz2 (a := roomLeft z.f0.size r) (by omega) (roomLeft_le h1)
          by_cases hu : u < 0
          · exact ⟨-1, by omega, fun h => absurd (by omega) h, Ev.neg hm (Ev.bind hu3 (Ev.pos hu (Ev.now _)))⟩
          · exact ⟨u, hu1, fun _ => hu2 hu, Ev.neg hm (Ev.bind hu3 (Ev.neg hu (Ev.now _)))⟩) (roomLeft l.length a) (by omega) (roomLeft_le h1)
    exact ⟨t, ht, fun h => ⟨by omega, hts h⟩, Ev.neg hn he⟩
def asEntry (b : S58) : En := ⟨b.f0, b.f1, b.f2⟩
theorem to_entries (l : List S58) (hl : (l.length : Int) ≤ 1048576) (hs : ∀ z ∈ l, (z.f1.length : Int) ≤ 1048576) : Ev (fun k => laws_toEntryS.f k l) (l.map asEntry) := by
  have ht := toK_ev z60 asEntry z58 (fun k z => (laws_toEntry.f k z.f0 z.f1 z.f2).bind fun t => some (⟨t.1, t.2.1, t.2.2⟩ : En)) laws_toEntryS.l0 (fun k x y i => by
      rw [laws_toEntryS.l0]
      split
      · split
        · simp only [Option.bind_assoc, Option.bind_some]; rfl
        · rfl
      · rfl) l (by omega) (fun z hz => Ev.bind (Ev.bind (to_strs z.f1 (hs z hz)) (Ev.now _)) (Ev.now _))
  unfold laws_toEntryS.f
  exact Ev.pos (by omega) (Ev.pos (by omega) ht)
theorem eq_entries (l : List En) (hl : (l.length : Int) ≤ 1048576) (hs : ∀ z ∈ l, (z.f1.length : Int) ≤ 1048576) : Ev (fun k => laws_eqEntryS.f k l l) true := by
  unfold laws_eqEntryS.f
  exact eqK_ev z60 (fun k a b => laws_eqEntry.f k a.f0 a.f1 a.f2 b.f0 b.f1 b.f2) laws_eqEntryS.l0 (fun k x y i => laws_eqEntryS.l0.eq_2 x y i k) l (by rw [maxLen_eq]; omega) (fun a ha => Ev.pos rfl (Ev.bind (eq_strs a.f1 (hs a ha)) (Ev.pos rfl (Ev.neg (by simp) (Ev.now _)))))
theorem text_ev : ∃ put : Int → ByteArray, ∀ c, 1 ≤ c → c ≤ 4611686018427387904 → Ev (fun k => laws_markText.f k c) (put c) :=
  markText_ev laws_markText.l0 (fun k x s => laws_markText.l0.eq_2 x s k)
theorem mapK_ev {α : Type} (one : Nat → α → Int → Option (Int × α)) (b : Int → Prop) : ∀ (l : List α) (c : Int), 1 ≤ c → c + (l.length : Int) * 4194304 ≤ 4611686018427387000 → (∀ e ∈ l, ∀ c, 1 ≤ c → c ≤ 4611686018427387000 - 4194304 → ∃ t e', c ≤ t ∧ t ≤ c + 4194304 ∧ Ev (fun k => one k e c) (t, e')) →
    ∃ t ys, c ≤ t ∧ t ≤ c + (l.length : Int) * 4194304 ∧ Ev (fun k => mapK (one k) l c) (t, ys)
  | [], c, _, _, _ => ⟨c, [], by omega, by simp, Ev.now _⟩
  | e :: l, c, h1, h2, h => by
    rw [List.length_cons] at h2
    obtain ⟨t, e', t1, t2, he⟩ := h e (List.mem_cons_self) c h1 (by omega)
    obtain ⟨u, ys, u1, u2, hu⟩ := mapK_ev one b l t (by omega) (by omega) (fun z hz => h z (List.mem_cons_of_mem _ hz))
    exact ⟨u, e' :: ys, by omega, by rw [List.length_cons]; omega, Ev.bind he (Ev.bind hu (Ev.now _))⟩
theorem mark_strsC (l : List ByteArray) (c : Int) (hc : 1 ≤ c) (hl : c + (l.length : Int) ≤ 4611686018427387904) : ∃ ys, Ev (fun k => laws_markStringS.f k l c) (c + (l.length : Int), ys) := by
  obtain ⟨put, hT⟩ := text_ev
  exact ⟨_, mark_ev laws_markText.f put laws_markStringS.l0 (fun k x c i => laws_markStringS.l0.eq_2 x c i k) hT c hc l hl⟩
theorem mark_entries (l : List En) (c : Int) (hc : 1 ≤ c) (hc2 : c ≤ 4611686018427387000 - 4611686018427) (hl : (l.length : Int) ≤ 1048576) (hs : ∀ z ∈ l, (z.f1.length : Int) ≤ 1048576) : ∃ t xs, c ≤ t ∧ t ≤ c + (l.length : Int) * 4194304 ∧ Ev (fun k => laws_markEntryS.f k l c) (t, xs) := by
  obtain ⟨put, hput⟩ := text_ev
  exact mapK_ev laws_markEntryS.one (fun _ => True) l c hc (by omega) (fun e he c h1 h2 => by
    have hk := hs e he
    obtain ⟨ys, hy⟩ := mark_strsC e.f1 (c + 1) (by omega) (by omega)
    refine ⟨c + 1 + (e.f1.length : Int) + 1, ⟨put c, ys, Int.tmod (c + 1 + (e.f1.length : Int)) 3 == 0⟩, by omega, by omega, ?_⟩
    unfold laws_markEntryS.one
    refine Ev.bind (hput c h1 (by omega)) ?_
    rw [w64 (n := c + 1) (by omega) (by omega)]
    exact Ev.bind hy (Ev.cast (Ev.now _) (by rw [w64 (by omega) (by omega)])))
theorem mark_strs (l : List ByteArray) (hl : (l.length : Int) ≤ 1048576) : ∃ ys, Ev (fun k => laws_markStringS.f k l 1) (1 + (l.length : Int), ys) ∧ Ev (fun k => laws_heldStringS.f k ys 1) (1 + (l.length : Int)) := by
  obtain ⟨put, hT⟩ := markText_ev laws_markText.l0 (fun k x s => laws_markText.l0.eq_2 x s k)
  exact ⟨_, mark_ev laws_markText.f put laws_markStringS.l0 (fun k x c i => laws_markStringS.l0.eq_2 x c i k) hT 1 (by omega) l (by omega),
    held_ev (fun s : ByteArray => s.toList) ByteArray.empty laws_markText.f put laws_heldStringS.l0 (fun k x c i => laws_heldStringS.l0.eq_2 x c i k) hT l.length 1 (by omega) (by omega)⟩
theorem eq_strs1 (l : List ByteArray) (hl : (l.length : Int) ≤ 1048576) : Ev (fun k => laws_eqStringS.f k l l) true :=
  eqS_ev (fun s : ByteArray => s.toList) ByteArray.empty laws_eqStringS.l0 (fun k x y i => laws_eqStringS.l0.eq_2 x y i k) l (by rw [maxLen_eq]; omega)
theorem FnExactMissingIn : laws_FnExactMissingIn.Pure := by
  intro F T ⟨hF, hFs⟩ ⟨hT, hTs⟩
  have hF' : ∀ z ∈ F, EOk z := fun z hz => ⟨(hFs z hz).1, (hFs z hz).2.1.1, (hFs z hz).2.1.2⟩
  have hT' : ∀ z ∈ T, EOk z := fun z hz => ⟨(hTs z hz).1, (hTs z hz).2.1.1, (hTs z hz).2.1.2⟩
  refine Ev.rounds (r := true) ?_
  unfold laws_FnExactMissingIn.f
  obtain ⟨t, t1, t2, he⟩ := sz_entries F hF hF' (a := 1048576) (by omega) (by omega)
  refine Ev.bind he (Ev.ite (fun _ => Ev.now _) (fun h => ?_))
  obtain ⟨u, u1, u2, hu⟩ := sz_entries T hT hT' (a := t) (by omega) t1
  refine Ev.bind hu (Ev.ite (fun _ => Ev.now _) (fun h2 => ?_))
  obtain ⟨n1, n2⟩ := t2 h
  obtain ⟨m1, m2⟩ := u2 h2
  have tk := to_entries F n1 n2
  have tj := to_entries T m1 m2
  have size : ∀ (l : List S58), (l.length : Int) ≤ 1048576 → (∀ z ∈ l, (z.f1.length : Int) ≤ 1048576) → (∀ z ∈ l, EOk z) → ((l.map asEntry).length : Int) ≤ 1048576 ∧ (∀ z ∈ l.map asEntry, (z.f1.length : Int) ≤ 1048576) ∧ (∀ z ∈ l.map asEntry, z.f0.size ≤ maxLen) := by
    intro l a b c
    refine ⟨by rw [List.length_map]; exact a, fun z hz => ?_, fun z hz => ?_⟩
    · obtain ⟨y, hy, rfl⟩ := List.mem_map.1 hz
      exact b y hy
    · obtain ⟨y, hy, rfl⟩ := List.mem_map.1 hz
      exact (c y hy).1
  obtain ⟨a1, a2, a3⟩ := size F n1 n2 hF'
  obtain ⟨b1, b2, b3⟩ := size T m1 m2 hT'
  generalize F.map asEntry = X at tk a1 a2 a3
  generalize T.map asEntry = Y at tj b1 b2 b3
  obtain ⟨⟨r0, r1⟩, hr, s1, s2⟩ := both X Y (by rw [maxLen_eq]; omega) a3 (by rw [maxLen_eq]; omega) b3
  have hr : r0.length ≤ 60 := hr
  have hq := eq_strs1 r0 (by omega)
  obtain ⟨p, us, p1, p2, hm⟩ := mark_entries X 1 (by omega) (by omega) a1 a2
  obtain ⟨q, vs, q1, q2, hm2⟩ := mark_entries Y p (by omega) (by omega) b1 b2
  obtain ⟨zs, hk, hh⟩ := mark_strs r0 (by omega)
  exact Ev.bind tk (Ev.bind tj (Ev.bind s1 (Ev.bind tk (Ev.bind tj (Ev.bind s2 (Ev.bind hq (Ev.pos rfl (Ev.pos rfl (Ev.bind tk (Ev.bind (eq_entries X a1 a2) (Ev.pos rfl (Ev.bind tj (Ev.bind (eq_entries Y b1 b2) (Ev.pos rfl (Ev.bind hm (Ev.bind hm2 (Ev.pos (by show ¬ q < 0; omega) (Ev.bind hq (Ev.pos rfl (Ev.pos rfl (Ev.bind hk (Ev.bind hh (Ev.pos (by omega) (Ev.pos rfl (Ev.bind tk (Ev.bind tj (Ev.bind s2 (Ev.bind hq (Ev.pos rfl (Ev.pos rfl (Ev.bind hh (Ev.pos (by omega) (Ev.pos rfl (Ev.now _))))))))))))))))))))))))))))))))))

end Go.Proofs.Ytpfddgchlllkpaa.Pure
