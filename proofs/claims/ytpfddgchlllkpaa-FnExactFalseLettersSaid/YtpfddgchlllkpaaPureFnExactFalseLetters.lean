import Derived.Test.YtpfddgchlllkpaaXFnExactFalseLettersx3
import Derived.Test.YtpfddgchlllkpaaXLibFalseLetters
namespace Go.Proofs.Ytpfddgchlllkpaa.Pure
open Go.RowKit Go.Proofs.Ytpfddgchlllkpaa.XFnExactFalseLetters Go.Proofs.YtpfddgchlllkpaaW.PrintWords Go.Proofs.YtpfddgchlllkpaaW.PrintLast Go.Proofs.YtpfddgchlllkpaaW.PrintMore Go.Proofs.Ytpfddgchlllkpaa.X
set_option linter.unusedVariables false
set_option linter.unusedSimpArgs false

def runeFin (n x : Int) : Int × Int := if n = 3 ∧ (x < 2048 ∨ (55296 ≤ x ∧ x ≤ 57343)) ∨ n = 4 ∧ ¬ (65536 ≤ x ∧ x ≤ 1114111) then (65533, 1) else (x, n)
theorem in_rune (a b c : Int) : spec_l1In.f a b c = some (decide (b ≤ a ∧ a ≤ c)) := by
  unfold spec_l1In.f
  split
  · congr 1
    apply decide_eq_decide.2
    omega
  · rw [decide_eq_false (by omega)]
theorem rune_end (t : ByteArray) (n x i : Int) (h : ¬ i < n) : Ev (fun k => spec_l18Rune.l0 k t n x i) (runeFin n x) := by
  refine Ev.step (fun k => spec_l18Rune.l0.eq_2 _ _ _ _ k) (Ev.neg h ?_)
  simp only [in_rune, Option.bind_some, decide_eq_true_eq]
  unfold runeFin
  refine Ev.ite (fun h3 => ?_) (fun h3 => ?_)
  · refine Ev.ite (fun h4 => ?_) (fun h4 => Ev.ite (fun h5 => ?_) (fun h5 => Ev.neg (by omega) ?_))
    · rw [if_pos (by omega)]
      exact Ev.now _
    · rw [if_pos (by omega)]
      exact Ev.now _
    · rw [if_neg (by omega)]
      exact Ev.now _
  · refine Ev.ite (fun h4 => Ev.ite (fun h5 => ?_) (fun h5 => ?_)) (fun h4 => ?_)
    · rw [if_neg (by omega)]
      exact Ev.now _
    · rw [if_pos (by omega)]
      exact Ev.now _
    · rw [if_neg (by omega)]
      exact Ev.now _
def runeBad (b : Int) : Prop := b < 128 ∨ b > 191
instance (b : Int) : Decidable (runeBad b) := inferInstanceAs (Decidable (_ ∨ _))
theorem rune_step (t : ByteArray) (n x i b : Int) (h : i < n) (h0 : 0 ≤ i) (h1 : i < (t.size : Int)) (hb : bt t i = b) (hx : 0 ≤ x ∧ x < 1000000) (hn : n ≤ 4) {r : Int × Int} (k : ¬ runeBad b → Ev (fun k => spec_l18Rune.l0 k t n (x * 64 + b - 128) (i + 1)) r) :
    Ev (fun k => spec_l18Rune.l0 k t n x i) (if runeBad b then (65533, 1) else r) := by
  have hr := X.bt_range t i
  rw [hb] at hr
  refine Ev.step (fun k => spec_l18Rune.l0.eq_2 _ _ _ _ k) (Ev.pos h (Ev.pos h0 (Ev.pos h1 ?_)))
  simp only [hb]
  rw [w64 (n := b) (by omega) (by omega), w64 (n := x * 64) (by omega) (by omega), w64 (n := x * 64 + b) (by omega) (by omega), w64 (n := x * 64 + b - 128) (by omega) (by omega), w64 (n := i + 1) (by omega) (by omega)]
  refine Ev.ite (fun h => ?_) (fun h => Ev.ite (fun h => ?_) (fun h => ?_))
  · rw [if_pos (show runeBad b from Or.inl h)]
    exact Ev.now _
  · rw [if_pos (show runeBad b from Or.inr h)]
    exact Ev.now _
  · have hbad : ¬ runeBad b := fun e => e.elim (by omega) (by omega)
    rw [if_neg hbad]
    exact k hbad
theorem rune_j2 (t : ByteArray) (n x : Int) (hn : n ≠ 0) {r : Int × Int} (h : ¬ (t.size : Int) < n → Ev (fun k => spec_l18Rune.l0 k t n x 1) r) :
    Ev (fun k => spec_l18Rune.j2 k t n x) (if (t.size : Int) < n then (65533, 1) else r) := by
  refine Ev.step (fun k => spec_l18Rune.j2.eq_2 _ _ _ k) (Ev.neg hn (Ev.step (fun k => spec_l18Rune.j3.eq_2 _ _ _ _ k) ?_))
  refine Ev.ite (fun h1 => ?_) (fun h1 => ?_)
  · rw [if_pos (by simpa using h1)]
    exact Ev.now _
  · have h2 : ¬ (t.size : Int) < n := by simpa using h1
    rw [if_neg h2]
    exact h h2
theorem rune_none (t : ByteArray) (x : Int) : Ev (fun k => spec_l18Rune.j2 k t 0 x) (65533, 1) :=
  Ev.step (fun k => spec_l18Rune.j2.eq_2 _ _ _ k) (Ev.pos rfl (Ev.step (fun k => spec_l18Rune.j3.eq_2 _ _ _ _ k) (Ev.pos rfl (Ev.now _))))
def runeOf (m a b c d : Int) : Int × Int :=
  if a < 128 then (a, 1)
  else if 194 ≤ a ∧ a ≤ 223 then (if m < 2 then (65533, 1) else if runeBad b then (65533, 1) else ((a - 192) * 64 + b - 128, 2))
  else if 224 ≤ a ∧ a ≤ 239 then (if m < 3 then (65533, 1) else if runeBad b then (65533, 1) else if runeBad c then (65533, 1) else runeFin 3 (((a - 224) * 64 + b - 128) * 64 + c - 128))
  else if 240 ≤ a ∧ a ≤ 244 then (if m < 4 then (65533, 1) else if runeBad b then (65533, 1) else if runeBad c then (65533, 1) else if runeBad d then (65533, 1) else runeFin 4 ((((a - 240) * 64 + b - 128) * 64 + c - 128) * 64 + d - 128))
  else (65533, 1)
theorem rune_spec (t : ByteArray) (a b c d : Int) (hm : 0 < t.size) (h0 : bt t 0 = a) (h1 : 1 < t.size → bt t 1 = b) (h2 : 2 < t.size → bt t 2 = c) (h3 : 3 < t.size → bt t 3 = d) :
    Ev (fun k => spec_l18Rune.f k t) (runeOf (t.size : Int) a b c d) := by
  have r0 := X.bt_range t 0
  have r1 := X.bt_range t 1
  have r2 := X.bt_range t 2
  have r3 := X.bt_range t 3
  rw [h0] at r0
  unfold spec_l18Rune.f runeOf
  refine Ev.pos (by omega) ?_
  rw [h0, w64 (n := a) (by omega) (by omega)]
  refine Ev.ite (fun c1 => ?_) (fun c1 => ?_)
  · rw [if_pos c1]
    exact Ev.now _
  rw [if_neg c1]
  have bad : ∀ z : Int, ¬ runeBad z → 128 ≤ z ∧ z ≤ 191 := fun z hz => by
    have h := not_or.1 hz
    omega
  have two : 194 ≤ a ∧ a ≤ 223 → Ev (fun k => spec_l18Rune.j2 k t 2 (a - 192)) (if (t.size : Int) < 2 then (65533, 1) else if runeBad b then (65533, 1) else ((a - 192) * 64 + b - 128, 2)) := fun hc =>
    rune_j2 t 2 (a - 192) (by omega) (fun hm2 => rune_step t 2 (a - 192) 1 b (by omega) (by omega) (by omega) (h1 (by omega)) (by omega) (by omega) (fun _ => rune_end t 2 _ _ (by omega)))
  have three : 224 ≤ a ∧ a ≤ 239 → Ev (fun k => spec_l18Rune.j2 k t 3 (a - 224)) (if (t.size : Int) < 3 then (65533, 1) else if runeBad b then (65533, 1) else if runeBad c then (65533, 1) else runeFin 3 (((a - 224) * 64 + b - 128) * 64 + c - 128)) := fun hc =>
    rune_j2 t 3 (a - 224) (by omega) (fun hm2 => rune_step t 3 (a - 224) 1 b (by omega) (by omega) (by omega) (h1 (by omega)) (by omega) (by omega) (fun hb => rune_step t 3 _ 2 c (by omega) (by omega) (by omega) (h2 (by omega)) (by have := bad _ hb; omega) (by omega) (fun _ => rune_end t 3 _ _ (by omega))))
  have four : 240 ≤ a ∧ a ≤ 244 → Ev (fun k => spec_l18Rune.j2 k t 4 (a - 240)) (if (t.size : Int) < 4 then (65533, 1) else if runeBad b then (65533, 1) else if runeBad c then (65533, 1) else if runeBad d then (65533, 1) else runeFin 4 ((((a - 240) * 64 + b - 128) * 64 + c - 128) * 64 + d - 128)) := fun hc =>
    rune_j2 t 4 (a - 240) (by omega) (fun hm2 => rune_step t 4 (a - 240) 1 b (by omega) (by omega) (by omega) (h1 (by omega)) (by omega) (by omega) (fun hb => rune_step t 4 _ 2 c (by omega) (by omega) (by omega) (h2 (by omega)) (by have := bad _ hb; omega) (by omega) (fun hc2 => rune_step t 4 _ 3 d (by omega) (by omega) (by omega) (h3 (by omega)) (by have := bad _ hb; have := bad _ hc2; omega) (by omega) (fun _ => rune_end t 4 _ _ (by omega)))))
  have rest : ¬ (194 ≤ a ∧ a ≤ 223) → ∀ b_ : Bool, b_ = false → Ev (fun k => spec_l18Rune.j0 k t a 0 0 b_) (if 224 ≤ a ∧ a ≤ 239 then (if (t.size : Int) < 3 then (65533, 1) else if runeBad b then (65533, 1) else if runeBad c then (65533, 1) else runeFin 3 (((a - 224) * 64 + b - 128) * 64 + c - 128)) else if 240 ≤ a ∧ a ≤ 244 then (if (t.size : Int) < 4 then (65533, 1) else if runeBad b then (65533, 1) else if runeBad c then (65533, 1) else if runeBad d then (65533, 1) else runeFin 4 ((((a - 240) * 64 + b - 128) * 64 + c - 128) * 64 + d - 128)) else (65533, 1)) := fun hc b_ hb => by
    subst hb
    refine Ev.step (fun k => spec_l18Rune.j0.eq_2 _ _ _ _ _ k) (Ev.neg (by decide) ?_)
    by_cases q : 224 ≤ a
    · refine Ev.pos q ?_
      by_cases q2 : a ≤ 239
      · rw [decide_eq_true q2, if_pos ⟨q, q2⟩]
        refine Ev.step (fun k => spec_l18Rune.j1.eq_2 _ _ _ _ _ k) (Ev.pos rfl ?_)
        rw [w64 (n := a) (by omega) (by omega), w64 (n := a - 224) (by omega) (by omega)]
        exact three ⟨q, q2⟩
      · rw [decide_eq_false q2, if_neg (by omega)]
        refine Ev.step (fun k => spec_l18Rune.j1.eq_2 _ _ _ _ _ k) (Ev.neg (by decide) ?_)
        rw [w64 (n := a) (by omega) (by omega), w64 (n := a - 240) (by omega) (by omega)]
        by_cases q3 : a ≤ 244
        · rw [if_pos (by omega)]
          exact Ev.pos (by omega) (Ev.pos q3 (four (by omega)))
        · rw [if_neg (by omega)]
          exact Ev.pos (by omega) (Ev.neg q3 (rune_none t _))
    · rw [if_neg (by omega), if_neg (by omega)]
      refine Ev.neg q (Ev.step (fun k => spec_l18Rune.j1.eq_2 _ _ _ _ _ k) (Ev.neg (by decide) (Ev.neg (by omega) (rune_none t _))))
  by_cases q : 194 ≤ a
  · refine Ev.pos q ?_
    by_cases q2 : a ≤ 223
    · rw [decide_eq_true q2, if_pos ⟨q, q2⟩]
      refine Ev.step (fun k => spec_l18Rune.j0.eq_2 _ _ _ _ _ k) (Ev.pos rfl ?_)
      rw [w64 (n := a) (by omega) (by omega), w64 (n := a - 192) (by omega) (by omega)]
      exact two ⟨q, q2⟩
    · rw [if_neg (by omega)]
      exact rest (by omega) _ (decide_eq_false q2)
  · rw [if_neg (by omega)]
    exact Ev.neg q (rest (by omega) _ rfl)
def cast2 (r : Nat × Nat) : Int × Int := ((r.1 : Int), (r.2 : Int))
set_option maxHeartbeats 4000000 in
theorem rune_decode (s : ByteArray) (p : Nat) (a b c d : Nat) (hp : p < s.size) (h0 : (s.get! (p + 0)).toNat = a) (h1 : (s.get! (p + 1)).toNat = b) (h2 : (s.get! (p + 2)).toNat = c) (h3 : (s.get! (p + 3)).toNat = d) (ha : a < 256) (hb : b < 256) (hc : c < 256) (hd : d < 256) :
    cast2 (Utf8.decode s p) = runeOf ((s.size : Int) - (p : Int)) a b c d := by
  have b1 : runeBad (b : Int) ↔ ¬ b / 64 = 2 := ⟨fun h => h.elim (by omega) (by omega), fun h => by
    by_cases q : (b : Int) < 128
    · exact Or.inl q
    · exact Or.inr (by omega)⟩
  have b2 : runeBad (c : Int) ↔ ¬ c / 64 = 2 := ⟨fun h => h.elim (by omega) (by omega), fun h => by
    by_cases q : (c : Int) < 128
    · exact Or.inl q
    · exact Or.inr (by omega)⟩
  have b3 : runeBad (d : Int) ↔ ¬ d / 64 = 2 := ⟨fun h => h.elim (by omega) (by omega), fun h => by
    by_cases q : (d : Int) < 128
    · exact Or.inl q
    · exact Or.inr (by omega)⟩
  unfold Utf8.decode runeOf runeFin Utf8.valid Utf8.runeError
  simp only [h0, h1, h2, h3, b1, b2, b3]
  by_cases q1 : a < 128
  · rw [if_pos q1, if_pos (show (a : Int) < 128 by omega)]
    rfl
  rw [if_neg q1, if_neg (show ¬ (a : Int) < 128 by omega)]
  simp only [Bool.and_eq_true, Bool.or_eq_true, decide_eq_true_eq, beq_iff_eq]
  clear h0 h1 h2 h3 b1 b2 b3
  repeat' split
  all_goals first | (exfalso; omega) | (simp only [cast2, Prod.mk.injEq]; omega) | (simp only [cast2, Prod.mk.injEq, Int.reduceEq, true_and, false_and, or_false, false_or, Decidable.not_not] at *; omega)
theorem rune_ev (s : ByteArray) (p : Nat) (hp : p < s.size) : Ev (fun k => spec_l18Rune.f k (s.extract p s.size)) (((Utf8.decode s p).1 : Int), ((Utf8.decode s p).2 : Int)) := by
  have hm : (s.extract p s.size).size = s.size - p := by simp
  have hg : ∀ k, p + k < s.size → bt (s.extract p s.size) ((k : Nat) : Int) = ((s.get! (p + k)).toNat : Int) := fun k hk => by
    rw [bt_get (by omega)]
    have e : s.get! (p + k) = s[p + k] := by
      show s.data[p + k]! = _
      rw [getElem!_pos s.data (p + k) hk]
      rfl
    rw [e]
    congr 2
    simp [ByteArray.getElem_extract]
  have h := rune_spec (s.extract p s.size) (((s.get! (p + 0)).toNat : Nat) : Int) (((s.get! (p + 1)).toNat : Nat) : Int) (((s.get! (p + 2)).toNat : Nat) : Int) (((s.get! (p + 3)).toNat : Nat) : Int) (by omega) (hg 0 (by omega)) (fun h => hg 1 (by omega)) (fun h => hg 2 (by omega)) (fun h => hg 3 (by omega))
  show Ev _ (cast2 (Utf8.decode s p))
  rw [rune_decode s p _ _ _ _ hp rfl rfl rfl rfl (UInt8.toNat_lt _) (UInt8.toNat_lt _) (UInt8.toNat_lt _) (UInt8.toNat_lt _)]
  rw [hm] at h
  rw [show ((s.size : Int) - (p : Int)) = ((s.size - p : Nat) : Int) by omega]
  exact h
theorem decode_step (s : ByteArray) (p : Nat) : 1 ≤ (Utf8.decode s p).2 ∧ (Utf8.decode s p).2 ≤ 4 := by
  unfold Utf8.decode
  simp only
  repeat' split
  all_goals (simp only; omega)
theorem runes_loop (s : ByteArray) (hs : s.size ≤ 1000000) : ∀ (n p : Nat) (o : List Int), s.size ≤ p + n → p ≤ s.size + 4 → o.length ≤ p → Ev (fun k => spec_RunesOf.l0 k s o (p : Int)) (o ++ impl_runesOf.runes s n p, true)
  | n, p, o, h, hle, hl => by
    by_cases hp : p < s.size
    · obtain ⟨m, rfl⟩ : ∃ m, n = m + 1 := ⟨n - 1, by omega⟩
      obtain ⟨g1, g4⟩ := decode_step s p
      rw [impl_runesOf.runes, if_pos hp]
      refine Ev.step (fun k => spec_RunesOf.l0.eq_2 _ _ _ k) (Ev.pos (by omega) (Ev.pos (by omega) (Ev.pos (by omega) ?_)))
      rw [Int.toNat_natCast]
      refine Ev.bind (rune_ev s p hp) (Ev.pos (by omega) ?_)
      have ih := runes_loop s hs m (p + (Utf8.decode s p).2) (o ++ [((Utf8.decode s p).1 : Int)]) (by omega) (by omega) (by rw [List.length_append, List.length_singleton]; omega)
      rw [List.append_assoc] at ih
      rw [w64 (by simp only; omega) (by simp only; omega)]
      exact ih
    · have e : impl_runesOf.runes s n p = [] := by
        cases n with
        | zero => rfl
        | succ n => rw [impl_runesOf.runes, if_neg hp]
      rw [e, List.append_nil]
      exact Ev.step (fun k => spec_RunesOf.l0.eq_2 _ _ _ k) (Ev.neg (by omega) (Ev.now _))
theorem runes_len (s : ByteArray) : ∀ (n p : Nat), (impl_runesOf.runes s n p).length ≤ n
  | 0, p => Nat.le_refl _
  | n + 1, p => by
    rw [impl_runesOf.runes]
    split
    · rw [List.length_cons]
      have := runes_len s n (p + (Utf8.decode s p).2)
      omega
    · simp
open spec_FalseLetters in
theorem end_facts (X : List Int) : ∀ (n e : Nat), e + n = X.length → e ≤ endAt X n e ∧ endAt X n e ≤ X.length ∧ (endAt X n e < X.length → X.getD (endAt X n e) 0 = 125) ∧ (∀ j, e ≤ j → j < endAt X n e → X.getD j 0 ≠ 125)
  | 0, e, h => by
    rw [endAt]
    exact ⟨Nat.le_refl _, by omega, fun q => by omega, fun j h1 h2 => by omega⟩
  | n + 1, e, h => by
    rw [endAt]
    split
    · rename_i q
      exact ⟨Nat.le_refl _, by omega, fun _ => q, fun j h1 h2 => by omega⟩
    · rename_i q
      obtain ⟨h1, h2, h3, h4⟩ := end_facts X n (e + 1) (by omega)
      refine ⟨by omega, h2, h3, fun j a b => ?_⟩
      by_cases hj : j = e
      · rw [hj]
        exact q
      · exact h4 j (by omega) b
theorem get_ext (s : ByteArray) (p q i : Nat) (hq : q ≤ s.size) (hi : i < q - p) : (s.extract p q)[i]! = s[p + i]! := by
  rw [getElem!_pos _ i (by simp; omega), getElem!_pos s (p + i) (by omega)]
  simp [ByteArray.getElem_extract]
theorem byte_at (s : ByteArray) (j : Nat) (h : j < s.size) : (bytesOf s).getD j 0 = (s[j]!.toNat : Int) := by
  have e := rd_bytesOf s (j : Int)
  rw [bt_get h] at e
  rw [getElem!_pos s j h]
  exact e
open spec_FalseLetters in
theorem first_idx (s : ByteArray) (p : Nat) (hp : p < s.size) : firstIdx (s.extract p s.size) ((125 : Int).toNat.toUInt8) = if endAt (bytesOf s) (s.size - p) p < s.size then ((endAt (bytesOf s) (s.size - p) p : Nat) : Int) - (p : Int) else -1 := by
  have hl : (bytesOf s).length = s.size := bytesOf_length s
  obtain ⟨h1, h2, h3, h4⟩ := end_facts (bytesOf s) (s.size - p) p (by omega)
  rw [hl] at h2 h3
  generalize endAt (bytesOf s) (s.size - p) p = e at h1 h2 h3 h4 ⊢
  have hm : (s.extract p s.size).size = s.size - p := by simp
  unfold firstIdx
  rw [hm]
  have key : ∀ i, i < s.size - p → (((s.extract p s.size)[i]! == (125 : Int).toNat.toUInt8) = true ↔ (bytesOf s).getD (p + i) 0 = 125) := fun i hi => by
    rw [get_ext s p s.size i (Nat.le_refl _) hi, byte_at s (p + i) (by omega)]
    have e2 : (125 : Int).toNat.toUInt8 = (125 : UInt8) := by decide
    rw [e2, beq_iff_eq, ← UInt8.toNat_inj]
    have e3 : (125 : UInt8).toNat = 125 := rfl
    rw [e3]
    omega
  by_cases he : e < s.size
  · rw [if_pos he]
    have hf : (List.range (s.size - p)).find? (fun i => (s.extract p s.size)[i]! == (125 : Int).toNat.toUInt8) = some (e - p) := by
      rw [List.find?_range_eq_some]
      refine ⟨(key _ (by omega)).2 (by rw [show p + (e - p) = e by omega]; exact h3 he), List.mem_range.2 (by omega), fun j hj => ?_⟩
      have h5 := h4 (p + j) (by omega) (by omega)
      cases hb : ((s.extract p s.size)[j]! == (125 : Int).toNat.toUInt8) with
      | false => rfl
      | true => exact absurd ((key j (by omega)).1 hb) h5
    rw [hf]
    show ((e - p : Nat) : Int) = _
    omega
  · rw [if_neg he]
    have hf : (List.range (s.size - p)).find? (fun i => (s.extract p s.size)[i]! == (125 : Int).toNat.toUInt8) = none := by
      rw [List.find?_eq_none]
      intro j hj hb
      have hj := List.mem_range.1 hj
      exact h4 (p + j) (by omega) (by omega) ((key j hj).1 hb)
    rw [hf]
open spec_FalseLetters in
theorem turned (c : Int) (h0 : 0 ≤ c) (h1 : c ≤ 255) : Ev (fun k => impl_turnedLetter.f k c) (turn c) := by
  unfold impl_turnedLetter.f turn
  have low : ∀ b : Bool, b = false → ¬ (97 ≤ c ∧ c ≤ 122) → Ev (fun k => impl_turnedLetter.j0 k c b) (if 97 ≤ c ∧ c ≤ 122 then 97 + (c - 97 + 13) % 26 else if 65 ≤ c ∧ c ≤ 90 then 65 + (c - 65 + 13) % 26 else c) := fun b hb hn => by
    subst hb
    rw [if_neg hn]
    refine Ev.step (fun k => impl_turnedLetter.j0.eq_2 _ _ k) (Ev.neg (by decide) ?_)
    refine Ev.ite (fun q => Ev.ite (fun q2 => ?_) (fun q2 => ?_)) (fun q => ?_)
    · rw [if_pos ⟨q, q2⟩, show (c - 65) % 256 = c - 65 by omega, show (c - 65 + 13) % 256 = c - 65 + 13 by omega]
      exact Ev.now _
    · rw [if_neg (fun z => q2 z.2)]
      exact Ev.now _
    · rw [if_neg (fun z => q z.1)]
      exact Ev.now _
  refine Ev.ite (fun q => ?_) (fun q => low false rfl (fun z => q z.1))
  by_cases q2 : c ≤ 122
  · rw [decide_eq_true q2, if_pos ⟨q, q2⟩]
    refine Ev.step (fun k => impl_turnedLetter.j0.eq_2 _ _ k) (Ev.pos rfl ?_)
    rw [show (c - 97) % 256 = c - 97 by omega, show (c - 97 + 13) % 256 = c - 97 + 13 by omega]
    exact Ev.now _
  · exact low _ (decide_eq_false q2) (fun z => q2 z.2)
theorem cut_bytes (s : ByteArray) (p q : Nat) : bytesOf (s.extract p q) = ((bytesOf s).drop p).take (q - p) := by
  unfold bytesOf
  rw [← List.map_drop, ← List.map_take]
  congr 1
  simp [ByteArray.data_extract, List.extract_eq_take_drop]
theorem byte_range (s : ByteArray) (j : Nat) : 0 ≤ (bytesOf s).getD j 0 ∧ (bytesOf s).getD j 0 ≤ 255 := by
  have h := X.bt_range s (j : Int)
  rw [← rd_bytesOf] at h
  exact h
open spec_FalseLetters in
theorem impl_loop (s : ByteArray) (hs : s.size ≤ 200) : ∀ (n p : Nat) (o : List Int), s.size ≤ p + n → p ≤ s.size → o.length ≤ p + 1 → Ev (fun k => impl_FalseLetters.l0 k s o (p : Int)) (strOfNums (o ++ out (bytesOf s) n p ++ [93]), true)
  | n, p, o, h, hle, hl => by
    have hX : (bytesOf s).length = s.size := bytesOf_length s
    by_cases hp : p < s.size
    · obtain ⟨m, rfl⟩ : ∃ m, n = m + 1 := ⟨n - 1, by omega⟩
      obtain ⟨f1, f2, f3, f4⟩ := end_facts (bytesOf s) (s.size - p) p (by omega)
      have fi := first_idx s p hp
      have hc : bt s (p : Int) = (bytesOf s).getD p 0 := (rd_bytesOf s (p : Int)).symm
      obtain ⟨c0, c1⟩ := byte_range s p
      rw [out, if_pos (by omega), hX]
      rw [hX] at f2 f3
      refine Ev.step (fun k => impl_FalseLetters.l0.eq_2 _ _ _ k) (Ev.pos (by omega) (Ev.pos (by omega) ?_))
      simp only [hc, Int.toNat_natCast]
      have other : Ev (fun k => (impl_turnedLetter.f k ((bytesOf s).getD p 0)).bind fun t => if o.length < 140737488355328 then impl_FalseLetters.l0 k s (o ++ [t]) (wrap64 ((p : Int) + 1)) else none) (strOfNums (o ++ (turn ((bytesOf s).getD p 0) :: out (bytesOf s) m (p + 1)) ++ [93]), true) := by
        refine Ev.bind (turned _ c0 c1) (Ev.pos (by omega) ?_)
        have ih := impl_loop s hs m (p + 1) (o ++ [turn ((bytesOf s).getD p 0)]) (by omega) (by omega) (by rw [List.length_append, List.length_singleton]; omega)
        rw [w64 (n := (p : Int) + 1) (by omega) (by omega)]
        rw [List.append_assoc o] at ih
        exact ih
      refine Ev.ite (fun h123 => ?_) (fun h123 => ?_)
      · refine Ev.pos (by omega) ?_
        unfold strings_IndexByte.f stringslite_IndexByte.f
        simp only [Option.bind_some, fi]
        generalize hE : endAt (bytesOf s) (s.size - p) p = e at f1 f2 f3 f4 ⊢
        by_cases he : e < s.size
        · have hpe : p < e := by
            rcases Nat.lt_or_ge p e with q | q
            · exact q
            · have q1 : e = p := by omega
              have q2 := f3 he
              rw [q1, h123] at q2
              omega
          rw [if_pos he, if_pos ⟨h123, he⟩]
          refine Ev.pos (by omega) ?_
          rw [w64 (n := (p : Int) + ((e : Int) - (p : Int))) (by omega) (by omega), w64 (n := (p : Int) + ((e : Int) - (p : Int)) + 1) (by omega) (by omega), w64 (n := (e : Int) - (p : Int) + 1) (by omega) (by omega), w64 (n := (p : Int) + ((e : Int) - (p : Int) + 1)) (by omega) (by omega)]
          rw [show (p : Int) + ((e : Int) - (p : Int)) + 1 = ((e + 1 : Nat) : Int) by omega, show (p : Int) + ((e : Int) - (p : Int) + 1) = ((e + 1 : Nat) : Int) by omega, Int.toNat_natCast]
          have hsz : (s.extract p (e + 1)).size = e + 1 - p := by simp; omega
          refine Ev.pos (by omega) (Ev.pos (by omega) (Ev.pos (by rw [hsz]; omega) ?_))
          have ih := impl_loop s hs m (e + 1) (o ++ bytesOf (s.extract p (e + 1))) (by omega) (by omega) (by rw [List.length_append, bytesOf_length, hsz]; omega)
          rw [cut_bytes, List.append_assoc o] at ih
          rw [cut_bytes]
          exact ih
        · rw [if_neg he, if_neg (fun q => he q.2)]
          exact Ev.neg (by omega) other
      · rw [if_neg (fun q => h123 q.1)]
        exact other
    · have e : out (bytesOf s) n p = [] := by
        cases n with
        | zero => rfl
        | succ n => rw [out, if_neg (by omega)]
      rw [e, List.append_nil]
      exact Ev.step (fun k => impl_FalseLetters.l0.eq_2 _ _ _ k) (Ev.neg (by omega) (Ev.pos (by omega) (Ev.now _)))
theorem idx_loop (R : List Int) (c : Int) (hR : R.length ≤ 1000000) : ∀ (n i : Nat), i + n = R.length → Yes (fun r => decide (r ≥ 0) = (R.drop i).any fun z => decide (z = c)) (fun k => slices_Index_int_int.l0 k R c (R.length : Int) (i : Int))
  | 0, i, h => by
    refine Yes.step (fun k => slices_Index_int_int.l0.eq_2 _ _ _ _ k) (Yes.neg (by omega) (Yes.now _ ?_))
    rw [List.drop_of_length_le (by omega)]
    rfl
  | n + 1, i, h => by
    have hi : i < R.length := by omega
    refine Yes.step (fun k => slices_Index_int_int.l0.eq_2 _ _ _ _ k) (Yes.pos (by omega) (Yes.pos (by omega) (Yes.pos (by omega) ?_)))
    rw [rd_get hi, List.drop_eq_getElem_cons hi, List.any_cons]
    refine Yes.ite (fun q => Yes.now _ ?_) (fun q => ?_)
    · rw [decide_eq_true q.symm, Bool.true_or]
      exact decide_eq_true (by omega)
    · rw [decide_eq_false (fun e => q e.symm), Bool.false_or, w_succ (by omega)]
      exact idx_loop R c hR n (i + 1) (by omega)
theorem has_ev (R : List Int) (c : Int) (hR : R.length ≤ 1000000) : Ev (fun k => slices_Contains_int_int.f k R c) (R.any fun z => decide (z = c)) := by
  obtain ⟨r, q, e⟩ := idx_loop R c hR R.length 0 (by omega)
  rw [List.drop_zero] at q
  rw [← q]
  exact Ev.bind e (Ev.now _)
theorem wrap_text (xs : List Int) : (⟨#[91]⟩ : ByteArray) ++ strOfNums xs ++ ⟨#[93]⟩ = strOfNums ([91] ++ xs ++ [93]) := by
  apply ByteArray.ext
  simp [strOfNums, ByteArray.data_append]
theorem FnExactFalseLetters : laws_FnExactFalseLetters.Pure := by
  intro s _
  refine Ev.rounds (r := true) ?_
  unfold laws_FnExactFalseLetters.f
  refine Ev.ite (fun _ => Ev.now _) (fun hL => ?_)
  suffices h : ∃ r, Ev (fun k => spec_FalseLetters.f k s) r ∧ Ev (fun k => impl_FalseLetters.f k s) r by
    obtain ⟨r, h1, h2⟩ := h
    exact Ev.bind h1 (Ev.bind h2 (Ev.pos rfl (Ev.pos rfl (Ev.now _))))
  unfold spec_FalseLetters.f impl_FalseLetters.f
  by_cases h : s.size > 200
  · refine ⟨(⟨#[]⟩, false), Ev.pos h (Ev.now _), Ev.pos (by omega) ?_⟩
    exact Ev.step (fun k => impl_FalseLetters.j0.eq_2 _ _ k) (Ev.pos rfl (Ev.now _))
  · have hr : Ev (fun k => spec_RunesOf.f k s) (impl_runesOf.runes s s.size 0, true) := by
      unfold spec_RunesOf.f
      exact Ev.neg (by omega) (runes_loop s (by omega) s.size 0 [] (by omega) (by omega) (by simp))
    have hi : impl_runesOf.f s = some (impl_runesOf.runes s s.size 0) := by
      unfold impl_runesOf.f
      exact if_pos (by omega)
    have hl := runes_len s s.size 0
    have hh := has_ev (impl_runesOf.runes s s.size 0) 65533 (by omega)
    cases hb : (impl_runesOf.runes s s.size 0).any fun z => decide (z = 65533) with
    | true =>
      rw [hb] at hh
      refine ⟨(⟨#[]⟩, false), Ev.neg h (Ev.bind hr (Ev.pos hb (Ev.now _))), Ev.neg (by omega) (Ev.const_bind hi (Ev.bind hh ?_))⟩
      exact Ev.step (fun k => impl_FalseLetters.j0.eq_2 _ _ k) (Ev.pos rfl (Ev.now _))
    | false =>
      rw [hb] at hh
      refine ⟨_, Ev.neg h (Ev.bind hr (Ev.neg (by simp only [hb]; decide) (Ev.now _))), Ev.neg (by omega) (Ev.const_bind hi (Ev.bind hh ?_))⟩
      rw [wrap_text]
      exact Ev.step (fun k => impl_FalseLetters.j0.eq_2 _ _ k) (Ev.neg (by decide) (impl_loop s (by omega) s.size 0 [91] (by omega) (by omega) (by simp)))

end Go.Proofs.Ytpfddgchlllkpaa.Pure
