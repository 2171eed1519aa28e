import Derived.Test.YtpfddgchlllkpaaXFnExactRunesOfx2
import Derived.Test.YtpfddgchlllkpaaXLibRunesOf
namespace Go.Proofs.Ytpfddgchlllkpaa.Pure
open Go.RowKit Go.Proofs.Ytpfddgchlllkpaa.XFnExactRunesOf Go.Proofs.YtpfddgchlllkpaaW.PrintWords Go.Proofs.YtpfddgchlllkpaaW.PrintLast Go.Proofs.YtpfddgchlllkpaaW.PrintMore Go.Proofs.Ytpfddgchlllkpaa.X
set_option linter.unusedVariables false
set_option linter.unusedSimpArgs false

theorem eq_ints (l : List Int) (hl : (l.length : Int) ≤ 1048576) : Ev (fun k => laws_eqIntS.f k l l) true :=
  eqInt_ev laws_eqIntS.l0 (fun k x y i => laws_eqIntS.l0.eq_2 x y i k) l (by rw [maxLen_eq]; omega)
theorem mark_ints (l : List Int) (hl : (l.length : Int) ≤ 4611686018427387000) : Ev (fun k => laws_markIntS.f k l 1) (1 + (l.length : Int), marks l.length 1) :=
  markInt_ev laws_markIntS.l0 (fun k x c i => laws_markIntS.l0.eq_2 x c i k) 1 (by omega) l (by omega)
theorem held_ints (n : Nat) (hn : (n : Int) ≤ 4611686018427387000) : Ev (fun k => laws_heldIntS.f k (marks n 1) 1) (1 + (n : Int)) :=
  heldInt_ev laws_heldIntS.l0 (fun k x c i => laws_heldIntS.l0.eq_2 x c i k) n 1 (by omega) (by omega)
def runeFin (n x : Int) : Int × Int := if n = 3 ∧ (x < 2048 ∨ (55296 ≤ x ∧ x ≤ 57343)) ∨ n = 4 ∧ ¬ (65536 ≤ x ∧ x ≤ 1114111) then (65533, 1) else (x, n)
theorem in_rune (a b c : Int) : spec_l1In.f a b c = some (decide (b ≤ a ∧ a ≤ c)) := by
  unfold spec_l1In.f
  split
  · congr 1
    apply decide_eq_decide.2
    omega
  · rw [decide_eq_false (by omega)]
theorem rune_end (t : ByteArray) (n x i : Int) (h : ¬ i < n) : Ev (fun k => spec_l18Rune.l0 k t n x i) (runeFin n x) := by
  refine Ev.step (fun k => spec_l18Rune.l0.eq_2 _ _ _ _ k) (Ev.neg h ?_)
  simp only [in_rune, Option.bind_some, decide_eq_true_eq]
  unfold runeFin
  refine Ev.ite (fun h3 => ?_) (fun h3 => ?_)
  · refine Ev.ite (fun h4 => ?_) (fun h4 => Ev.ite (fun h5 => ?_) (fun h5 => Ev.neg (by omega) ?_))
    · rw [if_pos (by omega)]
      exact Ev.now _
    · rw [if_pos (by omega)]
      exact Ev.now _
    · rw [if_neg (by omega)]
      exact Ev.now _
  · refine Ev.ite (fun h4 => Ev.ite (fun h5 => ?_) (fun h5 => ?_)) (fun h4 => ?_)
    · rw [if_neg (by omega)]
      exact Ev.now _
    · rw [if_pos (by omega)]
      exact Ev.now _
    · rw [if_neg (by omega)]
      exact Ev.now _
def runeBad (b : Int) : Prop := b < 128 ∨ b > 191
instance (b : Int) : Decidable (runeBad b) := inferInstanceAs (Decidable (_ ∨ _))
theorem rune_step (t : ByteArray) (n x i b : Int) (h : i < n) (h0 : 0 ≤ i) (h1 : i < (t.size : Int)) (hb : bt t i = b) (hx : 0 ≤ x ∧ x < 1000000) (hn : n ≤ 4) {r : Int × Int} (k : ¬ runeBad b → Ev (fun k => spec_l18Rune.l0 k t n (x * 64 + b - 128) (i + 1)) r) :
    Ev (fun k => spec_l18Rune.l0 k t n x i) (if runeBad b then (65533, 1) else r) := by
  have hr := X.bt_range t i
  rw [hb] at hr
  refine Ev.step (fun k => spec_l18Rune.l0.eq_2 _ _ _ _ k) (Ev.pos h (Ev.pos h0 (Ev.pos h1 ?_)))
  simp only [hb]
  rw [w64 (n := b) (by omega) (by omega), w64 (n := x * 64) (by omega) (by omega), w64 (n := x * 64 + b) (by omega) (by omega), w64 (n := x * 64 + b - 128) (by omega) (by omega), w64 (n := i + 1) (by omega) (by omega)]
  refine Ev.ite (fun h => ?_) (fun h => Ev.ite (fun h => ?_) (fun h => ?_))
  · rw [if_pos (show runeBad b from Or.inl h)]
    exact Ev.now _
  · rw [if_pos (show runeBad b from Or.inr h)]
    exact Ev.now _
  · have hbad : ¬ runeBad b := fun e => e.elim (by omega) (by omega)
    rw [if_neg hbad]
    exact k hbad
theorem rune_j2 (t : ByteArray) (n x : Int) (hn : n ≠ 0) {r : Int × Int} (h : ¬ (t.size : Int) < n → Ev (fun k => spec_l18Rune.l0 k t n x 1) r) :
    Ev (fun k => spec_l18Rune.j2 k t n x) (if (t.size : Int) < n then (65533, 1) else r) := by
  refine Ev.step (fun k => spec_l18Rune.j2.eq_2 _ _ _ k) (Ev.neg hn (Ev.step (fun k => spec_l18Rune.j3.eq_2 _ _ _ _ k) ?_))
  refine Ev.ite (fun h1 => ?_) (fun h1 => ?_)
  · rw [if_pos (by simpa using h1)]
    exact Ev.now _
  · have h2 : ¬ (t.size : Int) < n := by simpa using h1
    rw [if_neg h2]
    exact h h2
theorem rune_none (t : ByteArray) (x : Int) : Ev (fun k => spec_l18Rune.j2 k t 0 x) (65533, 1) :=
  Ev.step (fun k => spec_l18Rune.j2.eq_2 _ _ _ k) (Ev.pos rfl (Ev.step (fun k => spec_l18Rune.j3.eq_2 _ _ _ _ k) (Ev.pos rfl (Ev.now _))))
def runeOf (m a b c d : Int) : Int × Int :=
  if a < 128 then (a, 1)
  else if 194 ≤ a ∧ a ≤ 223 then (if m < 2 then (65533, 1) else if runeBad b then (65533, 1) else ((a - 192) * 64 + b - 128, 2))
  else if 224 ≤ a ∧ a ≤ 239 then (if m < 3 then (65533, 1) else if runeBad b then (65533, 1) else if runeBad c then (65533, 1) else runeFin 3 (((a - 224) * 64 + b - 128) * 64 + c - 128))
  else if 240 ≤ a ∧ a ≤ 244 then (if m < 4 then (65533, 1) else if runeBad b then (65533, 1) else if runeBad c then (65533, 1) else if runeBad d then (65533, 1) else runeFin 4 ((((a - 240) * 64 + b - 128) * 64 + c - 128) * 64 + d - 128))
  else (65533, 1)
theorem rune_spec (t : ByteArray) (a b c d : Int) (hm : 0 < t.size) (h0 : bt t 0 = a) (h1 : 1 < t.size → bt t 1 = b) (h2 : 2 < t.size → bt t 2 = c) (h3 : 3 < t.size → bt t 3 = d) :
    Ev (fun k => spec_l18Rune.f k t) (runeOf (t.size : Int) a b c d) := by
  have r0 := X.bt_range t 0
  have r1 := X.bt_range t 1
  have r2 := X.bt_range t 2
  have r3 := X.bt_range t 3
  rw [h0] at r0
  unfold spec_l18Rune.f runeOf
  refine Ev.pos (by omega) ?_
  rw [h0, w64 (n := a) (by omega) (by omega)]
  refine Ev.ite (fun c1 => ?_) (fun c1 => ?_)
  · rw [if_pos c1]
    exact Ev.now _
  rw [if_neg c1]
  have bad : ∀ z : Int, ¬ runeBad z → 128 ≤ z ∧ z ≤ 191 := fun z hz => by
    have h := not_or.1 hz
    omega
  have two : 194 ≤ a ∧ a ≤ 223 → Ev (fun k => spec_l18Rune.j2 k t 2 (a - 192)) (if (t.size : Int) < 2 then (65533, 1) else if runeBad b then (65533, 1) else ((a - 192) * 64 + b - 128, 2)) := fun hc =>
    rune_j2 t 2 (a - 192) (by omega) (fun hm2 => rune_step t 2 (a - 192) 1 b (by omega) (by omega) (by omega) (h1 (by omega)) (by omega) (by omega) (fun _ => rune_end t 2 _ _ (by omega)))
  have three : 224 ≤ a ∧ a ≤ 239 → Ev (fun k => spec_l18Rune.j2 k t 3 (a - 224)) (if (t.size : Int) < 3 then (65533, 1) else if runeBad b then (65533, 1) else if runeBad c then (65533, 1) else runeFin 3 (((a - 224) * 64 + b - 128) * 64 + c - 128)) := fun hc =>
    rune_j2 t 3 (a - 224) (by omega) (fun hm2 => rune_step t 3 (a - 224) 1 b (by omega) (by omega) (by omega) (h1 (by omega)) (by omega) (by omega) (fun hb => rune_step t 3 _ 2 c (by omega) (by omega) (by omega) (h2 (by omega)) (by have := bad _ hb; omega) (by omega) (fun _ => rune_end t 3 _ _ (by omega))))
  have four : 240 ≤ a ∧ a ≤ 244 → Ev (fun k => spec_l18Rune.j2 k t 4 (a - 240)) (if (t.size : Int) < 4 then (65533, 1) else if runeBad b then (65533, 1) else if runeBad c then (65533, 1) else if runeBad d then (65533, 1) else runeFin 4 ((((a - 240) * 64 + b - 128) * 64 + c - 128) * 64 + d - 128)) := fun hc =>
    rune_j2 t 4 (a - 240) (by omega) (fun hm2 => rune_step t 4 (a - 240) 1 b (by omega) (by omega) (by omega) (h1 (by omega)) (by omega) (by omega) (fun hb => rune_step t 4 _ 2 c (by omega) (by omega) (by omega) (h2 (by omega)) (by have := bad _ hb; omega) (by omega) (fun hc2 => rune_step t 4 _ 3 d (by omega) (by omega) (by omega) (h3 (by omega)) (by have := bad _ hb; have := bad _ hc2; omega) (by omega) (fun _ => rune_end t 4 _ _ (by omega)))))
  have rest : ¬ (194 ≤ a ∧ a ≤ 223) → ∀ b_ : Bool, b_ = false → Ev (fun k => spec_l18Rune.j0 k t a 0 0 b_) (if 224 ≤ a ∧ a ≤ 239 then (if (t.size : Int) < 3 then (65533, 1) else if runeBad b then (65533, 1) else if runeBad c then (65533, 1) else runeFin 3 (((a - 224) * 64 + b - 128) * 64 + c - 128)) else if 240 ≤ a ∧ a ≤ 244 then (if (t.size : Int) < 4 then (65533, 1) else if runeBad b then (65533, 1) else if runeBad c then (65533, 1) else if runeBad d then (65533, 1) else runeFin 4 ((((a - 240) * 64 + b - 128) * 64 + c - 128) * 64 + d - 128)) else (65533, 1)) := fun hc b_ hb => by
    subst hb
    refine Ev.step (fun k => spec_l18Rune.j0.eq_2 _ _ _ _ _ k) (Ev.neg (by decide) ?_)
    by_cases q : 224 ≤ a
    · refine Ev.pos q ?_
      by_cases q2 : a ≤ 239
      · rw [decide_eq_true q2, if_pos ⟨q, q2⟩]
        refine Ev.step (fun k => spec_l18Rune.j1.eq_2 _ _ _ _ _ k) (Ev.pos rfl ?_)
        rw [w64 (n := a) (by omega) (by omega), w64 (n := a - 224) (by omega) (by omega)]
        exact three ⟨q, q2⟩
      · rw [decide_eq_false q2, if_neg (by omega)]
        refine Ev.step (fun k => spec_l18Rune.j1.eq_2 _ _ _ _ _ k) (Ev.neg (by decide) ?_)
        rw [w64 (n := a) (by omega) (by omega), w64 (n := a - 240) (by omega) (by omega)]
        by_cases q3 : a ≤ 244
        · rw [if_pos (by omega)]
          exact Ev.pos (by omega) (Ev.pos q3 (four (by omega)))
        · rw [if_neg (by omega)]
          exact Ev.pos (by omega) (Ev.neg q3 (rune_none t _))
    · rw [if_neg (by omega), if_neg (by omega)]
      refine Ev.neg q (Ev.step (fun k => spec_l18Rune.j1.eq_2 _ _ _ _ _ k) (Ev.neg (by decide) (Ev.neg (by omega) (rune_none t _))))
  by_cases q : 194 ≤ a
  · refine Ev.pos q ?_
    by_cases q2 : a ≤ 223
    · rw [decide_eq_true q2, if_pos ⟨q, q2⟩]
      refine Ev.step (fun k => spec_l18Rune.j0.eq_2 _ _ _ _ _ k) (Ev.pos rfl ?_)
      rw [w64 (n := a) (by omega) (by omega), w64 (n := a - 192) (by omega) (by omega)]
      exact two ⟨q, q2⟩
    · rw [if_neg (by omega)]
      exact rest (by omega) _ (decide_eq_false q2)
  · rw [if_neg (by omega)]
    exact Ev.neg q (rest (by omega) _ rfl)
def cast2 (r : Nat × Nat) : Int × Int := ((r.1 : Int), (r.2 : Int))
set_option maxHeartbeats 4000000 in
theorem rune_decode (s : ByteArray) (p : Nat) (a b c d : Nat) (hp : p < s.size) (h0 : (s.get! (p + 0)).toNat = a) (h1 : (s.get! (p + 1)).toNat = b) (h2 : (s.get! (p + 2)).toNat = c) (h3 : (s.get! (p + 3)).toNat = d) (ha : a < 256) (hb : b < 256) (hc : c < 256) (hd : d < 256) :
    cast2 (Utf8.decode s p) = runeOf ((s.size : Int) - (p : Int)) a b c d := by
  have b1 : runeBad (b : Int) ↔ ¬ b / 64 = 2 := ⟨fun h => h.elim (by omega) (by omega), fun h => by
    by_cases q : (b : Int) < 128
    · exact Or.inl q
    · exact Or.inr (by omega)⟩
  have b2 : runeBad (c : Int) ↔ ¬ c / 64 = 2 := ⟨fun h => h.elim (by omega) (by omega), fun h => by
    by_cases q : (c : Int) < 128
    · exact Or.inl q
    · exact Or.inr (by omega)⟩
  have b3 : runeBad (d : Int) ↔ ¬ d / 64 = 2 := ⟨fun h => h.elim (by omega) (by omega), fun h => by
    by_cases q : (d : Int) < 128
    · exact Or.inl q
    · exact Or.inr (by omega)⟩
  unfold Utf8.decode runeOf runeFin Utf8.valid Utf8.runeError
  simp only [h0, h1, h2, h3, b1, b2, b3]
  by_cases q1 : a < 128
  · rw [if_pos q1, if_pos (show (a : Int) < 128 by omega)]
    rfl
  rw [if_neg q1, if_neg (show ¬ (a : Int) < 128 by omega)]
  simp only [Bool.and_eq_true, Bool.or_eq_true, decide_eq_true_eq, beq_iff_eq]
  clear h0 h1 h2 h3 b1 b2 b3
  repeat' split
  all_goals first | (exfalso; omega) | (simp only [cast2, Prod.mk.injEq]; omega) | (simp only [cast2, Prod.mk.injEq, Int.reduceEq, true_and, false_and, or_false, false_or, Decidable.not_not] at *; omega)
theorem rune_ev (s : ByteArray) (p : Nat) (hp : p < s.size) : Ev (fun k => spec_l18Rune.f k (s.extract p s.size)) (((Utf8.decode s p).1 : Int), ((Utf8.decode s p).2 : Int)) := by
  have hm : (s.extract p s.size).size = s.size - p := by simp
  have hg : ∀ k, p + k < s.size → bt (s.extract p s.size) ((k : Nat) : Int) = ((s.get! (p + k)).toNat : Int) := fun k hk => by
    rw [bt_get (by omega)]
    have e : s.get! (p + k) = s[p + k] := by
      show s.data[p + k]! = _
      rw [getElem!_pos s.data (p + k) hk]
      rfl
    rw [e]
    congr 2
    simp [ByteArray.getElem_extract]
  have h := rune_spec (s.extract p s.size) (((s.get! (p + 0)).toNat : Nat) : Int) (((s.get! (p + 1)).toNat : Nat) : Int) (((s.get! (p + 2)).toNat : Nat) : Int) (((s.get! (p + 3)).toNat : Nat) : Int) (by omega) (hg 0 (by omega)) (fun h => hg 1 (by omega)) (fun h => hg 2 (by omega)) (fun h => hg 3 (by omega))
  show Ev _ (cast2 (Utf8.decode s p))
  rw [rune_decode s p _ _ _ _ hp rfl rfl rfl rfl (UInt8.toNat_lt _) (UInt8.toNat_lt _) (UInt8.toNat_lt _) (UInt8.toNat_lt _)]
  rw [hm] at h
  rw [show ((s.size : Int) - (p : Int)) = ((s.size - p : Nat) : Int) by omega]
  exact h
theorem decode_step (s : ByteArray) (p : Nat) : 1 ≤ (Utf8.decode s p).2 ∧ (Utf8.decode s p).2 ≤ 4 := by
  unfold Utf8.decode
  simp only
  repeat' split
  all_goals (simp only; omega)
theorem runes_loop (s : ByteArray) (hs : s.size ≤ 1000000) : ∀ (n p : Nat) (o : List Int), s.size ≤ p + n → p ≤ s.size + 4 → o.length ≤ p → Ev (fun k => spec_RunesOf.l0 k s o (p : Int)) (o ++ impl_runesOf.runes s n p, true)
  | n, p, o, h, hle, hl => by
    by_cases hp : p < s.size
    · obtain ⟨m, rfl⟩ : ∃ m, n = m + 1 := ⟨n - 1, by omega⟩
      obtain ⟨g1, g4⟩ := decode_step s p
      rw [impl_runesOf.runes, if_pos hp]
      refine Ev.step (fun k => spec_RunesOf.l0.eq_2 _ _ _ k) (Ev.pos (by omega) (Ev.pos (by omega) (Ev.pos (by omega) ?_)))
      rw [Int.toNat_natCast]
      refine Ev.bind (rune_ev s p hp) (Ev.pos (by omega) ?_)
      have ih := runes_loop s hs m (p + (Utf8.decode s p).2) (o ++ [((Utf8.decode s p).1 : Int)]) (by omega) (by omega) (by rw [List.length_append, List.length_singleton]; omega)
      rw [List.append_assoc] at ih
      rw [w64 (by simp only; omega) (by simp only; omega)]
      exact ih
    · have e : impl_runesOf.runes s n p = [] := by
        cases n with
        | zero => rfl
        | succ n => rw [impl_runesOf.runes, if_neg hp]
      rw [e, List.append_nil]
      exact Ev.step (fun k => spec_RunesOf.l0.eq_2 _ _ _ k) (Ev.neg (by omega) (Ev.now _))
theorem runes_len (s : ByteArray) : ∀ (n p : Nat), (impl_runesOf.runes s n p).length ≤ n
  | 0, p => Nat.le_refl _
  | n + 1, p => by
    rw [impl_runesOf.runes]
    split
    · rw [List.length_cons]
      have := runes_len s n (p + (Utf8.decode s p).2)
      omega
    · simp
theorem rest (s : ByteArray) (r : List Int) (b : Bool) (hr : (r.length : Int) ≤ 1048576) (h1 : Ev (fun k => spec_RunesOf.f k s) (r, b)) (h2 : impl_RunesOf.f s = some (r, b)) :
    Ev (fun k => (spec_RunesOf.f k s).bind fun t1 => (impl_RunesOf.f s).bind fun t3 => (laws_eqIntS.f k t3.1 t1.1).bind fun t5 => if t5 = true then (if t3.2 = t1.2 then ((laws_markIntS.f k t3.1 1).bind fun t6 => (laws_heldIntS.f k t6.2 1).bind fun t7 => if ¬ (t7 < 0) then (if t7 = t6.1 then ((impl_RunesOf.f s).bind fun t8 => (laws_eqIntS.f k t8.1 t1.1).bind fun t10 => if t10 = true then (if t8.2 = t1.2 then ((laws_heldIntS.f k t6.2 1).bind fun t11 => if ¬ (t11 < 0) then (if t11 = t6.1 then (some true) else none) else none) else none) else none) else none) else none) else none) else none) true := by
  have he := eq_ints r hr
  have hm := mark_ints r (by omega)
  have hh := held_ints r.length (by omega)
  exact Ev.bind h1 (Ev.const_bind h2 (Ev.bind he (Ev.pos rfl (Ev.pos rfl (Ev.bind hm (Ev.bind hh (Ev.pos (by omega) (Ev.pos rfl (Ev.const_bind h2 (Ev.bind he (Ev.pos rfl (Ev.pos rfl (Ev.bind hh (Ev.pos (by omega) (Ev.pos rfl (Ev.now _))))))))))))))))
theorem FnExactRunesOf : laws_FnExactRunesOf.Pure := by
  intro s _
  refine Ev.rounds (r := true) ?_
  unfold laws_FnExactRunesOf.f
  refine Ev.ite (fun _ => Ev.now _) (fun hL => ?_)
  by_cases h : (s.size : Int) > 400
  · have h1 : Ev (fun k => spec_RunesOf.f k s) ([], false) := by
      unfold spec_RunesOf.f
      exact Ev.pos h (Ev.now _)
    have h2 : impl_RunesOf.f s = some ([], false) := by
      unfold impl_RunesOf.f
      exact if_pos h
    exact rest s [] false (by simp) h1 h2
  · have h1 : Ev (fun k => spec_RunesOf.f k s) (impl_runesOf.runes s s.size 0, true) := by
      unfold spec_RunesOf.f
      exact Ev.neg h (runes_loop s (by omega) s.size 0 [] (by omega) (by omega) (by simp))
    have h2 : impl_RunesOf.f s = some (impl_runesOf.runes s s.size 0, true) := by
      unfold impl_RunesOf.f impl_runesOf.f
      rw [if_neg h, if_pos (by omega)]
      rfl
    have hl := runes_len s s.size 0
    exact rest s _ true (by omega) h1 h2

end Go.Proofs.Ytpfddgchlllkpaa.Pure
