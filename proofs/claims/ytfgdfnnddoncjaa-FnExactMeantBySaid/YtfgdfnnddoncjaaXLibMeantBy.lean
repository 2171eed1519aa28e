/- Small lemmas for the pure statements: rounds, whole numbers that do not wrap, and the loops that every law has (equal, marked, held, copied). -/
import Derived.Test.YtfgdfnnddoncjaaXWords
namespace Go.Proofs.YtfgdfnnddoncjaaW.PrintWords
/-! ### from some round on -/
section
variable {α β : Type} {g f f' : Nat → Option α} {r r' : α}
theorem Ev.mk (h : ∀ k, g k = some r) : Ev g r := ⟨0, fun k _ => h k⟩
theorem Ev.pos {c : Prop} [Decidable c] (h : c) (k : Ev f r) : Ev (fun n => if c then f n else f' n) r := Ev.congr (fun _ => if_pos h) k
theorem Ev.neg {c : Prop} [Decidable c] (h : ¬ c) (k : Ev f' r) : Ev (fun n => if c then f n else f' n) r := Ev.congr (fun _ => if_neg h) k
theorem Ev.ite {c : Prop} [Decidable c] (h : c → Ev f r) (h' : ¬ c → Ev f' r) : Ev (fun n => if c then f n else f' n) r := by
  by_cases hc : c
  · exact Ev.pos hc (h hc)
  · exact Ev.neg hc (h' hc)
theorem Ev.cast (h : Ev g r) (e : r = r') : Ev g r' := e ▸ h
theorem Ev.some_bind {h : Nat → α → Option β} {a : α} {r : β} (k : Ev (fun n => h n a) r) : Ev (fun n => (some a).bind (h n)) r := k
theorem Ev.const_bind {o : Option α} {h : Nat → α → Option β} {a : α} {r : β} (e : o = some a) (k : Ev (fun n => h n a) r) : Ev (fun n => o.bind (h n)) r := by
  subst e; exact k
end
theorem Ev.and {f : Nat → Option Bool} {r b : Bool} (h : b = true → Ev f r) : Ev (fun k => if b = true then f k else some false) (b && r) := by
  cases b with
  | true => exact Ev.pos rfl (h rfl)
  | false => exact Ev.neg (by decide) (Ev.now _)
theorem Ev.andn {f : Nat → Option Bool} {r b : Bool} (h : b = false → Ev f r) : Ev (fun k => if b = true then some false else f k) (!b && r) := by
  cases b with
  | true => exact Ev.pos rfl (Ev.now _)
  | false => exact Ev.neg (by decide) (h rfl)
/-- Two that come to one and the same answer, of which Q holds. -/
def Both {α : Type} (Q : α → Prop) (f g : Nat → Option α) : Prop := ∃ r, Q r ∧ Ev f r ∧ Ev g r
section
variable {α β : Type} {Q : α → Prop} {f g f' g' : Nat → Option α}
theorem Both.now (r : α) (h : Q r) : Both Q (fun _ => some r) (fun _ => some r) := ⟨r, h, Ev.now r, Ev.now r⟩
theorem Both.ite {c : Prop} [Decidable c] (h : c → Both Q f g) (h' : ¬ c → Both Q f' g') : Both Q (fun k => if c then f k else f' k) (fun k => if c then g k else g' k) := by
  by_cases hc : c
  · obtain ⟨r, q, h1, h2⟩ := h hc; exact ⟨r, q, Ev.pos hc h1, Ev.pos hc h2⟩
  · obtain ⟨r, q, h1, h2⟩ := h' hc; exact ⟨r, q, Ev.neg hc h1, Ev.neg hc h2⟩
theorem Both.pos {c d : Prop} [Decidable c] [Decidable d] (hc : c) (hd : d) (h : Both Q f g) : Both Q (fun k => if c then f k else f' k) (fun k => if d then g k else g' k) := by
  obtain ⟨r, q, h1, h2⟩ := h; exact ⟨r, q, Ev.pos hc h1, Ev.pos hd h2⟩
theorem Both.neg {c d : Prop} [Decidable c] [Decidable d] (hc : ¬ c) (hd : ¬ d) (h : Both Q f' g') : Both Q (fun k => if c then f k else f' k) (fun k => if d then g k else g' k) := by
  obtain ⟨r, q, h1, h2⟩ := h; exact ⟨r, q, Ev.neg hc h1, Ev.neg hd h2⟩
theorem Both.step (h : ∀ k, f (k + 1) = f' k) (h' : ∀ k, g (k + 1) = g' k) (b : Both Q f' g') : Both Q f g := by
  obtain ⟨r, q, h1, h2⟩ := b; exact ⟨r, q, Ev.step h h1, Ev.step h' h2⟩
theorem Both.bind {P : β → Prop} {u v : Nat → Option β} {F G : Nat → β → Option α} (h : Both P u v) (k : ∀ b, P b → Both Q (fun n => F n b) (fun n => G n b)) : Both Q (fun n => (u n).bind (F n)) (fun n => (v n).bind (G n)) := by
  obtain ⟨b, p, h1, h2⟩ := h
  obtain ⟨r, q, k1, k2⟩ := k b p
  exact ⟨r, q, Ev.bind h1 k1, Ev.bind h2 k2⟩
theorem Both.cbind {u v : Option β} {b c : β} {F G : Nat → β → Option α} (e1 : u = some b) (e2 : v = some c) (k : Both Q (fun n => F n b) (fun n => G n c)) : Both Q (fun n => u.bind (F n)) (fun n => v.bind (G n)) := by
  obtain ⟨r, q, k1, k2⟩ := k
  exact ⟨r, q, Ev.const_bind e1 k1, Ev.const_bind e2 k2⟩
end
/-- One that comes to an answer of which Q holds. -/
def Yes {α : Type} (Q : α → Prop) (f : Nat → Option α) : Prop := ∃ r, Q r ∧ Ev f r
section
variable {α β : Type} {Q : α → Prop} {f f' : Nat → Option α}
theorem Yes.now (r : α) (h : Q r) : Yes Q (fun _ => some r) := ⟨r, h, Ev.now r⟩
theorem Yes.step (h : ∀ k, f (k + 1) = f' k) (b : Yes Q f') : Yes Q f := by
  obtain ⟨r, q, e⟩ := b; exact ⟨r, q, Ev.step h e⟩
theorem Yes.pos {c : Prop} [Decidable c] (hc : c) (b : Yes Q f) : Yes Q (fun k => if c then f k else f' k) := by
  obtain ⟨r, q, e⟩ := b; exact ⟨r, q, Ev.pos hc e⟩
theorem Yes.neg {c : Prop} [Decidable c] (hc : ¬ c) (b : Yes Q f') : Yes Q (fun k => if c then f k else f' k) := by
  obtain ⟨r, q, e⟩ := b; exact ⟨r, q, Ev.neg hc e⟩
theorem Yes.ite {c : Prop} [Decidable c] (h : c → Yes Q f) (h' : ¬ c → Yes Q f') : Yes Q (fun k => if c then f k else f' k) := by
  by_cases hc : c
  · exact Yes.pos hc (h hc)
  · exact Yes.neg hc (h' hc)
theorem Yes.bind {u : Nat → Option β} {b : β} {F : Nat → β → Option α} (h : Ev u b) (k : Yes Q (fun n => F n b)) : Yes Q (fun n => (u n).bind (F n)) := by
  obtain ⟨r, q, e⟩ := k; exact ⟨r, q, Ev.bind h e⟩
theorem Yes.cbind {u : Option β} {b : β} {F : Nat → β → Option α} (h : u = some b) (k : Yes Q (fun n => F n b)) : Yes Q (fun n => u.bind (F n)) := by
  obtain ⟨r, q, e⟩ := k; exact ⟨r, q, Ev.const_bind h e⟩
end
end Go.Proofs.YtfgdfnnddoncjaaW.PrintWords
namespace Go.Proofs.Ytfgdfnnddoncjaa.X
open Go.RowKit Go.Proofs.YtfgdfnnddoncjaaW.PrintWords

theorem w64 {n : Int} (h0 : -9223372036854775808 ≤ n) (h1 : n ≤ 9223372036854775807) : wrap64 n = n := by
  unfold wrap64
  omega
theorem w_succ {i : Nat} (h : i < 9223372036854775807) : wrap64 ((i : Int) + 1) = ((i + 1 : Nat) : Int) := by
  rw [w64 (by omega) (by omega)]
  omega
theorem w_pred {i : Nat} (h : i ≤ 9223372036854775807) : wrap64 ((i : Int) - 1) = (i : Int) - 1 := w64 (by omega) (by omega)
theorem maxLen_eq : maxLen = 9223372036854775807 := rfl
/-- What is left of the room. -/
def roomLeft (n : Nat) (a : Int) : Int := if (n : Int) ≤ a then a - n else -1
theorem roomLeft_ok {n : Nat} {a : Int} (h : ¬ roomLeft n a < 0) : (n : Int) ≤ a ∧ roomLeft n a = a - n := by
  unfold roomLeft at h ⊢
  by_cases hc : (n : Int) ≤ a
  · rw [if_pos hc]; exact ⟨hc, rfl⟩
  · rw [if_neg hc] at h; omega
theorem sz_left {n : Nat} {a : Int} (h0 : 0 ≤ a) (h1 : a ≤ 1048576) (hn : n ≤ maxLen) : (if wrap64 (a - (n : Int)) < 0 then some (-1) else some (wrap64 (a - (n : Int)))) = some (roomLeft n a) := by
  rw [maxLen_eq] at hn
  rw [w64 (by omega) (by omega)]
  unfold roomLeft
  by_cases hc : (n : Int) ≤ a
  · rw [if_neg (by omega), if_pos hc]
  · rw [if_pos (by omega), if_neg hc]
theorem room_again (n : Nat) (a : Int) : (if roomLeft n a < 0 then some (-1) else some (roomLeft n a)) = some (roomLeft n a) := by
  by_cases h : roomLeft n a < 0
  · rw [if_pos h]
    unfold roomLeft at h ⊢
    by_cases hc : (n : Int) ≤ a
    · rw [if_pos hc] at h; omega
    · rw [if_neg hc]
  · rw [if_neg h]
/-! ### lists by whole numbers -/
theorem rd_get {xs : List Int} {i : Nat} (h : i < xs.length) : rd xs (i : Int) = xs[i] := by
  unfold rd
  rw [Int.toNat_natCast, List.getD_eq_getElem?_getD, List.getElem?_eq_getElem h]
  rfl
theorem rdOf_get {α : Type} {d : α} {xs : List α} {i : Nat} (h : i < xs.length) : rdOf d xs (i : Int) = xs[i] := by
  unfold rdOf
  rw [Int.toNat_natCast, List.getD_eq_getElem?_getD, List.getElem?_eq_getElem h]
  rfl
theorem getD_get {α : Type} {d : α} {xs : List α} {i : Nat} (h : i < xs.length) : xs.getD (i : Int).toNat d = xs[i] := rdOf_get (d := d) h
/-! ### equal lists are told as equal; what was marked is held -/
theorem eqS_loop {α β : Type} [DecidableEq β] (e : α → β) (d : α) (F : Nat → List α → List α → Int → Option Bool)
    (hF : ∀ k x y i, F (k + 1) x y i = if i < (x.length : Int) then (if 0 ≤ i then (if i < (y.length : Int) then (if e (rdOf d x i) = e (rdOf d y i) then F k x y (wrap64 (i + 1)) else some false) else none) else none) else some true)
    (xs : List α) (hl : xs.length ≤ maxLen) : ∀ m i : Nat, i + m = xs.length → Ev (fun k => F k xs xs (i : Int)) true := by
  rw [maxLen_eq] at hl
  intro m
  induction m with
  | zero =>
    intro i hi
    refine Ev.step (fun k => hF k _ _ _) (Ev.neg (by omega) (Ev.now _))
  | succ m ih =>
    intro i hi
    refine Ev.step (fun k => hF k _ _ _) (Ev.pos (by omega) (Ev.pos (by omega) (Ev.pos (by omega) (Ev.pos rfl ?_))))
    rw [w64 (by omega) (by omega)]
    exact ih (i + 1) (by omega)
theorem eqS_ev {α β : Type} [DecidableEq β] (e : α → β) (d : α) (F : Nat → List α → List α → Int → Option Bool)
    (hF : ∀ k x y i, F (k + 1) x y i = if i < (x.length : Int) then (if 0 ≤ i then (if i < (y.length : Int) then (if e (rdOf d x i) = e (rdOf d y i) then F k x y (wrap64 (i + 1)) else some false) else none) else none) else some true)
    (xs : List α) (hl : xs.length ≤ maxLen) : Ev (fun k => if (xs.length : Int) = (xs.length : Int) then F k xs xs 0 else some false) true :=
  Ev.pos rfl (eqS_loop e d F hF xs hl xs.length 0 (by omega))
/-- The list of k, k + 1, .. -/
def marks : Nat → Int → List Int
  | 0, _ => []
  | n + 1, k => k :: marks n (k + 1)
/-- A loop that writes every element: 'put k' is what is written by the mark k. -/
theorem mark_loop {α : Type} (T : Nat → Int → Option α) (put : Int → α) (F : Nat → List α → Int → Int → Option (Int × List α))
    (hF : ∀ k x c i, F (k + 1) x c i = if i < (x.length : Int) then ((T k c).bind fun t => if 0 ≤ i then F k (x.set (i : Int).toNat t) (wrap64 (c + 1)) (wrap64 (i + 1)) else none) else some (c, x))
    (hT : ∀ c, 1 ≤ c → c ≤ 4611686018427387904 → Ev (fun k => T k c) (put c)) (c0 : Int) (h0 : 1 ≤ c0) :
    ∀ (m i : Nat) (xs : List α), i + m = xs.length → c0 + xs.length ≤ 4611686018427387904 →
      Ev (fun k => F k xs (c0 + i) (i : Int)) (c0 + xs.length, xs.take i ++ (marks m (c0 + i)).map put) := by
  intro m
  induction m with
  | zero =>
    intro i xs hi hb
    refine Ev.step (fun k => hF k _ _ _) (Ev.neg (by omega) ((Ev.now _).cast ?_))
    have : i = xs.length := by omega
    subst this
    simp [marks]
  | succ m ih =>
    intro i xs hi hb
    refine Ev.step (fun k => hF k _ _ _) (Ev.pos (by omega) (Ev.bind (hT (c0 + i) (by omega) (by omega)) (Ev.pos (by omega) ?_)))
    rw [w64 (n := (i : Int) + 1) (by omega) (by omega), w64 (n := c0 + i + 1) (by omega) (by omega), Int.toNat_natCast]
    have h := ih (i + 1) (xs.set i (put (c0 + i))) (by simp; omega) (by simp; omega)
    rw [List.length_set] at h
    refine Ev.cast (by rw [show c0 + (i : Int) + 1 = c0 + ((i + 1 : Nat) : Int) from by omega]; exact h) ?_
    rw [List.take_succ_eq_append_getElem (by simp; omega), List.getElem_set_self, List.take_set_of_le (by omega), marks, List.map_cons, List.append_assoc, List.singleton_append]
    rw [show c0 + (i : Int) + 1 = c0 + ((i + 1 : Nat) : Int) from by omega]
/-- The text of a mark. -/
theorem markText_loop (F : Nat → Int → ByteArray → Option ByteArray)
    (hF : ∀ k x s, F (k + 1) x s = if x > 0 then ((some (([(wrap64 (48 + (Int.tmod x 10))) % 256] : List Int) : List Int)).bind fun y => (if (strOfNums y).size + s.size ≤ 9223372036854775807 then (F k (wrap64 (Int.tdiv x 10)) ((strOfNums y) ++ s)) else (none))) else (if 1 + s.size ≤ 9223372036854775807 then (some ((⟨#[109]⟩ : ByteArray) ++ s)) else (none))) :
    ∀ (n : Nat) (x : Int) (s : ByteArray), x.toNat ≤ n → 0 ≤ x → x + s.size ≤ 4611686018427387904 → ∃ r, Ev (fun k => F k x s) r := by
  intro n
  induction n with
  | zero =>
    intro x s hn h0 hs
    exact ⟨_, Ev.step (fun k => hF k _ _) (Ev.neg (by omega) (Ev.pos (by omega) (Ev.now _)))⟩
  | succ n ih =>
    intro x s hn h0 hs
    by_cases hx : x > 0
    · have hd : Int.tdiv x 10 = x / 10 := Int.tdiv_eq_ediv_of_nonneg h0
      have hz : ∀ v : Int, (strOfNums [v]).size = 1 := fun v => by rw [strOfNums_size]; rfl
      obtain ⟨r, hr⟩ := ih (x / 10) (strOfNums [(wrap64 (48 + (Int.tmod x 10))) % 256] ++ s) (by omega) (by omega) (by rw [ByteArray.size_append, hz]; omega)
      refine ⟨r, Ev.step (fun k => hF k _ _) (Ev.pos hx (Ev.some_bind (Ev.pos (by rw [hz]; omega) ?_)))⟩
      rw [hd, w64 (by omega) (by omega)]
      exact hr
    · exact ⟨_, Ev.step (fun k => hF k _ _) (Ev.neg hx (Ev.pos (by omega) (Ev.now _)))⟩
theorem markText_ev (F : Nat → Int → ByteArray → Option ByteArray)
    (hF : ∀ k x s, F (k + 1) x s = if x > 0 then ((some (([(wrap64 (48 + (Int.tmod x 10))) % 256] : List Int) : List Int)).bind fun y => (if (strOfNums y).size + s.size ≤ 9223372036854775807 then (F k (wrap64 (Int.tdiv x 10)) ((strOfNums y) ++ s)) else (none))) else (if 1 + s.size ≤ 9223372036854775807 then (some ((⟨#[109]⟩ : ByteArray) ++ s)) else (none))) :
    ∃ put : Int → ByteArray, ∀ c, 1 ≤ c → c ≤ 4611686018427387904 → Ev (fun k => if c ≤ 0 then (some (⟨#[109, 48]⟩ : ByteArray)) else (F k c (⟨#[]⟩ : ByteArray))) (put c) := by
  have h : ∀ c : Int, ∃ r, 1 ≤ c → c ≤ 4611686018427387904 → Ev (fun k => if c ≤ 0 then (some (⟨#[109, 48]⟩ : ByteArray)) else (F k c (⟨#[]⟩ : ByteArray))) r := by
    intro c
    by_cases hc : 1 ≤ c ∧ c ≤ 4611686018427387904
    · obtain ⟨r, hr⟩ := markText_loop F hF c.toNat c ⟨#[]⟩ (Nat.le_refl _) (by omega) (by show c + (0 : Nat) ≤ _; omega)
      exact ⟨r, fun _ _ => Ev.neg (by omega) hr⟩
    · exact ⟨⟨#[]⟩, fun h1 h2 => absurd ⟨h1, h2⟩ hc⟩
  exact ⟨fun c => (h c).choose, fun c => (h c).choose_spec⟩
theorem mark_ev {α : Type} (T : Nat → Int → Option α) (put : Int → α) (F : Nat → List α → Int → Int → Option (Int × List α))
    (hF : ∀ k x c i, F (k + 1) x c i = if i < (x.length : Int) then ((T k c).bind fun t => if 0 ≤ i then F k (x.set (i : Int).toNat t) (wrap64 (c + 1)) (wrap64 (i + 1)) else none) else some (c, x))
    (hT : ∀ c, 1 ≤ c → c ≤ 4611686018427387904 → Ev (fun k => T k c) (put c)) (c0 : Int) (h0 : 1 ≤ c0) (xs : List α) (hb : c0 + xs.length ≤ 4611686018427387904) :
    Ev (fun k => F k xs c0 0) (c0 + xs.length, (marks xs.length c0).map put) := by
  have h := mark_loop T put F hF hT c0 h0 xs.length 0 xs (by omega) hb
  simpa using h
/-- The same for whole numbers, whose mark is the number itself. -/
theorem markInt_ev (F : Nat → List Int → Int → Int → Option (Int × List Int))
    (hF : ∀ k x c i, F (k + 1) x c i = if i < (x.length : Int) then (if 0 ≤ i then F k (x.set (i : Int).toNat c) (wrap64 (c + 1)) (wrap64 (i + 1)) else none) else some (c, x))
    (c0 : Int) (h0 : 1 ≤ c0) (xs : List Int) (hb : c0 + xs.length ≤ 4611686018427387904) :
    Ev (fun k => F k xs c0 0) (c0 + xs.length, marks xs.length c0) := by
  have h := mark_ev (fun _ c => some c) id F hF (fun c _ _ => Ev.now c) c0 h0 xs hb
  rwa [List.map_id] at h
theorem eqInt_ev (F : Nat → List Int → List Int → Int → Option Bool)
    (hF : ∀ k x y i, F (k + 1) x y i = if i < (x.length : Int) then (if 0 ≤ i then (if i < (y.length : Int) then (if rd x i = rd y i then F k x y (wrap64 (i + 1)) else some false) else none) else none) else some true)
    (xs : List Int) (hl : xs.length ≤ maxLen) : Ev (fun k => if (xs.length : Int) = (xs.length : Int) then F k xs xs 0 else some false) true :=
  eqS_ev (id : Int → Int) (0 : Int) F hF xs hl
/-! ### a list copied, element by element; equal lists of structs -/
theorem toS_ev {α β : Type} (z : β) (f : α → β) (d : α) (F : Nat → List α → List β → Int → Option (List β))
    (hF : ∀ k x y i, F (k + 1) x y i = if i < (x.length : Int) then (if 0 ≤ i then (if i < (y.length : Int) then F k x (y.set (i : Int).toNat (f (rdOf d x i))) (wrap64 (i + 1)) else none) else none) else some y)
    (xs : List α) (hl : xs.length ≤ 9223372036854775806) : Ev (fun k => F k xs (List.replicate (xs.length : Int).toNat z) 0) (xs.map f) := by
  have key : ∀ (m i : Nat), i + m = xs.length → Ev (fun k => F k xs ((xs.map f).take i ++ List.replicate m z) (i : Int)) (xs.map f) := by
    intro m
    induction m with
    | zero =>
      intro i hi
      refine Ev.step (fun k => hF k _ _ _) (Ev.neg (by omega) (Ev.cast (Ev.now _) ?_))
      rw [List.replicate_zero, List.append_nil, List.take_of_length_le (by rw [List.length_map]; omega)]
    | succ m ih =>
      intro i hi
      have hi' : i < xs.length := by omega
      refine Ev.step (fun k => hF k _ _ _) (Ev.pos (by omega) (Ev.pos (by omega) (Ev.pos (by simp; omega) ?_)))
      rw [w64 (by omega) (by omega), Int.toNat_natCast, rdOf_get hi']
      have e : ((xs.map f).take i ++ List.replicate (m + 1) z).set i (f xs[i]) = (xs.map f).take (i + 1) ++ List.replicate m z := by
        have hl2 : ((xs.map f).take i).length = i := by rw [List.length_take, List.length_map]; omega
        rw [List.take_succ_eq_append_getElem (by rw [List.length_map]; omega), List.set_append_right _ _ (by omega), List.append_assoc, hl2, Nat.sub_self, List.replicate_succ, List.set_cons_zero, List.getElem_map]
        rfl
      rw [e]
      exact ih (i + 1) (by omega)
  have h := key xs.length 0 (by omega)
  simpa using h
theorem eqT_ev {α : Type} (d : α) (E : α → α → Option Bool) (F : Nat → List α → List α → Int → Option Bool)
    (hF : ∀ k x y i, F (k + 1) x y i = if i < (x.length : Int) then (if 0 ≤ i then (if i < (y.length : Int) then ((E (rdOf d x i) (rdOf d y i)).bind fun t => if t = true then F k x y (wrap64 (i + 1)) else some false) else none) else none) else some true)
    (hE : ∀ a, E a a = some true) (xs : List α) (hl : xs.length ≤ maxLen) : Ev (fun k => if (xs.length : Int) = (xs.length : Int) then F k xs xs 0 else some false) true := by
  rw [maxLen_eq] at hl
  have key : ∀ m i : Nat, i + m = xs.length → Ev (fun k => F k xs xs (i : Int)) true := by
    intro m
    induction m with
    | zero => exact fun i hi => Ev.step (fun k => hF k _ _ _) (Ev.neg (by omega) (Ev.now _))
    | succ m ih =>
      intro i hi
      refine Ev.step (fun k => hF k _ _ _) (Ev.pos (by omega) (Ev.pos (by omega) (Ev.pos (by omega) (Ev.const_bind (hE _) (Ev.pos rfl ?_)))))
      rw [w64 (by omega) (by omega)]
      exact ih (i + 1) (by omega)
  exact Ev.pos rfl (key xs.length 0 (by omega))
/-! ### slices.IndexFunc, slices.ContainsFunc -/
def idxP {α : Type} (p : α → Bool) : List α → Int
  | [] => -1
  | x :: xs => if p x then 0 else (if idxP p xs < 0 then -1 else idxP p xs + 1)
theorem idxP_range {α : Type} (p : α → Bool) : ∀ xs : List α, -1 ≤ idxP p xs ∧ idxP p xs < xs.length
  | [] => by simp [idxP]
  | x :: xs => by
    have := idxP_range p xs
    simp only [idxP, List.length_cons]
    split
    · omega
    · split <;> omega
theorem idxP_any {α : Type} (p : α → Bool) : ∀ xs : List α, decide (idxP p xs ≥ 0) = xs.any p
  | [] => by simp [idxP]
  | x :: xs => by
    have h := idxP_any p xs
    have hr := idxP_range p xs
    rw [List.any_cons, ← h, idxP]
    by_cases hp : p x = true
    · rw [if_pos hp, hp]; rfl
    · rw [if_neg hp, Bool.eq_false_iff.2 hp, Bool.false_or]
      by_cases hn : idxP p xs < 0
      · rw [if_pos hn, decide_eq_false (by omega), decide_eq_false (by omega)]
      · rw [if_neg hn, decide_eq_true (by omega), decide_eq_true (by omega)]
theorem index_ev {α : Type} (d : α) (T : Nat → α → Option Bool) (p : α → Bool) (F : Nat → List α → Int → Int → Option Int)
    (hF : ∀ k x n i, F (k + 1) x n i = if i < n then (if 0 ≤ i then (if i < (x.length : Int) then ((T k (rdOf d x i)).bind fun t => if t = true then some i else F k x n (wrap64 (i + 1))) else none) else none) else some (-1))
    (xs : List α) (hl : xs.length ≤ maxLen) (hT : ∀ z ∈ xs, Ev (fun k => T k z) (p z)) : Ev (fun k => F k xs (xs.length : Int) 0) (idxP p xs) := by
  rw [maxLen_eq] at hl
  have key : ∀ (m i : Nat), i + m = xs.length → Ev (fun k => F k xs (xs.length : Int) (i : Int)) (if idxP p (xs.drop i) < 0 then -1 else idxP p (xs.drop i) + i) := by
    intro m
    induction m with
    | zero =>
      intro i hi
      refine Ev.step (fun k => hF k _ _ _) (Ev.neg (by omega) (Ev.cast (Ev.now _) ?_))
      rw [List.drop_of_length_le (by omega)]
      rfl
    | succ m ih =>
      intro i hi
      have hi' : i < xs.length := by omega
      refine Ev.step (fun k => hF k _ _ _) (Ev.pos (by omega) (Ev.pos (by omega) (Ev.pos (by omega) (Ev.bind (hT (rdOf d xs i) (by rw [rdOf_get hi']; exact List.getElem_mem _)) ?_))))
      rw [List.drop_eq_getElem_cons hi', rdOf_get hi', idxP]
      have hr := idxP_range p (xs.drop (i + 1))
      cases hp : p xs[i] with
      | true => exact Ev.pos rfl (Ev.cast (Ev.now _) (by simp))
      | false =>
        refine Ev.neg (by decide) ?_
        rw [w64 (by omega) (by omega)]
        refine Ev.cast (ih (i + 1) (by omega)) ?_
        simp only [Bool.false_eq_true, if_false]
        by_cases hn : idxP p (xs.drop (i + 1)) < 0
        · simp [hn]
        · rw [if_neg hn, if_neg hn, if_neg (by omega)]; omega
  have h := key xs.length 0 (by omega)
  have hr := idxP_range p xs
  refine Ev.cast h ?_
  rw [List.drop_zero]
  by_cases hn : idxP p xs < 0
  · rw [if_pos hn]; omega
  · rw [if_neg hn]; omega
/-- The range over n rounds, from i on. -/
def allFrom (p : Nat → Bool) : Nat → Nat → Bool
  | 0, _ => true
  | m + 1, i => p i && allFrom p m (i + 1)
theorem allFrom_iff (p : Nat → Bool) : ∀ m i, allFrom p m i = true ↔ ∀ j, i ≤ j → j < i + m → p j = true
  | 0, i => by simp [allFrom]; omega
  | m + 1, i => by
    simp only [allFrom, Bool.and_eq_true, allFrom_iff p m (i + 1)]
    constructor
    · rintro ⟨h0, h⟩ j h1 h2
      by_cases e : j = i
      · subst e; exact h0
      · exact h j (by omega) (by omega)
    · intro h
      exact ⟨h i (by omega) (by omega), fun j h1 h2 => h j (by omega) (by omega)⟩
theorem allFrom_congr {p q : Nat → Bool} : ∀ m i, (∀ j, i ≤ j → j < i + m → p j = q j) → allFrom p m i = allFrom q m i
  | 0, i, _ => rfl
  | m + 1, i, h => by
    rw [allFrom, allFrom, h i (by omega) (by omega), allFrom_congr m (i + 1) (fun j h1 h2 => h j (by omega) (by omega))]
theorem roomLeft_le {n : Nat} {a : Int} (h : a ≤ 1048576) : roomLeft n a ≤ 1048576 := by
  unfold roomLeft; split <;> omega
/-- A loop that takes each element's size from the room: where it ends with room left, each element had its room. -/
theorem sizesP_ev {α : Type} (S : α → Prop) (d : α) (T : Nat → α → Int → Option Int) (F : Nat → List α → Int → Int → Option Int)
    (hF : ∀ k x r i, F (k + 1) x r i = if i < (x.length : Int) then (if 0 ≤ i then ((T k (rdOf d x i) r).bind fun t => if t < 0 then some (-1) else F k x t (wrap64 (i + 1))) else none) else some r)
    (xs : List α) (hl : (xs.length : Int) ≤ 1048576) (hT : ∀ z ∈ xs, ∀ r, 0 ≤ r → r ≤ 1048576 → ∃ t, t ≤ 1048576 ∧ (¬ t < 0 → S z) ∧ Ev (fun k => T k z r) t) (r : Int) (h0 : 0 ≤ r) (h1 : r ≤ 1048576) : ∃ t, t ≤ 1048576 ∧ (¬ t < 0 → ∀ z ∈ xs, S z) ∧ Ev (fun k => F k xs r 0) t := by
  have key : ∀ (m i : Nat) (r : Int), i + m = xs.length → 0 ≤ r → r ≤ 1048576 → ∃ t, t ≤ 1048576 ∧ (¬ t < 0 → ∀ z ∈ xs.drop i, S z) ∧ Ev (fun k => F k xs r (i : Int)) t := by
    intro m
    induction m with
    | zero => exact fun i r hi _ h1 => ⟨r, h1, (fun _ z hz => by rw [List.drop_of_length_le (by omega)] at hz; cases hz), Ev.step (fun k => hF k _ _ _) (Ev.neg (by omega) (Ev.now _))⟩
    | succ m ih =>
      intro i r hi h0 h1
      have hi' : i < xs.length := by omega
      obtain ⟨t, ht, hs, he⟩ := hT (rdOf d xs i) (by rw [rdOf_get hi']; exact List.getElem_mem _) r h0 h1
      by_cases hn : t < 0
      · exact ⟨-1, by omega, fun h => absurd (by omega) h, Ev.step (fun k => hF k _ _ _) (Ev.pos (by omega) (Ev.pos (by omega) (Ev.bind he (Ev.pos hn (Ev.now _)))))⟩
      · obtain ⟨q, hq, hqs, hqe⟩ := ih (i + 1) t (by omega) (by omega) ht
        refine ⟨q, hq, fun h z hz => ?_, Ev.step (fun k => hF k _ _ _) (Ev.pos (by omega) (Ev.pos (by omega) (Ev.bind he (Ev.neg hn ?_))))⟩
        · rw [List.drop_eq_getElem_cons hi'] at hz
          rcases List.mem_cons.1 hz with rfl | hz
          · rw [rdOf_get hi'] at hs; exact hs hn
          · exact hqs h z hz
        · rw [w_succ (by omega)]
          exact hqe
  have h := key xs.length 0 r (by omega) h0 h1
  rwa [List.drop_zero] at h
/-- A list copied by elements that are copied in rounds. -/
theorem toK_ev {α β : Type} (z : β) (f : α → β) (d : α) (T : Nat → α → Option β) (F : Nat → List α → List β → Int → Option (List β))
    (hF : ∀ k x y i, F (k + 1) x y i = if i < (x.length : Int) then (if 0 ≤ i then ((T k (rdOf d x i)).bind fun t => if i < (y.length : Int) then F k x (y.set (i : Int).toNat t) (wrap64 (i + 1)) else none) else none) else some y)
    (xs : List α) (hl : xs.length ≤ 9223372036854775806) (hT : ∀ a ∈ xs, Ev (fun k => T k a) (f a)) : Ev (fun k => F k xs (List.replicate (xs.length : Int).toNat z) 0) (xs.map f) := by
  have key : ∀ (m i : Nat), i + m = xs.length → Ev (fun k => F k xs ((xs.map f).take i ++ List.replicate m z) (i : Int)) (xs.map f) := by
    intro m
    induction m with
    | zero =>
      intro i hi
      refine Ev.step (fun k => hF k _ _ _) (Ev.neg (by omega) (Ev.cast (Ev.now _) ?_))
      rw [List.replicate_zero, List.append_nil, List.take_of_length_le (by rw [List.length_map]; omega)]
    | succ m ih =>
      intro i hi
      have hi' : i < xs.length := by omega
      refine Ev.step (fun k => hF k _ _ _) (Ev.pos (by omega) (Ev.pos (by omega) (Ev.bind (a := f xs[i]) ?_ (Ev.pos (by simp; omega) ?_))))
      · rw [rdOf_get hi']; exact hT _ (List.getElem_mem _)
      rw [w64 (by omega) (by omega), Int.toNat_natCast]
      have e : ((xs.map f).take i ++ List.replicate (m + 1) z).set i (f xs[i]) = (xs.map f).take (i + 1) ++ List.replicate m z := by
        have hl2 : ((xs.map f).take i).length = i := by rw [List.length_take, List.length_map]; omega
        rw [List.take_succ_eq_append_getElem (by rw [List.length_map]; omega), List.set_append_right _ _ (by omega), List.append_assoc, hl2, Nat.sub_self, List.replicate_succ, List.set_cons_zero, List.getElem_map]
        rfl
      rw [e]
      exact ih (i + 1) (by omega)
  have h := key xs.length 0 (by omega)
  simpa using h
/-- Equal lists whose elements are compared in rounds. -/
theorem eqK_ev {α : Type} (d : α) (E : Nat → α → α → Option Bool) (F : Nat → List α → List α → Int → Option Bool)
    (hF : ∀ k x y i, F (k + 1) x y i = if i < (x.length : Int) then (if 0 ≤ i then (if i < (y.length : Int) then ((E k (rdOf d x i) (rdOf d y i)).bind fun t => if t = true then F k x y (wrap64 (i + 1)) else some false) else none) else none) else some true)
    (xs : List α) (hl : xs.length ≤ maxLen) (hE : ∀ a ∈ xs, Ev (fun k => E k a a) true) : Ev (fun k => if (xs.length : Int) = (xs.length : Int) then F k xs xs 0 else some false) true := by
  rw [maxLen_eq] at hl
  have key : ∀ m i : Nat, i + m = xs.length → Ev (fun k => F k xs xs (i : Int)) true := by
    intro m
    induction m with
    | zero => exact fun i hi => Ev.step (fun k => hF k _ _ _) (Ev.neg (by omega) (Ev.now _))
    | succ m ih =>
      intro i hi
      have hi' : i < xs.length := by omega
      refine Ev.step (fun k => hF k _ _ _) (Ev.pos (by omega) (Ev.pos (by omega) (Ev.pos (by omega) (Ev.bind (hE (rdOf d xs i) (by rw [rdOf_get hi']; exact List.getElem_mem _)) (Ev.pos rfl ?_)))))
      rw [w64 (by omega) (by omega)]
      exact ih (i + 1) (by omega)
  exact Ev.pos rfl (key xs.length 0 (by omega))
/-- Two lists of whole numbers, compared. -/
theorem sameInts_ev (F : Nat → List Int → List Int → Int → Int → Option Bool)
    (hF : ∀ k x y n i, F (k + 1) x y n i = if i < n then (if 0 ≤ i then (if i < (x.length : Int) then (if i < (y.length : Int) then (if rd x i = rd y i then F k x y n (wrap64 (i + 1)) else some false) else none) else none) else none) else some true)
    (xs ys : List Int) (hl : xs.length ≤ maxLen) : Ev (fun k => if (xs.length : Int) = (ys.length : Int) then F k xs ys (xs.length : Int) 0 else some false) (decide (xs = ys)) := by
  rw [maxLen_eq] at hl
  by_cases h : xs.length = ys.length
  · have key : ∀ m i : Nat, i + m = xs.length → Ev (fun k => F k xs ys (xs.length : Int) (i : Int)) (decide (xs.drop i = ys.drop i)) := by
      intro m
      induction m with
      | zero =>
        intro i hi
        rw [List.drop_of_length_le (by omega), List.drop_of_length_le (by omega)]
        exact Ev.step (fun k => hF k _ _ _ _) (Ev.neg (by omega) (Ev.now _))
      | succ m ih =>
        intro i hi
        have hi' : i < xs.length := by omega
        have hi2 : i < ys.length := by omega
        refine Ev.step (fun k => hF k _ _ _ _) (Ev.pos (by omega) (Ev.pos (by omega) (Ev.pos (by omega) (Ev.pos (by omega) ?_))))
        rw [w_succ (by omega), rd_get hi', rd_get hi2, List.drop_eq_getElem_cons hi', List.drop_eq_getElem_cons hi2]
        by_cases he : xs[i] = ys[i]
        · exact Ev.pos he (Ev.cast (ih (i + 1) (by omega)) (decide_eq_decide.2 ⟨fun h => by rw [he, h], fun h => (List.cons.inj h).2⟩))
        · exact Ev.neg he (Ev.cast (Ev.now _) (decide_eq_false (fun e => he (List.cons.inj e).1)).symm)
    exact Ev.pos (by omega) (Ev.cast (key xs.length 0 (by omega)) (by rw [List.drop_zero, List.drop_zero]))
  · exact Ev.neg (by omega) (Ev.cast (Ev.now _) (decide_eq_false (fun e => h (by rw [e]))).symm)
/-- A search: element i is the first that answers. -/
theorem idxP_first {α : Type} (p : α → Bool) : ∀ (xs : List α) (i : Nat) (h : i < xs.length), p xs[i] = true → (idxP p xs = (i : Int) ↔ (xs.take i).any p = false)
  | x :: xs, 0, _, hp => by
    have hp : p x = true := hp
    rw [idxP, if_pos hp]; simp
  | x :: xs, i + 1, h, hp => by
    have hp : p (xs[i]'(by simpa using h)) = true := hp
    have ih := idxP_first p xs i (by simpa using h) hp
    have hr := idxP_range p xs
    rw [idxP, List.take_succ_cons, List.any_cons]
    by_cases hx : p x = true
    · rw [if_pos hx, hx]; simp; omega
    · rw [if_neg hx, Bool.eq_false_iff.2 hx, Bool.false_or, ← ih]
      have hge : idxP p xs ≥ 0 := by
        have := idxP_any p xs
        have ha : xs.any p = true := List.any_eq_true.2 ⟨_, List.getElem_mem _, hp⟩
        rw [ha] at this
        exact of_decide_eq_true this
      rw [if_neg (by omega)]
      omega
end Go.Proofs.Ytfgdfnnddoncjaa.X
