/- Small lemmas for the pure statements: rounds, whole numbers that do not wrap, and the loops that every law has (equal, marked, held, copied). -/
import Derived.Test.YtgfppioaggeleaaXWords
namespace Go.Proofs.YtgfppioaggeleaaW.PrintWords
/-! ### from some round on -/
section
variable {α β : Type} {g f f' : Nat → Option α} {r r' : α}
theorem Ev.mk (h : ∀ k, g k = some r) : Ev g r := ⟨0, fun k _ => h k⟩
theorem Ev.pos {c : Prop} [Decidable c] (h : c) (k : Ev f r) : Ev (fun n => if c then f n else f' n) r := Ev.congr (fun _ => if_pos h) k
theorem Ev.neg {c : Prop} [Decidable c] (h : ¬ c) (k : Ev f' r) : Ev (fun n => if c then f n else f' n) r := Ev.congr (fun _ => if_neg h) k
theorem Ev.ite {c : Prop} [Decidable c] (h : c → Ev f r) (h' : ¬ c → Ev f' r) : Ev (fun n => if c then f n else f' n) r := by
  by_cases hc : c
  · exact Ev.pos hc (h hc)
  · exact Ev.neg hc (h' hc)
theorem Ev.cast (h : Ev g r) (e : r = r') : Ev g r' := e ▸ h
theorem Ev.const_bind {o : Option α} {h : Nat → α → Option β} {a : α} {r : β} (e : o = some a) (k : Ev (fun n => h n a) r) : Ev (fun n => o.bind (h n)) r := by
  subst e; exact k
end
theorem Ev.and {f : Nat → Option Bool} {r b : Bool} (h : b = true → Ev f r) : Ev (fun k => if b = true then f k else some false) (b && r) := by
  cases b with
  | true => exact Ev.pos rfl (h rfl)
  | false => exact Ev.neg (by decide) (Ev.now _)
theorem Ev.andn {f : Nat → Option Bool} {r b : Bool} (h : b = false → Ev f r) : Ev (fun k => if b = true then some false else f k) (!b && r) := by
  cases b with
  | true => exact Ev.pos rfl (Ev.now _)
  | false => exact Ev.neg (by decide) (h rfl)
/-- Two that come to one and the same answer, of which Q holds. -/
def Both {α : Type} (Q : α → Prop) (f g : Nat → Option α) : Prop := ∃ r, Q r ∧ Ev f r ∧ Ev g r
section
variable {α β : Type} {Q : α → Prop} {f g f' g' : Nat → Option α}
theorem Both.now (r : α) (h : Q r) : Both Q (fun _ => some r) (fun _ => some r) := ⟨r, h, Ev.now r, Ev.now r⟩
theorem Both.ite {c : Prop} [Decidable c] (h : c → Both Q f g) (h' : ¬ c → Both Q f' g') : Both Q (fun k => if c then f k else f' k) (fun k => if c then g k else g' k) := by
  by_cases hc : c
  · obtain ⟨r, q, h1, h2⟩ := h hc; exact ⟨r, q, Ev.pos hc h1, Ev.pos hc h2⟩
  · obtain ⟨r, q, h1, h2⟩ := h' hc; exact ⟨r, q, Ev.neg hc h1, Ev.neg hc h2⟩
theorem Both.pos {c d : Prop} [Decidable c] [Decidable d] (hc : c) (hd : d) (h : Both Q f g) : Both Q (fun k => if c then f k else f' k) (fun k => if d then g k else g' k) := by
  obtain ⟨r, q, h1, h2⟩ := h; exact ⟨r, q, Ev.pos hc h1, Ev.pos hd h2⟩
theorem Both.neg {c d : Prop} [Decidable c] [Decidable d] (hc : ¬ c) (hd : ¬ d) (h : Both Q f' g') : Both Q (fun k => if c then f k else f' k) (fun k => if d then g k else g' k) := by
  obtain ⟨r, q, h1, h2⟩ := h; exact ⟨r, q, Ev.neg hc h1, Ev.neg hd h2⟩
theorem Both.lpos {c : Prop} [Decidable c] (hc : c) (h : Both Q f g) : Both Q (fun k => if c then f k else f' k) g := by
  obtain ⟨r, q, h1, h2⟩ := h; exact ⟨r, q, Ev.pos hc h1, h2⟩
theorem Both.lneg {c : Prop} [Decidable c] (hc : ¬ c) (h : Both Q f' g) : Both Q (fun k => if c then f k else f' k) g := by
  obtain ⟨r, q, h1, h2⟩ := h; exact ⟨r, q, Ev.neg hc h1, h2⟩
theorem Both.rpos {c : Prop} [Decidable c] (hc : c) (h : Both Q f g) : Both Q f (fun k => if c then g k else g' k) := by
  obtain ⟨r, q, h1, h2⟩ := h; exact ⟨r, q, h1, Ev.pos hc h2⟩
theorem Both.rneg {c : Prop} [Decidable c] (hc : ¬ c) (h : Both Q f g') : Both Q f (fun k => if c then g k else g' k) := by
  obtain ⟨r, q, h1, h2⟩ := h; exact ⟨r, q, h1, Ev.neg hc h2⟩
theorem Both.step (h : ∀ k, f (k + 1) = f' k) (h' : ∀ k, g (k + 1) = g' k) (b : Both Q f' g') : Both Q f g := by
  obtain ⟨r, q, h1, h2⟩ := b; exact ⟨r, q, Ev.step h h1, Ev.step h' h2⟩
theorem Both.rstep (h' : ∀ k, g (k + 1) = g' k) (b : Both Q f g') : Both Q f g := by
  obtain ⟨r, q, h1, h2⟩ := b; exact ⟨r, q, h1, Ev.step h' h2⟩
theorem Both.bind {P : β → Prop} {u v : Nat → Option β} {F G : Nat → β → Option α} (h : Both P u v) (k : ∀ b, P b → Both Q (fun n => F n b) (fun n => G n b)) : Both Q (fun n => (u n).bind (F n)) (fun n => (v n).bind (G n)) := by
  obtain ⟨b, p, h1, h2⟩ := h
  obtain ⟨r, q, k1, k2⟩ := k b p
  exact ⟨r, q, Ev.bind h1 k1, Ev.bind h2 k2⟩
theorem Both.mono {Q' : α → Prop} (h : Both Q f g) (hq : ∀ r, Q r → Q' r) : Both Q' f g := by
  obtain ⟨r, q, h1, h2⟩ := h; exact ⟨r, hq r q, h1, h2⟩
end
/-- One that comes to an answer of which Q holds. -/
def Yes {α : Type} (Q : α → Prop) (f : Nat → Option α) : Prop := ∃ r, Q r ∧ Ev f r
section
variable {α β : Type} {Q : α → Prop} {f f' : Nat → Option α}
theorem Yes.now (r : α) (h : Q r) : Yes Q (fun _ => some r) := ⟨r, h, Ev.now r⟩
theorem Yes.step (h : ∀ k, f (k + 1) = f' k) (b : Yes Q f') : Yes Q f := by
  obtain ⟨r, q, e⟩ := b; exact ⟨r, q, Ev.step h e⟩
theorem Yes.pos {c : Prop} [Decidable c] (hc : c) (b : Yes Q f) : Yes Q (fun k => if c then f k else f' k) := by
  obtain ⟨r, q, e⟩ := b; exact ⟨r, q, Ev.pos hc e⟩
theorem Yes.neg {c : Prop} [Decidable c] (hc : ¬ c) (b : Yes Q f') : Yes Q (fun k => if c then f k else f' k) := by
  obtain ⟨r, q, e⟩ := b; exact ⟨r, q, Ev.neg hc e⟩
theorem Yes.ite {c : Prop} [Decidable c] (h : c → Yes Q f) (h' : ¬ c → Yes Q f') : Yes Q (fun k => if c then f k else f' k) := by
  by_cases hc : c
  · exact Yes.pos hc (h hc)
  · exact Yes.neg hc (h' hc)
theorem Yes.bind {u : Nat → Option β} {b : β} {F : Nat → β → Option α} (h : Ev u b) (k : Yes Q (fun n => F n b)) : Yes Q (fun n => (u n).bind (F n)) := by
  obtain ⟨r, q, e⟩ := k; exact ⟨r, q, Ev.bind h e⟩
end
end Go.Proofs.YtgfppioaggeleaaW.PrintWords
namespace Go.Proofs.Ytgfppioaggeleaa.X
open Go.RowKit Go.Proofs.YtgfppioaggeleaaW.PrintWords

theorem W {n : Int} (h : (Lit.int .i64 n).wf = true) : -9223372036854775808 ≤ n ∧ n ≤ 9223372036854775807 := by
  simpa [Lit.wf, IntKind.min, IntKind.max, IntKind.bits, IntKind.signed] using h
theorem w64 {n : Int} (h0 : -9223372036854775808 ≤ n) (h1 : n ≤ 9223372036854775807) : wrap64 n = n := by
  unfold wrap64
  omega
theorem w_succ {i : Nat} (h : i < 9223372036854775807) : wrap64 ((i : Int) + 1) = ((i + 1 : Nat) : Int) := by
  rw [w64 (by omega) (by omega)]
  omega
theorem w_pred {i : Nat} (h : i ≤ 9223372036854775807) : wrap64 ((i : Int) - 1) = (i : Int) - 1 := w64 (by omega) (by omega)
theorem maxLen_eq : maxLen = 9223372036854775807 := rfl
/-! ### lists by whole numbers -/
theorem rd_get {xs : List Int} {i : Nat} (h : i < xs.length) : rd xs (i : Int) = xs[i] := by
  unfold rd
  rw [Int.toNat_natCast, List.getD_eq_getElem?_getD, List.getElem?_eq_getElem h]
  rfl
theorem rdOf_get {α : Type} {d : α} {xs : List α} {i : Nat} (h : i < xs.length) : rdOf d xs (i : Int) = xs[i] := by
  unfold rdOf
  rw [Int.toNat_natCast, List.getD_eq_getElem?_getD, List.getElem?_eq_getElem h]
  rfl
/-! ### equal lists are told as equal; what was marked is held -/
/-! ### a list copied, element by element; equal lists of structs -/
theorem toS_ev {α β : Type} (z : β) (f : α → β) (d : α) (F : Nat → List α → List β → Int → Option (List β))
    (hF : ∀ k x y i, F (k + 1) x y i = if i < (x.length : Int) then (if 0 ≤ i then (if i < (y.length : Int) then F k x (y.set (i : Int).toNat (f (rdOf d x i))) (wrap64 (i + 1)) else none) else none) else some y)
    (xs : List α) (hl : xs.length ≤ 9223372036854775806) : Ev (fun k => F k xs (List.replicate (xs.length : Int).toNat z) 0) (xs.map f) := by
  have key : ∀ (m i : Nat), i + m = xs.length → Ev (fun k => F k xs ((xs.map f).take i ++ List.replicate m z) (i : Int)) (xs.map f) := by
    intro m
    induction m with
    | zero =>
      intro i hi
      refine Ev.step (fun k => hF k _ _ _) (Ev.neg (by omega) (Ev.cast (Ev.now _) ?_))
      rw [List.replicate_zero, List.append_nil, List.take_of_length_le (by rw [List.length_map]; omega)]
    | succ m ih =>
      intro i hi
      have hi' : i < xs.length := by omega
      refine Ev.step (fun k => hF k _ _ _) (Ev.pos (by omega) (Ev.pos (by omega) (Ev.pos (by simp; omega) ?_)))
      rw [w64 (by omega) (by omega), Int.toNat_natCast, rdOf_get hi']
      have e : ((xs.map f).take i ++ List.replicate (m + 1) z).set i (f xs[i]) = (xs.map f).take (i + 1) ++ List.replicate m z := by
        have hl2 : ((xs.map f).take i).length = i := by rw [List.length_take, List.length_map]; omega
        rw [List.take_succ_eq_append_getElem (by rw [List.length_map]; omega), List.set_append_right _ _ (by omega), List.append_assoc, hl2, Nat.sub_self, List.replicate_succ, List.set_cons_zero, List.getElem_map]
        rfl
      rw [e]
      exact ih (i + 1) (by omega)
  have h := key xs.length 0 (by omega)
  simpa using h
theorem eqT_ev {α : Type} (d : α) (E : α → α → Option Bool) (F : Nat → List α → List α → Int → Option Bool)
    (hF : ∀ k x y i, F (k + 1) x y i = if i < (x.length : Int) then (if 0 ≤ i then (if i < (y.length : Int) then ((E (rdOf d x i) (rdOf d y i)).bind fun t => if t = true then F k x y (wrap64 (i + 1)) else some false) else none) else none) else some true)
    (hE : ∀ a, E a a = some true) (xs : List α) (hl : xs.length ≤ maxLen) : Ev (fun k => if (xs.length : Int) = (xs.length : Int) then F k xs xs 0 else some false) true := by
  rw [maxLen_eq] at hl
  have key : ∀ m i : Nat, i + m = xs.length → Ev (fun k => F k xs xs (i : Int)) true := by
    intro m
    induction m with
    | zero => exact fun i hi => Ev.step (fun k => hF k _ _ _) (Ev.neg (by omega) (Ev.now _))
    | succ m ih =>
      intro i hi
      refine Ev.step (fun k => hF k _ _ _) (Ev.pos (by omega) (Ev.pos (by omega) (Ev.pos (by omega) (Ev.const_bind (hE _) (Ev.pos rfl ?_)))))
      rw [w64 (by omega) (by omega)]
      exact ih (i + 1) (by omega)
  exact Ev.pos rfl (key xs.length 0 (by omega))
/-! ### slices.IndexFunc, slices.ContainsFunc -/
/-- The range over n rounds, from i on. -/
def allFrom (p : Nat → Bool) : Nat → Nat → Bool
  | 0, _ => true
  | m + 1, i => p i && allFrom p m (i + 1)
theorem allFrom_iff (p : Nat → Bool) : ∀ m i, allFrom p m i = true ↔ ∀ j, i ≤ j → j < i + m → p j = true
  | 0, i => by simp [allFrom]; omega
  | m + 1, i => by
    simp only [allFrom, Bool.and_eq_true, allFrom_iff p m (i + 1)]
    constructor
    · rintro ⟨h0, h⟩ j h1 h2
      by_cases e : j = i
      · subst e; exact h0
      · exact h j (by omega) (by omega)
    · intro h
      exact ⟨h i (by omega) (by omega), fun j h1 h2 => h j (by omega) (by omega)⟩
end Go.Proofs.Ytgfppioaggeleaa.X
