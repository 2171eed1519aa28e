/- Small lemmas for the pure statements: rounds, whole numbers that do not wrap, and the loops that every law has (equal, marked, held, copied). -/
import Derived.Test.YtpfddgchlllkpaaWMore
namespace Go.Proofs.YtpfddgchlllkpaaW.PrintWords
/-! ### from some round on -/
section
variable {α β : Type} {g f f' : Nat → Option α} {r r' : α}
theorem Ev.mk (h : ∀ k, g k = some r) : Ev g r := ⟨0, fun k _ => h k⟩
theorem Ev.pos {c : Prop} [Decidable c] (h : c) (k : Ev f r) : Ev (fun n => if c then f n else f' n) r := Ev.congr (fun _ => if_pos h) k
theorem Ev.neg {c : Prop} [Decidable c] (h : ¬ c) (k : Ev f' r) : Ev (fun n => if c then f n else f' n) r := Ev.congr (fun _ => if_neg h) k
theorem Ev.ite {c : Prop} [Decidable c] (h : c → Ev f r) (h' : ¬ c → Ev f' r) : Ev (fun n => if c then f n else f' n) r := by
  by_cases hc : c
  · exact Ev.pos hc (h hc)
  · exact Ev.neg hc (h' hc)
theorem Ev.cast (h : Ev g r) (e : r = r') : Ev g r' := e ▸ h
theorem Ev.some_bind {h : Nat → α → Option β} {a : α} {r : β} (k : Ev (fun n => h n a) r) : Ev (fun n => (some a).bind (h n)) r := k
end
theorem Ev.and {f : Nat → Option Bool} {r b : Bool} (h : b = true → Ev f r) : Ev (fun k => if b = true then f k else some false) (b && r) := by
  cases b with
  | true => exact Ev.pos rfl (h rfl)
  | false => exact Ev.neg (by decide) (Ev.now _)
/-- Two that come to one and the same answer, of which Q holds. -/
def Both {α : Type} (Q : α → Prop) (f g : Nat → Option α) : Prop := ∃ r, Q r ∧ Ev f r ∧ Ev g r
section
variable {α β : Type} {Q : α → Prop} {f g f' g' : Nat → Option α}
theorem Both.now (r : α) (h : Q r) : Both Q (fun _ => some r) (fun _ => some r) := ⟨r, h, Ev.now r, Ev.now r⟩
theorem Both.ite {c : Prop} [Decidable c] (h : c → Both Q f g) (h' : ¬ c → Both Q f' g') : Both Q (fun k => if c then f k else f' k) (fun k => if c then g k else g' k) := by
  by_cases hc : c
  · obtain ⟨r, q, h1, h2⟩ := h hc; exact ⟨r, q, Ev.pos hc h1, Ev.pos hc h2⟩
  · obtain ⟨r, q, h1, h2⟩ := h' hc; exact ⟨r, q, Ev.neg hc h1, Ev.neg hc h2⟩
theorem Both.pos {c d : Prop} [Decidable c] [Decidable d] (hc : c) (hd : d) (h : Both Q f g) : Both Q (fun k => if c then f k else f' k) (fun k => if d then g k else g' k) := by
  obtain ⟨r, q, h1, h2⟩ := h; exact ⟨r, q, Ev.pos hc h1, Ev.pos hd h2⟩
theorem Both.neg {c d : Prop} [Decidable c] [Decidable d] (hc : ¬ c) (hd : ¬ d) (h : Both Q f' g') : Both Q (fun k => if c then f k else f' k) (fun k => if d then g k else g' k) := by
  obtain ⟨r, q, h1, h2⟩ := h; exact ⟨r, q, Ev.neg hc h1, Ev.neg hd h2⟩
theorem Both.lpos {c : Prop} [Decidable c] (hc : c) (h : Both Q f g) : Both Q (fun k => if c then f k else f' k) g := by
  obtain ⟨r, q, h1, h2⟩ := h; exact ⟨r, q, Ev.pos hc h1, h2⟩
theorem Both.lneg {c : Prop} [Decidable c] (hc : ¬ c) (h : Both Q f' g) : Both Q (fun k => if c then f k else f' k) g := by
  obtain ⟨r, q, h1, h2⟩ := h; exact ⟨r, q, Ev.neg hc h1, h2⟩
theorem Both.rpos {c : Prop} [Decidable c] (hc : c) (h : Both Q f g) : Both Q f (fun k => if c then g k else g' k) := by
  obtain ⟨r, q, h1, h2⟩ := h; exact ⟨r, q, h1, Ev.pos hc h2⟩
theorem Both.rneg {c : Prop} [Decidable c] (hc : ¬ c) (h : Both Q f g') : Both Q f (fun k => if c then g k else g' k) := by
  obtain ⟨r, q, h1, h2⟩ := h; exact ⟨r, q, h1, Ev.neg hc h2⟩
theorem Both.step (h : ∀ k, f (k + 1) = f' k) (h' : ∀ k, g (k + 1) = g' k) (b : Both Q f' g') : Both Q f g := by
  obtain ⟨r, q, h1, h2⟩ := b; exact ⟨r, q, Ev.step h h1, Ev.step h' h2⟩
theorem Both.bind {P : β → Prop} {u v : Nat → Option β} {F G : Nat → β → Option α} (h : Both P u v) (k : ∀ b, P b → Both Q (fun n => F n b) (fun n => G n b)) : Both Q (fun n => (u n).bind (F n)) (fun n => (v n).bind (G n)) := by
  obtain ⟨b, p, h1, h2⟩ := h
  obtain ⟨r, q, k1, k2⟩ := k b p
  exact ⟨r, q, Ev.bind h1 k1, Ev.bind h2 k2⟩
end
/-- One that comes to an answer of which Q holds. -/
def Yes {α : Type} (Q : α → Prop) (f : Nat → Option α) : Prop := ∃ r, Q r ∧ Ev f r
section
variable {α β : Type} {Q : α → Prop} {f f' : Nat → Option α}
theorem Yes.now (r : α) (h : Q r) : Yes Q (fun _ => some r) := ⟨r, h, Ev.now r⟩
theorem Yes.step (h : ∀ k, f (k + 1) = f' k) (b : Yes Q f') : Yes Q f := by
  obtain ⟨r, q, e⟩ := b; exact ⟨r, q, Ev.step h e⟩
theorem Yes.pos {c : Prop} [Decidable c] (hc : c) (b : Yes Q f) : Yes Q (fun k => if c then f k else f' k) := by
  obtain ⟨r, q, e⟩ := b; exact ⟨r, q, Ev.pos hc e⟩
theorem Yes.neg {c : Prop} [Decidable c] (hc : ¬ c) (b : Yes Q f') : Yes Q (fun k => if c then f k else f' k) := by
  obtain ⟨r, q, e⟩ := b; exact ⟨r, q, Ev.neg hc e⟩
theorem Yes.ite {c : Prop} [Decidable c] (h : c → Yes Q f) (h' : ¬ c → Yes Q f') : Yes Q (fun k => if c then f k else f' k) := by
  by_cases hc : c
  · exact Yes.pos hc (h hc)
  · exact Yes.neg hc (h' hc)
theorem Yes.bind {u : Nat → Option β} {b : β} {F : Nat → β → Option α} (h : Ev u b) (k : Yes Q (fun n => F n b)) : Yes Q (fun n => (u n).bind (F n)) := by
  obtain ⟨r, q, e⟩ := k; exact ⟨r, q, Ev.bind h e⟩
end
end Go.Proofs.YtpfddgchlllkpaaW.PrintWords
namespace Go.Proofs.Ytpfddgchlllkpaa.X
open Go.RowKit Go.Proofs.YtpfddgchlllkpaaW.PrintWords

theorem w64 {n : Int} (h0 : -9223372036854775808 ≤ n) (h1 : n ≤ 9223372036854775807) : wrap64 n = n := by
  unfold wrap64
  omega
/-! ### lists by whole numbers -/
/-! ### equal lists are told as equal; what was marked is held -/
/-! ### a list copied, element by element; equal lists of structs -/
/-! ### slices.IndexFunc, slices.ContainsFunc -/
end Go.Proofs.Ytpfddgchlllkpaa.X
