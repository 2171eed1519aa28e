/- What is read of an argument as data is of the print's own kinds: whole numbers, bools, strings, slices and structs, nested as they like. -/
import Derived.Test.YtfgdfnnddoncjaaXWords
import Derived.Deep.Slices
import Derived.ChangeArms
import Derived.OpenShut
namespace Go.Proofs.Ytfgdfnnddoncjaa.X
open Go.ChangeShapes Go.WideShapes Go.Deep Go.RowKit Go.Proofs.YtfgdfnnddoncjaaW.PrintWords

/-- Whatever reads as data of type t is, cell for cell, a value of the kind d that meets 'ok'. -/
def Opens (P : Program) (t : TypeId) {α : Type} (d : Kd α) (ok : α → Prop) : Prop :=
  P.cellsOf t = d.sz ∧ ∀ {H : Type} {enc : TypeId × Value → H} {w : World} {base : Nat} {spare : Nat → Bool} {held : Bool} {fuel : Nat} {cs : List Value} {x : DataW H × List MemPlace},
    DataW.trod enc P w base spare held fuel t cs = some x → ∃ y : α, d.K w y cs ∧ ok y

theorem opens_int {P : Program} {t : TypeId} {k : IntKind} (ht : P.underlying t = some (.int k)) (hc : P.cellsOf t = 1) : Opens P t (Kd.int k) (fun n => (Lit.int k n).wf = true) := by
  refine ⟨hc, fun h => ?_⟩
  obtain ⟨n, rfl, _, hw⟩ := DataW.trod_int ht h
  exact ⟨n, rfl, hw⟩
theorem opens_bool {P : Program} {t : TypeId} (ht : P.underlying t = some .bool) (hc : P.cellsOf t = 1) : Opens P t Kd.bool (fun _ => True) := by
  refine ⟨hc, fun h => ?_⟩
  obtain ⟨b, rfl, _⟩ := DataW.trod_bool ht h
  exact ⟨b, rfl, trivial⟩
theorem opens_string {P : Program} {t : TypeId} (ht : P.underlying t = some .string) (hc : P.cellsOf t = 1) : Opens P t Kd.string (fun s => s.size ≤ maxLen) := by
  refine ⟨hc, fun h => ?_⟩
  obtain ⟨s, rfl, _, hs⟩ := DataW.trod_string ht h
  exact ⟨s, rfl, hs⟩

theorem build_list {α : Type} (R : Nat → α → Prop) : ∀ n : Nat, (∀ i, i < n → ∃ y, R i y) → ∃ ys : List α, ys.length = n ∧ ∀ i y, ys[i]? = some y → R i y
  | 0, _ => ⟨[], rfl, fun i y h => by simp at h⟩
  | n + 1, h => by
    obtain ⟨ys, hl, hr⟩ := build_list R n (fun i hi => h i (by omega))
    obtain ⟨y, hy⟩ := h n (by omega)
    refine ⟨ys ++ [y], by simp [hl], fun i z hz => ?_⟩
    by_cases hi : i < ys.length
    · rw [List.getElem?_append_left hi] at hz
      exact hr i z hz
    · rw [List.getElem?_append_right (by omega)] at hz
      have h0 : i - ys.length = 0 := by
        have := (List.getElem?_eq_some_iff.1 hz).1
        simp at this
        omega
      rw [h0] at hz
      obtain rfl : y = z := by simpa using hz
      obtain rfl : i = n := by omega
      exact hy

theorem opens_slice {P : Program} {t e : TypeId} {α : Type} {d : Kd α} {ok : α → Prop} (ht : P.underlying t = some (.slice e)) (hc : P.cellsOf t = 1) (he : Opens P e d ok) : Opens P t (Kd.slice e d) (fun xs => xs.length ≤ maxLen ∧ ∀ x ∈ xs, ok x) := by
  refine ⟨hc, fun {H enc w base spare held fuel cs x} h => ?_⟩
  rcases open_slice ht h with ⟨rfl, _⟩ | ⟨a, len, cap, m, n, D, Pl, rfl, hb, hl, hm, hmm, hx, hi⟩
  · refine ⟨[], ⟨none, 0, rfl, Nat.le_refl _, ⟨rfl, by simp, fun h => absurd h (by simp)⟩⟩, by simp, by simp⟩
  · have hle : len ≤ m := by rw [hmm]; split <;> omega
    obtain ⟨ys, hys, hyr⟩ := build_list (fun i y => (∃ c, c.length = d.sz ∧ d.K w y c ∧ ∀ j u, c[j]? = some u → w.cell? (a.add (i * d.sz + j)) = some u) ∧ ok y) len (fun i hil => by
      obtain ⟨cs', hcs, htr⟩ := hi i (by omega)
      obtain ⟨y, hk, hok⟩ := he.2 htr
      refine ⟨y, ⟨cs', ?_, hk, fun j u hj => ?_⟩, hok⟩
      · rw [d.K_len hk]
      · obtain ⟨_, hcl, hat⟩ := World.cells?_some hcs
        rw [he.1] at hcl hat
        have hj' : j < d.sz := by have := (List.getElem?_eq_some_iff.1 hj).1; rw [d.K_len hk] at this; exact this
        have := hat j hj'
        rw [Go.Deep.add_add] at this
        rw [this, hj])
    refine ⟨ys, ⟨some a, cap, by rw [hys], by rw [hys]; exact hl, ⟨rfl, ?_, fun _ => ⟨a, rfl, fun j p hj => (hyr j p hj).1⟩⟩⟩, ?_, fun x hx => ?_⟩
    · rw [hys]; unfold maxLen at hm; omega
    · rw [hys]; omega
    · obtain ⟨i, hgi⟩ := List.mem_iff_getElem?.1 hx
      exact (hyr i x hgi).2

/-- A struct's fields, from cell 'off' on. -/
def OpensF (P : Program) (fs : List Field) (off : Nat) {α : Type} (d : Kd α) (ok : α → Prop) : Prop :=
  ∀ {H : Type} {enc : TypeId × Value → H} {w : World} {base : Nat} {spare : Nat → Bool} {held : Bool} {n : Nat} {cs : List Value} ,
    (∀ (i : Nat) (f : Field), fs[i]? = some f → ∃ x, DataW.trod enc P w base spare held n f.type ((cs.drop f.offset).take (P.cellsOf f.type)) = some x) → ∃ y : α, d.K w y ((cs.drop off).take d.sz) ∧ ok y

theorem opensF_one {P : Program} {f : Field} {off : Nat} {α : Type} {d : Kd α} {ok : α → Prop} (ho : f.offset = off) (h : Opens P f.type d ok) : OpensF P [f] off d ok := by
  intro H enc w base spare held n cs hf
  obtain ⟨x, hx⟩ := hf 0 f rfl
  rw [ho, h.1] at hx
  exact h.2 hx
theorem opensF_cons {P : Program} {f : Field} {fs : List Field} {off : Nat} {α β : Type} {a : Kd α} {b : Kd β} {oka : α → Prop} {okb : β → Prop} (ho : f.offset = off) (h : Opens P f.type a oka) (hs : OpensF P fs (off + a.sz) b okb) :
    OpensF P (f :: fs) off (Kd.pair a b) (fun y => oka y.1 ∧ okb y.2) := by
  intro H enc w base spare held n cs hf
  obtain ⟨x, hx⟩ := hf 0 f rfl
  rw [ho, h.1] at hx
  obtain ⟨y, hy, oy⟩ := h.2 hx
  obtain ⟨z, hz, oz⟩ := hs (cs := cs) (fun i g hg => hf (i + 1) g hg)
  refine ⟨(y, z), ⟨(cs.drop off).take a.sz, (cs.drop (off + a.sz)).take b.sz, ?_, hy, hz⟩, oy, oz⟩
  show (cs.drop off).take (a.sz + b.sz) = _
  rw [List.take_add, List.drop_drop]
theorem opens_struct {P : Program} {t : TypeId} {fs : Array Field} {α β : Type} {d : Kd α} {ok : α → Prop} {f : β → α} (ht : P.underlying t = some (.struct fs)) (hc : P.cellsOf t = d.sz) (hinv : ∀ y, ∃ z, f z = y) (h : OpensF P fs.toList 0 d ok) :
    Opens P t (Kd.iso d f) (fun z => ok (f z)) := by
  refine ⟨hc, fun {H enc w base spare held fuel cs x} hx => ?_⟩
  obtain ⟨xs, n, _, _, hlen, hxl, hf⟩ := DataW.trod_struct ht hx
  obtain ⟨y, hy, oy⟩ := h (cs := cs) (fun i g hg => by
    have hg' : fs[i]? = some g := by simpa using hg
    have hi : i < xs.length := by rw [hxl]; exact (Array.getElem?_eq_some_iff.1 hg').1
    exact ⟨xs[i], by rw [hf i g hg', List.getElem?_eq_getElem hi]⟩)
  obtain ⟨z, rfl⟩ := hinv y
  refine ⟨z, ?_, oy⟩
  have : (cs.drop 0).take d.sz = cs := by rw [List.drop_zero, ← hc, ← hlen, List.take_length]
  rw [this] at hy
  exact hy
theorem Opens.mono {P : Program} {t : TypeId} {α : Type} {d : Kd α} {ok ok' : α → Prop} (h : Opens P t d ok) (hi : ∀ x, ok x → ok' x) : Opens P t d ok' :=
  ⟨h.1, fun hx => by obtain ⟨y, hy, oy⟩ := h.2 hx; exact ⟨y, hy, hi y oy⟩⟩
theorem wf64 {n : Int} (h : (Lit.int .i64 n).wf = true) : -9223372036854775808 ≤ n ∧ n ≤ 9223372036854775807 := by
  simpa [Lit.wf, IntKind.min, IntKind.max, IntKind.bits, IntKind.signed] using h
end Go.Proofs.Ytfgdfnnddoncjaa.X
