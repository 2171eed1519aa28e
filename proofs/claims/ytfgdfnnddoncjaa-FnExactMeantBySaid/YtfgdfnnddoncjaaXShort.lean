/- Steps of a walk told in few words: a test whose other answer is none, a row's fact in a world that has only grown, a frame written out. -/
import Derived.Test.YtfgdfnnddoncjaaXStep
import Derived.Test.YtfgdfnnddoncjaaXWords
namespace Go.Proofs.YtfgdfnnddoncjaaW.PrintLast
open Go.RowKit Go.Proofs.YtfgdfnnddoncjaaW.PrintWords
theorem ifn_ {α : Type} {c : Prop} {d : Decidable c} {x : Option α} {r : α} (h : @ite (Option α) c d x none = some r) : c ∧ x = some r := by
  by_cases hc : c
  · rw [if_pos hc] at h; exact ⟨hc, h⟩
  · rw [if_neg hc] at h; cases h
theorem ifm_ {α : Type} {c : Prop} {d : Decidable c} {x : Option α} {r : α} (h : @ite (Option α) c d none x = some r) : ¬ c ∧ x = some r := by
  by_cases hc : c
  · rw [if_pos hc] at h; cases h
  · rw [if_neg hc] at h; exact ⟨hc, h⟩
theorem ra_ {α : Type} {d : Kd α} {e base : Nat} {ok : Nat → Prop} {w w' : World} {v : Value} {xs : List α} (h : d.R e w base ok v xs)
    (k : d.R e w base ok v xs → d.R e w' base ok v xs := by (intro hb_; (with_reducible repeat (first | apply Kd.R_alloc | apply Kd.R_drewN | apply Kd.R_drew)); exact hb_)) : d.R e w' base ok v xs := k h
theorem sq_ {α : Type} {a b : α} (h : a = b := by first | rfl | (simp; done) | (simp [*]; done) | (simp [wrap64]; done)) : a = b := h
theorem od_ {p : Prop} {d : Decidable p} (h : @decide p d = true := by first | (with_reducible assumption) | assumption) : p := of_decide_eq_true h
/-- A block that is none of a row's. -/
abbrev nb (k : Nat) (v : Value) : Prop := some k ≠ v.ownBlock
theorem am_ {p : Prop} (h : p) : Aside0 p := ⟨h⟩
theorem hc_ {w w' : World} {a : Addr} {v : Value} (hB : Below w.heap.size w w') (h : w.cell? a = some v) : w'.cell? a = some v := (hB.cell (World.block_lt_of_cell? w _ h)).trans h
theorem kk_ {w w' w1 : World} {S : Nat → Prop} (h0 : Kept w w' S) (h : Kept w w' S → Kept w w1 S := by (intro hb_; repeat (first | (with_reducible first | exact hb_ | apply Kept.alloc | apply Kept.drewN | apply Kept.drew) | exact hb_))) : Kept w w1 S := h h0
section
variable {P : Program} {ops : Array Oper} {Q : Exit → Act → World → Prop} {S : World → Prop} {ds : List Nat} {fuel : Nat} {l : Array Bool} {a a' : Act} {w : World} {md : Region.Mode}
theorem nm_ (h : wpAnyLast P md ops Q S ds fuel l a' w) (ha : a = a' := by first | (simp only [putAll, Act.put, List.setIfInBounds_toArray, List.set_cons_zero, List.set_cons_succ]; done) | (simp only [putAll, Act.put, List.setIfInBounds_toArray, List.set_cons_zero, List.set_cons_succ]; rfl)) : wpAnyLast P md ops Q S ds fuel l a w := norm_ ha h
end
end Go.Proofs.YtfgdfnnddoncjaaW.PrintLast
