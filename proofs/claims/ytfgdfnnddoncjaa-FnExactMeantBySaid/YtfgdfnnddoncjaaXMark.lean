/- A loop over rows of rows that writes each element, one at a time: the element is out (Hol) while it is written. -/
import Derived.Great.BuildSlice
import Derived.Test.YtfgdfnnddoncjaaXWalk
import Derived.Test.YtfgdfnnddoncjaaXWords
namespace Go.Proofs.YtfgdfnnddoncjaaW.PrintMore
open Go.RowKit Go.Proofs.YtfgdfnnddoncjaaW.PrintWords Go.Proofs.YtfgdfnnddoncjaaW.PrintLast
structure Hol {α : Type} (d : Kd α) (e : Nat) (w0 w W : World) (P : Nat → Prop) (g n cap : Nat) (xs : List α) (i : Int) (oki : Nat → Prop) (c : List Value) : Prop where
  hh : Kd.H d e W w0.heap.size P (.slice (some ⟨g, 0, none⟩) n cap) xs i oki c
  hb : Below w0.heap.size w0 W
  hk : Kept w W P
  h0 : 0 ≤ i
  h1 : i < n
section
variable {α β : Type} {d : Kd α} {dr : Kd β} {e er : Nat} {w0 w W W2 : World} {P okr oki : Nat → Prop} {g n cap : Nat} {xs : List α} {ys : List β} {i : Int} {c : List Value} {v u : Value}
theorem Hol.own (h : Hol d e w0 w W P g n cap xs i oki c) : P g ∧ ¬ oki g ∧ w0.heap.size ≤ g := by
  obtain ⟨_, f, hR⟩ := h.hh
  have h2 := hR.1 g (by simp [Value.ownBlock])
  exact ⟨h2.1, h2.2, Kd.R_base hR g (by simp [Value.ownBlock])⟩
theorem Hol.of (h : Kd.S d e W w0.heap.size P (.slice (some ⟨g, 0, none⟩) n cap) xs) (hb : Below w0.heap.size w0 W) (hk : Kept w W P) (z : α) (h0 : 0 ≤ i) (h1 : i < n) : ∃ oki c, Hol d e w0 w W P g n cap xs i oki c ∧ d.M W w0.heap.size oki (xs.getD i.toNat z) c := by
  obtain ⟨oki, c, _, hM, _, _, hH⟩ := Kd.S_lend h z i h0 h1
  exact ⟨oki, c, ⟨hH, hb, hk, h0, h1⟩, hM⟩
theorem Hol.cell (h : Hol d e w0 w W P g n cap xs i oki c) {j : Nat} (hj : c[j]? = some u) : W.cell? ⟨g, i.toNat * d.sz + j, none⟩ = some u := (Kd.H_at h.hh h.h0 h.h1).1 j u hj
theorem Hol.frozen (h : Hol d e w0 w W P g n cap xs i oki c) (j : Nat) : W.frozen? ⟨g, i.toNat * d.sz + j, none⟩ = false := (Kd.H_at h.hh h.h0 h.h1).2 j
theorem Hol.cell1 (h : Hol d e w0 w W P g n cap xs i oki c) (h1 : d.sz = 1) (hj : c[0]? = some u) : W.cell? ⟨g, i.toNat, none⟩ = some u := by
  have h2 := h.cell hj
  rwa [h1, Nat.mul_one, Nat.add_zero] at h2
theorem Hol.frozen1 (h : Hol d e w0 w W P g n cap xs i oki c) (h1 : d.sz = 1) : W.frozen? ⟨g, i.toNat, none⟩ = false := by
  have h2 := h.frozen 0
  rwa [h1, Nat.mul_one, Nat.add_zero] at h2
theorem Hol.put (h : Hol d e w0 w W P g n cap xs i oki c) (j : Nat) (hj : j < d.sz) (hu : u.oneCell' = true) (hw : W2 = W.setCell ⟨g, i.toNat * d.sz + j, none⟩ u) : Hol d e w0 w W2 P g n cap xs i oki (c.set j u) := by
  subst hw
  obtain ⟨_, _, _, hcl, _⟩ := Kd.H_raw h.hh h.h0 h.h1
  have h2 := (Kd.H_seg h.hh h.h0 h.h1 (seg := [u]) (j := j) (by simp; omega) (by simpa using hu)).1
  have hc : c.take j ++ [u] ++ c.drop (j + [u].length) = c.set j u := by
    rw [List.set_eq_take_append_cons_drop, if_pos (by omega)]
    simp
  rw [hc] at h2
  exact ⟨h2, below_set h.hb h.own.2.2, h.hk.setCell (.inl h.own.1) u, h.h0, h.h1⟩
theorem Hol.far (h : Hol d e w0 w W P g n cap xs i oki c) (hr : Kd.R dr er W w0.heap.size oki v ys) {o : Nat} (hw : W2 = W.setCell ⟨g, o, none⟩ u) : Kd.R dr er W2 w0.heap.size oki v ys := by
  subst hw
  exact Kd.R_far hr (fun k hk e_ => h.own.2.1 (by rw [← show k = g from e_]; exact hk)) u
theorem Hol.below (h : Hol d e w0 w W P g n cap xs i oki c) (hb : Below W.heap.size W W2) : Hol d e w0 w W2 P g n cap xs i oki c :=
  ⟨Kd.H_below h.hh hb, below_step h.hb hb, h.hk.below hb, h.h0, h.h1⟩
theorem Hol.row (h : Hol d e w0 w W P g n cap xs i oki c) (hb : Below w0.heap.size w0 W2) (hk : Kept W W2 oki) : Hol d e w0 w W2 P g n cap xs i oki c :=
  ⟨Kd.H_step h.hh (fun k _ hn hlt => hk.2 k hlt hn), hb, h.hk.then_ hk (fun k h2 => .inl (h.hh.1 k h2)), h.h0, h.h1⟩
theorem Hol.back (h : Hol d e w0 w W P g n cap xs i oki c) {x' : α} (hM : d.M W w0.heap.size oki x' c) : Kd.S d e W w0.heap.size P (.slice (some ⟨g, 0, none⟩) n cap) (xs.set i.toNat x') := Kd.H_back h.hh hM (fun _ h => h)
end
/-- Each element in its turn, a number handed on. -/
def mapK {α : Type} (one : α → Int → Option (Int × α)) : List α → Int → Option (Int × List α)
  | [], x => some (x, [])
  | e :: l, x => (one e x).bind fun t => (mapK one l t.1).bind fun u => some (u.1, t.2 :: u.2)
section
variable {α : Type} {one one' : α → Int → Option (Int × α)} {l0 xs r2 : List α} {r1 x : Int} {i : Nat}
theorem mapK_mono (h : ∀ e x, LeO (one e x) (one' e x)) : ∀ l x, LeO (mapK one l x) (mapK one' l x)
  | [], _ => LeO.refl _
  | e :: l, x => LeO.bind (h e x) (fun _ => LeO.bind (mapK_mono h l _) (fun _ => LeO.refl _))
def MInv (one : α → Int → Option (Int × α)) (l0 : List α) (r1 : Int) (r2 xs : List α) (x : Int) (i : Nat) : Prop :=
  ∃ done out, xs = done ++ l0.drop i ∧ done.length = i ∧ i ≤ l0.length ∧ mapK one (l0.drop i) x = some (r1, out) ∧ r2 = done ++ out
theorem MInv.start (h : mapK one l0 x = some (r1, r2)) : MInv one l0 r1 r2 l0 x 0 := ⟨[], r2, rfl, rfl, Nat.zero_le _, h, rfl⟩
theorem MInv.len (h : MInv one l0 r1 r2 xs x i) : xs.length = l0.length := by
  obtain ⟨done, out, rfl, rfl, h1, _⟩ := h
  rw [List.length_append, List.length_drop]
  omega
theorem MInv.step (h : MInv one l0 r1 r2 xs x i) (z : α) (hi : i < l0.length) {q : Int} (hq : q = (i : Int)) : ∃ t, one (xs.getD q.toNat z) x = some t ∧ MInv one l0 r1 r2 (xs.set q.toNat t.2) t.1 (i + 1) := by
  subst hq
  rw [Int.toNat_natCast]
  obtain ⟨done, out, rfl, rfl, _, h2, h3⟩ := h
  rw [List.drop_eq_getElem_cons hi, mapK] at h2
  obtain ⟨t, ht, h2⟩ := Option.bind_eq_some_iff.mp h2
  obtain ⟨u, hu, h2⟩ := Option.bind_eq_some_iff.mp h2
  simp only [Option.some.injEq, Prod.mk.injEq] at h2
  obtain ⟨rfl, rfl⟩ := h2
  refine ⟨t, ?_, done ++ [t.2], u.2, ?_, by simp, hi, hu, by rw [h3]; simp⟩
  · rw [List.getD_eq_getElem?_getD, List.getElem?_append_right (Nat.le_refl _), Nat.sub_self, List.drop_eq_getElem_cons hi]
    exact ht
  · rw [List.drop_eq_getElem_cons hi, List.set_append_right _ _ (Nat.le_refl _), Nat.sub_self, List.set_cons_zero, List.append_assoc]
    rfl
theorem MInv.stop (h : MInv one l0 r1 r2 xs x i) (hi : ¬ i < l0.length) : x = r1 ∧ xs = r2 := by
  obtain ⟨done, out, rfl, rfl, h1, h2, rfl⟩ := h
  rw [List.drop_of_length_le (by omega)] at h2 ⊢
  simp only [mapK, Option.some.injEq, Prod.mk.injEq] at h2
  obtain ⟨rfl, rfl⟩ := h2
  exact ⟨rfl, rfl⟩
end
end Go.Proofs.YtfgdfnnddoncjaaW.PrintMore
namespace Go.Proofs.YtfgdfnnddoncjaaW.PrintMore
open Go.RowKit Go.Proofs.YtfgdfnnddoncjaaW.PrintWords Go.Proofs.YtfgdfnnddoncjaaW.PrintLast
/-- The blocks that one call has made, of these types. -/
def Zone (Wa Wb : World) (E : List Nat) (k : Nat) : Prop := (Wa.heap.size ≤ k ∧ k < Wb.heap.size) ∧ ∃ q, q ∈ E ∧ ∃ cells, Wb.heap[k]? = some (.cells cells q (0, 0))
section
variable {α : Type} {d : Kd α} {e g k b : Nat} {w W W2 W3 W4 : World} {E E' : List Nat} {ok P : Nat → Prop} {v : Value} {xs : List α}
theorem Zone.apart (h : Zone W W2 E k) (h' : Zone W3 W4 E' k) (hl : W2.heap.size ≤ W3.heap.size ∨ W4.heap.size ≤ W.heap.size) : False := by
  obtain ⟨⟨h1, h2⟩, _⟩ := h
  obtain ⟨⟨h3, h4⟩, _⟩ := h'
  omega
theorem Zone.apart_type (h : Zone W W2 E k) (h' : Zone W3 W2 E' k) (hd : (E.any fun q => E'.any fun p => p == q) = false) : False := by
  obtain ⟨_, q, hq, c, hc⟩ := h
  obtain ⟨_, p, hp, c', hc'⟩ := h'
  rw [hc] at hc'
  simp only [Option.some.injEq, Obj.cells.injEq] at hc'
  have : (E.any fun q => E'.any fun p => p == q) = true := List.any_eq_true.2 ⟨q, hq, List.any_eq_true.2 ⟨p, hp, by simp [hc'.2.1]⟩⟩
  rw [hd] at this
  cases this
theorem Zone.notblk (h : Zone W W2 E k) (e : k = g) (hl : W2.heap.size ≤ g ∨ g < W.heap.size) : False := by
  obtain ⟨⟨h1, h2⟩, _⟩ := h
  omega
theorem S_zone (h : Kd.S d e W2 W.heap.size ok v xs) (hb : w.heap.size ≤ W.heap.size) : Kd.S d e W2 w.heap.size (Zone W W2 (e :: d.E)) v xs :=
  Kd.S_lower (Kd.S_mono (Kd.S_bound h) (fun _ hk => ⟨⟨hk.2.1, hk.2.2.1⟩, hk.2.2.2⟩)) hb
theorem R_zone (h : Kd.R d e W2 W.heap.size ok v xs) (hb : w.heap.size ≤ W.heap.size) : Kd.R d e W2 w.heap.size (Zone W W2 (e :: d.E)) v xs :=
  Kd.R_lower (Kd.R_mono (Kd.R_bound h) (fun _ hk => ⟨⟨hk.2.1, hk.2.2.1⟩, hk.2.2.2⟩)) hb
def ZoneU (Wa Wb : World) (k : Nat) : Prop := Wa.heap.size ≤ k ∧ k < Wb.heap.size
theorem ZoneU.apart (h : ZoneU W W2 k) (h' : Zone W3 W4 E' k) (hl : W2.heap.size ≤ W3.heap.size ∨ W4.heap.size ≤ W.heap.size) : False := by
  obtain ⟨h1, h2⟩ := h
  obtain ⟨⟨h3, h4⟩, _⟩ := h'
  omega
theorem ZoneU.notblk (h : ZoneU W W2 k) (e : k = g) (hl : W2.heap.size ≤ g ∨ g < W.heap.size) : False := by
  obtain ⟨h1, h2⟩ := h
  omega
theorem N_zone (h : Kd.N d e W2 W.heap.size (fun k => (W.heap.size ≤ k) ∧ ok k) v xs) (hb : w.heap.size ≤ W.heap.size) : Kd.N d e W2 w.heap.size (ZoneU W W2) v xs :=
  Kd.N_lower (Kd.N_mono (Kd.N_bound h) (fun _ hk => ⟨hk.1.1, hk.2⟩)) hb
theorem R_zoneP (h : Kd.R d e W2 W.heap.size P v xs) (hb : w.heap.size ≤ W.heap.size) : Kd.R d e W2 w.heap.size (fun k => Zone W W2 (e :: d.E) k ∧ P k) v xs :=
  Kd.R_lower (Kd.R_mono (Kd.R_bound h) (fun _ hk => ⟨⟨⟨hk.2.1, hk.2.2.1⟩, hk.2.2.2⟩, hk.1⟩)) hb
theorem S_zoneP (h : Kd.S d e W2 W.heap.size P v xs) (hb : w.heap.size ≤ W.heap.size) : Kd.S d e W2 w.heap.size (fun k => Zone W W2 (e :: d.E) k ∧ P k) v xs :=
  Kd.S_lower (Kd.S_mono (Kd.S_bound h) (fun _ hk => ⟨⟨⟨hk.2.1, hk.2.2.1⟩, hk.2.2.2⟩, hk.1⟩)) hb
theorem S_here (h : Kd.S d e w b P v xs) : Kd.S d e w b (fun k => P k ∧ k < w.heap.size) v xs := Kd.S_mono (Kd.S_bound h) (fun _ hk => ⟨hk.1, hk.2.2.1⟩)
theorem R_here (h : Kd.R d e w b P v xs) : Kd.R d e w b (fun k => P k ∧ k < w.heap.size) v xs := Kd.R_mono (Kd.R_bound h) (fun _ hk => ⟨hk.1, hk.2.2.1⟩)
theorem nd_ {c : Prop} {dc : Decidable c} {x : Option α} {r : α} (h : @ite _ c dc x none = some r) : c ∧ x = some r := by
  by_cases hc : c
  · rw [if_pos hc] at h; exact ⟨hc, h⟩
  · rw [if_neg hc] at h; cases h
end
theorem bsl6_ {P : Program} {ops : Array Oper} {rest : List Oper} {o : Oper} {a : Act} {w : World} {Q : Exit → Act → World → Prop} (t e : TypeId) {z0 z1 z2 z3 z4 z5 : Value} {bytes : Nat} (hu : P.underlying t = some (.slice e)) (hi : (P.info? e).map (fun i => (i.zero, i.size, i.bytes)) = some (some (.agg #[z0, z1, z2, z3, z4, z5]), 6, bytes))
    (N : Nat) (x : Operand) (c0 c1 c2 c3 c4 c5 : Value) (h : wpList P ops Q rest (a.put (some N) (.slice (some ⟨w.heap.size, 0, none⟩) 1 1)) (w.alloc (.cells #[c0, c1, c2, c3, c4, c5] e)))
    (hx : a.eval x = .agg #[c0, c1, c2, c3, c4, c5] := by rfl) (hg : o.guard = none := by rfl) (hd : o.dst = some N := by rfl) (ho : o.op = .buildSlice t 1 #[(0, x)] := by rfl) : wpList P ops Q (o :: rest) a w := by
  cases hie : P.info? e with
  | none => rw [hie] at hi; cases hi
  | some ie =>
    rw [hie, Option.map_some, Option.some.injEq, Prod.mk.injEq, Prod.mk.injEq] at hi
    obtain ⟨hz, hs, _⟩ := hi
    refine wpList_buildSlice hg t e 1 _ ho _ ie _ hu hie hz (by rw [hs]; decide) (by rw [hs]; decide) ?_ (hd ▸ h)
    have e1 : (Array.map (fun x : Nat × Operand => match x with | (i, x) => (i, a.eval x)) #[(0, x)]).toList = [(0, a.eval x)] := by simp
    have e2 : (Array.range (1 * 6)).map (fun x => (Value.agg #[z0, z1, z2, z3, z4, z5]).cells[x % (Value.agg #[z0, z1, z2, z3, z4, z5]).cells.size]!) = #[z0, z1, z2, z3, z4, z5] := by
      have : Array.range (1 * 6) = #[0, 1, 2, 3, 4, 5] := by decide
      rw [this]
      simp [Value.cells]
    rw [hs, e1, e2, hx]
    simp [Instr.fill, Value.cells]
end Go.Proofs.YtfgdfnnddoncjaaW.PrintMore
