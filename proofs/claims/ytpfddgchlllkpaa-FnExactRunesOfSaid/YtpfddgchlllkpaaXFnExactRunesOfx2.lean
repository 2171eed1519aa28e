/- What the Go functions that this law comes to compute, each walked; written by a program of this session. -/
import Derived.Test.YtpfddgchlllkpaaXMark
import Derived.Test.YtpfddgchlllkpaaXFnExactRunesOfx0
import Derived.Test.YtpfddgchlllkpaaXFnExactRunesOfx1
namespace Go.Proofs.Ytpfddgchlllkpaa.XFnExactRunesOf
open Go.RowKit Go.Proofs.YtpfddgchlllkpaaW.PrintWords Go.Proofs.YtpfddgchlllkpaaW.PrintLast Go.Proofs.YtpfddgchlllkpaaW.PrintMore
attribute [local go_sem] str_geq max2_int min2_int max_two min_two max_three min_three max_four min_four   -- for this text's walks alone
set_option linter.unusedVariables false
set_option linter.unusedSimpArgs false

/-! ### impl_runesOf: function 54 -/
/-! the runes of a text: the iterator's block is one of the call's own -/
def impl_runesOf.runes (s : ByteArray) : Nat → Nat → List Int
  | 0, _ => []
  | n + 1, p => if p < s.size then ((Utf8.decode s p).1 : Int) :: impl_runesOf.runes s n (p + (Utf8.decode s p).2) else []
def impl_runesOf.f (a0 : ByteArray) : Option (List Int) := if a0.size < 1099511627776 then some (impl_runesOf.runes a0 a0.size 0) else none
def impl_runesOf.setIter (w : World) (g : Nat) (s : ByteArray) (p : Nat) : World := { w with heap := w.heap.setIfInBounds g (.stringIter s p) }
theorem impl_runesOf.next_run {P : Program} {w : World} {g : Nat} {s : ByteArray} {p : Nat} (ty : TypeId) (h : w.heap[g]? = some (.stringIter s p)) (hp : p < s.size) :
    (Instr.next (.pointer (some ⟨g, 0, none⟩)) true ty).run P w = .ok (.tuple #[.bool true, .int .i64 p, .int .i32 (Utf8.decode s p).1]) (impl_runesOf.setIter w g s (p + (Utf8.decode s p).2)) := by
  simp only [Instr.next, getObj, setObj, Sem.run_bind, Sem.run, h, Result.andThen, hp, if_true]
  simp [goInt, Sem.run, h, impl_runesOf.setIter]
theorem impl_runesOf.next_end {P : Program} {w : World} {g : Nat} {s : ByteArray} {p : Nat} (ty : TypeId) (h : w.heap[g]? = some (.stringIter s p)) (hp : ¬ p < s.size) :
    (Instr.next (.pointer (some ⟨g, 0, none⟩)) true ty).run P w = .ok (.tuple #[.bool false]) w := by
  simp [Instr.next, getObj, Sem.run, h, hp]
theorem impl_runesOf.range_run {P : Program} (w : World) (t : TypeId) (s : ByteArray) (h : P.underlying t = some .string) :
    (Instr.range t (.string s)).run P w = .ok (.pointer (some ⟨w.heap.size, 0, none⟩)) (w.alloc (.stringIter s 0)) := by
  simp [Instr.range, run_underlying h]
theorem impl_runesOf.set_at {w : World} {g : Nat} {s : ByteArray} {p : Nat} (h : w.heap[g]? = some (.stringIter s p)) (q : Nat) : (impl_runesOf.setIter w g s q).heap[g]? = some (.stringIter s q) := by
  simp [impl_runesOf.setIter, blk_lt h]
theorem impl_runesOf.set_size (w : World) (g : Nat) (s : ByteArray) (q : Nat) : (impl_runesOf.setIter w g s q).heap.size = w.heap.size := by simp [impl_runesOf.setIter]
theorem impl_runesOf.set_far {w : World} {g k : Nat} (s : ByteArray) (q : Nat) (hk : k ≠ g) : (impl_runesOf.setIter w g s q).heap[k]? = w.heap[k]? := by
  simp [impl_runesOf.setIter, Array.getElem?_setIfInBounds, Ne.symm hk]
theorem impl_runesOf.set_below {w0 w : World} {B g : Nat} {s : ByteArray} (h : Below B w0 w) (hg : B ≤ g) (q : Nat) : Below B w0 (impl_runesOf.setIter w g s q) :=
  h.trans ⟨rfl, rfl, rfl, by rw [impl_runesOf.set_size]; exact Nat.le_refl _, fun k hk => impl_runesOf.set_far _ _ (by omega)⟩
theorem impl_runesOf.set_row {α : Type} {d : Kd α} {e base : Nat} {ok : Nat → Prop} {w : World} {v : Value} {xs : List α} {g : Nat} {s : ByteArray} {p : Nat} (h : d.R e w base ok v xs) (hg : w.heap[g]? = some (.stringIter s p)) (q : Nat) : d.R e (impl_runesOf.setIter w g s q) base ok v xs := by
  refine Kd.R_mono (Kd.R_step (Kd.R_bound h) (fun k hk _ => impl_runesOf.set_far _ _ (fun he => ?_))) (fun _ hk => hk.1)
  obtain ⟨_, _, _, q', _, cells, hc⟩ := hk
  rw [he, hg] at hc
  cases hc
theorem impl_runesOf.far_row {α : Type} {d : Kd α} {e base : Nat} {ok : Nat → Prop} {w : World} {v : Value} {xs : List α} {g : Nat} {s : ByteArray} {p : Nat} (h : d.R e w base ok v xs) (hg : w.heap[g]? = some (.stringIter s p)) : some g ≠ v.ownBlock := by
  intro he
  obtain ⟨_, _, _, q', _, cells, hc⟩ := (Kd.R_bound h).1 g he.symm
  rw [hg] at hc
  cases hc
theorem impl_runesOf.decode_small (s : ByteArray) (p : Nat) : (Utf8.decode s p).1 ≤ 1114111 ∧ 1 ≤ (Utf8.decode s p).2 := by
  have hb : ∀ k, (s.get! k).toNat < 256 := fun k => UInt8.toNat_lt _
  have e0 := hb (p + 0)
  have e1 := hb (p + 1)
  have e2 := hb (p + 2)
  have e3 := hb (p + 3)
  unfold Utf8.decode
  simp only [Utf8.runeError]
  repeat' split
  all_goals first | (simp only; omega) | skip
  all_goals
    rename_i hv
    simp only [Utf8.valid, Bool.and_eq_true, Bool.or_eq_true, decide_eq_true_eq] at hv
    simp only
    omega
theorem impl_runesOf.runes_end (s : ByteArray) (n p : Nat) (h : ¬ p < s.size) : impl_runesOf.runes s n p = [] := by
  cases n with
  | zero => rfl
  | succ n => rw [impl_runesOf.runes, if_neg h]
set_option maxHeartbeats 8000000 in
set_option maxRecDepth 100000 in
theorem impl_runesOf.calls (a0 : ByteArray) (r : List Int) (w : World) (h : impl_runesOf.f a0 = some r) :
    Calls Try.prog 54 #[.string a0] w fun e w' => ∃ v0_ : Value, e = .returned v0_ ∧ Kd.R (Kd.int .i64) 3 w' w.heap.size (fun _ => True) v0_ r ∧ Below w.heap.size w w' := by
  unfold impl_runesOf.f at h
  split at h
  case isFalse => cases h
  rename_i hsz
  obtain rfl := Option.some.inj h
  have hrange := impl_runesOf.range_run (P := Try.prog)
  go_enter Try.func54, Try.ntmps54
  go_wp2_with ((with_reducible refine gate_dst (N := 6) rfl ?_); refine Kd.R_lit (Kd.int .i64) _ 3 ?hg (N := 6) ?hd (xs := ([] : List Int)) (inner := []) (ok := fun _ => True) (okp := fun _ => True) ?hr ?hp (fun _ hk => hk) trivial (Below.refl _ _) (Nat.le_refl _) (by simp) ?_; (case hd => rfl); (case hg => rfl); (case hr => first | (go_simp; done) | (go_simp; rfl)); (case hp => exact (Reps.none _ _)); intro v6 w3 ho hb3 hg_ hnew_; clear hg_ hnew_; have HO := Aside0.mk ho; have HB := Aside0.mk hb3; clear ho hb3)
  have hgi : w.heap.size ≤ w3.heap.size := below_size HB.out
  have HGI := Aside0.mk hgi
  clear hgi hrange
  go_loopg [3] a0.size (fun kq v3 w' => ∃ (p : Nat) (o : List Int), Aside0 (o ++ impl_runesOf.runes a0 kq p = impl_runesOf.runes a0 a0.size 0) ∧ Aside0 (a0.size ≤ p + kq) ∧ Aside0 (o.length ≤ p) ∧ Aside0 (Kd.R (Kd.int .i64) 3 w' w.heap.size (fun _ => True) v3 o) ∧ Aside0 (w'.heap[w3.heap.size]? = some (.stringIter a0 p)) ∧ Aside0 (Below w.heap.size w w'))
  case atStart => exact ⟨0, [], ⟨rfl⟩, ⟨by omega⟩, ⟨Nat.le_refl _⟩, ⟨Kd.R_alloc HO.out _⟩, ⟨blk_new _ _⟩, ⟨HB.out.alloc HGI.out _⟩⟩
  case round =>
    clear HO HB
    obtain ⟨p, o, HE, HK, HL, HO, BK, HB⟩ := hrel
    by_cases hp : p < a0.size
    · obtain ⟨k2, rfl⟩ : ∃ k2, gk = k2 + 1 := ⟨gk - 1, by have := HK.out; omega⟩
      have hnx := fun ty => impl_runesOf.next_run (P := Try.prog) ty BK.out hp
      have hE := HE.out
      rw [impl_runesOf.runes, if_pos hp] at hE
      obtain ⟨hc, hw1⟩ := impl_runesOf.decode_small a0 p
      generalize hdc : Utf8.decode a0 p = cw at hnx hE hc hw1
      clear hdc
      obtain ⟨c, wd⟩ := cw
      simp only at hnx hE hc hw1
      have HE2 := Aside0.mk hE
      have HW1 := Aside0.mk hw1
      have HP := Aside0.mk hp
      have hq : (0 : Int) ≤ (c : Int) ∧ (c : Int) ≤ 1114111 := by omega
      generalize hci : (c : Int) = ci at *
      have HO2 := Aside0.mk (impl_runesOf.set_row HO.out BK.out (p + wd))
      have BK2 := Aside0.mk (impl_runesOf.set_at BK.out (p + wd))
      have HB2 := Aside0.mk (impl_runesOf.set_below (s := a0) HB.out HGI.out (p + wd))
      clear hE hw1 hp hc HO BK HB hci
      go_wp2_with ((with_reducible refine gate_builtin (b := .append) (xs := #[.tmp 12, .tmp 15]) rfl ?_); at_builtin; refine Kd.R_append (Kd.int .i64) (w0 := w) w.heap.size rfl (.tmp 12) (.tmp 15) 42 3 (.int .i64 0) 8 rfl Try.underlying42 info3 rfl (by decide) (by omega) u3 o ci [.int .i64 ci] (fun _ => True) (fun _ => False) rfl rfl ?aP (fun _ hk => hk.elim) ?aF ?aO ?aB ?aS ?aL ?_; (case aP => exact rfl); (case aB => exact HB2.out); (case aF => exact (fun _ _ => trivial)); (case aO => exact HO2.out); (case aS => exact (below_size HB2.out)); (case aL => have := HL.out; have := HP.out; omega); intro v16 w5 ho hb hg hat; have n2_ := Aside0.mk hb; have n3_ := Aside0.mk ho; have n4_ := Aside0.mk (blk_grown BK2.out hg (impl_runesOf.far_row HO2.out BK2.out)); clear HB2 HO2 BK2; have HB := n2_; have HO := n3_; have BK := n4_; clear n2_ n3_ n4_; clear ho hb hg hat)
      go_roundg k2
      case measure => omega
      case rel => exact ⟨p + wd, o ++ [ci], ⟨by rw [List.append_assoc]; exact HE2.out⟩, ⟨by have := HK.out; have := HW1.out; omega⟩, ⟨by have := HL.out; have := HW1.out; rw [List.length_append, List.length_singleton]; omega⟩, ⟨HO.out⟩, ⟨BK.out⟩, ⟨HB.out⟩⟩
    · have hnx := fun ty => impl_runesOf.next_end (P := Try.prog) ty BK.out hp
      have hE := HE.out
      rw [impl_runesOf.runes_end _ _ _ hp, List.append_nil] at hE
      have HE2 := Aside0.mk hE
      clear hE HE hp
      go_wp2_with (fail "x")
      go_ret
      rw [← HE2.out]
      exact ⟨_, rfl, HO.out, HB.out⟩

/-! ### impl_RunesOf: function 24 -/
def impl_RunesOf.f (a0 : ByteArray) : Option (List Int × Bool) := if (a0.size : Int) > 400 then (some (([] : List Int), false)) else ((impl_runesOf.f a0).bind fun t109 => (some (t109, true)))
set_option maxHeartbeats 8000000 in
set_option maxRecDepth 100000 in
theorem impl_RunesOf.calls (a0 : ByteArray) (r1 : List Int) (r2 : Bool) (w : World) (h : impl_RunesOf.f a0 = some (r1, r2)) :
  Calls Try.prog 24 #[.string a0] w fun e w' => ∃ v0_ : Value, e = .returned (.tuple #[v0_, .bool r2]) ∧ Kd.R (Kd.int .i64) 3 w' w.heap.size (fun _ => True) v0_ r1 ∧ Below w.heap.size w w' := by
 have HB := Aside0.mk (Below.refl w.heap.size w)
 have H : (if (a0.size : Int) > 400 then (some (([] : List Int), false)) else ((impl_runesOf.f a0).bind fun t109 => (some (t109, true)))) = some (r1, r2) := h
 clear h
 by_cases c2 : (a0.size : Int) > 400
 ·rw [if_pos c2] at H
  have c2b0 : decide (400 < (a0.size : Int)) = true := decide_eq_true c2
  have c2b1 : decide (400 < a0.size) = true := decide_eq_true (by omega)
  clear c2
  simp only [Option.some.injEq, Prod.mk.injEq] at H
  obtain ⟨rfl, rfl⟩ := H
  go_enter Try.func24, Try.ntmps24
  go_wp2
  go_ret2
  exact ⟨_, by first | rfl | (simp [errW_none, errW_some] <;> rfl) | (simp [*, errW_none, errW_some] <;> rfl), by first | exact Kd.R_nil _ _ _ _ _ | exact Kd.N_nil _ _ _ _ _ | exact Kd.V_nil _ _ _ _ _ | exact Kd.Q_nil _ _ _ _ _ | exact Kd.S_nil _ _ _ _ _, bw_ HB.out⟩
 ·rw [if_neg c2] at H
  have c2b0 : decide (400 < (a0.size : Int)) = false := decide_eq_false c2
  have c2b1 : decide (400 < a0.size) = false := decide_eq_false (by omega)
  clear c2
  obtain ⟨t109, A30, H⟩ := bE_ H
  have A3 := Aside0.mk A30
  clear A30
  simp only [Option.some.injEq, Prod.mk.injEq] at H
  obtain ⟨rfl, rfl⟩ := H
  go_enter Try.func24, Try.ntmps24
  go_wp2_with (first | ((with_reducible refine gate_callee (f := 54) rfl ?_); refine goesL_ (some 8) rfl rfl Try.func54 (by kernel_rfl) rfl #[.string a0] rfl (by (try simp only [List.map_toArray, List.map_cons, List.map_nil]); first | done | rfl | (simp only [List.length_drop, List.length_take]; rfl)) ?_; (with_reducible refine (impl_runesOf.calls a0 t109 _ A3.out).mono ?_); rintro e w4 ⟨v110, rfl, ho0, hb⟩; refine ⟨_, rfl, ?_⟩; have n0_ := Aside0.mk (Kd.R_lower ho0 (below_size (bw_ HB.out))); have n1_ := Aside0.mk (below_step (bw_ HB.out) hb); clear HB; have HO111 := n0_; have HB := n1_; clear n0_ n1_; (try clear hb); (try clear hb2); (try clear hk); (try clear hi); (try clear ho0)))
  go_ret2
  exact ⟨_, by first | rfl | (simp [errW_none, errW_some] <;> rfl) | (simp [*, errW_none, errW_some] <;> rfl), by (with_reducible repeat (first | apply Kd.R_alloc | apply Kd.R_drewN | apply Kd.R_drew)); exact HO111.out, bw_ HB.out⟩

/-! ### laws_eqIntS: function 25 -/
def laws_eqIntS.l0 : Nat → List Int → List Int → Int → Option (Bool)
 | 0, _, _, _ => none
 | k + 1, x0, x1, x5 => if x5 < (x0.length : Int) then (if 0 ≤ x5 then (if x5 < (x1.length : Int) then (if (rd x0 x5) = (rd x1 x5) then (laws_eqIntS.l0 k x0 x1 (wrap64 (x5 + 1))) else (some false)) else (none)) else (none)) else (some true)
def laws_eqIntS.f (k : Nat) (l0 : List Int) (l1 : List Int) : Option (Bool) := if (l0.length : Int) = (l1.length : Int) then (laws_eqIntS.l0 k l0 l1 0) else (some false)
theorem laws_eqIntS.mono_l : ∀ k, (∀ y0 y1 y2, LeO (laws_eqIntS.l0 k y0 y1 y2) (laws_eqIntS.l0 (k + 1) y0 y1 y2))
 | 0 => fun _ _ _ r h => by simp [laws_eqIntS.l0] at h
 | k + 1 => by
  have ih0 := laws_eqIntS.mono_l k
  ·intro y0 y1 y2
   unfold laws_eqIntS.l0
   repeat' first
   | (with_reducible exact ih0 _ _ _)
   | (with_reducible exact LeO.refl _)
   | (with_reducible exact LeO.none _)
   | (with_reducible refine LeO.ite ?_ ?_)
   | (with_reducible refine LeO.bind ?_ (fun _ => ?_))
   | exact ih0 _ _ _
   | exact LeO.none _
   | refine LeO.ite ?_ ?_
   | refine LeO.bind ?_ (fun _ => ?_)
theorem laws_eqIntS.mono : ∀ a0 a1 k, LeO (laws_eqIntS.f k a0 a1) (laws_eqIntS.f (k + 1) a0 a1) := by
 intro a0 a1 k
 have ih0 := laws_eqIntS.mono_l k
 unfold laws_eqIntS.f
 repeat' first
   | (with_reducible exact ih0 _ _ _)
   | (with_reducible exact LeO.refl _)
   | (with_reducible exact LeO.none _)
   | (with_reducible refine LeO.ite ?_ ?_)
   | (with_reducible refine LeO.bind ?_ (fun _ => ?_))
   | exact ih0 _ _ _
   | exact LeO.none _
   | refine LeO.ite ?_ ?_
   | refine LeO.bind ?_ (fun _ => ?_)
set_option maxHeartbeats 8000000 in
set_option maxRecDepth 100000 in
theorem laws_eqIntS.calls (k : Nat) (A0 : Option Addr) (c0 : Nat) (l0 : List Int) (A1 : Option Addr) (c1 : Nat) (l1 : List Int) (r : Bool) (w : World) (hr0 : Kd.C (Kd.int .i64) w A0 l0.length l0) (hc0 : l0.length ≤ c0) (hr1 : Kd.C (Kd.int .i64) w A1 l1.length l1) (hc1 : l1.length ≤ c1) (h : laws_eqIntS.f k l0 l1 = some r) :
  Calls Try.prog 25 #[.slice A0 l0.length c0, .slice A1 l1.length c1] w fun e w' => e = .returned (.bool r) ∧ Drawn0 w w' := by
 have HR0 := Aside0.mk hr0
 have HC0 := Aside0.mk hc0
 clear hr0 hc0
 have HR1 := Aside0.mk hr1
 have HC1 := Aside0.mk hc1
 clear hr1 hc1
 have H : (if (l0.length : Int) = (l1.length : Int) then (laws_eqIntS.l0 k l0 l1 0) else (some false)) = some r := h
 clear h
 by_cases c3 : (l0.length : Int) = (l1.length : Int)
 ·rw [if_pos c3] at H
  have c3b0 : ((l0.length : Int) == (l1.length : Int)) = true := beq_iff_eq.mpr c3
  have c3b1 : ((l0.length : Int) != (l1.length : Int)) = false := bne_eq_false_iff_eq.mpr c3
  have c3b2 : (l0.length == l1.length) = true := by first | simpa using c3 | (simp at c3 ⊢; omega)
  clear c3
  have H' := Aside0.mk H
  clear H
  go_enter Try.func25, Try.ntmps25
  go_wp2
  repeat (go_quiet (fail); try go_wp2)
  go_loopg [5] k (fun kq v5 w' => ∃ (x5_1 : Int), v5 = .int .i64 x5_1 ∧ Aside0 (laws_eqIntS.l0 kq l0 l1 x5_1 = some r) ∧ Aside0 (kq ≤ k) ∧ Drawn0 w w')
  case atStart => exact ⟨(0), (by first | rfl | (simp; done) | (simp [*]; done) | (simp [wrap64]; done)), H', ⟨Nat.le_refl _⟩, by repeat (first | exact Drawn0.refl _ | apply Drawn0.step)⟩
  case round =>
   clear H'
   try clear c1
   try clear c2
   try clear p2
   try clear c3
   try clear c3b0
   try clear c3b1
   try clear c3b2
   obtain ⟨x5_1, rfl, HA, HK1, ⟨m1, rfl⟩⟩ := hrel
   cases gk with
   | zero => exact absurd HA.out (by simp [laws_eqIntS.l0])
   | succ k1 =>
    have H := HA.out
    clear HA
    simp only [laws_eqIntS.l0] at H
    by_cases c4 : x5_1 < (l0.length : Int)
    ·rw [if_pos c4] at H
     have c4b0 : decide (x5_1 < (l0.length : Int)) = true := decide_eq_true c4
     clear c4
     by_cases c5 : 0 ≤ x5_1
     ·rw [if_pos c5] at H
      have c5b0 : decide (0 ≤ x5_1) = true := decide_eq_true c5
      clear c5
      by_cases c6 : x5_1 < (l1.length : Int)
      ·rw [if_pos c6] at H
       have c6b0 : decide (x5_1 < (l1.length : Int)) = true := decide_eq_true c6
       clear c6
       by_cases c7 : (rd l0 x5_1) = (rd l1 x5_1)
       ·rw [if_pos c7] at H
        have c7b0 : ((rd l0 x5_1) == (rd l1 x5_1)) = true := beq_iff_eq.mpr c7
        have c7b1 : ((rd l0 x5_1) != (rd l1 x5_1)) = false := bne_eq_false_iff_eq.mpr c7
        clear c7
        have H' := Aside0.mk H
        clear H
        have p112 : 0 ≤ (x5_1 : Int) := of_decide_eq_true (by first | (with_reducible assumption) | assumption)
        have q112 : x5_1 < (l0.length : Int) := of_decide_eq_true (by first | (with_reducible assumption) | assumption)
        obtain ⟨ad112, e112, hx112_0⟩ := Kd.at_int HR0.out x5_1 p112 q112
        cases e112
        replace p112 := eq_true p112
        replace q112 := eq_true q112
        have p113 : 0 ≤ (x5_1 : Int) := of_decide_eq_true (by first | (with_reducible assumption) | assumption)
        have q113 : x5_1 < (l1.length : Int) := of_decide_eq_true (by first | (with_reducible assumption) | assumption)
        obtain ⟨ad113, e113, hx113_0⟩ := Kd.at_int HR1.out x5_1 p113 q113
        cases e113
        replace p113 := eq_true p113
        replace q113 := eq_true q113
        go_wp2
        repeat (go_quiet (fail); try go_wp2)
        go_roundg k1
        case measure => have := HK1.out; omega
        case rel => exact ⟨(wrap64 (x5_1 + 1)), (by first | rfl | (simp; done) | (simp [*]; done) | (simp [wrap64]; done)), H', ⟨by have := HK1.out; omega⟩, by repeat (first | exact Drawn0.refl _ | apply Drawn0.step)⟩
       ·rw [if_neg c7] at H
        have c7b0 : ((rd l0 x5_1) == (rd l1 x5_1)) = false := beq_eq_false_iff_ne.mpr c7
        have c7b1 : ((rd l0 x5_1) != (rd l1 x5_1)) = true := bne_iff_ne.mpr c7
        obtain rfl := Option.some.inj H
        have p112 : 0 ≤ (x5_1 : Int) := of_decide_eq_true (by first | (with_reducible assumption) | assumption)
        have q112 : x5_1 < (l0.length : Int) := of_decide_eq_true (by first | (with_reducible assumption) | assumption)
        obtain ⟨ad112, e112, hx112_0⟩ := Kd.at_int HR0.out x5_1 p112 q112
        cases e112
        replace p112 := eq_true p112
        replace q112 := eq_true q112
        have p113 : 0 ≤ (x5_1 : Int) := of_decide_eq_true (by first | (with_reducible assumption) | assumption)
        have q113 : x5_1 < (l1.length : Int) := of_decide_eq_true (by first | (with_reducible assumption) | assumption)
        obtain ⟨ad113, e113, hx113_0⟩ := Kd.at_int HR1.out x5_1 p113 q113
        cases e113
        replace p113 := eq_true p113
        replace q113 := eq_true q113
        go_wp2
        repeat (go_quiet (fail); try go_wp2)
        go_ret
        exact ⟨by first | rfl | (simp; done) | (simp [*]; done), by repeat (first | exact Drawn0.refl _ | apply Drawn0.step)⟩
      ·rw [if_neg c6] at H
       exact absurd H (by simp)
     ·rw [if_neg c5] at H
      exact absurd H (by simp)
    ·rw [if_neg c4] at H
     have c4b0 : decide (x5_1 < (l0.length : Int)) = false := decide_eq_false c4
     clear c4
     obtain rfl := Option.some.inj H
     go_wp2
     repeat (go_quiet (fail); try go_wp2)
     go_ret
     exact ⟨by first | rfl | (simp; done) | (simp [*]; done), by repeat (first | exact Drawn0.refl _ | apply Drawn0.step)⟩
 ·rw [if_neg c3] at H
  have c3b0 : ((l0.length : Int) == (l1.length : Int)) = false := beq_eq_false_iff_ne.mpr c3
  have c3b1 : ((l0.length : Int) != (l1.length : Int)) = true := bne_iff_ne.mpr c3
  have c3b2 : (l0.length == l1.length) = false := by first | simpa using c3 | (simp at c3 ⊢; omega)
  obtain rfl := Option.some.inj H
  go_enter Try.func25, Try.ntmps25
  go_wp2
  repeat (go_quiet (fail); try go_wp2)
  go_ret
  exact ⟨by first | rfl | (simp; done) | (simp [*]; done), by repeat (first | exact Drawn0.refl _ | apply Drawn0.step)⟩

/-! ### laws_markIntS: function 26 -/
def laws_markIntS.l0 : Nat → List Int → Int → Int → Option (Int × List Int)
 | 0, _, _, _ => none
 | k + 1, x0, x1, x5 => if x5 < (x0.length : Int) then (if 0 ≤ x5 then (laws_markIntS.l0 k (x0.set (x5 : Int).toNat x1) (wrap64 (x1 + 1)) (wrap64 (x5 + 1))) else (none)) else (some (x1, x0))
def laws_markIntS.f (k : Nat) (l0 : List Int) (a1 : Int) : Option (Int × List Int) := laws_markIntS.l0 k l0 a1 0
theorem laws_markIntS.mono_l : ∀ k, (∀ y0 y1 y2, LeO (laws_markIntS.l0 k y0 y1 y2) (laws_markIntS.l0 (k + 1) y0 y1 y2))
 | 0 => fun _ _ _ r h => by simp [laws_markIntS.l0] at h
 | k + 1 => by
  have ih0 := laws_markIntS.mono_l k
  ·intro y0 y1 y2
   unfold laws_markIntS.l0
   repeat' first
   | (with_reducible exact ih0 _ _ _)
   | (with_reducible exact LeO.refl _)
   | (with_reducible exact LeO.none _)
   | (with_reducible refine LeO.ite ?_ ?_)
   | (with_reducible refine LeO.bind ?_ (fun _ => ?_))
   | exact ih0 _ _ _
   | exact LeO.none _
   | refine LeO.ite ?_ ?_
   | refine LeO.bind ?_ (fun _ => ?_)
theorem laws_markIntS.mono : ∀ a0 a1 k, LeO (laws_markIntS.f k a0 a1) (laws_markIntS.f (k + 1) a0 a1) := by
 intro a0 a1 k
 have ih0 := laws_markIntS.mono_l k
 unfold laws_markIntS.f
 repeat' first
   | (with_reducible exact ih0 _ _ _)
   | (with_reducible exact LeO.refl _)
   | (with_reducible exact LeO.none _)
   | (with_reducible refine LeO.ite ?_ ?_)
   | (with_reducible refine LeO.bind ?_ (fun _ => ?_))
   | exact ih0 _ _ _
   | exact LeO.none _
   | refine LeO.ite ?_ ?_
   | refine LeO.bind ?_ (fun _ => ?_)
set_option maxHeartbeats 8000000 in
set_option maxRecDepth 100000 in
theorem laws_markIntS.calls (k : Nat) (P0_ : Nat → Prop) (u9000_ : Value) (l0 : List Int) (a1 : Int) (r1 : Int) (r2 : List Int) (w0 w : World) (hB : Below w0.heap.size w0 w) (ho0 : Kd.R (Kd.int .i64) 3 w w0.heap.size P0_ u9000_ l0) (h : laws_markIntS.f k l0 a1 = some (r1, r2)) :
  Calls Try.prog 26 #[u9000_, .int .i64 a1] w fun e w' => e = .returned (.int .i64 r1) ∧ Kd.R (Kd.int .i64) 3 w' w0.heap.size (fun k_ => (P0_ k_ ∨ w.heap.size ≤ k_)) u9000_ r2 ∧ Below w0.heap.size w0 w' ∧ Kept w w' (fun k_ => P0_ k_) := by
 have HO0 := Aside0.mk (show Kd.R (Kd.int .i64) 3 w w0.heap.size (fun k_ => (P0_ k_ ∨ w.heap.size ≤ k_)) u9000_ l0 from Kd.R_mono ho0 (fun k_ hk => (.inl hk)))
 have HK := Aside0.mk (Kept.refl w (fun k_ => P0_ k_))
 have HW0 := Aside0.mk hB.size
 have HB := Aside0.mk hB
 clear hB
 have H : (laws_markIntS.l0 k l0 a1 0) = some (r1, r2) := h
 clear h
 have H' := Aside0.mk H
 clear H
 go_enter Try.func26, Try.ntmps26
 go_wp2
 go_loopg [1, 5] k (fun kq v1 v5 w' => ∃ (x0_1 : List Int) (x1_1 : Int) (x5_1 : Int), v1 = .int .i64 x1_1 ∧ v5 = .int .i64 x5_1 ∧ Aside0 (laws_markIntS.l0 kq x0_1 x1_1 x5_1 = some (r1, r2)) ∧ Aside0 (kq ≤ k) ∧ Aside0 (Kd.R (Kd.int .i64) 3 w' w0.heap.size (fun k_ => (P0_ k_ ∨ w.heap.size ≤ k_)) u9000_ x0_1) ∧ Aside0 (Kept w w' (fun k_ => P0_ k_)) ∧ Aside0 (Below w0.heap.size w0 w'))
 case atStart => exact ⟨(l0), (a1), (0), (by first | rfl | (simp; done) | (simp [*]; done) | (simp [wrap64]; done)), (by first | rfl | (simp; done) | (simp [*]; done) | (simp [wrap64]; done)), H', ⟨Nat.le_refl _⟩, ⟨by (with_reducible repeat (first | apply Kd.R_alloc | apply Kd.R_drewN | apply Kd.R_drew)); exact HO0.out⟩, ⟨by repeat (first | (with_reducible first | exact HK.out | apply Kept.alloc | apply Kept.drewN | apply Kept.drew) | exact HK.out)⟩, ⟨bw_ HB.out⟩⟩
 case round =>
  clear H'
  try clear c2
  try clear p2
  obtain ⟨x0_1, x1_1, x5_1, rfl, rfl, HA, HK1, HO_0, HK, HB⟩ := hrel
  cases gk with
  | zero => exact absurd HA.out (by simp [laws_markIntS.l0])
  | succ k1 =>
   have H := HA.out
   clear HA
   simp only [laws_markIntS.l0] at H
   by_cases c3 : x5_1 < (x0_1.length : Int)
   ·rw [if_pos c3] at H
    have c3b0 : decide (x5_1 < (x0_1.length : Int)) = true := decide_eq_true c3
    clear c3
    by_cases c4 : 0 ≤ x5_1
    ·rw [if_pos c4] at H
     have c4b0 : decide (0 ≤ x5_1) = true := decide_eq_true c4
     clear c4
     obtain ⟨y114, hy114⟩ : ∃ y_ : List Int, y_ = (x0_1.set (x5_1 : Int).toNat x1_1) := ⟨_, rfl⟩
     replace H : (laws_markIntS.l0 k1 y114 (wrap64 (x1_1 + 1)) (wrap64 (x5_1 + 1))) = some (r1, r2) := by first | (rw [hy114]; with_reducible exact H) | (have H2_ := (Option.bind_some _ _).symm.trans H; rw [hy114]; with_reducible exact H2_) | (have H2_ := (Option.bind_some _ _).symm.trans H; with_reducible exact H2_) | with_reducible exact H | (rw [hy114]; exact H) | exact H
     have Ny114 := Aside0.mk hy114
     clear hy114
     have H' := Aside0.mk H
     clear H
     obtain ⟨Ao6, co6, eo6⟩ := Kd.R_slice HO_0.out
     subst eo6
     have p5 : 0 ≤ (x5_1 : Int) := of_decide_eq_true (by first | (with_reducible assumption) | assumption)
     have q5 : (x5_1 : Int) < ((x0_1.length : Int) : Int) := of_decide_eq_true (by first | (with_reducible assumption) | assumption)
     obtain ⟨go5, co5, eo5, gb5, gl5, cl5, HG5⟩ := Kd.R_form HO_0.out (by omega)
     (first | cases eo5 | (injection eo5 with ea_ en_ ec_; (first | subst ea_ | (injection ea_ with ea_; subst ea_)); subst ec_; clear en_))
     have GB5 := Aside0.mk gb5
     have GG5 := Aside0.mk HG5
     clear gb5 gl5 HG5
     have HMgo5 := Aside0.mk (show (P0_ go5 ∨ w.heap.size ≤ go5) from (HO_0.out.1 _ rfl))
     obtain ⟨hx5_0, hf5_0⟩ := Kd.R_celln 0 HO_0.out (x5_1 : Int) p5 q5
     replace p5 := eq_true p5
     replace q5 := eq_true q5
     have HP7 := Kd.R_putg HO_0.out (x5_1 : Int) x1_1
     go_wp2_with (first | ((with_reducible refine gate_store (t := 3) (p := 15) rfl ?_); refine se_ 3 15 (wr.setCell ⟨go5, (x5_1 : Int).toNat, none⟩ (.int .i64 x1_1)) ?_; intro w8 hw; have hg : wr.grownBy w8 (some go5) := (by rw [hw]; exact HP7.2); have hp_ : Kd.R (Kd.int .i64) 3 w8 w0.heap.size (fun k_ => (P0_ k_ ∨ w.heap.size ≤ k_)) (.slice (some ⟨go5, 0, none⟩) x0_1.length co6) y114 := (by rw [hw, Ny114.out]; exact HP7.1); clear HP7; have n0_ := Aside0.mk (hp_); have n1_ := Aside0.mk ((by rw [hw]; exact below_set (HB.out) GB5.out : Below w0.heap.size w0 w8)); have n2_ := Aside0.mk (Kept.of_grown (S := (fun k_ => P0_ k_)) hg (by repeat (first | (with_reducible first | exact HK.out | apply Kept.alloc | apply Kept.drewN | apply Kept.drew) | exact HK.out)) (fun k_ e_ => (HO_0.out.1 k_ e_))); clear HO_0; clear HB; clear HK; have HO_0 := n0_; have HB := n1_; have HK := n2_; clear n0_ n1_ n2_; clear hg hw hp_))
     go_roundg k1
     case measure => have := HK1.out; omega
     case rel => exact ⟨(y114), (wrap64 (x1_1 + 1)), (wrap64 (x5_1 + 1)), (by first | rfl | (simp; done) | (simp [*]; done) | (simp [wrap64]; done)), (by first | rfl | (simp; done) | (simp [*]; done) | (simp [wrap64]; done)), H', ⟨by have := HK1.out; omega⟩, ⟨by (with_reducible repeat (first | apply Kd.R_alloc | apply Kd.R_drewN | apply Kd.R_drew)); exact HO_0.out⟩, ⟨by repeat (first | (with_reducible first | exact HK.out | apply Kept.alloc | apply Kept.drewN | apply Kept.drew) | exact HK.out)⟩, ⟨bw_ HB.out⟩⟩
    ·rw [if_neg c4] at H
     exact absurd H (by simp)
   ·rw [if_neg c3] at H
    have c3b0 : decide (x5_1 < (x0_1.length : Int)) = false := decide_eq_false c3
    clear c3
    simp only [Option.some.injEq, Prod.mk.injEq] at H
    obtain ⟨rfl, rfl⟩ := H
    obtain ⟨Ao9, co9, eo9⟩ := Kd.R_slice HO_0.out
    subst eo9
    go_wp2
    go_ret
    exact ⟨by first | rfl | (simp [errW_none, errW_some] <;> rfl) | (simp [*, errW_none, errW_some] <;> rfl), by (with_reducible repeat (first | apply Kd.R_alloc | apply Kd.R_drewN | apply Kd.R_drew)); exact HO_0.out, bw_ HB.out, by repeat (first | (with_reducible first | exact HK.out | apply Kept.alloc | apply Kept.drewN | apply Kept.drew) | exact HK.out)⟩

/-! ### laws_heldIntS: function 27 -/
def laws_heldIntS.l0 : Nat → List Int → Int → Int → Option (Int)
 | 0, _, _, _ => none
 | k + 1, x0, x1, x5 => if x5 < (x0.length : Int) then (if 0 ≤ x5 then (if (rd x0 x5) = x1 then (laws_heldIntS.l0 k x0 (wrap64 (x1 + 1)) (wrap64 (x5 + 1))) else (some (-1))) else (none)) else (some x1)
def laws_heldIntS.f (k : Nat) (l0 : List Int) (a1 : Int) : Option (Int) := laws_heldIntS.l0 k l0 a1 0
theorem laws_heldIntS.mono_l : ∀ k, (∀ y0 y1 y2, LeO (laws_heldIntS.l0 k y0 y1 y2) (laws_heldIntS.l0 (k + 1) y0 y1 y2))
 | 0 => fun _ _ _ r h => by simp [laws_heldIntS.l0] at h
 | k + 1 => by
  have ih0 := laws_heldIntS.mono_l k
  ·intro y0 y1 y2
   unfold laws_heldIntS.l0
   repeat' first
   | (with_reducible exact ih0 _ _ _)
   | (with_reducible exact LeO.refl _)
   | (with_reducible exact LeO.none _)
   | (with_reducible refine LeO.ite ?_ ?_)
   | (with_reducible refine LeO.bind ?_ (fun _ => ?_))
   | exact ih0 _ _ _
   | exact LeO.none _
   | refine LeO.ite ?_ ?_
   | refine LeO.bind ?_ (fun _ => ?_)
theorem laws_heldIntS.mono : ∀ a0 a1 k, LeO (laws_heldIntS.f k a0 a1) (laws_heldIntS.f (k + 1) a0 a1) := by
 intro a0 a1 k
 have ih0 := laws_heldIntS.mono_l k
 unfold laws_heldIntS.f
 repeat' first
   | (with_reducible exact ih0 _ _ _)
   | (with_reducible exact LeO.refl _)
   | (with_reducible exact LeO.none _)
   | (with_reducible refine LeO.ite ?_ ?_)
   | (with_reducible refine LeO.bind ?_ (fun _ => ?_))
   | exact ih0 _ _ _
   | exact LeO.none _
   | refine LeO.ite ?_ ?_
   | refine LeO.bind ?_ (fun _ => ?_)
set_option maxHeartbeats 8000000 in
set_option maxRecDepth 100000 in
theorem laws_heldIntS.calls (k : Nat) (A0 : Option Addr) (c0 : Nat) (l0 : List Int) (a1 : Int) (r : Int) (w : World) (hr0 : Kd.C (Kd.int .i64) w A0 l0.length l0) (hc0 : l0.length ≤ c0) (h : laws_heldIntS.f k l0 a1 = some r) :
  Calls Try.prog 27 #[.slice A0 l0.length c0, .int .i64 a1] w fun e w' => e = .returned (.int .i64 r) ∧ Drawn0 w w' := by
 have HR0 := Aside0.mk hr0
 have HC0 := Aside0.mk hc0
 clear hr0 hc0
 have H : (laws_heldIntS.l0 k l0 a1 0) = some r := h
 clear h
 have H' := Aside0.mk H
 clear H
 go_enter Try.func27, Try.ntmps27
 go_wp2
 go_loopg [1, 5] k (fun kq v1 v5 w' => ∃ (x1_1 : Int) (x5_1 : Int), v1 = .int .i64 x1_1 ∧ v5 = .int .i64 x5_1 ∧ Aside0 (laws_heldIntS.l0 kq l0 x1_1 x5_1 = some r) ∧ Aside0 (kq ≤ k) ∧ Drawn0 w w')
 case atStart => exact ⟨(a1), (0), (by first | rfl | (simp; done) | (simp [*]; done) | (simp [wrap64]; done)), (by first | rfl | (simp; done) | (simp [*]; done) | (simp [wrap64]; done)), H', ⟨Nat.le_refl _⟩, by repeat (first | exact Drawn0.refl _ | apply Drawn0.step)⟩
 case round =>
  clear H'
  try clear c2
  try clear p2
  obtain ⟨x1_1, x5_1, rfl, rfl, HA, HK1, ⟨m1, rfl⟩⟩ := hrel
  cases gk with
  | zero => exact absurd HA.out (by simp [laws_heldIntS.l0])
  | succ k1 =>
   have H := HA.out
   clear HA
   simp only [laws_heldIntS.l0] at H
   by_cases c3 : x5_1 < (l0.length : Int)
   ·rw [if_pos c3] at H
    have c3b0 : decide (x5_1 < (l0.length : Int)) = true := decide_eq_true c3
    clear c3
    by_cases c4 : 0 ≤ x5_1
    ·rw [if_pos c4] at H
     have c4b0 : decide (0 ≤ x5_1) = true := decide_eq_true c4
     clear c4
     by_cases c5 : (rd l0 x5_1) = x1_1
     ·rw [if_pos c5] at H
      have c5b0 : ((rd l0 x5_1) == x1_1) = true := beq_iff_eq.mpr c5
      have c5b1 : ((rd l0 x5_1) != x1_1) = false := bne_eq_false_iff_eq.mpr c5
      clear c5
      have H' := Aside0.mk H
      clear H
      have p115 : 0 ≤ (x5_1 : Int) := of_decide_eq_true (by first | (with_reducible assumption) | assumption)
      have q115 : x5_1 < (l0.length : Int) := of_decide_eq_true (by first | (with_reducible assumption) | assumption)
      obtain ⟨ad115, e115, hx115_0⟩ := Kd.at_int HR0.out x5_1 p115 q115
      cases e115
      replace p115 := eq_true p115
      replace q115 := eq_true q115
      go_wp2
      go_roundg k1
      case measure => have := HK1.out; omega
      case rel => exact ⟨(wrap64 (x1_1 + 1)), (wrap64 (x5_1 + 1)), (by first | rfl | (simp; done) | (simp [*]; done) | (simp [wrap64]; done)), (by first | rfl | (simp; done) | (simp [*]; done) | (simp [wrap64]; done)), H', ⟨by have := HK1.out; omega⟩, by repeat (first | exact Drawn0.refl _ | apply Drawn0.step)⟩
     ·rw [if_neg c5] at H
      have c5b0 : ((rd l0 x5_1) == x1_1) = false := beq_eq_false_iff_ne.mpr c5
      have c5b1 : ((rd l0 x5_1) != x1_1) = true := bne_iff_ne.mpr c5
      obtain rfl := Option.some.inj H
      have p115 : 0 ≤ (x5_1 : Int) := of_decide_eq_true (by first | (with_reducible assumption) | assumption)
      have q115 : x5_1 < (l0.length : Int) := of_decide_eq_true (by first | (with_reducible assumption) | assumption)
      obtain ⟨ad115, e115, hx115_0⟩ := Kd.at_int HR0.out x5_1 p115 q115
      cases e115
      replace p115 := eq_true p115
      replace q115 := eq_true q115
      go_wp2
      go_ret
      exact ⟨by first | rfl | (simp; done) | (simp [*]; done), by repeat (first | exact Drawn0.refl _ | apply Drawn0.step)⟩
    ·rw [if_neg c4] at H
     exact absurd H (by simp)
   ·rw [if_neg c3] at H
    have c3b0 : decide (x5_1 < (l0.length : Int)) = false := decide_eq_false c3
    clear c3
    obtain rfl := Option.some.inj H
    go_wp2
    go_ret
    exact ⟨by first | rfl | (simp; done) | (simp [*]; done), by repeat (first | exact Drawn0.refl _ | apply Drawn0.step)⟩

/-! ### laws_FnExactRunesOf: function 5 -/
def laws_FnExactRunesOf.f (k : Nat) (a0 : ByteArray) : Option (Bool) := if (a0.size : Int) > 1048576 then some true else ((spec_RunesOf.f k a0).bind fun t1 => (impl_RunesOf.f a0).bind fun t3 => (laws_eqIntS.f k t3.1 t1.1).bind fun t5 => if t5 = true then (if t3.2 = t1.2 then ((laws_markIntS.f k t3.1 1).bind fun t6 => (laws_heldIntS.f k t6.2 1).bind fun t7 => if ¬ (t7 < 0) then (if t7 = t6.1 then ((impl_RunesOf.f a0).bind fun t8 => (laws_eqIntS.f k t8.1 t1.1).bind fun t10 => if t10 = true then (if t8.2 = t1.2 then ((laws_heldIntS.f k t6.2 1).bind fun t11 => if ¬ (t11 < 0) then (if t11 = t6.1 then (some true) else none) else none) else none) else none) else none) else none) else none) else none)
theorem laws_FnExactRunesOf.mono : ∀ a0 k, LeO (laws_FnExactRunesOf.f k a0) (laws_FnExactRunesOf.f (k + 1) a0) := by
  intro a0 k
  unfold laws_FnExactRunesOf.f
  repeat' first
  | (with_reducible exact spec_RunesOf.mono _ _)
  | (with_reducible exact laws_eqIntS.mono _ _ _)
  | (with_reducible exact laws_markIntS.mono _ _ _)
  | (with_reducible exact laws_heldIntS.mono _ _ _)
  | (with_reducible exact LeO.refl _)
  | (with_reducible exact LeO.none _)
  | (with_reducible refine LeO.ite ?_ ?_)
  | refine LeO.bind ?_ (fun _ => ?_)
  | exact LeO.none _
set_option maxHeartbeats 8000000 in
set_option maxRecDepth 100000 in
theorem laws_FnExactRunesOf.calls (k : Nat) (a0 : ByteArray) (r : Bool) (w : World) (h : laws_FnExactRunesOf.f k a0 = some r) :
    Calls Try.prog 5 #[.string a0] w fun e w' => e = .returned (.bool r) ∧ Below w.heap.size w w' := by
  have HB := Aside0.mk (Below.refl w.heap.size w)
  unfold laws_FnExactRunesOf.f at h
  have H := h
  clear h
  by_cases c_ : (a0.size : Int) > 1048576
  · rw [if_pos c_] at H
    have fb12 : decide ((a0.size : Int) > 1048576) = true := decide_eq_true c_
    have fb13 : decide (1048576 < (a0.size : Int)) = true := decide_eq_true (by omega)
    have fb14 : decide (a0.size > 1048576) = true := decide_eq_true (by omega)
    have fb15 : decide (1048576 < a0.size) = true := decide_eq_true (by omega)
    clear c_
    obtain rfl := Option.some.inj H
    go_enter Try.func5, Try.ntmps5
    go_wp2
    go_ret
    exact ⟨rfl, HB.out⟩
  rw [if_neg c_] at H
  have fb16 : decide ((a0.size : Int) > 1048576) = false := decide_eq_false c_
  have fb17 : decide (1048576 < (a0.size : Int)) = false := decide_eq_false (by omega)
  have fb18 : decide (a0.size > 1048576) = false := decide_eq_false (by omega)
  have fb19 : decide (1048576 < a0.size) = false := decide_eq_false (by omega)
  clear c_
  replace H := bE_ H
  obtain ⟨⟨t1_0, t1_1⟩, hA1, H⟩ := H
  try dsimp only at H
  have A1 := Aside0.mk hA1
  clear hA1
  replace H := bE_ H
  obtain ⟨⟨t3_0, t3_1⟩, hA3, H⟩ := H
  try dsimp only at H
  have A3 := Aside0.mk hA3
  clear hA3
  replace H := bE_ H
  obtain ⟨t5, hA5, H⟩ := H
  have A5 := Aside0.mk hA5
  clear hA5
  replace H := nd_ H
  obtain ⟨c_, H⟩ := H
  subst c_
  replace H := nd_ H
  obtain ⟨c_, H⟩ := H
  subst c_
  have fb20 : (t3_1 == t3_1) = true := beq_self_eq_true _
  have fb21 : (t3_1 != t3_1) = false := by simp
  replace H := bE_ H
  obtain ⟨⟨t6_0, t6_1⟩, hA6, H⟩ := H
  try dsimp only at H
  have A6 := Aside0.mk hA6
  clear hA6
  replace H := bE_ H
  obtain ⟨t7, hA7, H⟩ := H
  have A7 := Aside0.mk hA7
  clear hA7
  replace H := nd_ H
  obtain ⟨c_, H⟩ := H
  have fb22 : decide (t7 < 0) = false := decide_eq_false c_
  clear c_
  replace H := nd_ H
  obtain ⟨c_, H⟩ := H
  subst c_
  have fb23 : (t7 == t7) = true := beq_self_eq_true _
  have fb24 : (t7 != t7) = false := by simp
  replace H := bE_ H
  obtain ⟨⟨t8_0, t8_1⟩, hA8, H⟩ := H
  try dsimp only at H
  have A8 := Aside0.mk hA8
  clear hA8
  replace H := bE_ H
  obtain ⟨t10, hA10, H⟩ := H
  have A10 := Aside0.mk hA10
  clear hA10
  replace H := nd_ H
  obtain ⟨c_, H⟩ := H
  subst c_
  replace H := nd_ H
  obtain ⟨c_, H⟩ := H
  subst c_
  have fb25 : (t8_1 == t8_1) = true := beq_self_eq_true _
  have fb26 : (t8_1 != t8_1) = false := by simp
  replace H := bE_ H
  obtain ⟨t11, hA11, H⟩ := H
  have A11 := Aside0.mk hA11
  clear hA11
  replace H := nd_ H
  obtain ⟨c_, H⟩ := H
  have fb27 : decide (t11 < 0) = false := decide_eq_false c_
  clear c_
  replace H := nd_ H
  obtain ⟨c_, H⟩ := H
  subst c_
  have fb28 : (t11 == t11) = true := beq_self_eq_true _
  have fb29 : (t11 != t11) = false := by simp
  obtain rfl := Option.some.inj H
  go_enter Try.func5, Try.ntmps5
  go_wp2_with (first | (go_at_call 23; (with_reducible refine (spec_RunesOf.calls k a0 t1_0 t8_1 _  A1.out).mono ?_); rintro e w1001 ⟨v_2, rfl, ho0, hb⟩; have hs_ := below_size HB.out; have n0_ := Aside0.mk (below_step HB.out hb); have SZ1 := Aside0.mk (show w.heap.size ≤ w1001.heap.size from (hb).size); clear HB; have HB := n0_; clear n0_; have HO2 := Aside0.mk (R_zone ho0 hs_); clear ho0; obtain ⟨A_2, c_2, e_2⟩ := Kd.R_slice HO2.out; subst e_2; clear hb hs_) | (go_at_call 24; (with_reducible refine (impl_RunesOf.calls a0 t3_0 t8_1 _  A3.out).mono ?_); rintro e w1003 ⟨v_4, rfl, ho0, hb⟩; have hs_ := below_size HB.out; have n0_ := Aside0.mk (below_step HB.out hb); have n1_ := Aside0.mk (Kd.R_below HO2.out hb); have SZ2 := Aside0.mk (show w1001.heap.size ≤ w1003.heap.size from (hb).size); clear HB HO2; have HB := n0_; have HO2 := n1_; clear n0_ n1_; have HO4 := Aside0.mk (R_zone ho0 hs_); clear ho0; obtain ⟨A_4, c_4, e_4⟩ := Kd.R_slice HO4.out; subst e_4; clear hb hs_) | (go_at_call 25; (with_reducible refine (laws_eqIntS.calls k _ _ t3_0 _ _ t1_0 true _ ?sd5_1 ?sd5_2 ?sd5_3 ?sd5_4 A5.out).mono ?_); (case sd5_1 => exact (Kd.R_reads' HO4.out).2.2); (case sd5_2 => exact (Kd.R_reads' HO4.out).2.1); (case sd5_3 => exact (Kd.R_reads' HO2.out).2.2); (case sd5_4 => exact (Kd.R_reads' HO2.out).2.1); rintro e w1005 ⟨rfl, hd⟩; have hb := hd.below; clear hd; have hs_ := below_size HB.out; have n0_ := Aside0.mk (below_step HB.out hb); have n1_ := Aside0.mk (Kd.R_below HO2.out hb); have n2_ := Aside0.mk (Kd.R_below HO4.out hb); have SZ3 := Aside0.mk (show w1003.heap.size ≤ w1005.heap.size from (hb).size); clear HB HO2 HO4; have HB := n0_; have HO2 := n1_; have HO4 := n2_; clear n0_ n1_ n2_; clear hb hs_) | (go_at_call 26; (with_reducible refine (laws_markIntS.calls k (Zone w1001 w1003 (3 :: ((Kd.int .i64)).E)) (.slice A_4 t3_0.length c_4) t3_0 1 t11 t6_1 w _ ?sd6_1 ?sd6_2 A6.out).mono ?_); (case sd6_1 => exact HB.out); (case sd6_2 => exact HO4.out); rintro e w1006 ⟨rfl, hy0, hb, hkp⟩; have n0_ := Aside0.mk (hb); have n1_ := Aside0.mk (Kd.R_step HO2.out (fun k_ h_ hlt_ => hkp.2 k_ hlt_ (fun e_ => (show False from Zone.apart h_ e_ (by first | exact .inl (by omega) | exact .inr (by omega))).elim))); have n2_ := Aside0.mk (Kd.R_reok rfl hy0 HO4.out.1); have SZ4 := Aside0.mk (show w1005.heap.size ≤ w1006.heap.size from hkp.1); clear HB HO2 HO4; have HB := n0_; have HO2 := n1_; have HO4 := n2_; clear n0_ n1_ n2_; clear hb hkp hy0) | (go_at_call 27; refine calls_of_args (args' := #[.slice A_4 t6_1.length c_4, .int .i64 1]) (by first | (rw [show t6_1.length = t3_0.length from (Kd.R_reads' HO4.out).1.symm] <;> rfl) | rfl) ?_; (with_reducible refine (laws_heldIntS.calls k _ _ t6_1 1 t11 _ ?sd7_1 ?sd7_2 A7.out).mono ?_); (case sd7_1 => exact (Kd.R_reads' HO4.out).2.2); (case sd7_2 => exact (by rw [show t6_1.length = t3_0.length from (Kd.R_reads' HO4.out).1.symm]; exact (Kd.R_reads' HO4.out).2.1)); rintro e w1007 ⟨rfl, hd⟩; have hb := hd.below; clear hd; have hs_ := below_size HB.out; have n0_ := Aside0.mk (below_step HB.out hb); have n1_ := Aside0.mk (Kd.R_below HO2.out hb); have n2_ := Aside0.mk (Kd.R_below HO4.out hb); have SZ5 := Aside0.mk (show w1006.heap.size ≤ w1007.heap.size from (hb).size); clear HB HO2 HO4; have HB := n0_; have HO2 := n1_; have HO4 := n2_; clear n0_ n1_ n2_; clear hb hs_) | (go_at_call 24; (with_reducible refine (impl_RunesOf.calls a0 t8_0 t8_1 _  A8.out).mono ?_); rintro e w1008 ⟨v_9, rfl, ho0, hb⟩; have hs_ := below_size HB.out; have n0_ := Aside0.mk (below_step HB.out hb); have n1_ := Aside0.mk (Kd.R_below HO2.out hb); have n2_ := Aside0.mk (Kd.R_below HO4.out hb); have SZ6 := Aside0.mk (show w1007.heap.size ≤ w1008.heap.size from (hb).size); clear HB HO2 HO4; have HB := n0_; have HO2 := n1_; have HO4 := n2_; clear n0_ n1_ n2_; have HO9 := Aside0.mk (R_zone ho0 hs_); clear ho0; obtain ⟨A_9, c_9, e_9⟩ := Kd.R_slice HO9.out; subst e_9; clear hb hs_) | (go_at_call 25; (with_reducible refine (laws_eqIntS.calls k _ _ t8_0 _ _ t1_0 true _ ?sd10_1 ?sd10_2 ?sd10_3 ?sd10_4 A10.out).mono ?_); (case sd10_1 => exact (Kd.R_reads' HO9.out).2.2); (case sd10_2 => exact (Kd.R_reads' HO9.out).2.1); (case sd10_3 => exact (Kd.R_reads' HO2.out).2.2); (case sd10_4 => exact (Kd.R_reads' HO2.out).2.1); rintro e w1010 ⟨rfl, hd⟩; have hb := hd.below; clear hd; have hs_ := below_size HB.out; have n0_ := Aside0.mk (below_step HB.out hb); have n1_ := Aside0.mk (Kd.R_below HO2.out hb); have n2_ := Aside0.mk (Kd.R_below HO4.out hb); have n3_ := Aside0.mk (Kd.R_below HO9.out hb); have SZ7 := Aside0.mk (show w1008.heap.size ≤ w1010.heap.size from (hb).size); clear HB HO2 HO4 HO9; have HB := n0_; have HO2 := n1_; have HO4 := n2_; have HO9 := n3_; clear n0_ n1_ n2_ n3_; clear hb hs_) | (go_at_call 27; refine calls_of_args (args' := #[.slice A_4 t6_1.length c_4, .int .i64 1]) (by first | (rw [show t6_1.length = t3_0.length from (Kd.R_reads' HO4.out).1.symm] <;> rfl) | rfl) ?_; (with_reducible refine (laws_heldIntS.calls k _ _ t6_1 1 t11 _ ?sd11_1 ?sd11_2 A11.out).mono ?_); (case sd11_1 => exact (Kd.R_reads' HO4.out).2.2); (case sd11_2 => exact (by rw [show t6_1.length = t3_0.length from (Kd.R_reads' HO4.out).1.symm]; exact (Kd.R_reads' HO4.out).2.1)); rintro e w1011 ⟨rfl, hd⟩; have hb := hd.below; clear hd; have hs_ := below_size HB.out; have n0_ := Aside0.mk (below_step HB.out hb); have n1_ := Aside0.mk (Kd.R_below HO2.out hb); have n2_ := Aside0.mk (Kd.R_below HO4.out hb); have n3_ := Aside0.mk (Kd.R_below HO9.out hb); have SZ8 := Aside0.mk (show w1010.heap.size ≤ w1011.heap.size from (hb).size); clear HB HO2 HO4 HO9; have HB := n0_; have HO2 := n1_; have HO4 := n2_; have HO9 := n3_; clear n0_ n1_ n2_ n3_; clear hb hs_))
  go_ret
  exact ⟨rfl, HB.out⟩

/-! the law's reading -/
/-- THE ONE PURE STATEMENT of laws_FnExactRunesOf. -/
def laws_FnExactRunesOf.Pure : Prop := ∀ (a0 : ByteArray), (a0.size ≤ maxLen) → ∃ k, laws_FnExactRunesOf.f k a0 = some true


end Go.Proofs.Ytpfddgchlllkpaa.XFnExactRunesOf
