/- What the Go functions that this law comes to compute, each walked; written by a program of this session. -/
import Derived.Test.YtjaljjdmolhhpaaXFnExactAutoTilex0
import Derived.Test.YtjaljjdmolhhpaaXFnExactAutoTilex1
import Derived.Test.YtjaljjdmolhhpaaXFnExactAutoTilex3
import Derived.Test.YtjaljjdmolhhpaaXFnExactAutoTilex4
import Derived.Test.YtjaljjdmolhhpaaXFnExactAutoTilex5
import Derived.Test.YtjaljjdmolhhpaaXFnExactAutoTilex6
namespace Go.Proofs.Ytjaljjdmolhhpaa.XFnExactAutoTile
open Go.RowKit Go.Proofs.YtjaljjdmolhhpaaW.PrintWords Go.Proofs.YtjaljjdmolhhpaaW.PrintLast Go.Proofs.YtjaljjdmolhhpaaW.PrintMore
attribute [local go_sem] str_geq max2_int min2_int max_two min_two max_three min_three max_four min_four   -- for this text's walks alone
set_option linter.unusedVariables false
set_option linter.unusedSimpArgs false

/-! ### laws_FnExactAutoTile: function 3 -/
mutual
def laws_FnExactAutoTile.j0 : Nat → Int → List Int → Bool → List Int → Bool → Bool → Int → Int → List Int → Int → Int → List Int → Int → Int → List Int → Int → Int → List Int → Option (Bool)
 | 0, _, _, _, _, _, _, _, _, _, _, _, _, _, _, _, _, _, _ => none
 | k + 1, x1, x2, x9, x11, x13, x55, x198000, x198001, x198002, x214000, x214001, x214002, x220000, x220001, x220002, x230000, x230001, x230002 => if x55 = true then (some false) else ((laws_toField.f k x198000 x198001 x198002).bind fun bt231 => ((laws_eqField.f k x220000 x220001 x220002 bt231.1 bt231.2.1 bt231.2.2).bind fun t236 => (if t236 = true then ((laws_toIntS.f k x2).bind fun t237 => ((laws_eqIntS.f k x11 t237).bind fun t240 => (if t240 = true then ((laws_markField.f k x220000 x220001 x220002 1).bind fun bt241 => ((laws_markIntS.f k x11 bt241.1).bind fun bt243 => (if bt243.1 < 0 then (laws_FnExactAutoTile.j1 k x1 x2 x9 true x198000 x198001 x198002 x214000 x214001 x214002 x230000 x230001 x230002) else ((laws_eqField.f k x230000 x230001 x230002 x214000 x214001 x214002).bind fun t245 => (if t245 = true then (laws_FnExactAutoTile.j1 k x1 x2 x9 (x13 != x9) x198000 x198001 x198002 x214000 x214001 x214002 x230000 x230001 x230002) else (laws_FnExactAutoTile.j1 k x1 x2 x9 true x198000 x198001 x198002 x214000 x214001 x214002 x230000 x230001 x230002)))))) else (some false)))) else (some false))))
def laws_FnExactAutoTile.j1 : Nat → Int → List Int → Bool → Bool → Int → Int → List Int → Int → Int → List Int → Int → Int → List Int → Option (Bool)
 | 0, _, _, _, _, _, _, _, _, _, _, _, _, _ => none
 | k + 1, x1, x2, x9, x84, x198000, x198001, x198002, x214000, x214001, x214002, x230000, x230001, x230002 => if x84 = true then (some false) else ((laws_markField.f k x230000 x230001 x230002 1).bind fun bt246 => ((laws_heldField.f k x230000 x230001 bt246.2 1).bind fun t248 => (if t248 < 0 then (some false) else (if t248 = bt246.1 then ((laws_toField.f k x198000 x198001 x198002).bind fun bt249 => ((laws_toIntS.f k x2).bind fun t254 => ((impl_AutoTile.f k bt249.1 bt249.2.1 bt249.2.2 x1 t254).bind fun bt257 => ((laws_eqField.f k bt257.1 bt257.2.1 bt257.2.2.1 x214000 x214001 x214002).bind fun t264 => (if t264 = true then (laws_FnExactAutoTile.j2 k bt246.1 (bt257.2.2.2 != x9) x230000 x230001 bt246.2) else (laws_FnExactAutoTile.j2 k bt246.1 true x230000 x230001 bt246.2)))))) else (some false)))))
def laws_FnExactAutoTile.j2 : Nat → Int → Bool → Int → Int → List Int → Option (Bool)
 | 0, _, _, _, _, _ => none
 | k + 1, x15, x113, x230000, x230001, x230002 => if x113 = true then (some false) else ((laws_heldField.f k x230000 x230001 x230002 1).bind fun t265 => (if t265 < 0 then (some false) else (if t265 = x15 then (some true) else (some false))))
end
def laws_FnExactAutoTile.f (k : Nat) (a0_0 : Int) (a0_1 : Int) (l0_2 : List Int) (a1 : Int) (l2 : List Int) : Option (Bool) := if (l2.length : Int) > 1048576 then (some true) else ((laws_szField.f a0_0 a0_1 l0_2 1048576).bind fun t198 => (if t198 < 0 then (some true) else ((laws_toField.f k a0_0 a0_1 l0_2).bind fun bt199 => ((laws_toIntS.f k l2).bind fun t204 => ((spec_AutoTile.f k bt199.1 bt199.2.1 bt199.2.2 a1 t204).bind fun bt207 => ((laws_toField.f k a0_0 a0_1 l0_2).bind fun bt214 => ((laws_toIntS.f k l2).bind fun t220 => ((impl_AutoTile.f k bt214.1 bt214.2.1 bt214.2.2 a1 t220).bind fun bt223 => ((laws_eqField.f k bt223.1 bt223.2.1 bt223.2.2.1 bt207.1 bt207.2.1 bt207.2.2.1).bind fun t230 => (if t230 = true then (laws_FnExactAutoTile.j0 k a1 l2 bt207.2.2.2 t220 bt223.2.2.2 (bt223.2.2.2 != bt207.2.2.2) a0_0 a0_1 l0_2 bt207.1 bt207.2.1 bt207.2.2.1 bt214.1 bt214.2.1 bt214.2.2 bt223.1 bt223.2.1 bt223.2.2.1) else (laws_FnExactAutoTile.j0 k a1 l2 bt207.2.2.2 t220 bt223.2.2.2 true a0_0 a0_1 l0_2 bt207.1 bt207.2.1 bt207.2.2.1 bt214.1 bt214.2.1 bt214.2.2 bt223.1 bt223.2.1 bt223.2.2.1)))))))))))
theorem laws_FnExactAutoTile.mono_l : ∀ k, (∀ y0 y1 y2 y3 y4 y5 y6 y7 y8 y9 y10 y11 y12 y13 y14 y15 y16 y17, LeO (laws_FnExactAutoTile.j0 k y0 y1 y2 y3 y4 y5 y6 y7 y8 y9 y10 y11 y12 y13 y14 y15 y16 y17) (laws_FnExactAutoTile.j0 (k + 1) y0 y1 y2 y3 y4 y5 y6 y7 y8 y9 y10 y11 y12 y13 y14 y15 y16 y17)) ∧ (∀ y0 y1 y2 y3 y4 y5 y6 y7 y8 y9 y10 y11 y12, LeO (laws_FnExactAutoTile.j1 k y0 y1 y2 y3 y4 y5 y6 y7 y8 y9 y10 y11 y12) (laws_FnExactAutoTile.j1 (k + 1) y0 y1 y2 y3 y4 y5 y6 y7 y8 y9 y10 y11 y12)) ∧ (∀ y0 y1 y2 y3 y4, LeO (laws_FnExactAutoTile.j2 k y0 y1 y2 y3 y4) (laws_FnExactAutoTile.j2 (k + 1) y0 y1 y2 y3 y4))
 | 0 => ⟨fun _ _ _ _ _ _ _ _ _ _ _ _ _ _ _ _ _ _ r h => by simp [laws_FnExactAutoTile.j0] at h, fun _ _ _ _ _ _ _ _ _ _ _ _ _ r h => by simp [laws_FnExactAutoTile.j1] at h, fun _ _ _ _ _ r h => by simp [laws_FnExactAutoTile.j2] at h⟩
 | k + 1 => by
  obtain ⟨ih0, ih1, ih2⟩ := laws_FnExactAutoTile.mono_l k
  refine ⟨?_, ?_, ?_⟩
  ·intro y0 y1 y2 y3 y4 y5 y6 y7 y8 y9 y10 y11 y12 y13 y14 y15 y16 y17
   unfold laws_FnExactAutoTile.j0
   repeat' first
   | (with_reducible exact ih0 _ _ _ _ _ _ _ _ _ _ _ _ _ _ _ _ _ _)
   | (with_reducible exact ih1 _ _ _ _ _ _ _ _ _ _ _ _ _)
   | (with_reducible exact ih2 _ _ _ _ _)
   | (with_reducible exact impl_AutoTile.mono _ _ _ _ _ _)
   | (with_reducible exact laws_eqField.mono _ _ _ _ _ _ _)
   | (with_reducible exact laws_eqIntS.mono _ _ _)
   | (with_reducible exact laws_heldField.mono _ _ _ _ _)
   | (with_reducible exact laws_markField.mono _ _ _ _ _)
   | (with_reducible exact laws_markIntS.mono _ _ _)
   | (with_reducible exact laws_toField.mono _ _ _ _)
   | (with_reducible exact laws_toIntS.mono _ _)
   | (with_reducible exact spec_AutoTile.mono _ _ _ _ _ _)
   | (with_reducible exact LeO.refl _)
   | (with_reducible exact LeO.none _)
   | (with_reducible refine LeO.ite ?_ ?_)
   | (with_reducible refine LeO.bind ?_ (fun _ => ?_))
   | exact ih0 _ _ _ _ _ _ _ _ _ _ _ _ _ _ _ _ _ _
   | exact ih1 _ _ _ _ _ _ _ _ _ _ _ _ _
   | exact ih2 _ _ _ _ _
   | exact impl_AutoTile.mono _ _ _ _ _ _
   | exact laws_eqField.mono _ _ _ _ _ _ _
   | exact laws_eqIntS.mono _ _ _
   | exact laws_heldField.mono _ _ _ _ _
   | exact laws_markField.mono _ _ _ _ _
   | exact laws_markIntS.mono _ _ _
   | exact laws_toField.mono _ _ _ _
   | exact laws_toIntS.mono _ _
   | exact spec_AutoTile.mono _ _ _ _ _ _
   | exact LeO.none _
   | refine LeO.ite ?_ ?_
   | refine LeO.bind ?_ (fun _ => ?_)
  ·intro y0 y1 y2 y3 y4 y5 y6 y7 y8 y9 y10 y11 y12
   unfold laws_FnExactAutoTile.j1
   repeat' first
   | (with_reducible exact ih0 _ _ _ _ _ _ _ _ _ _ _ _ _ _ _ _ _ _)
   | (with_reducible exact ih1 _ _ _ _ _ _ _ _ _ _ _ _ _)
   | (with_reducible exact ih2 _ _ _ _ _)
   | (with_reducible exact impl_AutoTile.mono _ _ _ _ _ _)
   | (with_reducible exact laws_eqField.mono _ _ _ _ _ _ _)
   | (with_reducible exact laws_eqIntS.mono _ _ _)
   | (with_reducible exact laws_heldField.mono _ _ _ _ _)
   | (with_reducible exact laws_markField.mono _ _ _ _ _)
   | (with_reducible exact laws_markIntS.mono _ _ _)
   | (with_reducible exact laws_toField.mono _ _ _ _)
   | (with_reducible exact laws_toIntS.mono _ _)
   | (with_reducible exact spec_AutoTile.mono _ _ _ _ _ _)
   | (with_reducible exact LeO.refl _)
   | (with_reducible exact LeO.none _)
   | (with_reducible refine LeO.ite ?_ ?_)
   | (with_reducible refine LeO.bind ?_ (fun _ => ?_))
   | exact ih0 _ _ _ _ _ _ _ _ _ _ _ _ _ _ _ _ _ _
   | exact ih1 _ _ _ _ _ _ _ _ _ _ _ _ _
   | exact ih2 _ _ _ _ _
   | exact impl_AutoTile.mono _ _ _ _ _ _
   | exact laws_eqField.mono _ _ _ _ _ _ _
   | exact laws_eqIntS.mono _ _ _
   | exact laws_heldField.mono _ _ _ _ _
   | exact laws_markField.mono _ _ _ _ _
   | exact laws_markIntS.mono _ _ _
   | exact laws_toField.mono _ _ _ _
   | exact laws_toIntS.mono _ _
   | exact spec_AutoTile.mono _ _ _ _ _ _
   | exact LeO.none _
   | refine LeO.ite ?_ ?_
   | refine LeO.bind ?_ (fun _ => ?_)
  ·intro y0 y1 y2 y3 y4
   unfold laws_FnExactAutoTile.j2
   repeat' first
   | (with_reducible exact ih0 _ _ _ _ _ _ _ _ _ _ _ _ _ _ _ _ _ _)
   | (with_reducible exact ih1 _ _ _ _ _ _ _ _ _ _ _ _ _)
   | (with_reducible exact ih2 _ _ _ _ _)
   | (with_reducible exact impl_AutoTile.mono _ _ _ _ _ _)
   | (with_reducible exact laws_eqField.mono _ _ _ _ _ _ _)
   | (with_reducible exact laws_eqIntS.mono _ _ _)
   | (with_reducible exact laws_heldField.mono _ _ _ _ _)
   | (with_reducible exact laws_markField.mono _ _ _ _ _)
   | (with_reducible exact laws_markIntS.mono _ _ _)
   | (with_reducible exact laws_toField.mono _ _ _ _)
   | (with_reducible exact laws_toIntS.mono _ _)
   | (with_reducible exact spec_AutoTile.mono _ _ _ _ _ _)
   | (with_reducible exact LeO.refl _)
   | (with_reducible exact LeO.none _)
   | (with_reducible refine LeO.ite ?_ ?_)
   | (with_reducible refine LeO.bind ?_ (fun _ => ?_))
   | exact ih0 _ _ _ _ _ _ _ _ _ _ _ _ _ _ _ _ _ _
   | exact ih1 _ _ _ _ _ _ _ _ _ _ _ _ _
   | exact ih2 _ _ _ _ _
   | exact impl_AutoTile.mono _ _ _ _ _ _
   | exact laws_eqField.mono _ _ _ _ _ _ _
   | exact laws_eqIntS.mono _ _ _
   | exact laws_heldField.mono _ _ _ _ _
   | exact laws_markField.mono _ _ _ _ _
   | exact laws_markIntS.mono _ _ _
   | exact laws_toField.mono _ _ _ _
   | exact laws_toIntS.mono _ _
   | exact spec_AutoTile.mono _ _ _ _ _ _
   | exact LeO.none _
   | refine LeO.ite ?_ ?_
   | refine LeO.bind ?_ (fun _ => ?_)
theorem laws_FnExactAutoTile.mono : ∀ a0 a1 a2 a3 a4 k, LeO (laws_FnExactAutoTile.f k a0 a1 a2 a3 a4) (laws_FnExactAutoTile.f (k + 1) a0 a1 a2 a3 a4) := by
 intro a0 a1 a2 a3 a4 k
 obtain ⟨ih0, ih1, ih2⟩ := laws_FnExactAutoTile.mono_l k
 unfold laws_FnExactAutoTile.f
 repeat' first
   | (with_reducible exact ih0 _ _ _ _ _ _ _ _ _ _ _ _ _ _ _ _ _ _)
   | (with_reducible exact ih1 _ _ _ _ _ _ _ _ _ _ _ _ _)
   | (with_reducible exact ih2 _ _ _ _ _)
   | (with_reducible exact impl_AutoTile.mono _ _ _ _ _ _)
   | (with_reducible exact laws_eqField.mono _ _ _ _ _ _ _)
   | (with_reducible exact laws_eqIntS.mono _ _ _)
   | (with_reducible exact laws_heldField.mono _ _ _ _ _)
   | (with_reducible exact laws_markField.mono _ _ _ _ _)
   | (with_reducible exact laws_markIntS.mono _ _ _)
   | (with_reducible exact laws_toField.mono _ _ _ _)
   | (with_reducible exact laws_toIntS.mono _ _)
   | (with_reducible exact spec_AutoTile.mono _ _ _ _ _ _)
   | (with_reducible exact LeO.refl _)
   | (with_reducible exact LeO.none _)
   | (with_reducible refine LeO.ite ?_ ?_)
   | (with_reducible refine LeO.bind ?_ (fun _ => ?_))
   | exact ih0 _ _ _ _ _ _ _ _ _ _ _ _ _ _ _ _ _ _
   | exact ih1 _ _ _ _ _ _ _ _ _ _ _ _ _
   | exact ih2 _ _ _ _ _
   | exact impl_AutoTile.mono _ _ _ _ _ _
   | exact laws_eqField.mono _ _ _ _ _ _ _
   | exact laws_eqIntS.mono _ _ _
   | exact laws_heldField.mono _ _ _ _ _
   | exact laws_markField.mono _ _ _ _ _
   | exact laws_markIntS.mono _ _ _
   | exact laws_toField.mono _ _ _ _
   | exact laws_toIntS.mono _ _
   | exact spec_AutoTile.mono _ _ _ _ _ _
   | exact LeO.none _
   | refine LeO.ite ?_ ?_
   | refine LeO.bind ?_ (fun _ => ?_)
set_option maxHeartbeats 8000000 in
set_option maxRecDepth 100000 in
theorem laws_FnExactAutoTile.calls (k : Nat) (a0_0 : Int) (a0_1 : Int) (A0_2 : Option Addr) (c0_2 : Nat) (l0_2 : List Int) (a1 : Int) (A2 : Option Addr) (c2 : Nat) (l2 : List Int) (r : Bool) (w : World) (hr0_2 : Kd.C (Kd.int .i64) w A0_2 l0_2.length l0_2) (hc0_2 : l0_2.length ≤ c0_2) (hr2 : Kd.C (Kd.int .i64) w A2 l2.length l2) (hc2 : l2.length ≤ c2) (h : laws_FnExactAutoTile.f k a0_0 a0_1 l0_2 a1 l2 = some r) :
  Calls Try.prog 3 #[.agg #[.int .i64 a0_0, .int .i64 a0_1, .slice A0_2 l0_2.length c0_2], .int .i64 a1, .slice A2 l2.length c2] w fun e w' => e = .returned (.bool r) ∧ Below w.heap.size w w' := by
 have hu24 := Try.underlying24
 have hu26 := Try.underlying26
 have HR0_2 := Aside0.mk hr0_2
 have HC0_2 := Aside0.mk hc0_2
 clear hr0_2 hc0_2
 have HR2 := Aside0.mk hr2
 have HC2 := Aside0.mk hc2
 clear hr2 hc2
 have HB := Aside0.mk (Below.refl w.heap.size w)
 have H : (if (l2.length : Int) > 1048576 then (some true) else ((laws_szField.f a0_0 a0_1 l0_2 1048576).bind fun t198 => (if t198 < 0 then (some true) else ((laws_toField.f k a0_0 a0_1 l0_2).bind fun bt199 => ((laws_toIntS.f k l2).bind fun t204 => ((spec_AutoTile.f k bt199.1 bt199.2.1 bt199.2.2 a1 t204).bind fun bt207 => ((laws_toField.f k a0_0 a0_1 l0_2).bind fun bt214 => ((laws_toIntS.f k l2).bind fun t220 => ((impl_AutoTile.f k bt214.1 bt214.2.1 bt214.2.2 a1 t220).bind fun bt223 => ((laws_eqField.f k bt223.1 bt223.2.1 bt223.2.2.1 bt207.1 bt207.2.1 bt207.2.2.1).bind fun t230 => (if t230 = true then (laws_FnExactAutoTile.j0 k a1 l2 bt207.2.2.2 t220 bt223.2.2.2 (bt223.2.2.2 != bt207.2.2.2) a0_0 a0_1 l0_2 bt207.1 bt207.2.1 bt207.2.2.1 bt214.1 bt214.2.1 bt214.2.2 bt223.1 bt223.2.1 bt223.2.2.1) else (laws_FnExactAutoTile.j0 k a1 l2 bt207.2.2.2 t220 bt223.2.2.2 true a0_0 a0_1 l0_2 bt207.1 bt207.2.1 bt207.2.2.1 bt214.1 bt214.2.1 bt214.2.2 bt223.1 bt223.2.1 bt223.2.2.1)))))))))))) = some r := h
 clear h
 by_cases c4 : (l2.length : Int) > 1048576
 ·rw [if_pos c4] at H
  have c4b0 : decide (1048576 < (l2.length : Int)) = true := decide_eq_true c4
  have c4b1 : decide (1048576 < l2.length) = true := decide_eq_true (by omega)
  clear c4
  obtain rfl := Option.some.inj H
  go_enter Try.func3, Try.ntmps3
  go_wp2_with (first | ((with_reducible refine gate_dst (N := 3) rfl ?_); refine box_event ?hg (N := 3) ?hd (cs := #[.int .i64 a0_0, .int .i64 a0_1, .slice A0_2 l0_2.length c0_2]) (t := 24) ?hr ?_; (case hd => rfl); (case hg => rfl); (case hr => first | (go_simp; done) | (go_simp; rfl)); intro gb197 hg w5 hbox hb; have n0_ := Aside0.mk (below_step (by repeat (first | (with_reducible first | exact HB.out | apply below_alloc | apply pw_below_drewN | apply below_drew1) | exact HB.out)) hb); have n1_ := Aside0.mk (hbox); have n2_ := Aside0.mk ((by rw [hg]; exact (below_size (by repeat (first | (with_reducible first | exact HB.out | apply below_alloc | apply pw_below_drewN | apply below_drew1) | exact HB.out))) : w.heap.size ≤ gb197)); have n3_ := Aside0.mk ((by rw [hg]; exact (below_size (by repeat (first | (with_reducible first | exact HB.out | apply below_alloc | apply pw_below_drewN | apply below_drew1) | exact HB.out))) : w.heap.size ≤ gb197)); clear HB; have HB := n0_; have BK197 := n1_; have GW197 := n2_; have GE197 := n3_; clear n0_ n1_ n2_ n3_; clear hb hbox hg))
  go_ret
  exact ⟨by first | rfl | (simp [errW_none, errW_some] <;> rfl) | (simp [*, errW_none, errW_some] <;> rfl), by repeat (first | (with_reducible first | exact HB.out | apply below_alloc | apply pw_below_drewN | apply below_drew1 | refine below_set ?_ GE197.out) | exact HB.out)⟩
 ·rw [if_neg c4] at H
  have c4b0 : decide (1048576 < (l2.length : Int)) = false := decide_eq_false c4
  have c4b1 : decide (1048576 < l2.length) = false := decide_eq_false (by omega)
  clear c4
  replace H := Option.bind_eq_some_iff.mp H
  obtain ⟨t198, A60, H⟩ := H
  replace H : (if t198 < 0 then (some true) else ((laws_toField.f k a0_0 a0_1 l0_2).bind fun bt199 => ((laws_toIntS.f k l2).bind fun t204 => ((spec_AutoTile.f k bt199.1 bt199.2.1 bt199.2.2 a1 t204).bind fun bt207 => ((laws_toField.f k a0_0 a0_1 l0_2).bind fun bt214 => ((laws_toIntS.f k l2).bind fun t220 => ((impl_AutoTile.f k bt214.1 bt214.2.1 bt214.2.2 a1 t220).bind fun bt223 => ((laws_eqField.f k bt223.1 bt223.2.1 bt223.2.2.1 bt207.1 bt207.2.1 bt207.2.2.1).bind fun t230 => (if t230 = true then (laws_FnExactAutoTile.j0 k a1 l2 bt207.2.2.2 t220 bt223.2.2.2 (bt223.2.2.2 != bt207.2.2.2) a0_0 a0_1 l0_2 bt207.1 bt207.2.1 bt207.2.2.1 bt214.1 bt214.2.1 bt214.2.2 bt223.1 bt223.2.1 bt223.2.2.1) else (laws_FnExactAutoTile.j0 k a1 l2 bt207.2.2.2 t220 bt223.2.2.2 true a0_0 a0_1 l0_2 bt207.1 bt207.2.1 bt207.2.2.1 bt214.1 bt214.2.1 bt214.2.2 bt223.1 bt223.2.1 bt223.2.2.1)))))))))) = some r := H
  have A6 := Aside0.mk A60
  clear A60
  by_cases c7 : t198 < 0
  ·rw [if_pos c7] at H
   have c7b0 : decide (t198 < 0) = true := decide_eq_true c7
   clear c7
   obtain rfl := Option.some.inj H
   go_enter Try.func3, Try.ntmps3
   go_wp2_with (first | ((with_reducible refine gate_dst (N := 3) rfl ?_); refine box_event ?hg (N := 3) ?hd (cs := #[.int .i64 a0_0, .int .i64 a0_1, .slice A0_2 l0_2.length c0_2]) (t := 24) ?hr ?_; (case hd => rfl); (case hg => rfl); (case hr => first | (go_simp; done) | (go_simp; rfl)); intro gb197 hg w8 hbox hb; have n0_ := Aside0.mk (below_step (by repeat (first | (with_reducible first | exact HB.out | apply below_alloc | apply pw_below_drewN | apply below_drew1) | exact HB.out)) hb); have n1_ := Aside0.mk (hbox); have n2_ := Aside0.mk ((by rw [hg]; exact (below_size (by repeat (first | (with_reducible first | exact HB.out | apply below_alloc | apply pw_below_drewN | apply below_drew1) | exact HB.out))) : w.heap.size ≤ gb197)); have n3_ := Aside0.mk ((by rw [hg]; exact (below_size (by repeat (first | (with_reducible first | exact HB.out | apply below_alloc | apply pw_below_drewN | apply below_drew1) | exact HB.out))) : w.heap.size ≤ gb197)); clear HB; have HB := n0_; have BK197 := n1_; have GW197 := n2_; have GE197 := n3_; clear n0_ n1_ n2_ n3_; clear hb hbox hg; have hcz9_0 : w8.cell? ⟨gb197, 0, none⟩ = some (.int .i64 a0_0) := (blk_cell BK197.out 0).trans rfl; have hcz9_1 : w8.cell? ⟨gb197, 1, none⟩ = some (.int .i64 a0_1) := (blk_cell BK197.out 1).trans rfl; have hcz9_2 : w8.cell? ⟨gb197, 2, none⟩ = some (.slice A0_2 l0_2.length c0_2) := (blk_cell BK197.out 2).trans rfl; have hfz9_0 := blk_frozen BK197.out 0; have hfz9_1 := blk_frozen BK197.out 1; have hfz9_2 := blk_frozen BK197.out 2) | ((with_reducible refine gate_callee (f := 15) rfl ?_); refine goesL_ (some 24) rfl rfl Try.func15 (by kernel_rfl) rfl #[.agg #[.int .i64 a0_0, .int .i64 a0_1, .slice A0_2 l0_2.length c0_2], .int .i64 1048576] rfl (by (try simp only [List.map_toArray, List.map_cons, List.map_nil]); first | done | rfl | (simp only [List.length_drop, List.length_take]; rfl)) ?_; (with_reducible refine (laws_szField.calls a0_0 a0_1 _ _ l0_2 1048576 t198 _ ?side1 ?side2 A6.out).mono ?_); (case side1 => repeat (first | exact (Kd.C_below HR0_2.out HB.out) | (with_reducible refine Kd.C_alloc ?_ _) | (with_reducible refine Kd.C_drewN ?_ _) | (with_reducible refine Kd.C_drew ?_))); (case side2 => exact HC0_2.out); rintro e w10 ⟨rfl, hb⟩; refine ⟨_, rfl, ?_⟩; have n0_ := Aside0.mk (blk_below (g := gb197) (o := .cells #[.int .i64 a0_0, .int .i64 a0_1, .slice A0_2 l0_2.length c0_2] 24 (0, 0)) (by (with_reducible repeat (first | refine blk_drewN ?_ _ | refine blk_drew ?_ | refine blk_alloc ?_ _)); exact BK197.out) hb); have n1_ := Aside0.mk (below_step (by repeat (first | (with_reducible first | exact HB.out | apply below_alloc | apply pw_below_drewN | apply below_drew1 | refine below_set ?_ GE197.out) | exact HB.out)) hb); clear BK197; clear HB; have BK197 := n0_; have HB := n1_; clear n0_ n1_; (try clear hb); (try clear hb2); (try clear hk); (try clear hi)))
   go_ret
   exact ⟨by first | rfl | (simp [errW_none, errW_some] <;> rfl) | (simp [*, errW_none, errW_some] <;> rfl), by repeat (first | (with_reducible first | exact HB.out | apply below_alloc | apply pw_below_drewN | apply below_drew1 | refine below_set ?_ GE197.out) | exact HB.out)⟩
  ·rw [if_neg c7] at H
   have c7b0 : decide (t198 < 0) = false := decide_eq_false c7
   clear c7
   replace H := Option.bind_eq_some_iff.mp H
   obtain ⟨⟨t199, t200, t201⟩, A110, H⟩ := H
   replace H : ((laws_toIntS.f k l2).bind fun t204 => ((spec_AutoTile.f k t199 t200 t201 a1 t204).bind fun bt207 => ((laws_toField.f k a0_0 a0_1 l0_2).bind fun bt214 => ((laws_toIntS.f k l2).bind fun t220 => ((impl_AutoTile.f k bt214.1 bt214.2.1 bt214.2.2 a1 t220).bind fun bt223 => ((laws_eqField.f k bt223.1 bt223.2.1 bt223.2.2.1 bt207.1 bt207.2.1 bt207.2.2.1).bind fun t230 => (if t230 = true then (laws_FnExactAutoTile.j0 k a1 l2 bt207.2.2.2 t220 bt223.2.2.2 (bt223.2.2.2 != bt207.2.2.2) a0_0 a0_1 l0_2 bt207.1 bt207.2.1 bt207.2.2.1 bt214.1 bt214.2.1 bt214.2.2 bt223.1 bt223.2.1 bt223.2.2.1) else (laws_FnExactAutoTile.j0 k a1 l2 bt207.2.2.2 t220 bt223.2.2.2 true a0_0 a0_1 l0_2 bt207.1 bt207.2.1 bt207.2.2.1 bt214.1 bt214.2.1 bt214.2.2 bt223.1 bt223.2.1 bt223.2.2.1)))))))) = some r := H
   have A11 := Aside0.mk A110
   clear A110
   replace H := Option.bind_eq_some_iff.mp H
   obtain ⟨t204, A120, H⟩ := H
   replace H : ((spec_AutoTile.f k t199 t200 t201 a1 t204).bind fun bt207 => ((laws_toField.f k a0_0 a0_1 l0_2).bind fun bt214 => ((laws_toIntS.f k l2).bind fun t220 => ((impl_AutoTile.f k bt214.1 bt214.2.1 bt214.2.2 a1 t220).bind fun bt223 => ((laws_eqField.f k bt223.1 bt223.2.1 bt223.2.2.1 bt207.1 bt207.2.1 bt207.2.2.1).bind fun t230 => (if t230 = true then (laws_FnExactAutoTile.j0 k a1 l2 bt207.2.2.2 t220 bt223.2.2.2 (bt223.2.2.2 != bt207.2.2.2) a0_0 a0_1 l0_2 bt207.1 bt207.2.1 bt207.2.2.1 bt214.1 bt214.2.1 bt214.2.2 bt223.1 bt223.2.1 bt223.2.2.1) else (laws_FnExactAutoTile.j0 k a1 l2 bt207.2.2.2 t220 bt223.2.2.2 true a0_0 a0_1 l0_2 bt207.1 bt207.2.1 bt207.2.2.1 bt214.1 bt214.2.1 bt214.2.2 bt223.1 bt223.2.1 bt223.2.2.1))))))) = some r := H
   have A12 := Aside0.mk A120
   clear A120
   replace H := Option.bind_eq_some_iff.mp H
   obtain ⟨⟨t207, t208, t209, t212⟩, A130, H⟩ := H
   replace H : ((laws_toField.f k a0_0 a0_1 l0_2).bind fun bt214 => ((laws_toIntS.f k l2).bind fun t220 => ((impl_AutoTile.f k bt214.1 bt214.2.1 bt214.2.2 a1 t220).bind fun bt223 => ((laws_eqField.f k bt223.1 bt223.2.1 bt223.2.2.1 t207 t208 t209).bind fun t230 => (if t230 = true then (laws_FnExactAutoTile.j0 k a1 l2 t212 t220 bt223.2.2.2 (bt223.2.2.2 != t212) a0_0 a0_1 l0_2 t207 t208 t209 bt214.1 bt214.2.1 bt214.2.2 bt223.1 bt223.2.1 bt223.2.2.1) else (laws_FnExactAutoTile.j0 k a1 l2 t212 t220 bt223.2.2.2 true a0_0 a0_1 l0_2 t207 t208 t209 bt214.1 bt214.2.1 bt214.2.2 bt223.1 bt223.2.1 bt223.2.2.1)))))) = some r := H
   have A13 := Aside0.mk A130
   clear A130
   replace H := Option.bind_eq_some_iff.mp H
   obtain ⟨⟨t214, t215, t216⟩, A140, H⟩ := H
   replace H : ((laws_toIntS.f k l2).bind fun t220 => ((impl_AutoTile.f k t214 t215 t216 a1 t220).bind fun bt223 => ((laws_eqField.f k bt223.1 bt223.2.1 bt223.2.2.1 t207 t208 t209).bind fun t230 => (if t230 = true then (laws_FnExactAutoTile.j0 k a1 l2 t212 t220 bt223.2.2.2 (bt223.2.2.2 != t212) a0_0 a0_1 l0_2 t207 t208 t209 t214 t215 t216 bt223.1 bt223.2.1 bt223.2.2.1) else (laws_FnExactAutoTile.j0 k a1 l2 t212 t220 bt223.2.2.2 true a0_0 a0_1 l0_2 t207 t208 t209 t214 t215 t216 bt223.1 bt223.2.1 bt223.2.2.1))))) = some r := H
   have A14 := Aside0.mk A140
   clear A140
   replace H := Option.bind_eq_some_iff.mp H
   obtain ⟨t220, A150, H⟩ := H
   replace H : ((impl_AutoTile.f k t214 t215 t216 a1 t220).bind fun bt223 => ((laws_eqField.f k bt223.1 bt223.2.1 bt223.2.2.1 t207 t208 t209).bind fun t230 => (if t230 = true then (laws_FnExactAutoTile.j0 k a1 l2 t212 t220 bt223.2.2.2 (bt223.2.2.2 != t212) a0_0 a0_1 l0_2 t207 t208 t209 t214 t215 t216 bt223.1 bt223.2.1 bt223.2.2.1) else (laws_FnExactAutoTile.j0 k a1 l2 t212 t220 bt223.2.2.2 true a0_0 a0_1 l0_2 t207 t208 t209 t214 t215 t216 bt223.1 bt223.2.1 bt223.2.2.1)))) = some r := H
   have A15 := Aside0.mk A150
   clear A150
   replace H := Option.bind_eq_some_iff.mp H
   obtain ⟨⟨t223, t224, t225, t228⟩, A160, H⟩ := H
   replace H : ((laws_eqField.f k t223 t224 t225 t207 t208 t209).bind fun t230 => (if t230 = true then (laws_FnExactAutoTile.j0 k a1 l2 t212 t220 t228 (t228 != t212) a0_0 a0_1 l0_2 t207 t208 t209 t214 t215 t216 t223 t224 t225) else (laws_FnExactAutoTile.j0 k a1 l2 t212 t220 t228 true a0_0 a0_1 l0_2 t207 t208 t209 t214 t215 t216 t223 t224 t225))) = some r := H
   have A16 := Aside0.mk A160
   clear A160
   have HC17 := Aside0.mk H
   clear H
   go_enter Try.func3, Try.ntmps3
   go_upto_region 11 with (first | ((with_reducible refine gate_dst (N := 3) rfl ?_); refine box_event ?hg (N := 3) ?hd (cs := #[.int .i64 a0_0, .int .i64 a0_1, .slice A0_2 l0_2.length c0_2]) (t := 24) ?hr ?_; (case hd => rfl); (case hg => rfl); (case hr => first | (go_simp; done) | (go_simp; rfl)); intro gb197 hg w18 hbox hb; have n0_ := Aside0.mk (below_step (by repeat (first | (with_reducible first | exact HB.out | apply below_alloc | apply pw_below_drewN | apply below_drew1) | exact HB.out)) hb); have n1_ := Aside0.mk (hbox); have n2_ := Aside0.mk ((by rw [hg]; exact (below_size (by repeat (first | (with_reducible first | exact HB.out | apply below_alloc | apply pw_below_drewN | apply below_drew1) | exact HB.out))) : w.heap.size ≤ gb197)); have n3_ := Aside0.mk ((by rw [hg]; exact (below_size (by repeat (first | (with_reducible first | exact HB.out | apply below_alloc | apply pw_below_drewN | apply below_drew1) | exact HB.out))) : w.heap.size ≤ gb197)); clear HB; have HB := n0_; have BK197 := n1_; have GW197 := n2_; have GE197 := n3_; clear n0_ n1_ n2_ n3_; clear hb hbox hg; have hcz19_0 : w18.cell? ⟨gb197, 0, none⟩ = some (.int .i64 a0_0) := (blk_cell BK197.out 0).trans rfl; have hcz19_1 : w18.cell? ⟨gb197, 1, none⟩ = some (.int .i64 a0_1) := (blk_cell BK197.out 1).trans rfl; have hcz19_2 : w18.cell? ⟨gb197, 2, none⟩ = some (.slice A0_2 l0_2.length c0_2) := (blk_cell BK197.out 2).trans rfl; have hfz19_0 := blk_frozen BK197.out 0; have hfz19_1 := blk_frozen BK197.out 1; have hfz19_2 := blk_frozen BK197.out 2) | ((with_reducible refine gate_callee (f := 15) rfl ?_); refine goesL_ (some 24) rfl rfl Try.func15 (by kernel_rfl) rfl #[.agg #[.int .i64 a0_0, .int .i64 a0_1, .slice A0_2 l0_2.length c0_2], .int .i64 1048576] rfl (by (try simp only [List.map_toArray, List.map_cons, List.map_nil]); first | done | rfl | (simp only [List.length_drop, List.length_take]; rfl)) ?_; (with_reducible refine (laws_szField.calls a0_0 a0_1 _ _ l0_2 1048576 t198 _ ?side1 ?side2 A6.out).mono ?_); (case side1 => repeat (first | exact (Kd.C_below HR0_2.out HB.out) | (with_reducible refine Kd.C_alloc ?_ _) | (with_reducible refine Kd.C_drewN ?_ _) | (with_reducible refine Kd.C_drew ?_))); (case side2 => exact HC0_2.out); rintro e w20 ⟨rfl, hb⟩; refine ⟨_, rfl, ?_⟩; have n0_ := Aside0.mk (blk_below (g := gb197) (o := .cells #[.int .i64 a0_0, .int .i64 a0_1, .slice A0_2 l0_2.length c0_2] 24 (0, 0)) (by (with_reducible repeat (first | refine blk_drewN ?_ _ | refine blk_drew ?_ | refine blk_alloc ?_ _)); exact BK197.out) hb); have n1_ := Aside0.mk (below_step (by repeat (first | (with_reducible first | exact HB.out | apply below_alloc | apply pw_below_drewN | apply below_drew1 | refine below_set ?_ GE197.out) | exact HB.out)) hb); clear BK197; clear HB; have BK197 := n0_; have HB := n1_; clear n0_ n1_; (try clear hb); (try clear hb2); (try clear hk); (try clear hi); have hcz21_0 : w20.cell? ⟨gb197, 0, none⟩ = some (.int .i64 a0_0) := (blk_cell BK197.out 0).trans rfl; have hcz21_1 : w20.cell? ⟨gb197, 1, none⟩ = some (.int .i64 a0_1) := (blk_cell BK197.out 1).trans rfl; have hcz21_2 : w20.cell? ⟨gb197, 2, none⟩ = some (.slice A0_2 l0_2.length c0_2) := (blk_cell BK197.out 2).trans rfl; have hfz21_0 := blk_frozen BK197.out 0; have hfz21_1 := blk_frozen BK197.out 1; have hfz21_2 := blk_frozen BK197.out 2) | ((with_reducible refine gate_callee (f := 17) rfl ?_); refine goesL_ (some 29) rfl rfl Try.func17 (by kernel_rfl) rfl #[.agg #[.int .i64 a0_0, .int .i64 a0_1, .slice A0_2 l0_2.length c0_2]] rfl (by (try simp only [List.map_toArray, List.map_cons, List.map_nil]); first | done | rfl | (simp only [List.length_drop, List.length_take]; rfl)) ?_; (with_reducible refine (laws_toField.calls k a0_0 a0_1 _ _ l0_2 t199 t200 t201 _ ?side1 ?side2 A11.out).mono ?_); (case side1 => repeat (first | exact (Kd.C_below HR0_2.out HB.out) | (with_reducible refine Kd.C_alloc ?_ _) | (with_reducible refine Kd.C_drewN ?_ _) | (with_reducible refine Kd.C_drew ?_))); (case side2 => exact HC0_2.out); rintro e w22 ⟨v202, rfl, ho0, hb⟩; refine ⟨_, rfl, ?_⟩; have n0_ := Aside0.mk (Kd.R_lower ho0 (below_size (by repeat (first | (with_reducible first | exact HB.out | apply below_alloc | apply pw_below_drewN | apply below_drew1 | refine below_set ?_ GE197.out) | exact HB.out)))); have n1_ := Aside0.mk (blk_below (g := gb197) (o := .cells #[.int .i64 a0_0, .int .i64 a0_1, .slice A0_2 l0_2.length c0_2] 24 (0, 0)) (by (with_reducible repeat (first | refine blk_drewN ?_ _ | refine blk_drew ?_ | refine blk_alloc ?_ _)); exact BK197.out) hb); have n2_ := Aside0.mk (below_step (by repeat (first | (with_reducible first | exact HB.out | apply below_alloc | apply pw_below_drewN | apply below_drew1 | refine below_set ?_ GE197.out) | exact HB.out)) hb); clear BK197; clear HB; have HO203 := n0_; have BK197 := n1_; have HB := n2_; clear n0_ n1_ n2_; (try clear hb); (try clear hb2); (try clear hk); (try clear hi); (try clear ho0)) | ((with_reducible refine gate_callee (f := 18) rfl ?_); refine goesL_ (some 32) rfl rfl Try.func18 (by kernel_rfl) rfl #[.slice A2 l2.length c2] rfl (by (try simp only [List.map_toArray, List.map_cons, List.map_nil]); first | done | rfl | (simp only [List.length_drop, List.length_take]; rfl)) ?_; (with_reducible refine (laws_toIntS.calls k _ _ l2 t204 _ ?side1 ?side2 A12.out).mono ?_); (case side1 => repeat (first | exact (Kd.C_below HR2.out HB.out) | (with_reducible refine Kd.C_alloc ?_ _) | (with_reducible refine Kd.C_drewN ?_ _) | (with_reducible refine Kd.C_drew ?_))); (case side2 => exact HC2.out); rintro e w23 ⟨v205, rfl, ho0, hb⟩; refine ⟨_, rfl, ?_⟩; have n0_ := Aside0.mk (Kd.R_elder' (by (with_reducible repeat (first | apply Kd.R_alloc | apply Kd.R_drewN | apply Kd.R_drew)); exact HO203.out) (Kd.R_base ho0) hb); have n1_ := Aside0.mk (Kd.R_lower (Kd.R_new' ho0 (Kd.R_lt (by (with_reducible repeat (first | apply Kd.R_alloc | apply Kd.R_drewN | apply Kd.R_drew)); exact HO203.out))) (below_size (by repeat (first | (with_reducible first | exact HB.out | apply below_alloc | apply pw_below_drewN | apply below_drew1 | refine below_set ?_ GE197.out) | exact HB.out)))); have n2_ := Aside0.mk (blk_below (g := gb197) (o := .cells #[.int .i64 a0_0, .int .i64 a0_1, .slice A0_2 l0_2.length c0_2] 24 (0, 0)) (by (with_reducible repeat (first | refine blk_drewN ?_ _ | refine blk_drew ?_ | refine blk_alloc ?_ _)); exact BK197.out) hb); have n3_ := Aside0.mk (below_step (by repeat (first | (with_reducible first | exact HB.out | apply below_alloc | apply pw_below_drewN | apply below_drew1 | refine below_set ?_ GE197.out) | exact HB.out)) hb); clear HO203; clear BK197; clear HB; have HO203 := n0_; have HO206 := n1_; have BK197 := n2_; have HB := n3_; clear n0_ n1_ n2_ n3_; (try clear hb); (try clear hb2); (try clear hk); (try clear hi); (try clear ho0); obtain ⟨Ao24, co24, eo24⟩ := Kd.R_slice HO203.out; subst eo24; obtain ⟨Ao25, co25, eo25⟩ := Kd.R_slice HO206.out; subst eo25) | ((with_reducible refine gate_callee (f := 16) rfl ?_); refine goesL_ (some 33) rfl rfl Try.func16 (by kernel_rfl) rfl #[.agg #[.int .i64 t199, .int .i64 t200, .slice Ao24 t201.length co24], .int .i64 a1, .slice Ao25 t204.length co25] rfl (by (try simp only [List.map_toArray, List.map_cons, List.map_nil]); first | done | rfl | (simp only [List.length_drop, List.length_take]; rfl)) ?_; (with_reducible refine (spec_AutoTile.calls k t199 t200 _ _ t201 a1 _ _ t204 t207 t208 t209 t212 _ ?side1 ?side2 ?side3 ?side4 A13.out).mono ?_); (case side1 => repeat (first | exact (Kd.R_reads' HO203.out).2.2 | (with_reducible refine Kd.C_alloc ?_ _) | (with_reducible refine Kd.C_drewN ?_ _) | (with_reducible refine Kd.C_drew ?_))); (case side2 => exact (Kd.R_reads' HO203.out).2.1); (case side3 => repeat (first | exact (Kd.R_reads' HO206.out).2.2 | (with_reducible refine Kd.C_alloc ?_ _) | (with_reducible refine Kd.C_drewN ?_ _) | (with_reducible refine Kd.C_drew ?_))); (case side4 => exact (Kd.R_reads' HO206.out).2.1); rintro e w26 ⟨v210, rfl, ho0, hb⟩; refine ⟨_, rfl, ?_⟩; have n0_ := Aside0.mk (Kd.R_elder' (by (with_reducible repeat (first | apply Kd.R_alloc | apply Kd.R_drewN | apply Kd.R_drew)); exact HO203.out) (Kd.R_base ho0) hb); have n1_ := Aside0.mk (Kd.R_elder' (by (with_reducible repeat (first | apply Kd.R_alloc | apply Kd.R_drewN | apply Kd.R_drew)); exact HO206.out) (Kd.R_base ho0) hb); have n2_ := Aside0.mk (Kd.R_lower (Kd.R_new' (Kd.R_new' ho0 (Kd.R_lt (by (with_reducible repeat (first | apply Kd.R_alloc | apply Kd.R_drewN | apply Kd.R_drew)); exact HO203.out))) (Kd.R_lt (by (with_reducible repeat (first | apply Kd.R_alloc | apply Kd.R_drewN | apply Kd.R_drew)); exact HO206.out))) (below_size (by repeat (first | (with_reducible first | exact HB.out | apply below_alloc | apply pw_below_drewN | apply below_drew1 | refine below_set ?_ GE197.out) | exact HB.out)))); have n3_ := Aside0.mk (blk_below (g := gb197) (o := .cells #[.int .i64 a0_0, .int .i64 a0_1, .slice A0_2 l0_2.length c0_2] 24 (0, 0)) (by (with_reducible repeat (first | refine blk_drewN ?_ _ | refine blk_drew ?_ | refine blk_alloc ?_ _)); exact BK197.out) hb); have n4_ := Aside0.mk (below_step (by repeat (first | (with_reducible first | exact HB.out | apply below_alloc | apply pw_below_drewN | apply below_drew1 | refine below_set ?_ GE197.out) | exact HB.out)) hb); clear HO203; clear HO206; clear BK197; clear HB; have HO203 := n0_; have HO206 := n1_; have HO211 := n2_; have BK197 := n3_; have HB := n4_; clear n0_ n1_ n2_ n3_ n4_; (try clear hb); (try clear hb2); (try clear hk); (try clear hi); (try clear ho0)) | ((with_reducible refine gate_dst (N := 8) rfl ?_); refine box_event ?hg (N := 8) ?hd (cs := #[.int .i64 0, .int .i64 0, .slice none 0 0]) (t := 26) ?hr ?_; (case hd => rfl); (case hg => rfl); (case hr => first | (go_simp; done) | (go_simp; rfl)); intro gb213 hg w27 hbox hb; have n0_ := Aside0.mk (Kd.R_below (by (with_reducible repeat (first | apply Kd.R_alloc | apply Kd.R_drewN | apply Kd.R_drew)); exact HO203.out) hb); have n1_ := Aside0.mk (Kd.R_below (by (with_reducible repeat (first | apply Kd.R_alloc | apply Kd.R_drewN | apply Kd.R_drew)); exact HO206.out) hb); have n2_ := Aside0.mk (Kd.R_below (by (with_reducible repeat (first | apply Kd.R_alloc | apply Kd.R_drewN | apply Kd.R_drew)); exact HO211.out) hb); have n3_ := Aside0.mk (blk_below (g := gb197) (o := .cells #[.int .i64 a0_0, .int .i64 a0_1, .slice A0_2 l0_2.length c0_2] 24 (0, 0)) (by (with_reducible repeat (first | refine blk_drewN ?_ _ | refine blk_drew ?_ | refine blk_alloc ?_ _)); exact BK197.out) hb); have n4_ := Aside0.mk (below_step (by repeat (first | (with_reducible first | exact HB.out | apply below_alloc | apply pw_below_drewN | apply below_drew1 | refine below_set ?_ GE197.out) | exact HB.out)) hb); have n5_ := Aside0.mk (hbox); have n6_ := Aside0.mk ((by rw [hg]; exact (below_size (by repeat (first | (with_reducible first | exact HB.out | apply below_alloc | apply pw_below_drewN | apply below_drew1 | refine below_set ?_ GE197.out) | exact HB.out))) : w.heap.size ≤ gb213)); have n7_ := Aside0.mk ((by rw [hg]; exact (below_size (by repeat (first | (with_reducible first | exact HB.out | apply below_alloc | apply pw_below_drewN | apply below_drew1 | refine below_set ?_ GE197.out) | exact HB.out))) : w.heap.size ≤ gb213)); have n8_ := Aside0.mk ((by rw [hg]; exact Nat.ne_of_lt (blk_lt (g := gb197) (o := .cells #[.int .i64 a0_0, .int .i64 a0_1, .slice A0_2 l0_2.length c0_2] 24 (0, 0)) (by (with_reducible repeat (first | refine blk_drewN ?_ _ | refine blk_drew ?_ | refine blk_alloc ?_ _)); exact BK197.out)) : gb197 ≠ gb213)); have n9_ := Aside0.mk ((by rw [hg]; exact Nat.ne_of_gt (blk_lt (g := gb197) (o := .cells #[.int .i64 a0_0, .int .i64 a0_1, .slice A0_2 l0_2.length c0_2] 24 (0, 0)) (by (with_reducible repeat (first | refine blk_drewN ?_ _ | refine blk_drew ?_ | refine blk_alloc ?_ _)); exact BK197.out)) : gb213 ≠ gb197)); clear HO203; clear HO206; clear HO211; clear BK197; clear HB; have HO203 := n0_; have HO206 := n1_; have HO211 := n2_; have BK197 := n3_; have HB := n4_; have BK213 := n5_; have GW213 := n6_; have GE213 := n7_; have NB197_213 := n8_; have NB213_197 := n9_; clear n0_ n1_ n2_ n3_ n4_ n5_ n6_ n7_ n8_ n9_; clear hb hbox hg; have hnb28 := NB213_197.out; have hnc28 := NB197_213.out; have hcz29_0 : w27.cell? ⟨gb213, 0, none⟩ = some (.int .i64 0) := (blk_cell BK213.out 0).trans rfl; have hcz29_1 : w27.cell? ⟨gb213, 1, none⟩ = some (.int .i64 0) := (blk_cell BK213.out 1).trans rfl; have hcz29_2 : w27.cell? ⟨gb213, 2, none⟩ = some (.slice none 0 0) := (blk_cell BK213.out 2).trans rfl; have hfz29_0 := blk_frozen BK213.out 0; have hfz29_1 := blk_frozen BK213.out 1; have hfz29_2 := blk_frozen BK213.out 2; obtain ⟨Ao30, co30, eo30⟩ := Kd.R_slice HO211.out; subst eo30; have hcz31_0 : w27.cell? ⟨gb197, 0, none⟩ = some (.int .i64 a0_0) := (blk_cell BK197.out 0).trans rfl; have hcz31_1 : w27.cell? ⟨gb197, 1, none⟩ = some (.int .i64 a0_1) := (blk_cell BK197.out 1).trans rfl; have hcz31_2 : w27.cell? ⟨gb197, 2, none⟩ = some (.slice A0_2 l0_2.length c0_2) := (blk_cell BK197.out 2).trans rfl; have hfz31_0 := blk_frozen BK197.out 0; have hfz31_1 := blk_frozen BK197.out 1; have hfz31_2 := blk_frozen BK197.out 2) | ((with_reducible refine gate_callee (f := 17) rfl ?_); refine goesL_ (some 37) rfl rfl Try.func17 (by kernel_rfl) rfl #[.agg #[.int .i64 a0_0, .int .i64 a0_1, .slice A0_2 l0_2.length c0_2]] rfl (by (try simp only [List.map_toArray, List.map_cons, List.map_nil]); first | done | rfl | (simp only [List.length_drop, List.length_take]; rfl)) ?_; (with_reducible refine (laws_toField.calls k a0_0 a0_1 _ _ l0_2 t214 t215 t216 _ ?side1 ?side2 A14.out).mono ?_); (case side1 => exact Kd.C_below HR0_2.out (by repeat (first | (with_reducible first | exact HB.out | apply below_alloc | apply pw_below_drewN | apply below_drew1 | refine below_set ?_ GE197.out | refine below_set ?_ GE213.out) | exact HB.out))); (case side2 => exact HC0_2.out); rintro e w32 ⟨v217, rfl, ho0, hb⟩; refine ⟨_, rfl, ?_⟩; have n0_ := Aside0.mk (Kd.R_elder' (by (with_reducible repeat (first | apply Kd.R_alloc | apply Kd.R_drewN | apply Kd.R_drew)); exact (Kd.R_mono (Kd.R_far (p := ⟨gb213, 2, none⟩) (Kd.R_far (p := ⟨gb213, 1, none⟩) (Kd.R_far (p := ⟨gb213, 0, none⟩) (Kd.R_types HO203.out BK213.out (by decide)) (fun _ hk => hk.2) (.int .i64 t207)) (fun _ hk => hk.2) (.int .i64 t208)) (fun _ hk => hk.2) (.slice Ao30 t209.length co30)) (fun _ h_ => h_.1))) (Kd.R_base ho0) hb); have n1_ := Aside0.mk (Kd.R_elder' (by (with_reducible repeat (first | apply Kd.R_alloc | apply Kd.R_drewN | apply Kd.R_drew)); exact (Kd.R_mono (Kd.R_far (p := ⟨gb213, 2, none⟩) (Kd.R_far (p := ⟨gb213, 1, none⟩) (Kd.R_far (p := ⟨gb213, 0, none⟩) (Kd.R_types HO206.out BK213.out (by decide)) (fun _ hk => hk.2) (.int .i64 t207)) (fun _ hk => hk.2) (.int .i64 t208)) (fun _ hk => hk.2) (.slice Ao30 t209.length co30)) (fun _ h_ => h_.1))) (Kd.R_base ho0) hb); have n2_ := Aside0.mk (Kd.R_elder' (by (with_reducible repeat (first | apply Kd.R_alloc | apply Kd.R_drewN | apply Kd.R_drew)); exact (Kd.R_mono (Kd.R_far (p := ⟨gb213, 2, none⟩) (Kd.R_far (p := ⟨gb213, 1, none⟩) (Kd.R_far (p := ⟨gb213, 0, none⟩) (Kd.R_types HO211.out BK213.out (by decide)) (fun _ hk => hk.2) (.int .i64 t207)) (fun _ hk => hk.2) (.int .i64 t208)) (fun _ hk => hk.2) (.slice Ao30 t209.length co30)) (fun _ h_ => h_.1))) (Kd.R_base ho0) hb); have n3_ := Aside0.mk (Kd.R_lower (Kd.R_new' (Kd.R_new' (Kd.R_new' ho0 (Kd.R_lt (by (with_reducible repeat (first | apply Kd.R_alloc | apply Kd.R_drewN | apply Kd.R_drew)); exact (Kd.R_mono (Kd.R_far (p := ⟨gb213, 2, none⟩) (Kd.R_far (p := ⟨gb213, 1, none⟩) (Kd.R_far (p := ⟨gb213, 0, none⟩) (Kd.R_types HO203.out BK213.out (by decide)) (fun _ hk => hk.2) (.int .i64 t207)) (fun _ hk => hk.2) (.int .i64 t208)) (fun _ hk => hk.2) (.slice Ao30 t209.length co30)) (fun _ h_ => h_.1))))) (Kd.R_lt (by (with_reducible repeat (first | apply Kd.R_alloc | apply Kd.R_drewN | apply Kd.R_drew)); exact (Kd.R_mono (Kd.R_far (p := ⟨gb213, 2, none⟩) (Kd.R_far (p := ⟨gb213, 1, none⟩) (Kd.R_far (p := ⟨gb213, 0, none⟩) (Kd.R_types HO206.out BK213.out (by decide)) (fun _ hk => hk.2) (.int .i64 t207)) (fun _ hk => hk.2) (.int .i64 t208)) (fun _ hk => hk.2) (.slice Ao30 t209.length co30)) (fun _ h_ => h_.1))))) (Kd.R_lt (by (with_reducible repeat (first | apply Kd.R_alloc | apply Kd.R_drewN | apply Kd.R_drew)); exact (Kd.R_mono (Kd.R_far (p := ⟨gb213, 2, none⟩) (Kd.R_far (p := ⟨gb213, 1, none⟩) (Kd.R_far (p := ⟨gb213, 0, none⟩) (Kd.R_types HO211.out BK213.out (by decide)) (fun _ hk => hk.2) (.int .i64 t207)) (fun _ hk => hk.2) (.int .i64 t208)) (fun _ hk => hk.2) (.slice Ao30 t209.length co30)) (fun _ h_ => h_.1))))) (below_size (by repeat (first | (with_reducible first | exact HB.out | apply below_alloc | apply pw_below_drewN | apply below_drew1 | refine below_set ?_ GE197.out | refine below_set ?_ GE213.out) | exact HB.out)))); have n4_ := Aside0.mk (blk_below (g := gb197) (o := .cells #[.int .i64 a0_0, .int .i64 a0_1, .slice A0_2 l0_2.length c0_2] 24 (0, 0)) (by (with_reducible repeat (first | refine blk_drewN ?_ _ | refine blk_drew ?_ | refine blk_alloc ?_ _)); refine blk_far ?_ NB197_213.out _; (with_reducible repeat (first | refine blk_drewN ?_ _ | refine blk_drew ?_ | refine blk_alloc ?_ _)); refine blk_far ?_ NB197_213.out _; (with_reducible repeat (first | refine blk_drewN ?_ _ | refine blk_drew ?_ | refine blk_alloc ?_ _)); refine blk_far ?_ NB197_213.out _; (with_reducible repeat (first | refine blk_drewN ?_ _ | refine blk_drew ?_ | refine blk_alloc ?_ _)); exact BK197.out) hb); have n5_ := Aside0.mk (blk_below (g := gb213) (o := .cells #[.int .i64 t207, .int .i64 t208, .slice Ao30 t209.length co30] 26 (0, 0)) (by (with_reducible repeat (first | refine blk_drewN ?_ _ | refine blk_drew ?_ | refine blk_alloc ?_ _)); refine blk_put (cs := #[.int .i64 t207, .int .i64 t208, .slice none 0 0]) ?_ 2 _ rfl; (with_reducible repeat (first | refine blk_drewN ?_ _ | refine blk_drew ?_ | refine blk_alloc ?_ _)); refine blk_put (cs := #[.int .i64 t207, .int .i64 0, .slice none 0 0]) ?_ 1 _ rfl; (with_reducible repeat (first | refine blk_drewN ?_ _ | refine blk_drew ?_ | refine blk_alloc ?_ _)); refine blk_put (cs := #[.int .i64 0, .int .i64 0, .slice none 0 0]) ?_ 0 _ rfl; (with_reducible repeat (first | refine blk_drewN ?_ _ | refine blk_drew ?_ | refine blk_alloc ?_ _)); exact BK213.out) hb); have n6_ := Aside0.mk (below_step (by repeat (first | (with_reducible first | exact HB.out | apply below_alloc | apply pw_below_drewN | apply below_drew1 | refine below_set ?_ GE197.out | refine below_set ?_ GE213.out) | exact HB.out)) hb); clear HO203; clear HO206; clear HO211; clear BK197; clear BK213; clear HB; have HO203 := n0_; have HO206 := n1_; have HO211 := n2_; have HO218 := n3_; have BK197 := n4_; have BK213 := n5_; have HB := n6_; clear n0_ n1_ n2_ n3_ n4_ n5_ n6_; (try clear hb); (try clear hb2); (try clear hk); (try clear hi); (try clear ho0)) | ((with_reducible refine gate_dst (N := 10) rfl ?_); refine box_event ?hg (N := 10) ?hd (cs := #[.int .i64 0, .int .i64 0, .slice none 0 0]) (t := 26) ?hr ?_; (case hd => rfl); (case hg => rfl); (case hr => first | (go_simp; done) | (go_simp; rfl)); intro gb219 hg w33 hbox hb; have n0_ := Aside0.mk (Kd.R_below (by (with_reducible repeat (first | apply Kd.R_alloc | apply Kd.R_drewN | apply Kd.R_drew)); exact HO203.out) hb); have n1_ := Aside0.mk (Kd.R_below (by (with_reducible repeat (first | apply Kd.R_alloc | apply Kd.R_drewN | apply Kd.R_drew)); exact HO206.out) hb); have n2_ := Aside0.mk (Kd.R_below (by (with_reducible repeat (first | apply Kd.R_alloc | apply Kd.R_drewN | apply Kd.R_drew)); exact HO211.out) hb); have n3_ := Aside0.mk (Kd.R_below (by (with_reducible repeat (first | apply Kd.R_alloc | apply Kd.R_drewN | apply Kd.R_drew)); exact HO218.out) hb); have n4_ := Aside0.mk (blk_below (g := gb197) (o := .cells #[.int .i64 a0_0, .int .i64 a0_1, .slice A0_2 l0_2.length c0_2] 24 (0, 0)) (by (with_reducible repeat (first | refine blk_drewN ?_ _ | refine blk_drew ?_ | refine blk_alloc ?_ _)); exact BK197.out) hb); have n5_ := Aside0.mk (blk_below (g := gb213) (o := .cells #[.int .i64 t207, .int .i64 t208, .slice Ao30 t209.length co30] 26 (0, 0)) (by (with_reducible repeat (first | refine blk_drewN ?_ _ | refine blk_drew ?_ | refine blk_alloc ?_ _)); exact BK213.out) hb); have n6_ := Aside0.mk (below_step (by repeat (first | (with_reducible first | exact HB.out | apply below_alloc | apply pw_below_drewN | apply below_drew1 | refine below_set ?_ GE197.out | refine below_set ?_ GE213.out) | exact HB.out)) hb); have n7_ := Aside0.mk (hbox); have n8_ := Aside0.mk ((by rw [hg]; exact (below_size (by repeat (first | (with_reducible first | exact HB.out | apply below_alloc | apply pw_below_drewN | apply below_drew1 | refine below_set ?_ GE197.out | refine below_set ?_ GE213.out) | exact HB.out))) : w.heap.size ≤ gb219)); have n9_ := Aside0.mk ((by rw [hg]; exact (below_size (by repeat (first | (with_reducible first | exact HB.out | apply below_alloc | apply pw_below_drewN | apply below_drew1 | refine below_set ?_ GE197.out | refine below_set ?_ GE213.out) | exact HB.out))) : w.heap.size ≤ gb219)); have n10_ := Aside0.mk ((by rw [hg]; exact Nat.ne_of_lt (blk_lt (g := gb197) (o := .cells #[.int .i64 a0_0, .int .i64 a0_1, .slice A0_2 l0_2.length c0_2] 24 (0, 0)) (by (with_reducible repeat (first | refine blk_drewN ?_ _ | refine blk_drew ?_ | refine blk_alloc ?_ _)); exact BK197.out)) : gb197 ≠ gb219)); have n11_ := Aside0.mk ((by rw [hg]; exact Nat.ne_of_gt (blk_lt (g := gb197) (o := .cells #[.int .i64 a0_0, .int .i64 a0_1, .slice A0_2 l0_2.length c0_2] 24 (0, 0)) (by (with_reducible repeat (first | refine blk_drewN ?_ _ | refine blk_drew ?_ | refine blk_alloc ?_ _)); exact BK197.out)) : gb219 ≠ gb197)); have n12_ := Aside0.mk ((by rw [hg]; exact Nat.ne_of_lt (blk_lt (g := gb213) (o := .cells #[.int .i64 t207, .int .i64 t208, .slice Ao30 t209.length co30] 26 (0, 0)) (by (with_reducible repeat (first | refine blk_drewN ?_ _ | refine blk_drew ?_ | refine blk_alloc ?_ _)); exact BK213.out)) : gb213 ≠ gb219)); have n13_ := Aside0.mk ((by rw [hg]; exact Nat.ne_of_gt (blk_lt (g := gb213) (o := .cells #[.int .i64 t207, .int .i64 t208, .slice Ao30 t209.length co30] 26 (0, 0)) (by (with_reducible repeat (first | refine blk_drewN ?_ _ | refine blk_drew ?_ | refine blk_alloc ?_ _)); exact BK213.out)) : gb219 ≠ gb213)); clear HO203; clear HO206; clear HO211; clear HO218; clear BK197; clear BK213; clear HB; have HO203 := n0_; have HO206 := n1_; have HO211 := n2_; have HO218 := n3_; have BK197 := n4_; have BK213 := n5_; have HB := n6_; have BK219 := n7_; have GW219 := n8_; have GE219 := n9_; have NB197_219 := n10_; have NB219_197 := n11_; have NB213_219 := n12_; have NB219_213 := n13_; clear n0_ n1_ n2_ n3_ n4_ n5_ n6_ n7_ n8_ n9_ n10_ n11_ n12_ n13_; clear hb hbox hg; have hnb34 := NB219_197.out; have hnc34 := NB197_219.out; have hnb35 := NB219_213.out; have hnc35 := NB213_219.out; have hcz36_0 : w33.cell? ⟨gb219, 0, none⟩ = some (.int .i64 0) := (blk_cell BK219.out 0).trans rfl; have hcz36_1 : w33.cell? ⟨gb219, 1, none⟩ = some (.int .i64 0) := (blk_cell BK219.out 1).trans rfl; have hcz36_2 : w33.cell? ⟨gb219, 2, none⟩ = some (.slice none 0 0) := (blk_cell BK219.out 2).trans rfl; have hfz36_0 := blk_frozen BK219.out 0; have hfz36_1 := blk_frozen BK219.out 1; have hfz36_2 := blk_frozen BK219.out 2; obtain ⟨Ao37, co37, eo37⟩ := Kd.R_slice HO218.out; subst eo37) | ((with_reducible refine gate_callee (f := 18) rfl ?_); refine goesL_ (some 39) rfl rfl Try.func18 (by kernel_rfl) rfl #[.slice A2 l2.length c2] rfl (by (try simp only [List.map_toArray, List.map_cons, List.map_nil]); first | done | rfl | (simp only [List.length_drop, List.length_take]; rfl)) ?_; (with_reducible refine (laws_toIntS.calls k _ _ l2 t220 _ ?side1 ?side2 A15.out).mono ?_); (case side1 => exact Kd.C_below HR2.out (by repeat (first | (with_reducible first | exact HB.out | apply below_alloc | apply pw_below_drewN | apply below_drew1 | refine below_set ?_ GE197.out | refine below_set ?_ GE213.out | refine below_set ?_ GE219.out) | exact HB.out))); (case side2 => exact HC2.out); rintro e w38 ⟨v221, rfl, ho0, hb⟩; refine ⟨_, rfl, ?_⟩; have n0_ := Aside0.mk (Kd.R_elder' (by (with_reducible repeat (first | apply Kd.R_alloc | apply Kd.R_drewN | apply Kd.R_drew)); exact (Kd.R_mono (Kd.R_far (p := ⟨gb219, 2, none⟩) (Kd.R_far (p := ⟨gb219, 1, none⟩) (Kd.R_far (p := ⟨gb219, 0, none⟩) (Kd.R_types HO203.out BK219.out (by decide)) (fun _ hk => hk.2) (.int .i64 t214)) (fun _ hk => hk.2) (.int .i64 t215)) (fun _ hk => hk.2) (.slice Ao37 t216.length co37)) (fun _ h_ => h_.1))) (Kd.R_base ho0) hb); have n1_ := Aside0.mk (Kd.R_elder' (by (with_reducible repeat (first | apply Kd.R_alloc | apply Kd.R_drewN | apply Kd.R_drew)); exact (Kd.R_mono (Kd.R_far (p := ⟨gb219, 2, none⟩) (Kd.R_far (p := ⟨gb219, 1, none⟩) (Kd.R_far (p := ⟨gb219, 0, none⟩) (Kd.R_types HO206.out BK219.out (by decide)) (fun _ hk => hk.2) (.int .i64 t214)) (fun _ hk => hk.2) (.int .i64 t215)) (fun _ hk => hk.2) (.slice Ao37 t216.length co37)) (fun _ h_ => h_.1))) (Kd.R_base ho0) hb); have n2_ := Aside0.mk (Kd.R_elder' (by (with_reducible repeat (first | apply Kd.R_alloc | apply Kd.R_drewN | apply Kd.R_drew)); exact (Kd.R_mono (Kd.R_far (p := ⟨gb219, 2, none⟩) (Kd.R_far (p := ⟨gb219, 1, none⟩) (Kd.R_far (p := ⟨gb219, 0, none⟩) (Kd.R_types HO211.out BK219.out (by decide)) (fun _ hk => hk.2) (.int .i64 t214)) (fun _ hk => hk.2) (.int .i64 t215)) (fun _ hk => hk.2) (.slice Ao37 t216.length co37)) (fun _ h_ => h_.1))) (Kd.R_base ho0) hb); have n3_ := Aside0.mk (Kd.R_elder' (by (with_reducible repeat (first | apply Kd.R_alloc | apply Kd.R_drewN | apply Kd.R_drew)); exact (Kd.R_mono (Kd.R_far (p := ⟨gb219, 2, none⟩) (Kd.R_far (p := ⟨gb219, 1, none⟩) (Kd.R_far (p := ⟨gb219, 0, none⟩) (Kd.R_types HO218.out BK219.out (by decide)) (fun _ hk => hk.2) (.int .i64 t214)) (fun _ hk => hk.2) (.int .i64 t215)) (fun _ hk => hk.2) (.slice Ao37 t216.length co37)) (fun _ h_ => h_.1))) (Kd.R_base ho0) hb); have n4_ := Aside0.mk (Kd.R_lower (Kd.R_new' (Kd.R_new' (Kd.R_new' (Kd.R_new' ho0 (Kd.R_lt (by (with_reducible repeat (first | apply Kd.R_alloc | apply Kd.R_drewN | apply Kd.R_drew)); exact (Kd.R_mono (Kd.R_far (p := ⟨gb219, 2, none⟩) (Kd.R_far (p := ⟨gb219, 1, none⟩) (Kd.R_far (p := ⟨gb219, 0, none⟩) (Kd.R_types HO203.out BK219.out (by decide)) (fun _ hk => hk.2) (.int .i64 t214)) (fun _ hk => hk.2) (.int .i64 t215)) (fun _ hk => hk.2) (.slice Ao37 t216.length co37)) (fun _ h_ => h_.1))))) (Kd.R_lt (by (with_reducible repeat (first | apply Kd.R_alloc | apply Kd.R_drewN | apply Kd.R_drew)); exact (Kd.R_mono (Kd.R_far (p := ⟨gb219, 2, none⟩) (Kd.R_far (p := ⟨gb219, 1, none⟩) (Kd.R_far (p := ⟨gb219, 0, none⟩) (Kd.R_types HO206.out BK219.out (by decide)) (fun _ hk => hk.2) (.int .i64 t214)) (fun _ hk => hk.2) (.int .i64 t215)) (fun _ hk => hk.2) (.slice Ao37 t216.length co37)) (fun _ h_ => h_.1))))) (Kd.R_lt (by (with_reducible repeat (first | apply Kd.R_alloc | apply Kd.R_drewN | apply Kd.R_drew)); exact (Kd.R_mono (Kd.R_far (p := ⟨gb219, 2, none⟩) (Kd.R_far (p := ⟨gb219, 1, none⟩) (Kd.R_far (p := ⟨gb219, 0, none⟩) (Kd.R_types HO211.out BK219.out (by decide)) (fun _ hk => hk.2) (.int .i64 t214)) (fun _ hk => hk.2) (.int .i64 t215)) (fun _ hk => hk.2) (.slice Ao37 t216.length co37)) (fun _ h_ => h_.1))))) (Kd.R_lt (by (with_reducible repeat (first | apply Kd.R_alloc | apply Kd.R_drewN | apply Kd.R_drew)); exact (Kd.R_mono (Kd.R_far (p := ⟨gb219, 2, none⟩) (Kd.R_far (p := ⟨gb219, 1, none⟩) (Kd.R_far (p := ⟨gb219, 0, none⟩) (Kd.R_types HO218.out BK219.out (by decide)) (fun _ hk => hk.2) (.int .i64 t214)) (fun _ hk => hk.2) (.int .i64 t215)) (fun _ hk => hk.2) (.slice Ao37 t216.length co37)) (fun _ h_ => h_.1))))) (below_size (by repeat (first | (with_reducible first | exact HB.out | apply below_alloc | apply pw_below_drewN | apply below_drew1 | refine below_set ?_ GE197.out | refine below_set ?_ GE213.out | refine below_set ?_ GE219.out) | exact HB.out)))); have n5_ := Aside0.mk (blk_below (g := gb197) (o := .cells #[.int .i64 a0_0, .int .i64 a0_1, .slice A0_2 l0_2.length c0_2] 24 (0, 0)) (by (with_reducible repeat (first | refine blk_drewN ?_ _ | refine blk_drew ?_ | refine blk_alloc ?_ _)); refine blk_far ?_ NB197_219.out _; (with_reducible repeat (first | refine blk_drewN ?_ _ | refine blk_drew ?_ | refine blk_alloc ?_ _)); refine blk_far ?_ NB197_219.out _; (with_reducible repeat (first | refine blk_drewN ?_ _ | refine blk_drew ?_ | refine blk_alloc ?_ _)); refine blk_far ?_ NB197_219.out _; (with_reducible repeat (first | refine blk_drewN ?_ _ | refine blk_drew ?_ | refine blk_alloc ?_ _)); exact BK197.out) hb); have n6_ := Aside0.mk (blk_below (g := gb213) (o := .cells #[.int .i64 t207, .int .i64 t208, .slice Ao30 t209.length co30] 26 (0, 0)) (by (with_reducible repeat (first | refine blk_drewN ?_ _ | refine blk_drew ?_ | refine blk_alloc ?_ _)); refine blk_far ?_ NB213_219.out _; (with_reducible repeat (first | refine blk_drewN ?_ _ | refine blk_drew ?_ | refine blk_alloc ?_ _)); refine blk_far ?_ NB213_219.out _; (with_reducible repeat (first | refine blk_drewN ?_ _ | refine blk_drew ?_ | refine blk_alloc ?_ _)); refine blk_far ?_ NB213_219.out _; (with_reducible repeat (first | refine blk_drewN ?_ _ | refine blk_drew ?_ | refine blk_alloc ?_ _)); exact BK213.out) hb); have n7_ := Aside0.mk (blk_below (g := gb219) (o := .cells #[.int .i64 t214, .int .i64 t215, .slice Ao37 t216.length co37] 26 (0, 0)) (by (with_reducible repeat (first | refine blk_drewN ?_ _ | refine blk_drew ?_ | refine blk_alloc ?_ _)); refine blk_put (cs := #[.int .i64 t214, .int .i64 t215, .slice none 0 0]) ?_ 2 _ rfl; (with_reducible repeat (first | refine blk_drewN ?_ _ | refine blk_drew ?_ | refine blk_alloc ?_ _)); refine blk_put (cs := #[.int .i64 t214, .int .i64 0, .slice none 0 0]) ?_ 1 _ rfl; (with_reducible repeat (first | refine blk_drewN ?_ _ | refine blk_drew ?_ | refine blk_alloc ?_ _)); refine blk_put (cs := #[.int .i64 0, .int .i64 0, .slice none 0 0]) ?_ 0 _ rfl; (with_reducible repeat (first | refine blk_drewN ?_ _ | refine blk_drew ?_ | refine blk_alloc ?_ _)); exact BK219.out) hb); have n8_ := Aside0.mk (below_step (by repeat (first | (with_reducible first | exact HB.out | apply below_alloc | apply pw_below_drewN | apply below_drew1 | refine below_set ?_ GE197.out | refine below_set ?_ GE213.out | refine below_set ?_ GE219.out) | exact HB.out)) hb); clear HO203; clear HO206; clear HO211; clear HO218; clear BK197; clear BK213; clear BK219; clear HB; have HO203 := n0_; have HO206 := n1_; have HO211 := n2_; have HO218 := n3_; have HO222 := n4_; have BK197 := n5_; have BK213 := n6_; have BK219 := n7_; have HB := n8_; clear n0_ n1_ n2_ n3_ n4_ n5_ n6_ n7_ n8_; (try clear hb); (try clear hb2); (try clear hk); (try clear hi); (try clear ho0); have hcz39_0 : w38.cell? ⟨gb219, 0, none⟩ = some (.int .i64 t214) := (blk_cell BK219.out 0).trans rfl; have hcz39_1 : w38.cell? ⟨gb219, 1, none⟩ = some (.int .i64 t215) := (blk_cell BK219.out 1).trans rfl; have hcz39_2 : w38.cell? ⟨gb219, 2, none⟩ = some (.slice Ao37 t216.length co37) := (blk_cell BK219.out 2).trans rfl; have hfz39_0 := blk_frozen BK219.out 0; have hfz39_1 := blk_frozen BK219.out 1; have hfz39_2 := blk_frozen BK219.out 2; obtain ⟨Ao40, co40, eo40⟩ := Kd.R_slice HO222.out; subst eo40) | ((with_reducible refine gate_callee (f := 19) rfl ?_); refine goesL_ (some 44) rfl rfl Try.func19 (by kernel_rfl) rfl #[.agg #[.int .i64 t214, .int .i64 t215, .slice Ao37 t216.length co37], .int .i64 a1, .slice Ao40 t220.length co40] rfl (by (try simp only [List.map_toArray, List.map_cons, List.map_nil]); first | done | rfl | (simp only [List.length_drop, List.length_take]; rfl)) ?_; (with_reducible refine (impl_AutoTile.calls k t214 t215 _ _ t216 a1 _ _ t220 t223 t224 t225 t228 _ ?side1 ?side2 ?side3 ?side4 A16.out).mono ?_); (case side1 => repeat (first | exact (Kd.R_reads' HO218.out).2.2 | (with_reducible refine Kd.C_alloc ?_ _) | (with_reducible refine Kd.C_drewN ?_ _) | (with_reducible refine Kd.C_drew ?_))); (case side2 => exact (Kd.R_reads' HO218.out).2.1); (case side3 => repeat (first | exact (Kd.R_reads' HO222.out).2.2 | (with_reducible refine Kd.C_alloc ?_ _) | (with_reducible refine Kd.C_drewN ?_ _) | (with_reducible refine Kd.C_drew ?_))); (case side4 => exact (Kd.R_reads' HO222.out).2.1); rintro e w41 ⟨v226, rfl, ho0, hb⟩; refine ⟨_, rfl, ?_⟩; have n0_ := Aside0.mk (Kd.R_elder' (by (with_reducible repeat (first | apply Kd.R_alloc | apply Kd.R_drewN | apply Kd.R_drew)); exact HO203.out) (Kd.R_base ho0) hb); have n1_ := Aside0.mk (Kd.R_elder' (by (with_reducible repeat (first | apply Kd.R_alloc | apply Kd.R_drewN | apply Kd.R_drew)); exact HO206.out) (Kd.R_base ho0) hb); have n2_ := Aside0.mk (Kd.R_elder' (by (with_reducible repeat (first | apply Kd.R_alloc | apply Kd.R_drewN | apply Kd.R_drew)); exact HO211.out) (Kd.R_base ho0) hb); have n3_ := Aside0.mk (Kd.R_elder' (by (with_reducible repeat (first | apply Kd.R_alloc | apply Kd.R_drewN | apply Kd.R_drew)); exact HO218.out) (Kd.R_base ho0) hb); have n4_ := Aside0.mk (Kd.R_elder' (by (with_reducible repeat (first | apply Kd.R_alloc | apply Kd.R_drewN | apply Kd.R_drew)); exact HO222.out) (Kd.R_base ho0) hb); have n5_ := Aside0.mk (Kd.R_lower (Kd.R_new' (Kd.R_new' (Kd.R_new' (Kd.R_new' (Kd.R_new' ho0 (Kd.R_lt (by (with_reducible repeat (first | apply Kd.R_alloc | apply Kd.R_drewN | apply Kd.R_drew)); exact HO203.out))) (Kd.R_lt (by (with_reducible repeat (first | apply Kd.R_alloc | apply Kd.R_drewN | apply Kd.R_drew)); exact HO206.out))) (Kd.R_lt (by (with_reducible repeat (first | apply Kd.R_alloc | apply Kd.R_drewN | apply Kd.R_drew)); exact HO211.out))) (Kd.R_lt (by (with_reducible repeat (first | apply Kd.R_alloc | apply Kd.R_drewN | apply Kd.R_drew)); exact HO218.out))) (Kd.R_lt (by (with_reducible repeat (first | apply Kd.R_alloc | apply Kd.R_drewN | apply Kd.R_drew)); exact HO222.out))) (below_size (by repeat (first | (with_reducible first | exact HB.out | apply below_alloc | apply pw_below_drewN | apply below_drew1 | refine below_set ?_ GE197.out | refine below_set ?_ GE213.out | refine below_set ?_ GE219.out) | exact HB.out)))); have n6_ := Aside0.mk (blk_below (g := gb197) (o := .cells #[.int .i64 a0_0, .int .i64 a0_1, .slice A0_2 l0_2.length c0_2] 24 (0, 0)) (by (with_reducible repeat (first | refine blk_drewN ?_ _ | refine blk_drew ?_ | refine blk_alloc ?_ _)); exact BK197.out) hb); have n7_ := Aside0.mk (blk_below (g := gb213) (o := .cells #[.int .i64 t207, .int .i64 t208, .slice Ao30 t209.length co30] 26 (0, 0)) (by (with_reducible repeat (first | refine blk_drewN ?_ _ | refine blk_drew ?_ | refine blk_alloc ?_ _)); exact BK213.out) hb); have n8_ := Aside0.mk (blk_below (g := gb219) (o := .cells #[.int .i64 t214, .int .i64 t215, .slice Ao37 t216.length co37] 26 (0, 0)) (by (with_reducible repeat (first | refine blk_drewN ?_ _ | refine blk_drew ?_ | refine blk_alloc ?_ _)); exact BK219.out) hb); have n9_ := Aside0.mk (below_step (by repeat (first | (with_reducible first | exact HB.out | apply below_alloc | apply pw_below_drewN | apply below_drew1 | refine below_set ?_ GE197.out | refine below_set ?_ GE213.out | refine below_set ?_ GE219.out) | exact HB.out)) hb); clear HO203; clear HO206; clear HO211; clear HO218; clear HO222; clear BK197; clear BK213; clear BK219; clear HB; have HO203 := n0_; have HO206 := n1_; have HO211 := n2_; have HO218 := n3_; have HO222 := n4_; have HO227 := n5_; have BK197 := n6_; have BK213 := n7_; have BK219 := n8_; have HB := n9_; clear n0_ n1_ n2_ n3_ n4_ n5_ n6_ n7_ n8_ n9_; (try clear hb); (try clear hb2); (try clear hk); (try clear hi); (try clear ho0)) | ((with_reducible refine gate_dst (N := 12) rfl ?_); refine box_event ?hg (N := 12) ?hd (cs := #[.int .i64 0, .int .i64 0, .slice none 0 0]) (t := 26) ?hr ?_; (case hd => rfl); (case hg => rfl); (case hr => first | (go_simp; done) | (go_simp; rfl)); intro gb229 hg w42 hbox hb; have n0_ := Aside0.mk (Kd.R_below (by (with_reducible repeat (first | apply Kd.R_alloc | apply Kd.R_drewN | apply Kd.R_drew)); exact HO203.out) hb); have n1_ := Aside0.mk (Kd.R_below (by (with_reducible repeat (first | apply Kd.R_alloc | apply Kd.R_drewN | apply Kd.R_drew)); exact HO206.out) hb); have n2_ := Aside0.mk (Kd.R_below (by (with_reducible repeat (first | apply Kd.R_alloc | apply Kd.R_drewN | apply Kd.R_drew)); exact HO211.out) hb); have n3_ := Aside0.mk (Kd.R_below (by (with_reducible repeat (first | apply Kd.R_alloc | apply Kd.R_drewN | apply Kd.R_drew)); exact HO218.out) hb); have n4_ := Aside0.mk (Kd.R_below (by (with_reducible repeat (first | apply Kd.R_alloc | apply Kd.R_drewN | apply Kd.R_drew)); exact HO222.out) hb); have n5_ := Aside0.mk (Kd.R_below (by (with_reducible repeat (first | apply Kd.R_alloc | apply Kd.R_drewN | apply Kd.R_drew)); exact HO227.out) hb); have n6_ := Aside0.mk (blk_below (g := gb197) (o := .cells #[.int .i64 a0_0, .int .i64 a0_1, .slice A0_2 l0_2.length c0_2] 24 (0, 0)) (by (with_reducible repeat (first | refine blk_drewN ?_ _ | refine blk_drew ?_ | refine blk_alloc ?_ _)); exact BK197.out) hb); have n7_ := Aside0.mk (blk_below (g := gb213) (o := .cells #[.int .i64 t207, .int .i64 t208, .slice Ao30 t209.length co30] 26 (0, 0)) (by (with_reducible repeat (first | refine blk_drewN ?_ _ | refine blk_drew ?_ | refine blk_alloc ?_ _)); exact BK213.out) hb); have n8_ := Aside0.mk (blk_below (g := gb219) (o := .cells #[.int .i64 t214, .int .i64 t215, .slice Ao37 t216.length co37] 26 (0, 0)) (by (with_reducible repeat (first | refine blk_drewN ?_ _ | refine blk_drew ?_ | refine blk_alloc ?_ _)); exact BK219.out) hb); have n9_ := Aside0.mk (below_step (by repeat (first | (with_reducible first | exact HB.out | apply below_alloc | apply pw_below_drewN | apply below_drew1 | refine below_set ?_ GE197.out | refine below_set ?_ GE213.out | refine below_set ?_ GE219.out) | exact HB.out)) hb); have n10_ := Aside0.mk (hbox); have n11_ := Aside0.mk ((by rw [hg]; exact (below_size (by repeat (first | (with_reducible first | exact HB.out | apply below_alloc | apply pw_below_drewN | apply below_drew1 | refine below_set ?_ GE197.out | refine below_set ?_ GE213.out | refine below_set ?_ GE219.out) | exact HB.out))) : w.heap.size ≤ gb229)); have n12_ := Aside0.mk ((by rw [hg]; exact (below_size (by repeat (first | (with_reducible first | exact HB.out | apply below_alloc | apply pw_below_drewN | apply below_drew1 | refine below_set ?_ GE197.out | refine below_set ?_ GE213.out | refine below_set ?_ GE219.out) | exact HB.out))) : w.heap.size ≤ gb229)); have n13_ := Aside0.mk ((by rw [hg]; exact Nat.ne_of_lt (blk_lt (g := gb197) (o := .cells #[.int .i64 a0_0, .int .i64 a0_1, .slice A0_2 l0_2.length c0_2] 24 (0, 0)) (by (with_reducible repeat (first | refine blk_drewN ?_ _ | refine blk_drew ?_ | refine blk_alloc ?_ _)); exact BK197.out)) : gb197 ≠ gb229)); have n14_ := Aside0.mk ((by rw [hg]; exact Nat.ne_of_gt (blk_lt (g := gb197) (o := .cells #[.int .i64 a0_0, .int .i64 a0_1, .slice A0_2 l0_2.length c0_2] 24 (0, 0)) (by (with_reducible repeat (first | refine blk_drewN ?_ _ | refine blk_drew ?_ | refine blk_alloc ?_ _)); exact BK197.out)) : gb229 ≠ gb197)); have n15_ := Aside0.mk ((by rw [hg]; exact Nat.ne_of_lt (blk_lt (g := gb213) (o := .cells #[.int .i64 t207, .int .i64 t208, .slice Ao30 t209.length co30] 26 (0, 0)) (by (with_reducible repeat (first | refine blk_drewN ?_ _ | refine blk_drew ?_ | refine blk_alloc ?_ _)); exact BK213.out)) : gb213 ≠ gb229)); have n16_ := Aside0.mk ((by rw [hg]; exact Nat.ne_of_gt (blk_lt (g := gb213) (o := .cells #[.int .i64 t207, .int .i64 t208, .slice Ao30 t209.length co30] 26 (0, 0)) (by (with_reducible repeat (first | refine blk_drewN ?_ _ | refine blk_drew ?_ | refine blk_alloc ?_ _)); exact BK213.out)) : gb229 ≠ gb213)); have n17_ := Aside0.mk ((by rw [hg]; exact Nat.ne_of_lt (blk_lt (g := gb219) (o := .cells #[.int .i64 t214, .int .i64 t215, .slice Ao37 t216.length co37] 26 (0, 0)) (by (with_reducible repeat (first | refine blk_drewN ?_ _ | refine blk_drew ?_ | refine blk_alloc ?_ _)); exact BK219.out)) : gb219 ≠ gb229)); have n18_ := Aside0.mk ((by rw [hg]; exact Nat.ne_of_gt (blk_lt (g := gb219) (o := .cells #[.int .i64 t214, .int .i64 t215, .slice Ao37 t216.length co37] 26 (0, 0)) (by (with_reducible repeat (first | refine blk_drewN ?_ _ | refine blk_drew ?_ | refine blk_alloc ?_ _)); exact BK219.out)) : gb229 ≠ gb219)); clear HO203; clear HO206; clear HO211; clear HO218; clear HO222; clear HO227; clear BK197; clear BK213; clear BK219; clear HB; have HO203 := n0_; have HO206 := n1_; have HO211 := n2_; have HO218 := n3_; have HO222 := n4_; have HO227 := n5_; have BK197 := n6_; have BK213 := n7_; have BK219 := n8_; have HB := n9_; have BK229 := n10_; have GW229 := n11_; have GE229 := n12_; have NB197_229 := n13_; have NB229_197 := n14_; have NB213_229 := n15_; have NB229_213 := n16_; have NB219_229 := n17_; have NB229_219 := n18_; clear n0_ n1_ n2_ n3_ n4_ n5_ n6_ n7_ n8_ n9_ n10_ n11_ n12_ n13_ n14_ n15_ n16_ n17_ n18_; clear hb hbox hg; have hnb43 := NB229_197.out; have hnc43 := NB197_229.out; have hnb44 := NB229_213.out; have hnc44 := NB213_229.out; have hnb45 := NB229_219.out; have hnc45 := NB219_229.out; have hcz46_0 : w42.cell? ⟨gb229, 0, none⟩ = some (.int .i64 0) := (blk_cell BK229.out 0).trans rfl; have hcz46_1 : w42.cell? ⟨gb229, 1, none⟩ = some (.int .i64 0) := (blk_cell BK229.out 1).trans rfl; have hcz46_2 : w42.cell? ⟨gb229, 2, none⟩ = some (.slice none 0 0) := (blk_cell BK229.out 2).trans rfl; have hfz46_0 := blk_frozen BK229.out 0; have hfz46_1 := blk_frozen BK229.out 1; have hfz46_2 := blk_frozen BK229.out 2; obtain ⟨Ao47, co47, eo47⟩ := Kd.R_slice HO227.out; subst eo47))
   (try simp only [Act.put, List.setIfInBounds_toArray, List.set_cons_zero, List.set_cons_succ])
   go_cut [55] (fun v55 wc => ∃ (kq : Nat) (x55_16 : Bool), v55 = .bool x55_16 ∧ Aside0 (laws_FnExactAutoTile.j0 kq a1 l2 t212 t220 t228 x55_16 a0_0 a0_1 l0_2 t207 t208 t209 t214 t215 t216 t223 t224 t225 = some r) ∧ Aside0 (kq ≤ k) ∧ Aside0 (Kd.R (Kd.int .i64) 3 wc w.heap.size (fun k_ => some k_ ≠ ((.slice Ao30 t209.length co30) : Value).ownBlock ∧ some k_ ≠ ((.slice Ao37 t216.length co37) : Value).ownBlock ∧ some k_ ≠ ((.slice Ao47 t225.length co47) : Value).ownBlock) (.slice Ao40 t220.length co40) t220) ∧ Aside0 (Kd.R (Kd.int .i64) 3 wc w.heap.size (fun k_ => some k_ ≠ ((.slice Ao40 t220.length co40) : Value).ownBlock ∧ some k_ ≠ ((.slice Ao37 t216.length co37) : Value).ownBlock ∧ some k_ ≠ ((.slice Ao47 t225.length co47) : Value).ownBlock) (.slice Ao30 t209.length co30) t209) ∧ Aside0 (Kd.R (Kd.int .i64) 3 wc w.heap.size (fun k_ => some k_ ≠ ((.slice Ao40 t220.length co40) : Value).ownBlock ∧ some k_ ≠ ((.slice Ao30 t209.length co30) : Value).ownBlock ∧ some k_ ≠ ((.slice Ao47 t225.length co47) : Value).ownBlock) (.slice Ao37 t216.length co37) t216) ∧ Aside0 (Kd.R (Kd.int .i64) 3 wc w.heap.size (fun k_ => some k_ ≠ ((.slice Ao40 t220.length co40) : Value).ownBlock ∧ some k_ ≠ ((.slice Ao30 t209.length co30) : Value).ownBlock ∧ some k_ ≠ ((.slice Ao37 t216.length co37) : Value).ownBlock) (.slice Ao47 t225.length co47) t225) ∧ Aside0 (wc.heap[gb197]? = some (.cells #[.int .i64 a0_0, .int .i64 a0_1, (.slice A0_2 l0_2.length c0_2)] 24 (0, 0))) ∧ Aside0 (wc.heap[gb213]? = some (.cells #[.int .i64 t207, .int .i64 t208, (.slice Ao30 t209.length co30)] 26 (0, 0))) ∧ Aside0 (wc.heap[gb219]? = some (.cells #[.int .i64 t214, .int .i64 t215, (.slice Ao37 t216.length co37)] 26 (0, 0))) ∧ Aside0 (wc.heap[gb229]? = some (.cells #[.int .i64 t223, .int .i64 t224, (.slice Ao47 t225.length co47)] 26 (0, 0))) ∧ Aside0 (Below w.heap.size w wc))
   case first =>
    have H := HC17.out
    clear HC17
    replace H := Option.bind_eq_some_iff.mp H
    obtain ⟨t230, A480, H⟩ := H
    replace H : (if t230 = true then (laws_FnExactAutoTile.j0 k a1 l2 t212 t220 t228 (t228 != t212) a0_0 a0_1 l0_2 t207 t208 t209 t214 t215 t216 t223 t224 t225) else (laws_FnExactAutoTile.j0 k a1 l2 t212 t220 t228 true a0_0 a0_1 l0_2 t207 t208 t209 t214 t215 t216 t223 t224 t225)) = some r := H
    have A48 := Aside0.mk A480
    clear A480
    by_cases c49 : t230 = true
    ·subst c49
     have H1 : (laws_FnExactAutoTile.j0 k a1 l2 t212 t220 t228 (t228 != t212) a0_0 a0_1 l0_2 t207 t208 t209 t214 t215 t216 t223 t224 t225) = some r := by rw [if_pos rfl] at H; exact H
     clear H
     have H := H1
     clear H1
     have H' := Aside0.mk H
     clear H
     have hnb50 := NB229_197.out
     have hnc50 := NB197_229.out
     have hnb51 := NB229_213.out
     have hnc51 := NB213_229.out
     have hnb52 := NB229_219.out
     have hnc52 := NB219_229.out
     have hcz53_0 : w42.cell? ⟨gb229, 0, none⟩ = some (.int .i64 0) := (blk_cell BK229.out 0).trans rfl
     have hcz53_1 : w42.cell? ⟨gb229, 1, none⟩ = some (.int .i64 0) := (blk_cell BK229.out 1).trans rfl
     have hcz53_2 : w42.cell? ⟨gb229, 2, none⟩ = some (.slice none 0 0) := (blk_cell BK229.out 2).trans rfl
     have hfz53_0 := blk_frozen BK229.out 0
     have hfz53_1 := blk_frozen BK229.out 1
     have hfz53_2 := blk_frozen BK229.out 2
     have hnb54 := NB213_197.out
     have hnc54 := NB197_213.out
     have hnb55 := NB213_219.out
     have hnc55 := NB219_213.out
     have hcz56_0 : w42.cell? ⟨gb213, 0, none⟩ = some (.int .i64 t207) := (blk_cell BK213.out 0).trans rfl
     have hcz56_1 : w42.cell? ⟨gb213, 1, none⟩ = some (.int .i64 t208) := (blk_cell BK213.out 1).trans rfl
     have hcz56_2 : w42.cell? ⟨gb213, 2, none⟩ = some (.slice Ao30 t209.length co30) := (blk_cell BK213.out 2).trans rfl
     have hfz56_0 := blk_frozen BK213.out 0
     have hfz56_1 := blk_frozen BK213.out 1
     have hfz56_2 := blk_frozen BK213.out 2
     go_wp2_with (first | ((with_reducible refine gate_callee (f := 20) rfl ?_); refine goesL_ (some 49) rfl rfl Try.func20 (by kernel_rfl) rfl #[.agg #[.int .i64 t223, .int .i64 t224, .slice Ao47 t225.length co47], .agg #[.int .i64 t207, .int .i64 t208, .slice Ao30 t209.length co30]] rfl (by (try simp only [List.map_toArray, List.map_cons, List.map_nil]); first | done | rfl | (simp only [List.length_drop, List.length_take]; rfl)) ?_; (with_reducible refine (laws_eqField.calls k t223 t224 _ _ t225 t207 t208 _ _ t209 true _ ?side1 ?side2 ?side3 ?side4 A48.out).mono ?_); (case side1 => refine (Kd.R_reads' (e := 3) (base := w.heap.size) (ok := fun k_ => (((((True ∧ some k_ ≠ (.slice Ao24 t201.length co24 : Value).ownBlock) ∧ some k_ ≠ (.slice Ao25 t204.length co25 : Value).ownBlock) ∧ some k_ ≠ (.slice Ao30 t209.length co30 : Value).ownBlock) ∧ some k_ ≠ (.slice Ao37 t216.length co37 : Value).ownBlock) ∧ some k_ ≠ (.slice Ao40 t220.length co40 : Value).ownBlock)) (n := t225.length) (c := co47) ?_).2.2; exact (by (with_reducible repeat (first | apply Kd.R_alloc | apply Kd.R_drewN | apply Kd.R_drew)); exact (Kd.R_mono (Kd.R_far (p := ⟨gb229, 2, none⟩) (Kd.R_far (p := ⟨gb229, 1, none⟩) (Kd.R_far (p := ⟨gb229, 0, none⟩) (Kd.R_types HO227.out BK229.out (by decide)) (fun _ hk => hk.2) (.int .i64 t223)) (fun _ hk => hk.2) (.int .i64 t224)) (fun _ hk => hk.2) (.slice Ao47 t225.length co47)) (fun _ h_ => h_.1)))); (case side2 => exact (Kd.R_reads' HO227.out).2.1); (case side3 => refine (Kd.R_reads' (e := 3) (base := w.heap.size) (ok := fun k_ => (((((True ∧ some k_ ≠ (.slice Ao24 t201.length co24 : Value).ownBlock) ∧ some k_ ≠ (.slice Ao25 t204.length co25 : Value).ownBlock) ∧ some k_ ≠ (.slice Ao37 t216.length co37 : Value).ownBlock) ∧ some k_ ≠ (.slice Ao40 t220.length co40 : Value).ownBlock) ∧ some k_ ≠ (.slice Ao47 t225.length co47 : Value).ownBlock)) (n := t209.length) (c := co30) ?_).2.2; exact (by (with_reducible repeat (first | apply Kd.R_alloc | apply Kd.R_drewN | apply Kd.R_drew)); exact (Kd.R_mono (Kd.R_far (p := ⟨gb229, 2, none⟩) (Kd.R_far (p := ⟨gb229, 1, none⟩) (Kd.R_far (p := ⟨gb229, 0, none⟩) (Kd.R_types HO211.out BK229.out (by decide)) (fun _ hk => hk.2) (.int .i64 t223)) (fun _ hk => hk.2) (.int .i64 t224)) (fun _ hk => hk.2) (.slice Ao47 t225.length co47)) (fun _ h_ => h_.1)))); (case side4 => exact (Kd.R_reads' HO211.out).2.1); rintro e w57 ⟨rfl, hb⟩; refine ⟨_, rfl, ?_⟩; have n0_ := Aside0.mk (Kd.R_below (by (with_reducible repeat (first | apply Kd.R_alloc | apply Kd.R_drewN | apply Kd.R_drew)); exact (Kd.R_mono (Kd.R_far (p := ⟨gb229, 2, none⟩) (Kd.R_far (p := ⟨gb229, 1, none⟩) (Kd.R_far (p := ⟨gb229, 0, none⟩) (Kd.R_types HO203.out BK229.out (by decide)) (fun _ hk => hk.2) (.int .i64 t223)) (fun _ hk => hk.2) (.int .i64 t224)) (fun _ hk => hk.2) (.slice Ao47 t225.length co47)) (fun _ h_ => h_.1))) hb); have n1_ := Aside0.mk (Kd.R_below (by (with_reducible repeat (first | apply Kd.R_alloc | apply Kd.R_drewN | apply Kd.R_drew)); exact (Kd.R_mono (Kd.R_far (p := ⟨gb229, 2, none⟩) (Kd.R_far (p := ⟨gb229, 1, none⟩) (Kd.R_far (p := ⟨gb229, 0, none⟩) (Kd.R_types HO206.out BK229.out (by decide)) (fun _ hk => hk.2) (.int .i64 t223)) (fun _ hk => hk.2) (.int .i64 t224)) (fun _ hk => hk.2) (.slice Ao47 t225.length co47)) (fun _ h_ => h_.1))) hb); have n2_ := Aside0.mk (Kd.R_below (by (with_reducible repeat (first | apply Kd.R_alloc | apply Kd.R_drewN | apply Kd.R_drew)); exact (Kd.R_mono (Kd.R_far (p := ⟨gb229, 2, none⟩) (Kd.R_far (p := ⟨gb229, 1, none⟩) (Kd.R_far (p := ⟨gb229, 0, none⟩) (Kd.R_types HO211.out BK229.out (by decide)) (fun _ hk => hk.2) (.int .i64 t223)) (fun _ hk => hk.2) (.int .i64 t224)) (fun _ hk => hk.2) (.slice Ao47 t225.length co47)) (fun _ h_ => h_.1))) hb); have n3_ := Aside0.mk (Kd.R_below (by (with_reducible repeat (first | apply Kd.R_alloc | apply Kd.R_drewN | apply Kd.R_drew)); exact (Kd.R_mono (Kd.R_far (p := ⟨gb229, 2, none⟩) (Kd.R_far (p := ⟨gb229, 1, none⟩) (Kd.R_far (p := ⟨gb229, 0, none⟩) (Kd.R_types HO218.out BK229.out (by decide)) (fun _ hk => hk.2) (.int .i64 t223)) (fun _ hk => hk.2) (.int .i64 t224)) (fun _ hk => hk.2) (.slice Ao47 t225.length co47)) (fun _ h_ => h_.1))) hb); have n4_ := Aside0.mk (Kd.R_below (by (with_reducible repeat (first | apply Kd.R_alloc | apply Kd.R_drewN | apply Kd.R_drew)); exact (Kd.R_mono (Kd.R_far (p := ⟨gb229, 2, none⟩) (Kd.R_far (p := ⟨gb229, 1, none⟩) (Kd.R_far (p := ⟨gb229, 0, none⟩) (Kd.R_types HO222.out BK229.out (by decide)) (fun _ hk => hk.2) (.int .i64 t223)) (fun _ hk => hk.2) (.int .i64 t224)) (fun _ hk => hk.2) (.slice Ao47 t225.length co47)) (fun _ h_ => h_.1))) hb); have n5_ := Aside0.mk (Kd.R_below (by (with_reducible repeat (first | apply Kd.R_alloc | apply Kd.R_drewN | apply Kd.R_drew)); exact (Kd.R_mono (Kd.R_far (p := ⟨gb229, 2, none⟩) (Kd.R_far (p := ⟨gb229, 1, none⟩) (Kd.R_far (p := ⟨gb229, 0, none⟩) (Kd.R_types HO227.out BK229.out (by decide)) (fun _ hk => hk.2) (.int .i64 t223)) (fun _ hk => hk.2) (.int .i64 t224)) (fun _ hk => hk.2) (.slice Ao47 t225.length co47)) (fun _ h_ => h_.1))) hb); have n6_ := Aside0.mk (blk_below (g := gb197) (o := .cells #[.int .i64 a0_0, .int .i64 a0_1, .slice A0_2 l0_2.length c0_2] 24 (0, 0)) (by (with_reducible repeat (first | refine blk_drewN ?_ _ | refine blk_drew ?_ | refine blk_alloc ?_ _)); refine blk_far ?_ NB197_229.out _; (with_reducible repeat (first | refine blk_drewN ?_ _ | refine blk_drew ?_ | refine blk_alloc ?_ _)); refine blk_far ?_ NB197_229.out _; (with_reducible repeat (first | refine blk_drewN ?_ _ | refine blk_drew ?_ | refine blk_alloc ?_ _)); refine blk_far ?_ NB197_229.out _; (with_reducible repeat (first | refine blk_drewN ?_ _ | refine blk_drew ?_ | refine blk_alloc ?_ _)); exact BK197.out) hb); have n7_ := Aside0.mk (blk_below (g := gb213) (o := .cells #[.int .i64 t207, .int .i64 t208, .slice Ao30 t209.length co30] 26 (0, 0)) (by (with_reducible repeat (first | refine blk_drewN ?_ _ | refine blk_drew ?_ | refine blk_alloc ?_ _)); refine blk_far ?_ NB213_229.out _; (with_reducible repeat (first | refine blk_drewN ?_ _ | refine blk_drew ?_ | refine blk_alloc ?_ _)); refine blk_far ?_ NB213_229.out _; (with_reducible repeat (first | refine blk_drewN ?_ _ | refine blk_drew ?_ | refine blk_alloc ?_ _)); refine blk_far ?_ NB213_229.out _; (with_reducible repeat (first | refine blk_drewN ?_ _ | refine blk_drew ?_ | refine blk_alloc ?_ _)); exact BK213.out) hb); have n8_ := Aside0.mk (blk_below (g := gb219) (o := .cells #[.int .i64 t214, .int .i64 t215, .slice Ao37 t216.length co37] 26 (0, 0)) (by (with_reducible repeat (first | refine blk_drewN ?_ _ | refine blk_drew ?_ | refine blk_alloc ?_ _)); refine blk_far ?_ NB219_229.out _; (with_reducible repeat (first | refine blk_drewN ?_ _ | refine blk_drew ?_ | refine blk_alloc ?_ _)); refine blk_far ?_ NB219_229.out _; (with_reducible repeat (first | refine blk_drewN ?_ _ | refine blk_drew ?_ | refine blk_alloc ?_ _)); refine blk_far ?_ NB219_229.out _; (with_reducible repeat (first | refine blk_drewN ?_ _ | refine blk_drew ?_ | refine blk_alloc ?_ _)); exact BK219.out) hb); have n9_ := Aside0.mk (blk_below (g := gb229) (o := .cells #[.int .i64 t223, .int .i64 t224, .slice Ao47 t225.length co47] 26 (0, 0)) (by (with_reducible repeat (first | refine blk_drewN ?_ _ | refine blk_drew ?_ | refine blk_alloc ?_ _)); refine blk_put (cs := #[.int .i64 t223, .int .i64 t224, .slice none 0 0]) ?_ 2 _ rfl; (with_reducible repeat (first | refine blk_drewN ?_ _ | refine blk_drew ?_ | refine blk_alloc ?_ _)); refine blk_put (cs := #[.int .i64 t223, .int .i64 0, .slice none 0 0]) ?_ 1 _ rfl; (with_reducible repeat (first | refine blk_drewN ?_ _ | refine blk_drew ?_ | refine blk_alloc ?_ _)); refine blk_put (cs := #[.int .i64 0, .int .i64 0, .slice none 0 0]) ?_ 0 _ rfl; (with_reducible repeat (first | refine blk_drewN ?_ _ | refine blk_drew ?_ | refine blk_alloc ?_ _)); exact BK229.out) hb); have n10_ := Aside0.mk (below_step (by repeat (first | (with_reducible first | exact HB.out | apply below_alloc | apply pw_below_drewN | apply below_drew1 | refine below_set ?_ GE197.out | refine below_set ?_ GE213.out | refine below_set ?_ GE219.out | refine below_set ?_ GE229.out) | exact HB.out)) hb); clear HO203; clear HO206; clear HO211; clear HO218; clear HO222; clear HO227; clear BK197; clear BK213; clear BK219; clear BK229; clear HB; have HO203 := n0_; have HO206 := n1_; have HO211 := n2_; have HO218 := n3_; have HO222 := n4_; have HO227 := n5_; have BK197 := n6_; have BK213 := n7_; have BK219 := n8_; have BK229 := n9_; have HB := n10_; clear n0_ n1_ n2_ n3_ n4_ n5_ n6_ n7_ n8_ n9_ n10_; (try clear hb); (try clear hb2); (try clear hk); (try clear hi)))
     go_meet
     case rel => exact ⟨_, ((t228 != t212)), (by first | rfl | (simp; done) | (simp [*]; done) | (simp [wrap64]; done)), H', ⟨by first | omega | exact Nat.le_refl _⟩, ⟨by (with_reducible repeat (first | apply Kd.R_alloc | apply Kd.R_drewN | apply Kd.R_drew)); exact Kd.R_mono HO222.out (fun _ hk => ⟨hk.1.1.2, ⟨hk.1.2, hk.2⟩⟩)⟩, ⟨by (with_reducible repeat (first | apply Kd.R_alloc | apply Kd.R_drewN | apply Kd.R_drew)); exact Kd.R_mono HO211.out (fun _ hk => ⟨hk.1.2, ⟨hk.1.1.2, hk.2⟩⟩)⟩, ⟨by (with_reducible repeat (first | apply Kd.R_alloc | apply Kd.R_drewN | apply Kd.R_drew)); exact Kd.R_mono HO218.out (fun _ hk => ⟨hk.1.2, ⟨hk.1.1.2, hk.2⟩⟩)⟩, ⟨by (with_reducible repeat (first | apply Kd.R_alloc | apply Kd.R_drewN | apply Kd.R_drew)); exact Kd.R_mono HO227.out (fun _ hk => ⟨hk.2, ⟨hk.1.1.2, hk.1.2⟩⟩)⟩, ⟨by (with_reducible repeat (first | refine blk_drewN ?_ _ | refine blk_drew ?_ | refine blk_alloc ?_ _)); exact BK197.out⟩, ⟨by (with_reducible repeat (first | refine blk_drewN ?_ _ | refine blk_drew ?_ | refine blk_alloc ?_ _)); exact BK213.out⟩, ⟨by (with_reducible repeat (first | refine blk_drewN ?_ _ | refine blk_drew ?_ | refine blk_alloc ?_ _)); exact BK219.out⟩, ⟨by (with_reducible repeat (first | refine blk_drewN ?_ _ | refine blk_drew ?_ | refine blk_alloc ?_ _)); exact BK229.out⟩, ⟨by repeat (first | (with_reducible first | exact HB.out | apply below_alloc | apply pw_below_drewN | apply below_drew1 | refine below_set ?_ GE197.out | refine below_set ?_ GE213.out | refine below_set ?_ GE219.out | refine below_set ?_ GE229.out) | exact HB.out)⟩⟩
    ·replace c49 := Bool.eq_false_iff.mpr c49
     subst c49
     have H1 : (laws_FnExactAutoTile.j0 k a1 l2 t212 t220 t228 true a0_0 a0_1 l0_2 t207 t208 t209 t214 t215 t216 t223 t224 t225) = some r := by rw [if_neg (show ¬ (false = true) by decide)] at H; exact H
     clear H
     have H := H1
     clear H1
     have H' := Aside0.mk H
     clear H
     have hnb58 := NB229_197.out
     have hnc58 := NB197_229.out
     have hnb59 := NB229_213.out
     have hnc59 := NB213_229.out
     have hnb60 := NB229_219.out
     have hnc60 := NB219_229.out
     have hcz61_0 : w42.cell? ⟨gb229, 0, none⟩ = some (.int .i64 0) := (blk_cell BK229.out 0).trans rfl
     have hcz61_1 : w42.cell? ⟨gb229, 1, none⟩ = some (.int .i64 0) := (blk_cell BK229.out 1).trans rfl
     have hcz61_2 : w42.cell? ⟨gb229, 2, none⟩ = some (.slice none 0 0) := (blk_cell BK229.out 2).trans rfl
     have hfz61_0 := blk_frozen BK229.out 0
     have hfz61_1 := blk_frozen BK229.out 1
     have hfz61_2 := blk_frozen BK229.out 2
     have hnb62 := NB213_197.out
     have hnc62 := NB197_213.out
     have hnb63 := NB213_219.out
     have hnc63 := NB219_213.out
     have hcz64_0 : w42.cell? ⟨gb213, 0, none⟩ = some (.int .i64 t207) := (blk_cell BK213.out 0).trans rfl
     have hcz64_1 : w42.cell? ⟨gb213, 1, none⟩ = some (.int .i64 t208) := (blk_cell BK213.out 1).trans rfl
     have hcz64_2 : w42.cell? ⟨gb213, 2, none⟩ = some (.slice Ao30 t209.length co30) := (blk_cell BK213.out 2).trans rfl
     have hfz64_0 := blk_frozen BK213.out 0
     have hfz64_1 := blk_frozen BK213.out 1
     have hfz64_2 := blk_frozen BK213.out 2
     go_wp2_with (first | ((with_reducible refine gate_callee (f := 20) rfl ?_); refine goesL_ (some 49) rfl rfl Try.func20 (by kernel_rfl) rfl #[.agg #[.int .i64 t223, .int .i64 t224, .slice Ao47 t225.length co47], .agg #[.int .i64 t207, .int .i64 t208, .slice Ao30 t209.length co30]] rfl (by (try simp only [List.map_toArray, List.map_cons, List.map_nil]); first | done | rfl | (simp only [List.length_drop, List.length_take]; rfl)) ?_; (with_reducible refine (laws_eqField.calls k t223 t224 _ _ t225 t207 t208 _ _ t209 false _ ?side1 ?side2 ?side3 ?side4 A48.out).mono ?_); (case side1 => refine (Kd.R_reads' (e := 3) (base := w.heap.size) (ok := fun k_ => (((((True ∧ some k_ ≠ (.slice Ao24 t201.length co24 : Value).ownBlock) ∧ some k_ ≠ (.slice Ao25 t204.length co25 : Value).ownBlock) ∧ some k_ ≠ (.slice Ao30 t209.length co30 : Value).ownBlock) ∧ some k_ ≠ (.slice Ao37 t216.length co37 : Value).ownBlock) ∧ some k_ ≠ (.slice Ao40 t220.length co40 : Value).ownBlock)) (n := t225.length) (c := co47) ?_).2.2; exact (by (with_reducible repeat (first | apply Kd.R_alloc | apply Kd.R_drewN | apply Kd.R_drew)); exact (Kd.R_mono (Kd.R_far (p := ⟨gb229, 2, none⟩) (Kd.R_far (p := ⟨gb229, 1, none⟩) (Kd.R_far (p := ⟨gb229, 0, none⟩) (Kd.R_types HO227.out BK229.out (by decide)) (fun _ hk => hk.2) (.int .i64 t223)) (fun _ hk => hk.2) (.int .i64 t224)) (fun _ hk => hk.2) (.slice Ao47 t225.length co47)) (fun _ h_ => h_.1)))); (case side2 => exact (Kd.R_reads' HO227.out).2.1); (case side3 => refine (Kd.R_reads' (e := 3) (base := w.heap.size) (ok := fun k_ => (((((True ∧ some k_ ≠ (.slice Ao24 t201.length co24 : Value).ownBlock) ∧ some k_ ≠ (.slice Ao25 t204.length co25 : Value).ownBlock) ∧ some k_ ≠ (.slice Ao37 t216.length co37 : Value).ownBlock) ∧ some k_ ≠ (.slice Ao40 t220.length co40 : Value).ownBlock) ∧ some k_ ≠ (.slice Ao47 t225.length co47 : Value).ownBlock)) (n := t209.length) (c := co30) ?_).2.2; exact (by (with_reducible repeat (first | apply Kd.R_alloc | apply Kd.R_drewN | apply Kd.R_drew)); exact (Kd.R_mono (Kd.R_far (p := ⟨gb229, 2, none⟩) (Kd.R_far (p := ⟨gb229, 1, none⟩) (Kd.R_far (p := ⟨gb229, 0, none⟩) (Kd.R_types HO211.out BK229.out (by decide)) (fun _ hk => hk.2) (.int .i64 t223)) (fun _ hk => hk.2) (.int .i64 t224)) (fun _ hk => hk.2) (.slice Ao47 t225.length co47)) (fun _ h_ => h_.1)))); (case side4 => exact (Kd.R_reads' HO211.out).2.1); rintro e w65 ⟨rfl, hb⟩; refine ⟨_, rfl, ?_⟩; have n0_ := Aside0.mk (Kd.R_below (by (with_reducible repeat (first | apply Kd.R_alloc | apply Kd.R_drewN | apply Kd.R_drew)); exact (Kd.R_mono (Kd.R_far (p := ⟨gb229, 2, none⟩) (Kd.R_far (p := ⟨gb229, 1, none⟩) (Kd.R_far (p := ⟨gb229, 0, none⟩) (Kd.R_types HO203.out BK229.out (by decide)) (fun _ hk => hk.2) (.int .i64 t223)) (fun _ hk => hk.2) (.int .i64 t224)) (fun _ hk => hk.2) (.slice Ao47 t225.length co47)) (fun _ h_ => h_.1))) hb); have n1_ := Aside0.mk (Kd.R_below (by (with_reducible repeat (first | apply Kd.R_alloc | apply Kd.R_drewN | apply Kd.R_drew)); exact (Kd.R_mono (Kd.R_far (p := ⟨gb229, 2, none⟩) (Kd.R_far (p := ⟨gb229, 1, none⟩) (Kd.R_far (p := ⟨gb229, 0, none⟩) (Kd.R_types HO206.out BK229.out (by decide)) (fun _ hk => hk.2) (.int .i64 t223)) (fun _ hk => hk.2) (.int .i64 t224)) (fun _ hk => hk.2) (.slice Ao47 t225.length co47)) (fun _ h_ => h_.1))) hb); have n2_ := Aside0.mk (Kd.R_below (by (with_reducible repeat (first | apply Kd.R_alloc | apply Kd.R_drewN | apply Kd.R_drew)); exact (Kd.R_mono (Kd.R_far (p := ⟨gb229, 2, none⟩) (Kd.R_far (p := ⟨gb229, 1, none⟩) (Kd.R_far (p := ⟨gb229, 0, none⟩) (Kd.R_types HO211.out BK229.out (by decide)) (fun _ hk => hk.2) (.int .i64 t223)) (fun _ hk => hk.2) (.int .i64 t224)) (fun _ hk => hk.2) (.slice Ao47 t225.length co47)) (fun _ h_ => h_.1))) hb); have n3_ := Aside0.mk (Kd.R_below (by (with_reducible repeat (first | apply Kd.R_alloc | apply Kd.R_drewN | apply Kd.R_drew)); exact (Kd.R_mono (Kd.R_far (p := ⟨gb229, 2, none⟩) (Kd.R_far (p := ⟨gb229, 1, none⟩) (Kd.R_far (p := ⟨gb229, 0, none⟩) (Kd.R_types HO218.out BK229.out (by decide)) (fun _ hk => hk.2) (.int .i64 t223)) (fun _ hk => hk.2) (.int .i64 t224)) (fun _ hk => hk.2) (.slice Ao47 t225.length co47)) (fun _ h_ => h_.1))) hb); have n4_ := Aside0.mk (Kd.R_below (by (with_reducible repeat (first | apply Kd.R_alloc | apply Kd.R_drewN | apply Kd.R_drew)); exact (Kd.R_mono (Kd.R_far (p := ⟨gb229, 2, none⟩) (Kd.R_far (p := ⟨gb229, 1, none⟩) (Kd.R_far (p := ⟨gb229, 0, none⟩) (Kd.R_types HO222.out BK229.out (by decide)) (fun _ hk => hk.2) (.int .i64 t223)) (fun _ hk => hk.2) (.int .i64 t224)) (fun _ hk => hk.2) (.slice Ao47 t225.length co47)) (fun _ h_ => h_.1))) hb); have n5_ := Aside0.mk (Kd.R_below (by (with_reducible repeat (first | apply Kd.R_alloc | apply Kd.R_drewN | apply Kd.R_drew)); exact (Kd.R_mono (Kd.R_far (p := ⟨gb229, 2, none⟩) (Kd.R_far (p := ⟨gb229, 1, none⟩) (Kd.R_far (p := ⟨gb229, 0, none⟩) (Kd.R_types HO227.out BK229.out (by decide)) (fun _ hk => hk.2) (.int .i64 t223)) (fun _ hk => hk.2) (.int .i64 t224)) (fun _ hk => hk.2) (.slice Ao47 t225.length co47)) (fun _ h_ => h_.1))) hb); have n6_ := Aside0.mk (blk_below (g := gb197) (o := .cells #[.int .i64 a0_0, .int .i64 a0_1, .slice A0_2 l0_2.length c0_2] 24 (0, 0)) (by (with_reducible repeat (first | refine blk_drewN ?_ _ | refine blk_drew ?_ | refine blk_alloc ?_ _)); refine blk_far ?_ NB197_229.out _; (with_reducible repeat (first | refine blk_drewN ?_ _ | refine blk_drew ?_ | refine blk_alloc ?_ _)); refine blk_far ?_ NB197_229.out _; (with_reducible repeat (first | refine blk_drewN ?_ _ | refine blk_drew ?_ | refine blk_alloc ?_ _)); refine blk_far ?_ NB197_229.out _; (with_reducible repeat (first | refine blk_drewN ?_ _ | refine blk_drew ?_ | refine blk_alloc ?_ _)); exact BK197.out) hb); have n7_ := Aside0.mk (blk_below (g := gb213) (o := .cells #[.int .i64 t207, .int .i64 t208, .slice Ao30 t209.length co30] 26 (0, 0)) (by (with_reducible repeat (first | refine blk_drewN ?_ _ | refine blk_drew ?_ | refine blk_alloc ?_ _)); refine blk_far ?_ NB213_229.out _; (with_reducible repeat (first | refine blk_drewN ?_ _ | refine blk_drew ?_ | refine blk_alloc ?_ _)); refine blk_far ?_ NB213_229.out _; (with_reducible repeat (first | refine blk_drewN ?_ _ | refine blk_drew ?_ | refine blk_alloc ?_ _)); refine blk_far ?_ NB213_229.out _; (with_reducible repeat (first | refine blk_drewN ?_ _ | refine blk_drew ?_ | refine blk_alloc ?_ _)); exact BK213.out) hb); have n8_ := Aside0.mk (blk_below (g := gb219) (o := .cells #[.int .i64 t214, .int .i64 t215, .slice Ao37 t216.length co37] 26 (0, 0)) (by (with_reducible repeat (first | refine blk_drewN ?_ _ | refine blk_drew ?_ | refine blk_alloc ?_ _)); refine blk_far ?_ NB219_229.out _; (with_reducible repeat (first | refine blk_drewN ?_ _ | refine blk_drew ?_ | refine blk_alloc ?_ _)); refine blk_far ?_ NB219_229.out _; (with_reducible repeat (first | refine blk_drewN ?_ _ | refine blk_drew ?_ | refine blk_alloc ?_ _)); refine blk_far ?_ NB219_229.out _; (with_reducible repeat (first | refine blk_drewN ?_ _ | refine blk_drew ?_ | refine blk_alloc ?_ _)); exact BK219.out) hb); have n9_ := Aside0.mk (blk_below (g := gb229) (o := .cells #[.int .i64 t223, .int .i64 t224, .slice Ao47 t225.length co47] 26 (0, 0)) (by (with_reducible repeat (first | refine blk_drewN ?_ _ | refine blk_drew ?_ | refine blk_alloc ?_ _)); refine blk_put (cs := #[.int .i64 t223, .int .i64 t224, .slice none 0 0]) ?_ 2 _ rfl; (with_reducible repeat (first | refine blk_drewN ?_ _ | refine blk_drew ?_ | refine blk_alloc ?_ _)); refine blk_put (cs := #[.int .i64 t223, .int .i64 0, .slice none 0 0]) ?_ 1 _ rfl; (with_reducible repeat (first | refine blk_drewN ?_ _ | refine blk_drew ?_ | refine blk_alloc ?_ _)); refine blk_put (cs := #[.int .i64 0, .int .i64 0, .slice none 0 0]) ?_ 0 _ rfl; (with_reducible repeat (first | refine blk_drewN ?_ _ | refine blk_drew ?_ | refine blk_alloc ?_ _)); exact BK229.out) hb); have n10_ := Aside0.mk (below_step (by repeat (first | (with_reducible first | exact HB.out | apply below_alloc | apply pw_below_drewN | apply below_drew1 | refine below_set ?_ GE197.out | refine below_set ?_ GE213.out | refine below_set ?_ GE219.out | refine below_set ?_ GE229.out) | exact HB.out)) hb); clear HO203; clear HO206; clear HO211; clear HO218; clear HO222; clear HO227; clear BK197; clear BK213; clear BK219; clear BK229; clear HB; have HO203 := n0_; have HO206 := n1_; have HO211 := n2_; have HO218 := n3_; have HO222 := n4_; have HO227 := n5_; have BK197 := n6_; have BK213 := n7_; have BK219 := n8_; have BK229 := n9_; have HB := n10_; clear n0_ n1_ n2_ n3_ n4_ n5_ n6_ n7_ n8_ n9_ n10_; (try clear hb); (try clear hb2); (try clear hk); (try clear hi)))
     go_meet
     case rel => exact ⟨_, (true), (by first | rfl | (simp; done) | (simp [*]; done) | (simp [wrap64]; done)), H', ⟨by first | omega | exact Nat.le_refl _⟩, ⟨by (with_reducible repeat (first | apply Kd.R_alloc | apply Kd.R_drewN | apply Kd.R_drew)); exact Kd.R_mono HO222.out (fun _ hk => ⟨hk.1.1.2, ⟨hk.1.2, hk.2⟩⟩)⟩, ⟨by (with_reducible repeat (first | apply Kd.R_alloc | apply Kd.R_drewN | apply Kd.R_drew)); exact Kd.R_mono HO211.out (fun _ hk => ⟨hk.1.2, ⟨hk.1.1.2, hk.2⟩⟩)⟩, ⟨by (with_reducible repeat (first | apply Kd.R_alloc | apply Kd.R_drewN | apply Kd.R_drew)); exact Kd.R_mono HO218.out (fun _ hk => ⟨hk.1.2, ⟨hk.1.1.2, hk.2⟩⟩)⟩, ⟨by (with_reducible repeat (first | apply Kd.R_alloc | apply Kd.R_drewN | apply Kd.R_drew)); exact Kd.R_mono HO227.out (fun _ hk => ⟨hk.2, ⟨hk.1.1.2, hk.1.2⟩⟩)⟩, ⟨by (with_reducible repeat (first | refine blk_drewN ?_ _ | refine blk_drew ?_ | refine blk_alloc ?_ _)); exact BK197.out⟩, ⟨by (with_reducible repeat (first | refine blk_drewN ?_ _ | refine blk_drew ?_ | refine blk_alloc ?_ _)); exact BK213.out⟩, ⟨by (with_reducible repeat (first | refine blk_drewN ?_ _ | refine blk_drew ?_ | refine blk_alloc ?_ _)); exact BK219.out⟩, ⟨by (with_reducible repeat (first | refine blk_drewN ?_ _ | refine blk_drew ?_ | refine blk_alloc ?_ _)); exact BK229.out⟩, ⟨by repeat (first | (with_reducible first | exact HB.out | apply below_alloc | apply pw_below_drewN | apply below_drew1 | refine below_set ?_ GE197.out | refine below_set ?_ GE213.out | refine below_set ?_ GE219.out | refine below_set ?_ GE229.out) | exact HB.out)⟩⟩
   case rest =>
    clear HC17
    try clear c1
    try clear c2
    try clear p2
    try clear c3
    try clear c4
    try clear c4b0
    try clear c4b1
    try clear c5
    try clear c6
    try clear c7
    try clear c7b0
    try clear c15
    try clear c16
    try clear c17
    try clear c18
    try clear c19
    try clear c20
    try clear c28
    try clear c34
    try clear c35
    try clear c43
    try clear c44
    try clear c45
    try clear c49
    try clear c50
    try clear c51
    try clear c52
    try clear c54
    try clear c55
    try clear c58
    try clear c59
    try clear c60
    try clear c62
    try clear c63
    try clear hcz19_0
    try clear hcz19_1
    try clear hcz19_2
    try clear hcz21_0
    try clear hcz21_1
    try clear hcz21_2
    try clear hcz29_0
    try clear hcz29_1
    try clear hcz29_2
    try clear hcz31_0
    try clear hcz31_1
    try clear hcz31_2
    try clear hcz36_0
    try clear hcz36_1
    try clear hcz36_2
    try clear hcz39_0
    try clear hcz39_1
    try clear hcz39_2
    try clear hcz46_0
    try clear hcz46_1
    try clear hcz46_2
    try clear hcz53_0
    try clear hcz53_1
    try clear hcz53_2
    try clear hcz56_0
    try clear hcz56_1
    try clear hcz56_2
    try clear hcz61_0
    try clear hcz61_1
    try clear hcz61_2
    try clear hcz64_0
    try clear hcz64_1
    try clear hcz64_2
    try clear hcz9_0
    try clear hcz9_1
    try clear hcz9_2
    try clear hfz19_0
    try clear hfz19_1
    try clear hfz19_2
    try clear hfz21_0
    try clear hfz21_1
    try clear hfz21_2
    try clear hfz29_0
    try clear hfz29_1
    try clear hfz29_2
    try clear hfz31_0
    try clear hfz31_1
    try clear hfz31_2
    try clear hfz36_0
    try clear hfz36_1
    try clear hfz36_2
    try clear hfz39_0
    try clear hfz39_1
    try clear hfz39_2
    try clear hfz46_0
    try clear hfz46_1
    try clear hfz46_2
    try clear hfz53_0
    try clear hfz53_1
    try clear hfz53_2
    try clear hfz56_0
    try clear hfz56_1
    try clear hfz56_2
    try clear hfz61_0
    try clear hfz61_1
    try clear hfz61_2
    try clear hfz64_0
    try clear hfz64_1
    try clear hfz64_2
    try clear hfz9_0
    try clear hfz9_1
    try clear hfz9_2
    obtain ⟨kq, x55_16, rfl, HA, HJ16, HO_11, HO_214002, HO_220002, HO_230002, BK197, BK213, BK219, BK229, HB⟩ := hcut
    cases kq with
    | zero => exact absurd HA.out (by simp [laws_FnExactAutoTile.j0])
    | succ kj16 =>
     have H := HA.out
     clear HA
     simp only [laws_FnExactAutoTile.j0] at H
     by_cases c66 : x55_16 = true
     ·subst c66
      have H1 : (some false) = some r := by rw [if_pos rfl] at H; exact H
      clear H
      have H := H1
      clear H1
      obtain rfl := Option.some.inj H
      go_wp2
      go_ret
      exact ⟨by first | rfl | (simp [errW_none, errW_some] <;> rfl) | (simp [*, errW_none, errW_some] <;> rfl), by repeat (first | (with_reducible first | exact HB.out | apply below_alloc | apply pw_below_drewN | apply below_drew1 | refine below_set ?_ GE197.out | refine below_set ?_ GE213.out | refine below_set ?_ GE219.out | refine below_set ?_ GE229.out) | exact HB.out)⟩
     ·replace c66 := Bool.eq_false_iff.mpr c66
      subst c66
      have H1 : ((laws_toField.f kj16 a0_0 a0_1 l0_2).bind fun bt231 => ((laws_eqField.f kj16 t214 t215 t216 bt231.1 bt231.2.1 bt231.2.2).bind fun t236 => (if t236 = true then ((laws_toIntS.f kj16 l2).bind fun t237 => ((laws_eqIntS.f kj16 t220 t237).bind fun t240 => (if t240 = true then ((laws_markField.f kj16 t214 t215 t216 1).bind fun bt241 => ((laws_markIntS.f kj16 t220 bt241.1).bind fun bt243 => (if bt243.1 < 0 then (laws_FnExactAutoTile.j1 kj16 a1 l2 t212 true a0_0 a0_1 l0_2 t207 t208 t209 t223 t224 t225) else ((laws_eqField.f kj16 t223 t224 t225 t207 t208 t209).bind fun t245 => (if t245 = true then (laws_FnExactAutoTile.j1 kj16 a1 l2 t212 (t228 != t212) a0_0 a0_1 l0_2 t207 t208 t209 t223 t224 t225) else (laws_FnExactAutoTile.j1 kj16 a1 l2 t212 true a0_0 a0_1 l0_2 t207 t208 t209 t223 t224 t225)))))) else (some false)))) else (some false)))) = some r := by rw [if_neg (show ¬ (false = true) by decide)] at H; exact H
      clear H
      have H := H1
      clear H1
      replace H := Option.bind_eq_some_iff.mp H
      obtain ⟨⟨t231, t232, t233⟩, A670, H⟩ := H
      replace H : ((laws_eqField.f kj16 t214 t215 t216 t231 t232 t233).bind fun t236 => (if t236 = true then ((laws_toIntS.f kj16 l2).bind fun t237 => ((laws_eqIntS.f kj16 t220 t237).bind fun t240 => (if t240 = true then ((laws_markField.f kj16 t214 t215 t216 1).bind fun bt241 => ((laws_markIntS.f kj16 t220 bt241.1).bind fun bt243 => (if bt243.1 < 0 then (laws_FnExactAutoTile.j1 kj16 a1 l2 t212 true a0_0 a0_1 l0_2 t207 t208 t209 t223 t224 t225) else ((laws_eqField.f kj16 t223 t224 t225 t207 t208 t209).bind fun t245 => (if t245 = true then (laws_FnExactAutoTile.j1 kj16 a1 l2 t212 (t228 != t212) a0_0 a0_1 l0_2 t207 t208 t209 t223 t224 t225) else (laws_FnExactAutoTile.j1 kj16 a1 l2 t212 true a0_0 a0_1 l0_2 t207 t208 t209 t223 t224 t225)))))) else (some false)))) else (some false))) = some r := H
      have A67 := Aside0.mk A670
      clear A670
      replace H := Option.bind_eq_some_iff.mp H
      obtain ⟨t236, A680, H⟩ := H
      replace H : (if t236 = true then ((laws_toIntS.f kj16 l2).bind fun t237 => ((laws_eqIntS.f kj16 t220 t237).bind fun t240 => (if t240 = true then ((laws_markField.f kj16 t214 t215 t216 1).bind fun bt241 => ((laws_markIntS.f kj16 t220 bt241.1).bind fun bt243 => (if bt243.1 < 0 then (laws_FnExactAutoTile.j1 kj16 a1 l2 t212 true a0_0 a0_1 l0_2 t207 t208 t209 t223 t224 t225) else ((laws_eqField.f kj16 t223 t224 t225 t207 t208 t209).bind fun t245 => (if t245 = true then (laws_FnExactAutoTile.j1 kj16 a1 l2 t212 (t228 != t212) a0_0 a0_1 l0_2 t207 t208 t209 t223 t224 t225) else (laws_FnExactAutoTile.j1 kj16 a1 l2 t212 true a0_0 a0_1 l0_2 t207 t208 t209 t223 t224 t225)))))) else (some false)))) else (some false)) = some r := H
      have A68 := Aside0.mk A680
      clear A680
      by_cases c69 : t236 = true
      ·subst c69
       have H1 : ((laws_toIntS.f kj16 l2).bind fun t237 => ((laws_eqIntS.f kj16 t220 t237).bind fun t240 => (if t240 = true then ((laws_markField.f kj16 t214 t215 t216 1).bind fun bt241 => ((laws_markIntS.f kj16 t220 bt241.1).bind fun bt243 => (if bt243.1 < 0 then (laws_FnExactAutoTile.j1 kj16 a1 l2 t212 true a0_0 a0_1 l0_2 t207 t208 t209 t223 t224 t225) else ((laws_eqField.f kj16 t223 t224 t225 t207 t208 t209).bind fun t245 => (if t245 = true then (laws_FnExactAutoTile.j1 kj16 a1 l2 t212 (t228 != t212) a0_0 a0_1 l0_2 t207 t208 t209 t223 t224 t225) else (laws_FnExactAutoTile.j1 kj16 a1 l2 t212 true a0_0 a0_1 l0_2 t207 t208 t209 t223 t224 t225)))))) else (some false)))) = some r := by rw [if_pos rfl] at H; exact H
       clear H
       have H := H1
       clear H1
       replace H := Option.bind_eq_some_iff.mp H
       obtain ⟨t237, A700, H⟩ := H
       replace H : ((laws_eqIntS.f kj16 t220 t237).bind fun t240 => (if t240 = true then ((laws_markField.f kj16 t214 t215 t216 1).bind fun bt241 => ((laws_markIntS.f kj16 t220 bt241.1).bind fun bt243 => (if bt243.1 < 0 then (laws_FnExactAutoTile.j1 kj16 a1 l2 t212 true a0_0 a0_1 l0_2 t207 t208 t209 t223 t224 t225) else ((laws_eqField.f kj16 t223 t224 t225 t207 t208 t209).bind fun t245 => (if t245 = true then (laws_FnExactAutoTile.j1 kj16 a1 l2 t212 (t228 != t212) a0_0 a0_1 l0_2 t207 t208 t209 t223 t224 t225) else (laws_FnExactAutoTile.j1 kj16 a1 l2 t212 true a0_0 a0_1 l0_2 t207 t208 t209 t223 t224 t225)))))) else (some false))) = some r := H
       have A70 := Aside0.mk A700
       clear A700
       replace H := Option.bind_eq_some_iff.mp H
       obtain ⟨t240, A710, H⟩ := H
       replace H : (if t240 = true then ((laws_markField.f kj16 t214 t215 t216 1).bind fun bt241 => ((laws_markIntS.f kj16 t220 bt241.1).bind fun bt243 => (if bt243.1 < 0 then (laws_FnExactAutoTile.j1 kj16 a1 l2 t212 true a0_0 a0_1 l0_2 t207 t208 t209 t223 t224 t225) else ((laws_eqField.f kj16 t223 t224 t225 t207 t208 t209).bind fun t245 => (if t245 = true then (laws_FnExactAutoTile.j1 kj16 a1 l2 t212 (t228 != t212) a0_0 a0_1 l0_2 t207 t208 t209 t223 t224 t225) else (laws_FnExactAutoTile.j1 kj16 a1 l2 t212 true a0_0 a0_1 l0_2 t207 t208 t209 t223 t224 t225)))))) else (some false)) = some r := H
       have A71 := Aside0.mk A710
       clear A710
       by_cases c72 : t240 = true
       ·subst c72
        have H1 : ((laws_markField.f kj16 t214 t215 t216 1).bind fun bt241 => ((laws_markIntS.f kj16 t220 bt241.1).bind fun bt243 => (if bt243.1 < 0 then (laws_FnExactAutoTile.j1 kj16 a1 l2 t212 true a0_0 a0_1 l0_2 t207 t208 t209 t223 t224 t225) else ((laws_eqField.f kj16 t223 t224 t225 t207 t208 t209).bind fun t245 => (if t245 = true then (laws_FnExactAutoTile.j1 kj16 a1 l2 t212 (t228 != t212) a0_0 a0_1 l0_2 t207 t208 t209 t223 t224 t225) else (laws_FnExactAutoTile.j1 kj16 a1 l2 t212 true a0_0 a0_1 l0_2 t207 t208 t209 t223 t224 t225)))))) = some r := by rw [if_pos rfl] at H; exact H
        clear H
        have H := H1
        clear H1
        replace H := Option.bind_eq_some_iff.mp H
        obtain ⟨⟨t241, t242⟩, A730, H⟩ := H
        replace H : ((laws_markIntS.f kj16 t220 t241).bind fun bt243 => (if bt243.1 < 0 then (laws_FnExactAutoTile.j1 kj16 a1 l2 t212 true a0_0 a0_1 l0_2 t207 t208 t209 t223 t224 t225) else ((laws_eqField.f kj16 t223 t224 t225 t207 t208 t209).bind fun t245 => (if t245 = true then (laws_FnExactAutoTile.j1 kj16 a1 l2 t212 (t228 != t212) a0_0 a0_1 l0_2 t207 t208 t209 t223 t224 t225) else (laws_FnExactAutoTile.j1 kj16 a1 l2 t212 true a0_0 a0_1 l0_2 t207 t208 t209 t223 t224 t225))))) = some r := H
        have A73 := Aside0.mk A730
        clear A730
        replace H := Option.bind_eq_some_iff.mp H
        obtain ⟨⟨t243, t244⟩, A740, H⟩ := H
        replace H : (if t243 < 0 then (laws_FnExactAutoTile.j1 kj16 a1 l2 t212 true a0_0 a0_1 l0_2 t207 t208 t209 t223 t224 t225) else ((laws_eqField.f kj16 t223 t224 t225 t207 t208 t209).bind fun t245 => (if t245 = true then (laws_FnExactAutoTile.j1 kj16 a1 l2 t212 (t228 != t212) a0_0 a0_1 l0_2 t207 t208 t209 t223 t224 t225) else (laws_FnExactAutoTile.j1 kj16 a1 l2 t212 true a0_0 a0_1 l0_2 t207 t208 t209 t223 t224 t225)))) = some r := H
        have A74 := Aside0.mk A740
        clear A740
        have HC75 := Aside0.mk H
        clear H
        try go_wp2
        have n0_ := Aside0.mk (Kd.R_drew HO_11.out)
        have n1_ := Aside0.mk (Kd.R_drew HO_214002.out)
        have n2_ := Aside0.mk (Kd.R_drew HO_220002.out)
        have n3_ := Aside0.mk (Kd.R_drew HO_230002.out)
        have n4_ := Aside0.mk (blk_drew BK197.out)
        have n5_ := Aside0.mk (blk_drew BK213.out)
        have n6_ := Aside0.mk (blk_drew BK219.out)
        have n7_ := Aside0.mk (blk_drew BK229.out)
        have n8_ := Aside0.mk (below_drew1 HB.out)
        clear HO_11
        clear HO_214002
        clear HO_220002
        clear HO_230002
        clear BK197
        clear BK213
        clear BK219
        clear BK229
        clear HB
        have HO_11 := n0_
        have HO_214002 := n1_
        have HO_220002 := n2_
        have HO_230002 := n3_
        have BK197 := n4_
        have BK213 := n5_
        have BK219 := n6_
        have BK229 := n7_
        have HB := n8_
        clear n0_ n1_ n2_ n3_ n4_ n5_ n6_ n7_ n8_
        refine start_ (n := 5) (S := fun w' => w'.cell? ⟨gb219, 0, none⟩ = some (.int .i64 t214) ∧ w'.cell? ⟨gb219, 1, none⟩ = some (.int .i64 t215) ∧ w'.cell? ⟨gb219, 2, none⟩ = some (.slice Ao37 t216.length co37) ∧ w'.cell? ⟨gb197, 0, none⟩ = some (.int .i64 a0_0) ∧ w'.cell? ⟨gb197, 1, none⟩ = some (.int .i64 a0_1) ∧ w'.cell? ⟨gb197, 2, none⟩ = some (.slice A0_2 l0_2.length c0_2)) (ds := []) #[false, false, false, false, false] (by kernel_rfl) rfl rfl ⟨(blk_cell BK219.out 0).trans rfl, (blk_cell BK219.out 1).trans rfl, (blk_cell BK219.out 2).trans rfl, (blk_cell BK197.out 0).trans rfl, (blk_cell BK197.out 1).trans rfl, (blk_cell BK197.out 2).trans rfl⟩ (fun hHeld => ?_)
        generalize wc.drew = w76 at HO_11 HO_214002 HO_220002 HO_230002 BK197 BK213 BK219 BK229 HB hHeld ⊢
        refine take_ (i := 0) (N := some 56) (v := ?_) (a' := ?_) #[true, false, false, false, false] rfl rfl (by kernel_rfl) (fun _ _ _ h => h) (Or.inl ⟨by rfl, ?_⟩) hHeld ?_ ?_
        rotate_left
        ·rintro w' ⟨s0, s1, s2, s3, s4, s5⟩
         go_simp
         with_reducible rfl
        rotate_left
        ·simp only [Act.put, List.setIfInBounds_toArray, List.set_cons_zero, List.set_cons_succ, i64_w, i32_w]
         rfl
        refine take_ (i := 1) (N := some 57) (v := ?_) (a' := ?_) #[true, true, false, false, false] rfl rfl (by kernel_rfl) (fun _ _ _ h => h) (Or.inl ⟨by rfl, ?_⟩) hHeld ?_ ?_
        rotate_left
        ·rintro w' ⟨s0, s1, s2, s3, s4, s5⟩
         go_simp
         with_reducible rfl
        rotate_left
        ·simp only [Act.put, List.setIfInBounds_toArray, List.set_cons_zero, List.set_cons_succ, i64_w, i32_w]
         rfl
        refine one_ (i := 2) (N := some 58) #[true, true, true, false, false] rfl rfl (by kernel_rfl) (by decide) (fun K hK => ?_)
        refine goes_ Try.func17 (by kernel_rfl) rfl #[.agg #[.int .i64 a0_0, .int .i64 a0_1, .slice A0_2 l0_2.length c0_2]] (by rfl) rfl rfl (by (try simp only [List.map_toArray, List.map_cons, List.map_nil]); first | done | rfl | (simp only [List.length_drop, List.length_take]; rfl)) ?_
        with_reducible refine (laws_toField.calls kj16 a0_0 a0_1 _ _ l0_2 t231 t232 t233 _ ?side1 ?side2 A67.out).mono ?_
        (case side1 => repeat (first | exact (Kd.C_below HR0_2.out HB.out) | (with_reducible refine Kd.C_alloc ?_ _) | (with_reducible refine Kd.C_drewN ?_ _) | (with_reducible refine Kd.C_drew ?_)))
        (case side2 => exact HC0_2.out)
        rintro e w77 ⟨v234, rfl, ho0, hb⟩
        refine ⟨_, rfl, ?_⟩
        have n0_ := Aside0.mk (Kd.R_elder' (by (with_reducible repeat (first | apply Kd.R_alloc | apply Kd.R_drewN | apply Kd.R_drew)); exact HO_11.out) (Kd.R_base ho0) hb)
        have n1_ := Aside0.mk (Kd.R_elder' (by (with_reducible repeat (first | apply Kd.R_alloc | apply Kd.R_drewN | apply Kd.R_drew)); exact HO_214002.out) (Kd.R_base ho0) hb)
        have n2_ := Aside0.mk (Kd.R_elder' (by (with_reducible repeat (first | apply Kd.R_alloc | apply Kd.R_drewN | apply Kd.R_drew)); exact HO_220002.out) (Kd.R_base ho0) hb)
        have n3_ := Aside0.mk (Kd.R_elder' (by (with_reducible repeat (first | apply Kd.R_alloc | apply Kd.R_drewN | apply Kd.R_drew)); exact HO_230002.out) (Kd.R_base ho0) hb)
        have n4_ := Aside0.mk (Kd.R_lower (Kd.R_new' (Kd.R_new' (Kd.R_new' (Kd.R_new' ho0 (Kd.R_lt (by (with_reducible repeat (first | apply Kd.R_alloc | apply Kd.R_drewN | apply Kd.R_drew)); exact HO_11.out))) (Kd.R_lt (by (with_reducible repeat (first | apply Kd.R_alloc | apply Kd.R_drewN | apply Kd.R_drew)); exact HO_214002.out))) (Kd.R_lt (by (with_reducible repeat (first | apply Kd.R_alloc | apply Kd.R_drewN | apply Kd.R_drew)); exact HO_220002.out))) (Kd.R_lt (by (with_reducible repeat (first | apply Kd.R_alloc | apply Kd.R_drewN | apply Kd.R_drew)); exact HO_230002.out))) (below_size (by repeat (first | (with_reducible first | exact HB.out | apply below_alloc | apply pw_below_drewN | apply below_drew1 | refine below_set ?_ GE197.out | refine below_set ?_ GE213.out | refine below_set ?_ GE219.out | refine below_set ?_ GE229.out) | exact HB.out))))
        have n5_ := Aside0.mk (blk_below (g := gb197) (o := .cells #[.int .i64 a0_0, .int .i64 a0_1, .slice A0_2 l0_2.length c0_2] 24 (0, 0)) (by (with_reducible repeat (first | refine blk_drewN ?_ _ | refine blk_drew ?_ | refine blk_alloc ?_ _)); exact BK197.out) hb)
        have n6_ := Aside0.mk (blk_below (g := gb213) (o := .cells #[.int .i64 t207, .int .i64 t208, .slice Ao30 t209.length co30] 26 (0, 0)) (by (with_reducible repeat (first | refine blk_drewN ?_ _ | refine blk_drew ?_ | refine blk_alloc ?_ _)); exact BK213.out) hb)
        have n7_ := Aside0.mk (blk_below (g := gb219) (o := .cells #[.int .i64 t214, .int .i64 t215, .slice Ao37 t216.length co37] 26 (0, 0)) (by (with_reducible repeat (first | refine blk_drewN ?_ _ | refine blk_drew ?_ | refine blk_alloc ?_ _)); exact BK219.out) hb)
        have n8_ := Aside0.mk (blk_below (g := gb229) (o := .cells #[.int .i64 t223, .int .i64 t224, .slice Ao47 t225.length co47] 26 (0, 0)) (by (with_reducible repeat (first | refine blk_drewN ?_ _ | refine blk_drew ?_ | refine blk_alloc ?_ _)); exact BK229.out) hb)
        have n9_ := Aside0.mk (below_step (by repeat (first | (with_reducible first | exact HB.out | apply below_alloc | apply pw_below_drewN | apply below_drew1 | refine below_set ?_ GE197.out | refine below_set ?_ GE213.out | refine below_set ?_ GE219.out | refine below_set ?_ GE229.out) | exact HB.out)) hb)
        clear HO_11
        clear HO_214002
        clear HO_220002
        clear HO_230002
        clear BK197
        clear BK213
        clear BK219
        clear BK229
        clear HB
        have HO_11 := n0_
        have HO_214002 := n1_
        have HO_220002 := n2_
        have HO_230002 := n3_
        have HO235 := n4_
        have BK197 := n5_
        have BK213 := n6_
        have BK219 := n7_
        have BK229 := n8_
        have HB := n9_
        clear n0_ n1_ n2_ n3_ n4_ n5_ n6_ n7_ n8_ n9_
        (try clear hb)
        (try clear hb2)
        (try clear hk)
        (try clear hi)
        (try clear ho0)
        obtain ⟨Ao78, co78, eo78⟩ := Kd.R_slice HO235.out
        (first | subst eo78 | (injection eo78 with f1_ f2_ f3_; have f4_ := f1_.symm; have f5_ := f3_.symm; clear f1_ f2_ f3_; subst f4_; subst f5_))
        refine hK.out _ _ ⟨(blk_cell BK219.out 0).trans rfl, (blk_cell BK219.out 1).trans rfl, (blk_cell BK219.out 2).trans rfl, (blk_cell BK197.out 0).trans rfl, (blk_cell BK197.out 1).trans rfl, (blk_cell BK197.out 2).trans rfl⟩ (fun hHeld => ?_)
        clear hK K
        refine norm_ (a' := ?_) ?_ ?_
        rotate_left
        ·show Act.put _ (some 58) _ = _
         simp only [Act.put, List.setIfInBounds_toArray, List.set_cons_zero, List.set_cons_succ, i64_w, i32_w]
         rfl
        refine one_ (i := 3) (N := some 59) #[true, true, true, true, false] rfl rfl (by kernel_rfl) (by decide) (fun K hK => ?_)
        refine goes_ Try.func20 (by kernel_rfl) rfl #[.agg #[.int .i64 t214, .int .i64 t215, .slice Ao37 t216.length co37], .agg #[.int .i64 t231, .int .i64 t232, .slice Ao78 t233.length co78]] (by rfl) rfl rfl (by (try simp only [List.map_toArray, List.map_cons, List.map_nil]); first | done | rfl | (simp only [List.length_drop, List.length_take]; rfl)) ?_
        with_reducible refine (laws_eqField.calls kj16 t214 t215 _ _ t216 t231 t232 _ _ t233 true _ ?side1 ?side2 ?side3 ?side4 A68.out).mono ?_
        (case side1 => repeat (first | exact (Kd.R_reads' HO_220002.out).2.2 | (with_reducible refine Kd.C_alloc ?_ _) | (with_reducible refine Kd.C_drewN ?_ _) | (with_reducible refine Kd.C_drew ?_)))
        (case side2 => exact (Kd.R_reads' HO_220002.out).2.1)
        (case side3 => repeat (first | exact (Kd.R_reads' HO235.out).2.2 | (with_reducible refine Kd.C_alloc ?_ _) | (with_reducible refine Kd.C_drewN ?_ _) | (with_reducible refine Kd.C_drew ?_)))
        (case side4 => exact (Kd.R_reads' HO235.out).2.1)
        rintro e w79 ⟨rfl, hb⟩
        refine ⟨_, rfl, ?_⟩
        have n0_ := Aside0.mk (Kd.R_below (by (with_reducible repeat (first | apply Kd.R_alloc | apply Kd.R_drewN | apply Kd.R_drew)); exact HO_11.out) hb)
        have n1_ := Aside0.mk (Kd.R_below (by (with_reducible repeat (first | apply Kd.R_alloc | apply Kd.R_drewN | apply Kd.R_drew)); exact HO_214002.out) hb)
        have n2_ := Aside0.mk (Kd.R_below (by (with_reducible repeat (first | apply Kd.R_alloc | apply Kd.R_drewN | apply Kd.R_drew)); exact HO_220002.out) hb)
        have n3_ := Aside0.mk (Kd.R_below (by (with_reducible repeat (first | apply Kd.R_alloc | apply Kd.R_drewN | apply Kd.R_drew)); exact HO_230002.out) hb)
        have n4_ := Aside0.mk (Kd.R_below (by (with_reducible repeat (first | apply Kd.R_alloc | apply Kd.R_drewN | apply Kd.R_drew)); exact HO235.out) hb)
        have n5_ := Aside0.mk (blk_below (g := gb197) (o := .cells #[.int .i64 a0_0, .int .i64 a0_1, .slice A0_2 l0_2.length c0_2] 24 (0, 0)) (by (with_reducible repeat (first | refine blk_drewN ?_ _ | refine blk_drew ?_ | refine blk_alloc ?_ _)); exact BK197.out) hb)
        have n6_ := Aside0.mk (blk_below (g := gb213) (o := .cells #[.int .i64 t207, .int .i64 t208, .slice Ao30 t209.length co30] 26 (0, 0)) (by (with_reducible repeat (first | refine blk_drewN ?_ _ | refine blk_drew ?_ | refine blk_alloc ?_ _)); exact BK213.out) hb)
        have n7_ := Aside0.mk (blk_below (g := gb219) (o := .cells #[.int .i64 t214, .int .i64 t215, .slice Ao37 t216.length co37] 26 (0, 0)) (by (with_reducible repeat (first | refine blk_drewN ?_ _ | refine blk_drew ?_ | refine blk_alloc ?_ _)); exact BK219.out) hb)
        have n8_ := Aside0.mk (blk_below (g := gb229) (o := .cells #[.int .i64 t223, .int .i64 t224, .slice Ao47 t225.length co47] 26 (0, 0)) (by (with_reducible repeat (first | refine blk_drewN ?_ _ | refine blk_drew ?_ | refine blk_alloc ?_ _)); exact BK229.out) hb)
        have n9_ := Aside0.mk (below_step (by repeat (first | (with_reducible first | exact HB.out | apply below_alloc | apply pw_below_drewN | apply below_drew1 | refine below_set ?_ GE197.out | refine below_set ?_ GE213.out | refine below_set ?_ GE219.out | refine below_set ?_ GE229.out) | exact HB.out)) hb)
        clear HO_11
        clear HO_214002
        clear HO_220002
        clear HO_230002
        clear HO235
        clear BK197
        clear BK213
        clear BK219
        clear BK229
        clear HB
        have HO_11 := n0_
        have HO_214002 := n1_
        have HO_220002 := n2_
        have HO_230002 := n3_
        have HO235 := n4_
        have BK197 := n5_
        have BK213 := n6_
        have BK219 := n7_
        have BK229 := n8_
        have HB := n9_
        clear n0_ n1_ n2_ n3_ n4_ n5_ n6_ n7_ n8_ n9_
        (try clear hb)
        (try clear hb2)
        (try clear hk)
        (try clear hi)
        refine hK.out _ _ ⟨(blk_cell BK219.out 0).trans rfl, (blk_cell BK219.out 1).trans rfl, (blk_cell BK219.out 2).trans rfl, (blk_cell BK197.out 0).trans rfl, (blk_cell BK197.out 1).trans rfl, (blk_cell BK197.out 2).trans rfl⟩ (fun hHeld => ?_)
        clear hK K
        refine norm_ (a' := ?_) ?_ ?_
        rotate_left
        ·show Act.put _ (some 59) _ = _
         simp only [Act.put, List.setIfInBounds_toArray, List.set_cons_zero, List.set_cons_succ, i64_w, i32_w]
         rfl
        refine pure_ (i := 4) (N := some 60) (v := ?_) (a' := ?_) #[true, true, true, true, true] rfl rfl (by kernel_rfl) (fun _ _ _ h => h) (Or.inl ⟨by rfl, ?_⟩) ?_ ?_
        rotate_left
        ·intro w'
         go_simp
         with_reducible rfl
        rotate_left
        ·simp only [Act.put, List.setIfInBounds_toArray, List.set_cons_zero, List.set_cons_succ, i64_w, i32_w]
         rfl
        refine done_ (by kernel_rfl) ?_
        go_upto_region 20 with (first | ((with_reducible refine gate_callee (f := 18) rfl ?_); refine goesL_ (some 63) rfl rfl Try.func18 (by kernel_rfl) rfl #[.slice A2 l2.length c2] rfl (by (try simp only [List.map_toArray, List.map_cons, List.map_nil]); first | done | rfl | (simp only [List.length_drop, List.length_take]; rfl)) ?_; (with_reducible refine (laws_toIntS.calls kj16 _ _ l2 t237 _ ?side1 ?side2 A70.out).mono ?_); (case side1 => repeat (first | exact (Kd.C_below HR2.out HB.out) | (with_reducible refine Kd.C_alloc ?_ _) | (with_reducible refine Kd.C_drewN ?_ _) | (with_reducible refine Kd.C_drew ?_))); (case side2 => exact HC2.out); rintro e w80 ⟨v238, rfl, ho0, hb⟩; refine ⟨_, rfl, ?_⟩; have n0_ := Aside0.mk (Kd.R_elder' (by (with_reducible repeat (first | apply Kd.R_alloc | apply Kd.R_drewN | apply Kd.R_drew)); exact HO_11.out) (Kd.R_base ho0) hb); have n1_ := Aside0.mk (Kd.R_elder' (by (with_reducible repeat (first | apply Kd.R_alloc | apply Kd.R_drewN | apply Kd.R_drew)); exact HO_214002.out) (Kd.R_base ho0) hb); have n2_ := Aside0.mk (Kd.R_elder' (by (with_reducible repeat (first | apply Kd.R_alloc | apply Kd.R_drewN | apply Kd.R_drew)); exact HO_220002.out) (Kd.R_base ho0) hb); have n3_ := Aside0.mk (Kd.R_elder' (by (with_reducible repeat (first | apply Kd.R_alloc | apply Kd.R_drewN | apply Kd.R_drew)); exact HO_230002.out) (Kd.R_base ho0) hb); have n4_ := Aside0.mk (Kd.R_elder' (by (with_reducible repeat (first | apply Kd.R_alloc | apply Kd.R_drewN | apply Kd.R_drew)); exact HO235.out) (Kd.R_base ho0) hb); have n5_ := Aside0.mk (Kd.R_lower (Kd.R_new' (Kd.R_new' (Kd.R_new' (Kd.R_new' (Kd.R_new' ho0 (Kd.R_lt (by (with_reducible repeat (first | apply Kd.R_alloc | apply Kd.R_drewN | apply Kd.R_drew)); exact HO_11.out))) (Kd.R_lt (by (with_reducible repeat (first | apply Kd.R_alloc | apply Kd.R_drewN | apply Kd.R_drew)); exact HO_214002.out))) (Kd.R_lt (by (with_reducible repeat (first | apply Kd.R_alloc | apply Kd.R_drewN | apply Kd.R_drew)); exact HO_220002.out))) (Kd.R_lt (by (with_reducible repeat (first | apply Kd.R_alloc | apply Kd.R_drewN | apply Kd.R_drew)); exact HO_230002.out))) (Kd.R_lt (by (with_reducible repeat (first | apply Kd.R_alloc | apply Kd.R_drewN | apply Kd.R_drew)); exact HO235.out))) (below_size (by repeat (first | (with_reducible first | exact HB.out | apply below_alloc | apply pw_below_drewN | apply below_drew1 | refine below_set ?_ GE197.out | refine below_set ?_ GE213.out | refine below_set ?_ GE219.out | refine below_set ?_ GE229.out) | exact HB.out)))); have n6_ := Aside0.mk (blk_below (g := gb197) (o := .cells #[.int .i64 a0_0, .int .i64 a0_1, .slice A0_2 l0_2.length c0_2] 24 (0, 0)) (by (with_reducible repeat (first | refine blk_drewN ?_ _ | refine blk_drew ?_ | refine blk_alloc ?_ _)); exact BK197.out) hb); have n7_ := Aside0.mk (blk_below (g := gb213) (o := .cells #[.int .i64 t207, .int .i64 t208, .slice Ao30 t209.length co30] 26 (0, 0)) (by (with_reducible repeat (first | refine blk_drewN ?_ _ | refine blk_drew ?_ | refine blk_alloc ?_ _)); exact BK213.out) hb); have n8_ := Aside0.mk (blk_below (g := gb219) (o := .cells #[.int .i64 t214, .int .i64 t215, .slice Ao37 t216.length co37] 26 (0, 0)) (by (with_reducible repeat (first | refine blk_drewN ?_ _ | refine blk_drew ?_ | refine blk_alloc ?_ _)); exact BK219.out) hb); have n9_ := Aside0.mk (blk_below (g := gb229) (o := .cells #[.int .i64 t223, .int .i64 t224, .slice Ao47 t225.length co47] 26 (0, 0)) (by (with_reducible repeat (first | refine blk_drewN ?_ _ | refine blk_drew ?_ | refine blk_alloc ?_ _)); exact BK229.out) hb); have n10_ := Aside0.mk (below_step (by repeat (first | (with_reducible first | exact HB.out | apply below_alloc | apply pw_below_drewN | apply below_drew1 | refine below_set ?_ GE197.out | refine below_set ?_ GE213.out | refine below_set ?_ GE219.out | refine below_set ?_ GE229.out) | exact HB.out)) hb); clear HO_11; clear HO_214002; clear HO_220002; clear HO_230002; clear HO235; clear BK197; clear BK213; clear BK219; clear BK229; clear HB; have HO_11 := n0_; have HO_214002 := n1_; have HO_220002 := n2_; have HO_230002 := n3_; have HO235 := n4_; have HO239 := n5_; have BK197 := n6_; have BK213 := n7_; have BK219 := n8_; have BK229 := n9_; have HB := n10_; clear n0_ n1_ n2_ n3_ n4_ n5_ n6_ n7_ n8_ n9_ n10_; (try clear hb); (try clear hb2); (try clear hk); (try clear hi); (try clear ho0); obtain ⟨Ao81, co81, eo81⟩ := Kd.R_slice HO239.out; subst eo81) | ((with_reducible refine gate_callee (f := 21) rfl ?_); refine goesL_ (some 64) rfl rfl Try.func21 (by kernel_rfl) rfl #[.slice Ao40 t220.length co40, .slice Ao81 t237.length co81] rfl (by (try simp only [List.map_toArray, List.map_cons, List.map_nil]); first | done | rfl | (simp only [List.length_drop, List.length_take]; rfl)) ?_; (with_reducible refine (laws_eqIntS.calls kj16 _ _ t220 _ _ t237 true _ ?side1 ?side2 ?side3 ?side4 A71.out).mono ?_); (case side1 => repeat (first | exact (Kd.R_reads' HO_11.out).2.2 | (with_reducible refine Kd.C_alloc ?_ _) | (with_reducible refine Kd.C_drewN ?_ _) | (with_reducible refine Kd.C_drew ?_))); (case side2 => exact (Kd.R_reads' HO_11.out).2.1); (case side3 => repeat (first | exact (Kd.R_reads' HO239.out).2.2 | (with_reducible refine Kd.C_alloc ?_ _) | (with_reducible refine Kd.C_drewN ?_ _) | (with_reducible refine Kd.C_drew ?_))); (case side4 => exact (Kd.R_reads' HO239.out).2.1); rintro e w' ⟨rfl, ⟨nd, rfl⟩⟩; refine ⟨_, rfl, ?_⟩; have hnb82 := NB219_197.out; have hnc82 := NB197_219.out; have hnb83 := NB219_213.out; have hnc83 := NB213_219.out; have hnb84 := NB219_229.out; have hnc84 := NB229_219.out; have hcz85_0 : w80.cell? ⟨gb219, 0, none⟩ = some (.int .i64 t214) := (blk_cell BK219.out 0).trans rfl; have hcz85_1 : w80.cell? ⟨gb219, 1, none⟩ = some (.int .i64 t215) := (blk_cell BK219.out 1).trans rfl; have hcz85_2 : w80.cell? ⟨gb219, 2, none⟩ = some (.slice Ao37 t216.length co37) := (blk_cell BK219.out 2).trans rfl; have hfz85_0 := blk_frozen BK219.out 0; have hfz85_1 := blk_frozen BK219.out 1; have hfz85_2 := blk_frozen BK219.out 2) | ((with_reducible refine gate_callee (f := 22) rfl ?_); refine goesL_ (some 68) rfl rfl Try.func22 (by kernel_rfl) rfl #[.agg #[.int .i64 t214, .int .i64 t215, .slice Ao37 t216.length co37], .int .i64 1] rfl (by (try simp only [List.map_toArray, List.map_cons, List.map_nil]); first | done | rfl | (simp only [List.length_drop, List.length_take]; rfl)) ?_; (with_reducible refine (laws_markField.calls kj16 t214 t215 (fun k_ => some k_ = (.slice Ao37 t216.length co37 : Value).ownBlock) (.slice Ao37 t216.length co37) t216 1 t241 t242 w _ ?side1 ?side2 A73.out).mono ?_); (case side1 => repeat (first | (with_reducible first | exact HB.out | apply below_alloc | apply pw_below_drewN | apply below_drew1 | refine below_set ?_ GE197.out | refine below_set ?_ GE213.out | refine below_set ?_ GE219.out | refine below_set ?_ GE229.out) | exact HB.out)); (case side2 => exact Kd.R_tight rfl HO_220002.out); rintro e w86 ⟨rfl, hy0, hb, hkp⟩; refine ⟨_, rfl, ?_⟩; have n0_ := Aside0.mk (Kd.R_mono (ok' := fun k_ => some k_ ≠ (.slice Ao30 t209.length co30 : Value).ownBlock ∧ some k_ ≠ (.slice Ao37 t216.length co37 : Value).ownBlock ∧ some k_ ≠ (.slice Ao47 t225.length co47 : Value).ownBlock ∧ some k_ ≠ (.slice Ao78 t233.length co78 : Value).ownBlock ∧ some k_ ≠ (.slice Ao81 t237.length co81 : Value).ownBlock) (Kd.R_keptB (HO_11.out) hkp (fun k_ hk_ hs_ => (hk_.1.1.2.1) hs_)) (fun k_ hk_ => ⟨hk_.1.1.1.1, hk_.1.1.1.2.1, hk_.1.1.1.2.2, hk_.1.1.2, hk_.1.2⟩)); have n1_ := Aside0.mk (Kd.R_mono (ok' := fun k_ => some k_ ≠ (.slice Ao40 t220.length co40 : Value).ownBlock ∧ some k_ ≠ (.slice Ao37 t216.length co37 : Value).ownBlock ∧ some k_ ≠ (.slice Ao47 t225.length co47 : Value).ownBlock ∧ some k_ ≠ (.slice Ao78 t233.length co78 : Value).ownBlock ∧ some k_ ≠ (.slice Ao81 t237.length co81 : Value).ownBlock) (Kd.R_keptB (HO_214002.out) hkp (fun k_ hk_ hs_ => (hk_.1.1.2.1) hs_)) (fun k_ hk_ => ⟨hk_.1.1.1.1, hk_.1.1.1.2.1, hk_.1.1.1.2.2, hk_.1.1.2, hk_.1.2⟩)); have n2_ := Aside0.mk (Kd.R_reok rfl hy0 (fun k_ e_ => HO_220002.out.1 k_ e_)); have n3_ := Aside0.mk (Kd.R_mono (ok' := fun k_ => some k_ ≠ (.slice Ao40 t220.length co40 : Value).ownBlock ∧ some k_ ≠ (.slice Ao30 t209.length co30 : Value).ownBlock ∧ some k_ ≠ (.slice Ao37 t216.length co37 : Value).ownBlock ∧ some k_ ≠ (.slice Ao78 t233.length co78 : Value).ownBlock ∧ some k_ ≠ (.slice Ao81 t237.length co81 : Value).ownBlock) (Kd.R_keptB (HO_230002.out) hkp (fun k_ hk_ hs_ => (hk_.1.1.2.2) hs_)) (fun k_ hk_ => ⟨hk_.1.1.1.1, hk_.1.1.1.2.1, hk_.1.1.1.2.2, hk_.1.1.2, hk_.1.2⟩)); (first | have n4_ := Aside0.mk (blk_kept BK197.out hkp (Kd.R_ne HO_220002.out BK197.out (by decide))) | have n4_ := Aside0.mk (blk_kept (blk_drewN BK197.out _) hkp (Kd.R_ne HO_220002.out BK197.out (by decide)))); (first | have n5_ := Aside0.mk (blk_kept BK213.out hkp (Kd.R_ne HO_220002.out BK213.out (by decide))) | have n5_ := Aside0.mk (blk_kept (blk_drewN BK213.out _) hkp (Kd.R_ne HO_220002.out BK213.out (by decide)))); (first | have n6_ := Aside0.mk (blk_kept BK219.out hkp (Kd.R_ne HO_220002.out BK219.out (by decide))) | have n6_ := Aside0.mk (blk_kept (blk_drewN BK219.out _) hkp (Kd.R_ne HO_220002.out BK219.out (by decide)))); (first | have n7_ := Aside0.mk (blk_kept BK229.out hkp (Kd.R_ne HO_220002.out BK229.out (by decide))) | have n7_ := Aside0.mk (blk_kept (blk_drewN BK229.out _) hkp (Kd.R_ne HO_220002.out BK229.out (by decide)))); have n8_ := Aside0.mk (Kd.R_mono (ok' := fun k_ => some k_ ≠ (.slice Ao40 t220.length co40 : Value).ownBlock ∧ some k_ ≠ (.slice Ao30 t209.length co30 : Value).ownBlock ∧ some k_ ≠ (.slice Ao37 t216.length co37 : Value).ownBlock ∧ some k_ ≠ (.slice Ao47 t225.length co47 : Value).ownBlock ∧ some k_ ≠ (.slice Ao81 t237.length co81 : Value).ownBlock) (Kd.R_keptB (HO235.out) hkp (fun k_ hk_ hs_ => (hk_.1.1.2) hs_)) (fun k_ hk_ => ⟨hk_.1.1.1.1.1.2, hk_.1.1.1.1.2, hk_.1.1.1.2, hk_.1.1.2, hk_.1.2⟩)); have n9_ := Aside0.mk (Kd.R_mono (ok' := fun k_ => some k_ ≠ (.slice Ao40 t220.length co40 : Value).ownBlock ∧ some k_ ≠ (.slice Ao30 t209.length co30 : Value).ownBlock ∧ some k_ ≠ (.slice Ao37 t216.length co37 : Value).ownBlock ∧ some k_ ≠ (.slice Ao47 t225.length co47 : Value).ownBlock ∧ some k_ ≠ (.slice Ao78 t233.length co78 : Value).ownBlock) (Kd.R_keptB (HO239.out) hkp (fun k_ hk_ hs_ => (hk_.1.1.2) hs_)) (fun k_ hk_ => ⟨hk_.1.1.1.1.1.2, hk_.1.1.1.1.2, hk_.1.1.1.2, hk_.1.1.2, hk_.1.2⟩)); have n10_ := Aside0.mk (hb); clear HO_11; clear HO_214002; clear HO_220002; clear HO_230002; clear BK197; clear BK213; clear BK219; clear BK229; clear HO235; clear HO239; clear HB; have HO_11 := n0_; have HO_214002 := n1_; have HO_220002 := n2_; have HO_230002 := n3_; have BK197 := n4_; have BK213 := n5_; have BK219 := n6_; have BK229 := n7_; have HO235 := n8_; have HO239 := n9_; have HB := n10_; clear n0_ n1_ n2_ n3_ n4_ n5_ n6_ n7_ n8_ n9_ n10_; (try clear hb); (try clear hkp); (try clear hy0)) | ((with_reducible refine gate_callee (f := 23) rfl ?_); refine goesL_ (some 71) rfl rfl Try.func23 (by kernel_rfl) rfl #[.slice Ao40 t220.length co40, .int .i64 t241] rfl (by (try simp only [List.map_toArray, List.map_cons, List.map_nil]); first | done | rfl | (simp only [List.length_drop, List.length_take]; rfl)) ?_; (with_reducible refine (laws_markIntS.calls kj16 (fun k_ => some k_ = (.slice Ao40 t220.length co40 : Value).ownBlock) (.slice Ao40 t220.length co40) t220 t241 t243 t244 w _ ?side1 ?side2 A74.out).mono ?_); (case side1 => repeat (first | (with_reducible first | exact HB.out | apply below_alloc | apply pw_below_drewN | apply below_drew1 | refine below_set ?_ GE197.out | refine below_set ?_ GE213.out | refine below_set ?_ GE219.out | refine below_set ?_ GE229.out) | exact HB.out)); (case side2 => exact Kd.R_tight rfl HO_11.out); rintro e w87 ⟨rfl, hy0, hb, hkp⟩; refine ⟨_, rfl, ?_⟩; have n0_ := Aside0.mk (Kd.R_reok rfl hy0 (fun k_ e_ => HO_11.out.1 k_ e_)); have n1_ := Aside0.mk (Kd.R_mono (ok' := fun k_ => some k_ ≠ (.slice Ao40 t220.length co40 : Value).ownBlock ∧ some k_ ≠ (.slice Ao37 t216.length co37 : Value).ownBlock ∧ some k_ ≠ (.slice Ao47 t225.length co47 : Value).ownBlock ∧ some k_ ≠ (.slice Ao78 t233.length co78 : Value).ownBlock ∧ some k_ ≠ (.slice Ao81 t237.length co81 : Value).ownBlock) (Kd.R_keptB (HO_214002.out) hkp (fun k_ hk_ hs_ => (hk_.1) hs_)) (fun k_ hk_ => ⟨hk_.1.1, hk_.1.2.1, hk_.1.2.2.1, hk_.1.2.2.2.1, hk_.1.2.2.2.2⟩)); have n2_ := Aside0.mk (Kd.R_mono (ok' := fun k_ => some k_ ≠ (.slice Ao40 t220.length co40 : Value).ownBlock ∧ some k_ ≠ (.slice Ao30 t209.length co30 : Value).ownBlock ∧ some k_ ≠ (.slice Ao47 t225.length co47 : Value).ownBlock ∧ some k_ ≠ (.slice Ao78 t233.length co78 : Value).ownBlock ∧ some k_ ≠ (.slice Ao81 t237.length co81 : Value).ownBlock) (Kd.R_keptB (HO_220002.out) hkp (fun k_ hk_ hs_ => (hk_.1.1.1) hs_)) (fun k_ hk_ => ⟨hk_.1.1.1.1, hk_.1.1.1.2.1, hk_.1.1.1.2.2, hk_.1.1.2, hk_.1.2⟩)); have n3_ := Aside0.mk (Kd.R_mono (ok' := fun k_ => some k_ ≠ (.slice Ao40 t220.length co40 : Value).ownBlock ∧ some k_ ≠ (.slice Ao30 t209.length co30 : Value).ownBlock ∧ some k_ ≠ (.slice Ao37 t216.length co37 : Value).ownBlock ∧ some k_ ≠ (.slice Ao78 t233.length co78 : Value).ownBlock ∧ some k_ ≠ (.slice Ao81 t237.length co81 : Value).ownBlock) (Kd.R_keptB (HO_230002.out) hkp (fun k_ hk_ hs_ => (hk_.1) hs_)) (fun k_ hk_ => ⟨hk_.1.1, hk_.1.2.1, hk_.1.2.2.1, hk_.1.2.2.2.1, hk_.1.2.2.2.2⟩)); (first | have n4_ := Aside0.mk (blk_kept BK197.out hkp (Kd.R_ne HO_11.out BK197.out (by decide))) | have n4_ := Aside0.mk (blk_kept (blk_drewN BK197.out _) hkp (Kd.R_ne HO_11.out BK197.out (by decide)))); (first | have n5_ := Aside0.mk (blk_kept BK213.out hkp (Kd.R_ne HO_11.out BK213.out (by decide))) | have n5_ := Aside0.mk (blk_kept (blk_drewN BK213.out _) hkp (Kd.R_ne HO_11.out BK213.out (by decide)))); (first | have n6_ := Aside0.mk (blk_kept BK219.out hkp (Kd.R_ne HO_11.out BK219.out (by decide))) | have n6_ := Aside0.mk (blk_kept (blk_drewN BK219.out _) hkp (Kd.R_ne HO_11.out BK219.out (by decide)))); (first | have n7_ := Aside0.mk (blk_kept BK229.out hkp (Kd.R_ne HO_11.out BK229.out (by decide))) | have n7_ := Aside0.mk (blk_kept (blk_drewN BK229.out _) hkp (Kd.R_ne HO_11.out BK229.out (by decide)))); have n8_ := Aside0.mk (Kd.R_mono (ok' := fun k_ => some k_ ≠ (.slice Ao40 t220.length co40 : Value).ownBlock ∧ some k_ ≠ (.slice Ao30 t209.length co30 : Value).ownBlock ∧ some k_ ≠ (.slice Ao37 t216.length co37 : Value).ownBlock ∧ some k_ ≠ (.slice Ao47 t225.length co47 : Value).ownBlock ∧ some k_ ≠ (.slice Ao81 t237.length co81 : Value).ownBlock) (Kd.R_keptB (HO235.out) hkp (fun k_ hk_ hs_ => (hk_.1) hs_)) (fun k_ hk_ => ⟨hk_.1.1, hk_.1.2.1, hk_.1.2.2.1, hk_.1.2.2.2.1, hk_.1.2.2.2.2⟩)); have n9_ := Aside0.mk (Kd.R_mono (ok' := fun k_ => some k_ ≠ (.slice Ao40 t220.length co40 : Value).ownBlock ∧ some k_ ≠ (.slice Ao30 t209.length co30 : Value).ownBlock ∧ some k_ ≠ (.slice Ao37 t216.length co37 : Value).ownBlock ∧ some k_ ≠ (.slice Ao47 t225.length co47 : Value).ownBlock ∧ some k_ ≠ (.slice Ao78 t233.length co78 : Value).ownBlock) (Kd.R_keptB (HO239.out) hkp (fun k_ hk_ hs_ => (hk_.1) hs_)) (fun k_ hk_ => ⟨hk_.1.1, hk_.1.2.1, hk_.1.2.2.1, hk_.1.2.2.2.1, hk_.1.2.2.2.2⟩)); have n10_ := Aside0.mk (hb); clear HO_11; clear HO_214002; clear HO_220002; clear HO_230002; clear BK197; clear BK213; clear BK219; clear BK229; clear HO235; clear HO239; clear HB; have HO_11 := n0_; have HO_214002 := n1_; have HO_220002 := n2_; have HO_230002 := n3_; have BK197 := n4_; have BK213 := n5_; have BK219 := n6_; have BK229 := n7_; have HO235 := n8_; have HO239 := n9_; have HB := n10_; clear n0_ n1_ n2_ n3_ n4_ n5_ n6_ n7_ n8_ n9_ n10_; (try clear hb); (try clear hkp); (try clear hy0)))
        (try simp only [Act.put, List.setIfInBounds_toArray, List.set_cons_zero, List.set_cons_succ])
        go_cut [84] (fun v84 wc => ∃ (kq : Nat) (x84_74 : Bool), v84 = .bool x84_74 ∧ Aside0 (laws_FnExactAutoTile.j1 kq a1 l2 t212 x84_74 a0_0 a0_1 l0_2 t207 t208 t209 t223 t224 t225 = some r) ∧ Aside0 (kq ≤ kj16) ∧ Aside0 (Kd.R (Kd.int .i64) 3 wc w.heap.size (fun k_ => some k_ ≠ ((.slice Ao37 t216.length co37) : Value).ownBlock ∧ some k_ ≠ ((.slice Ao47 t225.length co47) : Value).ownBlock) (.slice Ao30 t209.length co30) t209) ∧ Aside0 (Kd.R (Kd.int .i64) 3 wc w.heap.size (fun k_ => some k_ ≠ ((.slice Ao30 t209.length co30) : Value).ownBlock ∧ some k_ ≠ ((.slice Ao47 t225.length co47) : Value).ownBlock) (.slice Ao37 t216.length co37) t242) ∧ Aside0 (Kd.R (Kd.int .i64) 3 wc w.heap.size (fun k_ => some k_ ≠ ((.slice Ao30 t209.length co30) : Value).ownBlock ∧ some k_ ≠ ((.slice Ao37 t216.length co37) : Value).ownBlock) (.slice Ao47 t225.length co47) t225) ∧ Aside0 (wc.heap[gb197]? = some (.cells #[.int .i64 a0_0, .int .i64 a0_1, (.slice A0_2 l0_2.length c0_2)] 24 (0, 0))) ∧ Aside0 (wc.heap[gb213]? = some (.cells #[.int .i64 t207, .int .i64 t208, (.slice Ao30 t209.length co30)] 26 (0, 0))) ∧ Aside0 (wc.heap[gb219]? = some (.cells #[.int .i64 t214, .int .i64 t215, (.slice Ao37 t216.length co37)] 26 (0, 0))) ∧ Aside0 (wc.heap[gb229]? = some (.cells #[.int .i64 t223, .int .i64 t224, (.slice Ao47 t225.length co47)] 26 (0, 0))) ∧ Aside0 (Below w.heap.size w wc))
        case first =>
         have H := HC75.out
         clear HC75
         by_cases c88 : t243 < 0
         ·rw [if_pos c88] at H
          have c88b0 : decide (t243 < 0) = true := decide_eq_true c88
          clear c88
          (first | rw [c88b0] | (simp only [i64_w, i32_w]; rw [c88b0]) | skip)
          have H' := Aside0.mk H
          clear H
          go_wp2
          go_meet
          case rel => exact ⟨_, (true), (by first | rfl | (simp; done) | (simp [*]; done) | (simp [wrap64]; done)), H', ⟨by have := HJ16.out; first | omega | exact Nat.le_refl _⟩, ⟨by (with_reducible repeat (first | apply Kd.R_alloc | apply Kd.R_drewN | apply Kd.R_drew)); exact Kd.R_mono HO_214002.out (fun _ hk => ⟨hk.2.1, hk.2.2.1⟩)⟩, ⟨by (with_reducible repeat (first | apply Kd.R_alloc | apply Kd.R_drewN | apply Kd.R_drew)); exact Kd.R_mono HO_220002.out (fun _ hk => ⟨hk.2.1, hk.2.2.1⟩)⟩, ⟨by (with_reducible repeat (first | apply Kd.R_alloc | apply Kd.R_drewN | apply Kd.R_drew)); exact Kd.R_mono HO_230002.out (fun _ hk => ⟨hk.2.1, hk.2.2.1⟩)⟩, ⟨by (with_reducible repeat (first | refine blk_drewN ?_ _ | refine blk_drew ?_ | refine blk_alloc ?_ _)); exact BK197.out⟩, ⟨by (with_reducible repeat (first | refine blk_drewN ?_ _ | refine blk_drew ?_ | refine blk_alloc ?_ _)); exact BK213.out⟩, ⟨by (with_reducible repeat (first | refine blk_drewN ?_ _ | refine blk_drew ?_ | refine blk_alloc ?_ _)); exact BK219.out⟩, ⟨by (with_reducible repeat (first | refine blk_drewN ?_ _ | refine blk_drew ?_ | refine blk_alloc ?_ _)); exact BK229.out⟩, ⟨by repeat (first | (with_reducible first | exact HB.out | apply below_alloc | apply pw_below_drewN | apply below_drew1 | refine below_set ?_ GE197.out | refine below_set ?_ GE213.out | refine below_set ?_ GE219.out | refine below_set ?_ GE229.out) | exact HB.out)⟩⟩
         ·rw [if_neg c88] at H
          have c88b0 : decide (t243 < 0) = false := decide_eq_false c88
          clear c88
          (first | rw [c88b0] | (simp only [i64_w, i32_w]; rw [c88b0]) | skip)
          replace H := Option.bind_eq_some_iff.mp H
          obtain ⟨t245, A890, H⟩ := H
          replace H : (if t245 = true then (laws_FnExactAutoTile.j1 kj16 a1 l2 t212 (t228 != t212) a0_0 a0_1 l0_2 t207 t208 t209 t223 t224 t225) else (laws_FnExactAutoTile.j1 kj16 a1 l2 t212 true a0_0 a0_1 l0_2 t207 t208 t209 t223 t224 t225)) = some r := H
          have A89 := Aside0.mk A890
          clear A890
          by_cases c90 : t245 = true
          ·subst c90
           have H1 : (laws_FnExactAutoTile.j1 kj16 a1 l2 t212 (t228 != t212) a0_0 a0_1 l0_2 t207 t208 t209 t223 t224 t225) = some r := by rw [if_pos rfl] at H; exact H
           clear H
           have H := H1
           clear H1
           have H' := Aside0.mk H
           clear H
           have hnb91 := NB229_197.out
           have hnc91 := NB197_229.out
           have hnb92 := NB229_213.out
           have hnc92 := NB213_229.out
           have hnb93 := NB229_219.out
           have hnc93 := NB219_229.out
           have hcz94_0 : w87.cell? ⟨gb229, 0, none⟩ = some (.int .i64 t223) := (blk_cell BK229.out 0).trans rfl
           have hcz94_1 : w87.cell? ⟨gb229, 1, none⟩ = some (.int .i64 t224) := (blk_cell BK229.out 1).trans rfl
           have hcz94_2 : w87.cell? ⟨gb229, 2, none⟩ = some (.slice Ao47 t225.length co47) := (blk_cell BK229.out 2).trans rfl
           have hfz94_0 := blk_frozen BK229.out 0
           have hfz94_1 := blk_frozen BK229.out 1
           have hfz94_2 := blk_frozen BK229.out 2
           have hnb95 := NB213_197.out
           have hnc95 := NB197_213.out
           have hnb96 := NB213_219.out
           have hnc96 := NB219_213.out
           have hcz97_0 : w87.cell? ⟨gb213, 0, none⟩ = some (.int .i64 t207) := (blk_cell BK213.out 0).trans rfl
           have hcz97_1 : w87.cell? ⟨gb213, 1, none⟩ = some (.int .i64 t208) := (blk_cell BK213.out 1).trans rfl
           have hcz97_2 : w87.cell? ⟨gb213, 2, none⟩ = some (.slice Ao30 t209.length co30) := (blk_cell BK213.out 2).trans rfl
           have hfz97_0 := blk_frozen BK213.out 0
           have hfz97_1 := blk_frozen BK213.out 1
           have hfz97_2 := blk_frozen BK213.out 2
           go_wp2_with (first | (go_at_call 20; (with_reducible refine (laws_eqField.calls kj16 t223 t224 _ _ t225 t207 t208 _ _ t209 true _ ?side1 ?side2 ?side3 ?side4 A89.out).mono ?_); (case side1 => repeat (first | exact (Kd.R_reads' HO_230002.out).2.2 | (with_reducible refine Kd.C_alloc ?_ _) | (with_reducible refine Kd.C_drewN ?_ _) | (with_reducible refine Kd.C_drew ?_))); (case side2 => exact (Kd.R_reads' HO_230002.out).2.1); (case side3 => repeat (first | exact (Kd.R_reads' HO_214002.out).2.2 | (with_reducible refine Kd.C_alloc ?_ _) | (with_reducible refine Kd.C_drewN ?_ _) | (with_reducible refine Kd.C_drew ?_))); (case side4 => exact (Kd.R_reads' HO_214002.out).2.1); rintro e w98 ⟨rfl, hb⟩; have n0_ := Aside0.mk (Kd.R_below (by (with_reducible repeat (first | apply Kd.R_alloc | apply Kd.R_drewN | apply Kd.R_drew)); exact HO_11.out) hb); have n1_ := Aside0.mk (Kd.R_below (by (with_reducible repeat (first | apply Kd.R_alloc | apply Kd.R_drewN | apply Kd.R_drew)); exact HO_214002.out) hb); have n2_ := Aside0.mk (Kd.R_below (by (with_reducible repeat (first | apply Kd.R_alloc | apply Kd.R_drewN | apply Kd.R_drew)); exact HO_220002.out) hb); have n3_ := Aside0.mk (Kd.R_below (by (with_reducible repeat (first | apply Kd.R_alloc | apply Kd.R_drewN | apply Kd.R_drew)); exact HO_230002.out) hb); have n4_ := Aside0.mk (Kd.R_below (by (with_reducible repeat (first | apply Kd.R_alloc | apply Kd.R_drewN | apply Kd.R_drew)); exact HO235.out) hb); have n5_ := Aside0.mk (Kd.R_below (by (with_reducible repeat (first | apply Kd.R_alloc | apply Kd.R_drewN | apply Kd.R_drew)); exact HO239.out) hb); have n6_ := Aside0.mk (blk_below (g := gb197) (o := .cells #[.int .i64 a0_0, .int .i64 a0_1, .slice A0_2 l0_2.length c0_2] 24 (0, 0)) (by (with_reducible repeat (first | refine blk_drewN ?_ _ | refine blk_drew ?_ | refine blk_alloc ?_ _)); exact BK197.out) hb); have n7_ := Aside0.mk (blk_below (g := gb213) (o := .cells #[.int .i64 t207, .int .i64 t208, .slice Ao30 t209.length co30] 26 (0, 0)) (by (with_reducible repeat (first | refine blk_drewN ?_ _ | refine blk_drew ?_ | refine blk_alloc ?_ _)); exact BK213.out) hb); have n8_ := Aside0.mk (blk_below (g := gb219) (o := .cells #[.int .i64 t214, .int .i64 t215, .slice Ao37 t216.length co37] 26 (0, 0)) (by (with_reducible repeat (first | refine blk_drewN ?_ _ | refine blk_drew ?_ | refine blk_alloc ?_ _)); exact BK219.out) hb); have n9_ := Aside0.mk (blk_below (g := gb229) (o := .cells #[.int .i64 t223, .int .i64 t224, .slice Ao47 t225.length co47] 26 (0, 0)) (by (with_reducible repeat (first | refine blk_drewN ?_ _ | refine blk_drew ?_ | refine blk_alloc ?_ _)); exact BK229.out) hb); have n10_ := Aside0.mk (below_step (by repeat (first | (with_reducible first | exact HB.out | apply below_alloc | apply pw_below_drewN | apply below_drew1 | refine below_set ?_ GE197.out | refine below_set ?_ GE213.out | refine below_set ?_ GE219.out | refine below_set ?_ GE229.out) | exact HB.out)) hb); clear HO_11; clear HO_214002; clear HO_220002; clear HO_230002; clear HO235; clear HO239; clear BK197; clear BK213; clear BK219; clear BK229; clear HB; have HO_11 := n0_; have HO_214002 := n1_; have HO_220002 := n2_; have HO_230002 := n3_; have HO235 := n4_; have HO239 := n5_; have BK197 := n6_; have BK213 := n7_; have BK219 := n8_; have BK229 := n9_; have HB := n10_; clear n0_ n1_ n2_ n3_ n4_ n5_ n6_ n7_ n8_ n9_ n10_; (try clear hb); (try clear hb2); (try clear hk); (try clear hi)))
           go_meet
           case rel => exact ⟨_, ((t228 != t212)), (by first | rfl | (simp; done) | (simp [*]; done) | (simp [wrap64]; done)), H', ⟨by have := HJ16.out; first | omega | exact Nat.le_refl _⟩, ⟨by (with_reducible repeat (first | apply Kd.R_alloc | apply Kd.R_drewN | apply Kd.R_drew)); exact Kd.R_mono HO_214002.out (fun _ hk => ⟨hk.2.1, hk.2.2.1⟩)⟩, ⟨by (with_reducible repeat (first | apply Kd.R_alloc | apply Kd.R_drewN | apply Kd.R_drew)); exact Kd.R_mono HO_220002.out (fun _ hk => ⟨hk.2.1, hk.2.2.1⟩)⟩, ⟨by (with_reducible repeat (first | apply Kd.R_alloc | apply Kd.R_drewN | apply Kd.R_drew)); exact Kd.R_mono HO_230002.out (fun _ hk => ⟨hk.2.1, hk.2.2.1⟩)⟩, ⟨by (with_reducible repeat (first | refine blk_drewN ?_ _ | refine blk_drew ?_ | refine blk_alloc ?_ _)); exact BK197.out⟩, ⟨by (with_reducible repeat (first | refine blk_drewN ?_ _ | refine blk_drew ?_ | refine blk_alloc ?_ _)); exact BK213.out⟩, ⟨by (with_reducible repeat (first | refine blk_drewN ?_ _ | refine blk_drew ?_ | refine blk_alloc ?_ _)); exact BK219.out⟩, ⟨by (with_reducible repeat (first | refine blk_drewN ?_ _ | refine blk_drew ?_ | refine blk_alloc ?_ _)); exact BK229.out⟩, ⟨by repeat (first | (with_reducible first | exact HB.out | apply below_alloc | apply pw_below_drewN | apply below_drew1 | refine below_set ?_ GE197.out | refine below_set ?_ GE213.out | refine below_set ?_ GE219.out | refine below_set ?_ GE229.out) | exact HB.out)⟩⟩
          ·replace c90 := Bool.eq_false_iff.mpr c90
           subst c90
           have H1 : (laws_FnExactAutoTile.j1 kj16 a1 l2 t212 true a0_0 a0_1 l0_2 t207 t208 t209 t223 t224 t225) = some r := by rw [if_neg (show ¬ (false = true) by decide)] at H; exact H
           clear H
           have H := H1
           clear H1
           have H' := Aside0.mk H
           clear H
           have hnb99 := NB229_197.out
           have hnc99 := NB197_229.out
           have hnb100 := NB229_213.out
           have hnc100 := NB213_229.out
           have hnb101 := NB229_219.out
           have hnc101 := NB219_229.out
           have hcz102_0 : w87.cell? ⟨gb229, 0, none⟩ = some (.int .i64 t223) := (blk_cell BK229.out 0).trans rfl
           have hcz102_1 : w87.cell? ⟨gb229, 1, none⟩ = some (.int .i64 t224) := (blk_cell BK229.out 1).trans rfl
           have hcz102_2 : w87.cell? ⟨gb229, 2, none⟩ = some (.slice Ao47 t225.length co47) := (blk_cell BK229.out 2).trans rfl
           have hfz102_0 := blk_frozen BK229.out 0
           have hfz102_1 := blk_frozen BK229.out 1
           have hfz102_2 := blk_frozen BK229.out 2
           have hnb103 := NB213_197.out
           have hnc103 := NB197_213.out
           have hnb104 := NB213_219.out
           have hnc104 := NB219_213.out
           have hcz105_0 : w87.cell? ⟨gb213, 0, none⟩ = some (.int .i64 t207) := (blk_cell BK213.out 0).trans rfl
           have hcz105_1 : w87.cell? ⟨gb213, 1, none⟩ = some (.int .i64 t208) := (blk_cell BK213.out 1).trans rfl
           have hcz105_2 : w87.cell? ⟨gb213, 2, none⟩ = some (.slice Ao30 t209.length co30) := (blk_cell BK213.out 2).trans rfl
           have hfz105_0 := blk_frozen BK213.out 0
           have hfz105_1 := blk_frozen BK213.out 1
           have hfz105_2 := blk_frozen BK213.out 2
           go_wp2_with (first | (go_at_call 20; (with_reducible refine (laws_eqField.calls kj16 t223 t224 _ _ t225 t207 t208 _ _ t209 false _ ?side1 ?side2 ?side3 ?side4 A89.out).mono ?_); (case side1 => repeat (first | exact (Kd.R_reads' HO_230002.out).2.2 | (with_reducible refine Kd.C_alloc ?_ _) | (with_reducible refine Kd.C_drewN ?_ _) | (with_reducible refine Kd.C_drew ?_))); (case side2 => exact (Kd.R_reads' HO_230002.out).2.1); (case side3 => repeat (first | exact (Kd.R_reads' HO_214002.out).2.2 | (with_reducible refine Kd.C_alloc ?_ _) | (with_reducible refine Kd.C_drewN ?_ _) | (with_reducible refine Kd.C_drew ?_))); (case side4 => exact (Kd.R_reads' HO_214002.out).2.1); rintro e w106 ⟨rfl, hb⟩; have n0_ := Aside0.mk (Kd.R_below (by (with_reducible repeat (first | apply Kd.R_alloc | apply Kd.R_drewN | apply Kd.R_drew)); exact HO_11.out) hb); have n1_ := Aside0.mk (Kd.R_below (by (with_reducible repeat (first | apply Kd.R_alloc | apply Kd.R_drewN | apply Kd.R_drew)); exact HO_214002.out) hb); have n2_ := Aside0.mk (Kd.R_below (by (with_reducible repeat (first | apply Kd.R_alloc | apply Kd.R_drewN | apply Kd.R_drew)); exact HO_220002.out) hb); have n3_ := Aside0.mk (Kd.R_below (by (with_reducible repeat (first | apply Kd.R_alloc | apply Kd.R_drewN | apply Kd.R_drew)); exact HO_230002.out) hb); have n4_ := Aside0.mk (Kd.R_below (by (with_reducible repeat (first | apply Kd.R_alloc | apply Kd.R_drewN | apply Kd.R_drew)); exact HO235.out) hb); have n5_ := Aside0.mk (Kd.R_below (by (with_reducible repeat (first | apply Kd.R_alloc | apply Kd.R_drewN | apply Kd.R_drew)); exact HO239.out) hb); have n6_ := Aside0.mk (blk_below (g := gb197) (o := .cells #[.int .i64 a0_0, .int .i64 a0_1, .slice A0_2 l0_2.length c0_2] 24 (0, 0)) (by (with_reducible repeat (first | refine blk_drewN ?_ _ | refine blk_drew ?_ | refine blk_alloc ?_ _)); exact BK197.out) hb); have n7_ := Aside0.mk (blk_below (g := gb213) (o := .cells #[.int .i64 t207, .int .i64 t208, .slice Ao30 t209.length co30] 26 (0, 0)) (by (with_reducible repeat (first | refine blk_drewN ?_ _ | refine blk_drew ?_ | refine blk_alloc ?_ _)); exact BK213.out) hb); have n8_ := Aside0.mk (blk_below (g := gb219) (o := .cells #[.int .i64 t214, .int .i64 t215, .slice Ao37 t216.length co37] 26 (0, 0)) (by (with_reducible repeat (first | refine blk_drewN ?_ _ | refine blk_drew ?_ | refine blk_alloc ?_ _)); exact BK219.out) hb); have n9_ := Aside0.mk (blk_below (g := gb229) (o := .cells #[.int .i64 t223, .int .i64 t224, .slice Ao47 t225.length co47] 26 (0, 0)) (by (with_reducible repeat (first | refine blk_drewN ?_ _ | refine blk_drew ?_ | refine blk_alloc ?_ _)); exact BK229.out) hb); have n10_ := Aside0.mk (below_step (by repeat (first | (with_reducible first | exact HB.out | apply below_alloc | apply pw_below_drewN | apply below_drew1 | refine below_set ?_ GE197.out | refine below_set ?_ GE213.out | refine below_set ?_ GE219.out | refine below_set ?_ GE229.out) | exact HB.out)) hb); clear HO_11; clear HO_214002; clear HO_220002; clear HO_230002; clear HO235; clear HO239; clear BK197; clear BK213; clear BK219; clear BK229; clear HB; have HO_11 := n0_; have HO_214002 := n1_; have HO_220002 := n2_; have HO_230002 := n3_; have HO235 := n4_; have HO239 := n5_; have BK197 := n6_; have BK213 := n7_; have BK219 := n8_; have BK229 := n9_; have HB := n10_; clear n0_ n1_ n2_ n3_ n4_ n5_ n6_ n7_ n8_ n9_ n10_; (try clear hb); (try clear hb2); (try clear hk); (try clear hi)))
           go_meet
           case rel => exact ⟨_, (true), (by first | rfl | (simp; done) | (simp [*]; done) | (simp [wrap64]; done)), H', ⟨by have := HJ16.out; first | omega | exact Nat.le_refl _⟩, ⟨by (with_reducible repeat (first | apply Kd.R_alloc | apply Kd.R_drewN | apply Kd.R_drew)); exact Kd.R_mono HO_214002.out (fun _ hk => ⟨hk.2.1, hk.2.2.1⟩)⟩, ⟨by (with_reducible repeat (first | apply Kd.R_alloc | apply Kd.R_drewN | apply Kd.R_drew)); exact Kd.R_mono HO_220002.out (fun _ hk => ⟨hk.2.1, hk.2.2.1⟩)⟩, ⟨by (with_reducible repeat (first | apply Kd.R_alloc | apply Kd.R_drewN | apply Kd.R_drew)); exact Kd.R_mono HO_230002.out (fun _ hk => ⟨hk.2.1, hk.2.2.1⟩)⟩, ⟨by (with_reducible repeat (first | refine blk_drewN ?_ _ | refine blk_drew ?_ | refine blk_alloc ?_ _)); exact BK197.out⟩, ⟨by (with_reducible repeat (first | refine blk_drewN ?_ _ | refine blk_drew ?_ | refine blk_alloc ?_ _)); exact BK213.out⟩, ⟨by (with_reducible repeat (first | refine blk_drewN ?_ _ | refine blk_drew ?_ | refine blk_alloc ?_ _)); exact BK219.out⟩, ⟨by (with_reducible repeat (first | refine blk_drewN ?_ _ | refine blk_drew ?_ | refine blk_alloc ?_ _)); exact BK229.out⟩, ⟨by repeat (first | (with_reducible first | exact HB.out | apply below_alloc | apply pw_below_drewN | apply below_drew1 | refine below_set ?_ GE197.out | refine below_set ?_ GE213.out | refine below_set ?_ GE219.out | refine below_set ?_ GE229.out) | exact HB.out)⟩⟩
        case rest =>
         clear HC75
         try clear c1
         try clear c2
         try clear p2
         try clear c3
         try clear c4
         try clear c4b0
         try clear c4b1
         try clear c5
         try clear c6
         try clear c7
         try clear c7b0
         try clear c8
         try clear c9
         try clear c10
         try clear c15
         try clear c16
         try clear c17
         try clear c18
         try clear c19
         try clear c20
         try clear c21
         try clear c22
         try clear c23
         try clear c28
         try clear c34
         try clear c35
         try clear c43
         try clear c44
         try clear c45
         try clear c49
         try clear c50
         try clear c51
         try clear c52
         try clear c54
         try clear c55
         try clear c58
         try clear c59
         try clear c60
         try clear c62
         try clear c63
         try clear c66
         try clear c69
         try clear c72
         try clear c82
         try clear c83
         try clear c84
         try clear c88
         try clear c88b0
         try clear c90
         try clear c91
         try clear c92
         try clear c93
         try clear c95
         try clear c96
         try clear c99
         try clear c100
         try clear c101
         try clear c103
         try clear c104
         try clear hcz102_0
         try clear hcz102_1
         try clear hcz102_2
         try clear hcz105_0
         try clear hcz105_1
         try clear hcz105_2
         try clear hcz19_0
         try clear hcz19_1
         try clear hcz19_2
         try clear hcz21_0
         try clear hcz21_1
         try clear hcz21_2
         try clear hcz29_0
         try clear hcz29_1
         try clear hcz29_2
         try clear hcz31_0
         try clear hcz31_1
         try clear hcz31_2
         try clear hcz36_0
         try clear hcz36_1
         try clear hcz36_2
         try clear hcz39_0
         try clear hcz39_1
         try clear hcz39_2
         try clear hcz46_0
         try clear hcz46_1
         try clear hcz46_2
         try clear hcz53_0
         try clear hcz53_1
         try clear hcz53_2
         try clear hcz56_0
         try clear hcz56_1
         try clear hcz56_2
         try clear hcz61_0
         try clear hcz61_1
         try clear hcz61_2
         try clear hcz64_0
         try clear hcz64_1
         try clear hcz64_2
         try clear hcz85_0
         try clear hcz85_1
         try clear hcz85_2
         try clear hcz94_0
         try clear hcz94_1
         try clear hcz94_2
         try clear hcz97_0
         try clear hcz97_1
         try clear hcz97_2
         try clear hcz9_0
         try clear hcz9_1
         try clear hcz9_2
         try clear hfz102_0
         try clear hfz102_1
         try clear hfz102_2
         try clear hfz105_0
         try clear hfz105_1
         try clear hfz105_2
         try clear hfz19_0
         try clear hfz19_1
         try clear hfz19_2
         try clear hfz21_0
         try clear hfz21_1
         try clear hfz21_2
         try clear hfz29_0
         try clear hfz29_1
         try clear hfz29_2
         try clear hfz31_0
         try clear hfz31_1
         try clear hfz31_2
         try clear hfz36_0
         try clear hfz36_1
         try clear hfz36_2
         try clear hfz39_0
         try clear hfz39_1
         try clear hfz39_2
         try clear hfz46_0
         try clear hfz46_1
         try clear hfz46_2
         try clear hfz53_0
         try clear hfz53_1
         try clear hfz53_2
         try clear hfz56_0
         try clear hfz56_1
         try clear hfz56_2
         try clear hfz61_0
         try clear hfz61_1
         try clear hfz61_2
         try clear hfz64_0
         try clear hfz64_1
         try clear hfz64_2
         try clear hfz85_0
         try clear hfz85_1
         try clear hfz85_2
         try clear hfz94_0
         try clear hfz94_1
         try clear hfz94_2
         try clear hfz97_0
         try clear hfz97_1
         try clear hfz97_2
         try clear hfz9_0
         try clear hfz9_1
         try clear hfz9_2
         try clear p2
         obtain ⟨kq, x84_74, rfl, HA, HJ74, HO_214002, HO_220002, HO_230002, BK197, BK213, BK219, BK229, HB⟩ := hcut
         have hl220002_74 := (Kd.R_reads' HO_220002.out).1
         rw [hl220002_74] at HO_220002
         (try simp only [hl220002_74])
         (try simp only [hl220002_74] at BK197)
         (try simp only [hl220002_74] at BK213)
         (try simp only [hl220002_74] at BK219)
         (try simp only [hl220002_74] at BK229)
         (try simp only [hl220002_74] at HO_214002)
         (try simp only [hl220002_74] at HO_230002)
         cases kq with
         | zero => exact absurd HA.out (by simp [laws_FnExactAutoTile.j1])
         | succ kj74 =>
          have H := HA.out
          clear HA
          simp only [laws_FnExactAutoTile.j1] at H
          by_cases c107 : x84_74 = true
          ·subst c107
           have H1 : (some false) = some r := by rw [if_pos rfl] at H; exact H
           clear H
           have H := H1
           clear H1
           obtain rfl := Option.some.inj H
           go_wp2
           go_ret
           exact ⟨by first | rfl | (simp [errW_none, errW_some] <;> rfl) | (simp [*, errW_none, errW_some] <;> rfl), by repeat (first | (with_reducible first | exact HB.out | apply below_alloc | apply pw_below_drewN | apply below_drew1 | refine below_set ?_ GE197.out | refine below_set ?_ GE213.out | refine below_set ?_ GE219.out | refine below_set ?_ GE229.out) | exact HB.out)⟩
          ·replace c107 := Bool.eq_false_iff.mpr c107
           subst c107
           have H1 : ((laws_markField.f kj74 t223 t224 t225 1).bind fun bt246 => ((laws_heldField.f kj74 t223 t224 bt246.2 1).bind fun t248 => (if t248 < 0 then (some false) else (if t248 = bt246.1 then ((laws_toField.f kj74 a0_0 a0_1 l0_2).bind fun bt249 => ((laws_toIntS.f kj74 l2).bind fun t254 => ((impl_AutoTile.f kj74 bt249.1 bt249.2.1 bt249.2.2 a1 t254).bind fun bt257 => ((laws_eqField.f kj74 bt257.1 bt257.2.1 bt257.2.2.1 t207 t208 t209).bind fun t264 => (if t264 = true then (laws_FnExactAutoTile.j2 kj74 bt246.1 (bt257.2.2.2 != t212) t223 t224 bt246.2) else (laws_FnExactAutoTile.j2 kj74 bt246.1 true t223 t224 bt246.2)))))) else (some false))))) = some r := by rw [if_neg (show ¬ (false = true) by decide)] at H; exact H
           clear H
           have H := H1
           clear H1
           replace H := Option.bind_eq_some_iff.mp H
           obtain ⟨⟨t246, t247⟩, A1080, H⟩ := H
           replace H : ((laws_heldField.f kj74 t223 t224 t247 1).bind fun t248 => (if t248 < 0 then (some false) else (if t248 = t246 then ((laws_toField.f kj74 a0_0 a0_1 l0_2).bind fun bt249 => ((laws_toIntS.f kj74 l2).bind fun t254 => ((impl_AutoTile.f kj74 bt249.1 bt249.2.1 bt249.2.2 a1 t254).bind fun bt257 => ((laws_eqField.f kj74 bt257.1 bt257.2.1 bt257.2.2.1 t207 t208 t209).bind fun t264 => (if t264 = true then (laws_FnExactAutoTile.j2 kj74 t246 (bt257.2.2.2 != t212) t223 t224 t247) else (laws_FnExactAutoTile.j2 kj74 t246 true t223 t224 t247)))))) else (some false)))) = some r := H
           have A108 := Aside0.mk A1080
           clear A1080
           replace H := Option.bind_eq_some_iff.mp H
           obtain ⟨t248, A1090, H⟩ := H
           replace H : (if t248 < 0 then (some false) else (if t248 = t246 then ((laws_toField.f kj74 a0_0 a0_1 l0_2).bind fun bt249 => ((laws_toIntS.f kj74 l2).bind fun t254 => ((impl_AutoTile.f kj74 bt249.1 bt249.2.1 bt249.2.2 a1 t254).bind fun bt257 => ((laws_eqField.f kj74 bt257.1 bt257.2.1 bt257.2.2.1 t207 t208 t209).bind fun t264 => (if t264 = true then (laws_FnExactAutoTile.j2 kj74 t246 (bt257.2.2.2 != t212) t223 t224 t247) else (laws_FnExactAutoTile.j2 kj74 t246 true t223 t224 t247)))))) else (some false))) = some r := H
           have A109 := Aside0.mk A1090
           clear A1090
           by_cases c110 : t248 < 0
           ·rw [if_pos c110] at H
            have c110b0 : decide (t248 < 0) = true := decide_eq_true c110
            clear c110
            obtain rfl := Option.some.inj H
            have hnb111 := NB229_197.out
            have hnc111 := NB197_229.out
            have hnb112 := NB229_213.out
            have hnc112 := NB213_229.out
            have hnb113 := NB229_219.out
            have hnc113 := NB219_229.out
            have hcz114_0 : wc.cell? ⟨gb229, 0, none⟩ = some (.int .i64 t223) := (blk_cell BK229.out 0).trans rfl
            have hcz114_1 : wc.cell? ⟨gb229, 1, none⟩ = some (.int .i64 t224) := (blk_cell BK229.out 1).trans rfl
            have hcz114_2 : wc.cell? ⟨gb229, 2, none⟩ = some (.slice Ao47 t225.length co47) := (blk_cell BK229.out 2).trans rfl
            have hfz114_0 := blk_frozen BK229.out 0
            have hfz114_1 := blk_frozen BK229.out 1
            have hfz114_2 := blk_frozen BK229.out 2
            go_wp2_with (first | ((with_reducible refine gate_callee (f := 22) rfl ?_); refine goesL_ (some 87) rfl rfl Try.func22 (by kernel_rfl) rfl #[.agg #[.int .i64 t223, .int .i64 t224, .slice Ao47 t225.length co47], .int .i64 1] rfl (by (try simp only [List.map_toArray, List.map_cons, List.map_nil]); first | done | rfl | (simp only [List.length_drop, List.length_take]; rfl)) ?_; (with_reducible refine (laws_markField.calls kj74 t223 t224 (fun k_ => some k_ = (.slice Ao47 t225.length co47 : Value).ownBlock) (.slice Ao47 t225.length co47) t225 1 t246 t247 w _ ?side1 ?side2 A108.out).mono ?_); (case side1 => repeat (first | (with_reducible first | exact HB.out | apply below_alloc | apply pw_below_drewN | apply below_drew1 | refine below_set ?_ GE197.out | refine below_set ?_ GE213.out | refine below_set ?_ GE219.out | refine below_set ?_ GE229.out) | exact HB.out)); (case side2 => exact Kd.R_tight rfl HO_230002.out); rintro e w115 ⟨rfl, hy0, hb, hkp⟩; refine ⟨_, rfl, ?_⟩; have n0_ := Aside0.mk (Kd.R_mono (ok' := fun k_ => some k_ ≠ (.slice Ao37 t242.length co37 : Value).ownBlock ∧ some k_ ≠ (.slice Ao47 t225.length co47 : Value).ownBlock) (Kd.R_keptB (HO_214002.out) hkp (fun k_ hk_ hs_ => (hk_.2) hs_)) (fun k_ hk_ => ⟨hk_.1.1, hk_.1.2⟩)); have n1_ := Aside0.mk (Kd.R_mono (ok' := fun k_ => some k_ ≠ (.slice Ao30 t209.length co30 : Value).ownBlock ∧ some k_ ≠ (.slice Ao47 t225.length co47 : Value).ownBlock) (Kd.R_keptB (HO_220002.out) hkp (fun k_ hk_ hs_ => (hk_.2) hs_)) (fun k_ hk_ => ⟨hk_.1.1, hk_.1.2⟩)); have n2_ := Aside0.mk (Kd.R_reok rfl hy0 (fun k_ e_ => HO_230002.out.1 k_ e_)); (first | have n3_ := Aside0.mk (blk_kept BK197.out hkp (Kd.R_ne HO_230002.out BK197.out (by decide))) | have n3_ := Aside0.mk (blk_kept (blk_drewN BK197.out _) hkp (Kd.R_ne HO_230002.out BK197.out (by decide)))); (first | have n4_ := Aside0.mk (blk_kept BK213.out hkp (Kd.R_ne HO_230002.out BK213.out (by decide))) | have n4_ := Aside0.mk (blk_kept (blk_drewN BK213.out _) hkp (Kd.R_ne HO_230002.out BK213.out (by decide)))); (first | have n5_ := Aside0.mk (blk_kept BK219.out hkp (Kd.R_ne HO_230002.out BK219.out (by decide))) | have n5_ := Aside0.mk (blk_kept (blk_drewN BK219.out _) hkp (Kd.R_ne HO_230002.out BK219.out (by decide)))); (first | have n6_ := Aside0.mk (blk_kept BK229.out hkp (Kd.R_ne HO_230002.out BK229.out (by decide))) | have n6_ := Aside0.mk (blk_kept (blk_drewN BK229.out _) hkp (Kd.R_ne HO_230002.out BK229.out (by decide)))); have n7_ := Aside0.mk (hb); clear HO_214002; clear HO_220002; clear HO_230002; clear BK197; clear BK213; clear BK219; clear BK229; clear HB; have HO_214002 := n0_; have HO_220002 := n1_; have HO_230002 := n2_; have BK197 := n3_; have BK213 := n4_; have BK219 := n5_; have BK229 := n6_; have HB := n7_; clear n0_ n1_ n2_ n3_ n4_ n5_ n6_ n7_; (try clear hb); (try clear hkp); (try clear hy0); have hcz116_0 : w115.cell? ⟨gb229, 0, none⟩ = some (.int .i64 t223) := (blk_cell BK229.out 0).trans rfl; have hcz116_1 : w115.cell? ⟨gb229, 1, none⟩ = some (.int .i64 t224) := (blk_cell BK229.out 1).trans rfl; have hcz116_2 : w115.cell? ⟨gb229, 2, none⟩ = some (.slice Ao47 t225.length co47) := (blk_cell BK229.out 2).trans rfl; have hfz116_0 := blk_frozen BK229.out 0; have hfz116_1 := blk_frozen BK229.out 1; have hfz116_2 := blk_frozen BK229.out 2) | ((with_reducible refine gate_callee (f := 24) rfl ?_); refine goesL_ (some 90) rfl rfl Try.func24 (by kernel_rfl) rfl #[.agg #[.int .i64 t223, .int .i64 t224, .slice Ao47 t247.length co47], .int .i64 1] rfl (by (try simp only [List.map_toArray, List.map_cons, List.map_nil]); first | done | (rw [show t247.length = t225.length from (Kd.R_reads' HO_230002.out).1.symm] <;> rfl) | rfl | (simp only [List.length_drop, List.length_take]; rfl)) ?_; (with_reducible refine (laws_heldField.calls kj74 t223 t224 _ _ t247 1 t248 _ ?side1 ?side2 A109.out).mono ?_); (case side1 => repeat (first | exact (Kd.R_reads' HO_230002.out).2.2 | (with_reducible refine Kd.C_alloc ?_ _) | (with_reducible refine Kd.C_drewN ?_ _) | (with_reducible refine Kd.C_drew ?_))); (case side2 => rw [show t247.length = t225.length from (Kd.R_reads' HO_230002.out).1.symm]; exact (Kd.R_reads' HO_230002.out).2.1); rintro e w117 ⟨rfl, hb⟩; refine ⟨_, rfl, ?_⟩; have n0_ := Aside0.mk (Kd.R_below (by (with_reducible repeat (first | apply Kd.R_alloc | apply Kd.R_drewN | apply Kd.R_drew)); exact HO_214002.out) hb); have n1_ := Aside0.mk (Kd.R_below (by (with_reducible repeat (first | apply Kd.R_alloc | apply Kd.R_drewN | apply Kd.R_drew)); exact HO_220002.out) hb); have n2_ := Aside0.mk (Kd.R_below (by (with_reducible repeat (first | apply Kd.R_alloc | apply Kd.R_drewN | apply Kd.R_drew)); exact HO_230002.out) hb); have n3_ := Aside0.mk (blk_below (g := gb197) (o := .cells #[.int .i64 a0_0, .int .i64 a0_1, .slice A0_2 l0_2.length c0_2] 24 (0, 0)) (by (with_reducible repeat (first | refine blk_drewN ?_ _ | refine blk_drew ?_ | refine blk_alloc ?_ _)); exact BK197.out) hb); have n4_ := Aside0.mk (blk_below (g := gb213) (o := .cells #[.int .i64 t207, .int .i64 t208, .slice Ao30 t209.length co30] 26 (0, 0)) (by (with_reducible repeat (first | refine blk_drewN ?_ _ | refine blk_drew ?_ | refine blk_alloc ?_ _)); exact BK213.out) hb); have n5_ := Aside0.mk (blk_below (g := gb219) (o := .cells #[.int .i64 t214, .int .i64 t215, .slice Ao37 t242.length co37] 26 (0, 0)) (by (with_reducible repeat (first | refine blk_drewN ?_ _ | refine blk_drew ?_ | refine blk_alloc ?_ _)); exact BK219.out) hb); have n6_ := Aside0.mk (blk_below (g := gb229) (o := .cells #[.int .i64 t223, .int .i64 t224, .slice Ao47 t225.length co47] 26 (0, 0)) (by (with_reducible repeat (first | refine blk_drewN ?_ _ | refine blk_drew ?_ | refine blk_alloc ?_ _)); exact BK229.out) hb); have n7_ := Aside0.mk (below_step (by repeat (first | (with_reducible first | exact HB.out | apply below_alloc | apply pw_below_drewN | apply below_drew1 | refine below_set ?_ GE197.out | refine below_set ?_ GE213.out | refine below_set ?_ GE219.out | refine below_set ?_ GE229.out) | exact HB.out)) hb); clear HO_214002; clear HO_220002; clear HO_230002; clear BK197; clear BK213; clear BK219; clear BK229; clear HB; have HO_214002 := n0_; have HO_220002 := n1_; have HO_230002 := n2_; have BK197 := n3_; have BK213 := n4_; have BK219 := n5_; have BK229 := n6_; have HB := n7_; clear n0_ n1_ n2_ n3_ n4_ n5_ n6_ n7_; (try clear hb); (try clear hb2); (try clear hk); (try clear hi)))
            go_ret
            exact ⟨by first | rfl | (simp [errW_none, errW_some] <;> rfl) | (simp [*, errW_none, errW_some] <;> rfl), by repeat (first | (with_reducible first | exact HB.out | apply below_alloc | apply pw_below_drewN | apply below_drew1 | refine below_set ?_ GE197.out | refine below_set ?_ GE213.out | refine below_set ?_ GE219.out | refine below_set ?_ GE229.out) | exact HB.out)⟩
           ·rw [if_neg c110] at H
            have c110b0 : decide (t248 < 0) = false := decide_eq_false c110
            clear c110
            by_cases c118 : t248 = t246
            ·rw [if_pos c118] at H
             have c118b0 : (t248 == t246) = true := beq_iff_eq.mpr c118
             have c118b1 : (t248 != t246) = false := bne_eq_false_iff_eq.mpr c118
             clear c118
             replace H := Option.bind_eq_some_iff.mp H
             obtain ⟨⟨t249, t250, t251⟩, A1190, H⟩ := H
             replace H : ((laws_toIntS.f kj74 l2).bind fun t254 => ((impl_AutoTile.f kj74 t249 t250 t251 a1 t254).bind fun bt257 => ((laws_eqField.f kj74 bt257.1 bt257.2.1 bt257.2.2.1 t207 t208 t209).bind fun t264 => (if t264 = true then (laws_FnExactAutoTile.j2 kj74 t246 (bt257.2.2.2 != t212) t223 t224 t247) else (laws_FnExactAutoTile.j2 kj74 t246 true t223 t224 t247))))) = some r := H
             have A119 := Aside0.mk A1190
             clear A1190
             replace H := Option.bind_eq_some_iff.mp H
             obtain ⟨t254, A1200, H⟩ := H
             replace H : ((impl_AutoTile.f kj74 t249 t250 t251 a1 t254).bind fun bt257 => ((laws_eqField.f kj74 bt257.1 bt257.2.1 bt257.2.2.1 t207 t208 t209).bind fun t264 => (if t264 = true then (laws_FnExactAutoTile.j2 kj74 t246 (bt257.2.2.2 != t212) t223 t224 t247) else (laws_FnExactAutoTile.j2 kj74 t246 true t223 t224 t247)))) = some r := H
             have A120 := Aside0.mk A1200
             clear A1200
             replace H := Option.bind_eq_some_iff.mp H
             obtain ⟨⟨t257, t258, t259, t262⟩, A1210, H⟩ := H
             replace H : ((laws_eqField.f kj74 t257 t258 t259 t207 t208 t209).bind fun t264 => (if t264 = true then (laws_FnExactAutoTile.j2 kj74 t246 (t262 != t212) t223 t224 t247) else (laws_FnExactAutoTile.j2 kj74 t246 true t223 t224 t247))) = some r := H
             have A121 := Aside0.mk A1210
             clear A1210
             have HC122 := Aside0.mk H
             clear H
             have hnb123 := NB229_197.out
             have hnc123 := NB197_229.out
             have hnb124 := NB229_213.out
             have hnc124 := NB213_229.out
             have hnb125 := NB229_219.out
             have hnc125 := NB219_229.out
             have hcz126_0 : wc.cell? ⟨gb229, 0, none⟩ = some (.int .i64 t223) := (blk_cell BK229.out 0).trans rfl
             have hcz126_1 : wc.cell? ⟨gb229, 1, none⟩ = some (.int .i64 t224) := (blk_cell BK229.out 1).trans rfl
             have hcz126_2 : wc.cell? ⟨gb229, 2, none⟩ = some (.slice Ao47 t225.length co47) := (blk_cell BK229.out 2).trans rfl
             have hfz126_0 := blk_frozen BK229.out 0
             have hfz126_1 := blk_frozen BK229.out 1
             have hfz126_2 := blk_frozen BK229.out 2
             go_upto_region 31 with (first | ((with_reducible refine gate_callee (f := 22) rfl ?_); refine goesL_ (some 87) rfl rfl Try.func22 (by kernel_rfl) rfl #[.agg #[.int .i64 t223, .int .i64 t224, .slice Ao47 t225.length co47], .int .i64 1] rfl (by (try simp only [List.map_toArray, List.map_cons, List.map_nil]); first | done | rfl | (simp only [List.length_drop, List.length_take]; rfl)) ?_; (with_reducible refine (laws_markField.calls kj74 t223 t224 (fun k_ => some k_ = (.slice Ao47 t225.length co47 : Value).ownBlock) (.slice Ao47 t225.length co47) t225 1 t246 t247 w _ ?side1 ?side2 A108.out).mono ?_); (case side1 => repeat (first | (with_reducible first | exact HB.out | apply below_alloc | apply pw_below_drewN | apply below_drew1 | refine below_set ?_ GE197.out | refine below_set ?_ GE213.out | refine below_set ?_ GE219.out | refine below_set ?_ GE229.out) | exact HB.out)); (case side2 => exact Kd.R_tight rfl HO_230002.out); rintro e w127 ⟨rfl, hy0, hb, hkp⟩; refine ⟨_, rfl, ?_⟩; have n0_ := Aside0.mk (Kd.R_mono (ok' := fun k_ => some k_ ≠ (.slice Ao37 t242.length co37 : Value).ownBlock ∧ some k_ ≠ (.slice Ao47 t225.length co47 : Value).ownBlock) (Kd.R_keptB (HO_214002.out) hkp (fun k_ hk_ hs_ => (hk_.2) hs_)) (fun k_ hk_ => ⟨hk_.1.1, hk_.1.2⟩)); have n1_ := Aside0.mk (Kd.R_mono (ok' := fun k_ => some k_ ≠ (.slice Ao30 t209.length co30 : Value).ownBlock ∧ some k_ ≠ (.slice Ao47 t225.length co47 : Value).ownBlock) (Kd.R_keptB (HO_220002.out) hkp (fun k_ hk_ hs_ => (hk_.2) hs_)) (fun k_ hk_ => ⟨hk_.1.1, hk_.1.2⟩)); have n2_ := Aside0.mk (Kd.R_reok rfl hy0 (fun k_ e_ => HO_230002.out.1 k_ e_)); (first | have n3_ := Aside0.mk (blk_kept BK197.out hkp (Kd.R_ne HO_230002.out BK197.out (by decide))) | have n3_ := Aside0.mk (blk_kept (blk_drewN BK197.out _) hkp (Kd.R_ne HO_230002.out BK197.out (by decide)))); (first | have n4_ := Aside0.mk (blk_kept BK213.out hkp (Kd.R_ne HO_230002.out BK213.out (by decide))) | have n4_ := Aside0.mk (blk_kept (blk_drewN BK213.out _) hkp (Kd.R_ne HO_230002.out BK213.out (by decide)))); (first | have n5_ := Aside0.mk (blk_kept BK219.out hkp (Kd.R_ne HO_230002.out BK219.out (by decide))) | have n5_ := Aside0.mk (blk_kept (blk_drewN BK219.out _) hkp (Kd.R_ne HO_230002.out BK219.out (by decide)))); (first | have n6_ := Aside0.mk (blk_kept BK229.out hkp (Kd.R_ne HO_230002.out BK229.out (by decide))) | have n6_ := Aside0.mk (blk_kept (blk_drewN BK229.out _) hkp (Kd.R_ne HO_230002.out BK229.out (by decide)))); have n7_ := Aside0.mk (hb); clear HO_214002; clear HO_220002; clear HO_230002; clear BK197; clear BK213; clear BK219; clear BK229; clear HB; have HO_214002 := n0_; have HO_220002 := n1_; have HO_230002 := n2_; have BK197 := n3_; have BK213 := n4_; have BK219 := n5_; have BK229 := n6_; have HB := n7_; clear n0_ n1_ n2_ n3_ n4_ n5_ n6_ n7_; (try clear hb); (try clear hkp); (try clear hy0); have hcz128_0 : w127.cell? ⟨gb229, 0, none⟩ = some (.int .i64 t223) := (blk_cell BK229.out 0).trans rfl; have hcz128_1 : w127.cell? ⟨gb229, 1, none⟩ = some (.int .i64 t224) := (blk_cell BK229.out 1).trans rfl; have hcz128_2 : w127.cell? ⟨gb229, 2, none⟩ = some (.slice Ao47 t225.length co47) := (blk_cell BK229.out 2).trans rfl; have hfz128_0 := blk_frozen BK229.out 0; have hfz128_1 := blk_frozen BK229.out 1; have hfz128_2 := blk_frozen BK229.out 2) | ((with_reducible refine gate_callee (f := 24) rfl ?_); refine goesL_ (some 90) rfl rfl Try.func24 (by kernel_rfl) rfl #[.agg #[.int .i64 t223, .int .i64 t224, .slice Ao47 t247.length co47], .int .i64 1] rfl (by (try simp only [List.map_toArray, List.map_cons, List.map_nil]); first | done | (rw [show t247.length = t225.length from (Kd.R_reads' HO_230002.out).1.symm] <;> rfl) | rfl | (simp only [List.length_drop, List.length_take]; rfl)) ?_; (with_reducible refine (laws_heldField.calls kj74 t223 t224 _ _ t247 1 t248 _ ?side1 ?side2 A109.out).mono ?_); (case side1 => repeat (first | exact (Kd.R_reads' HO_230002.out).2.2 | (with_reducible refine Kd.C_alloc ?_ _) | (with_reducible refine Kd.C_drewN ?_ _) | (with_reducible refine Kd.C_drew ?_))); (case side2 => rw [show t247.length = t225.length from (Kd.R_reads' HO_230002.out).1.symm]; exact (Kd.R_reads' HO_230002.out).2.1); rintro e w129 ⟨rfl, hb⟩; refine ⟨_, rfl, ?_⟩; have n0_ := Aside0.mk (Kd.R_below (by (with_reducible repeat (first | apply Kd.R_alloc | apply Kd.R_drewN | apply Kd.R_drew)); exact HO_214002.out) hb); have n1_ := Aside0.mk (Kd.R_below (by (with_reducible repeat (first | apply Kd.R_alloc | apply Kd.R_drewN | apply Kd.R_drew)); exact HO_220002.out) hb); have n2_ := Aside0.mk (Kd.R_below (by (with_reducible repeat (first | apply Kd.R_alloc | apply Kd.R_drewN | apply Kd.R_drew)); exact HO_230002.out) hb); have n3_ := Aside0.mk (blk_below (g := gb197) (o := .cells #[.int .i64 a0_0, .int .i64 a0_1, .slice A0_2 l0_2.length c0_2] 24 (0, 0)) (by (with_reducible repeat (first | refine blk_drewN ?_ _ | refine blk_drew ?_ | refine blk_alloc ?_ _)); exact BK197.out) hb); have n4_ := Aside0.mk (blk_below (g := gb213) (o := .cells #[.int .i64 t207, .int .i64 t208, .slice Ao30 t209.length co30] 26 (0, 0)) (by (with_reducible repeat (first | refine blk_drewN ?_ _ | refine blk_drew ?_ | refine blk_alloc ?_ _)); exact BK213.out) hb); have n5_ := Aside0.mk (blk_below (g := gb219) (o := .cells #[.int .i64 t214, .int .i64 t215, .slice Ao37 t242.length co37] 26 (0, 0)) (by (with_reducible repeat (first | refine blk_drewN ?_ _ | refine blk_drew ?_ | refine blk_alloc ?_ _)); exact BK219.out) hb); have n6_ := Aside0.mk (blk_below (g := gb229) (o := .cells #[.int .i64 t223, .int .i64 t224, .slice Ao47 t225.length co47] 26 (0, 0)) (by (with_reducible repeat (first | refine blk_drewN ?_ _ | refine blk_drew ?_ | refine blk_alloc ?_ _)); exact BK229.out) hb); have n7_ := Aside0.mk (below_step (by repeat (first | (with_reducible first | exact HB.out | apply below_alloc | apply pw_below_drewN | apply below_drew1 | refine below_set ?_ GE197.out | refine below_set ?_ GE213.out | refine below_set ?_ GE219.out | refine below_set ?_ GE229.out) | exact HB.out)) hb); clear HO_214002; clear HO_220002; clear HO_230002; clear BK197; clear BK213; clear BK219; clear BK229; clear HB; have HO_214002 := n0_; have HO_220002 := n1_; have HO_230002 := n2_; have BK197 := n3_; have BK213 := n4_; have BK219 := n5_; have BK229 := n6_; have HB := n7_; clear n0_ n1_ n2_ n3_ n4_ n5_ n6_ n7_; (try clear hb); (try clear hb2); (try clear hk); (try clear hi); have hnb130 := NB197_213.out; have hnc130 := NB213_197.out; have hnb131 := NB197_219.out; have hnc131 := NB219_197.out; have hcz132_0 : w129.cell? ⟨gb197, 0, none⟩ = some (.int .i64 a0_0) := (blk_cell BK197.out 0).trans rfl; have hcz132_1 : w129.cell? ⟨gb197, 1, none⟩ = some (.int .i64 a0_1) := (blk_cell BK197.out 1).trans rfl; have hcz132_2 : w129.cell? ⟨gb197, 2, none⟩ = some (.slice A0_2 l0_2.length c0_2) := (blk_cell BK197.out 2).trans rfl; have hfz132_0 := blk_frozen BK197.out 0; have hfz132_1 := blk_frozen BK197.out 1; have hfz132_2 := blk_frozen BK197.out 2) | ((with_reducible refine gate_callee (f := 17) rfl ?_); refine goesL_ (some 98) rfl rfl Try.func17 (by kernel_rfl) rfl #[.agg #[.int .i64 a0_0, .int .i64 a0_1, .slice A0_2 l0_2.length c0_2]] rfl (by (try simp only [List.map_toArray, List.map_cons, List.map_nil]); first | done | rfl | (simp only [List.length_drop, List.length_take]; rfl)) ?_; (with_reducible refine (laws_toField.calls kj74 a0_0 a0_1 _ _ l0_2 t249 t250 t251 _ ?side1 ?side2 A119.out).mono ?_); (case side1 => repeat (first | exact (Kd.C_below HR0_2.out HB.out) | (with_reducible refine Kd.C_alloc ?_ _) | (with_reducible refine Kd.C_drewN ?_ _) | (with_reducible refine Kd.C_drew ?_))); (case side2 => exact HC0_2.out); rintro e w133 ⟨v252, rfl, ho0, hb⟩; refine ⟨_, rfl, ?_⟩; have n0_ := Aside0.mk (Kd.R_elder' (by (with_reducible repeat (first | apply Kd.R_alloc | apply Kd.R_drewN | apply Kd.R_drew)); exact HO_214002.out) (Kd.R_base ho0) hb); have n1_ := Aside0.mk (Kd.R_elder' (by (with_reducible repeat (first | apply Kd.R_alloc | apply Kd.R_drewN | apply Kd.R_drew)); exact HO_220002.out) (Kd.R_base ho0) hb); have n2_ := Aside0.mk (Kd.R_elder' (by (with_reducible repeat (first | apply Kd.R_alloc | apply Kd.R_drewN | apply Kd.R_drew)); exact HO_230002.out) (Kd.R_base ho0) hb); have n3_ := Aside0.mk (Kd.R_lower (Kd.R_new' (Kd.R_new' (Kd.R_new' ho0 (Kd.R_lt (by (with_reducible repeat (first | apply Kd.R_alloc | apply Kd.R_drewN | apply Kd.R_drew)); exact HO_214002.out))) (Kd.R_lt (by (with_reducible repeat (first | apply Kd.R_alloc | apply Kd.R_drewN | apply Kd.R_drew)); exact HO_220002.out))) (Kd.R_lt (by (with_reducible repeat (first | apply Kd.R_alloc | apply Kd.R_drewN | apply Kd.R_drew)); exact HO_230002.out))) (below_size (by repeat (first | (with_reducible first | exact HB.out | apply below_alloc | apply pw_below_drewN | apply below_drew1 | refine below_set ?_ GE197.out | refine below_set ?_ GE213.out | refine below_set ?_ GE219.out | refine below_set ?_ GE229.out) | exact HB.out)))); have n4_ := Aside0.mk (blk_below (g := gb197) (o := .cells #[.int .i64 a0_0, .int .i64 a0_1, .slice A0_2 l0_2.length c0_2] 24 (0, 0)) (by (with_reducible repeat (first | refine blk_drewN ?_ _ | refine blk_drew ?_ | refine blk_alloc ?_ _)); exact BK197.out) hb); have n5_ := Aside0.mk (blk_below (g := gb213) (o := .cells #[.int .i64 t207, .int .i64 t208, .slice Ao30 t209.length co30] 26 (0, 0)) (by (with_reducible repeat (first | refine blk_drewN ?_ _ | refine blk_drew ?_ | refine blk_alloc ?_ _)); exact BK213.out) hb); have n6_ := Aside0.mk (blk_below (g := gb219) (o := .cells #[.int .i64 t214, .int .i64 t215, .slice Ao37 t242.length co37] 26 (0, 0)) (by (with_reducible repeat (first | refine blk_drewN ?_ _ | refine blk_drew ?_ | refine blk_alloc ?_ _)); exact BK219.out) hb); have n7_ := Aside0.mk (blk_below (g := gb229) (o := .cells #[.int .i64 t223, .int .i64 t224, .slice Ao47 t225.length co47] 26 (0, 0)) (by (with_reducible repeat (first | refine blk_drewN ?_ _ | refine blk_drew ?_ | refine blk_alloc ?_ _)); exact BK229.out) hb); have n8_ := Aside0.mk (below_step (by repeat (first | (with_reducible first | exact HB.out | apply below_alloc | apply pw_below_drewN | apply below_drew1 | refine below_set ?_ GE197.out | refine below_set ?_ GE213.out | refine below_set ?_ GE219.out | refine below_set ?_ GE229.out) | exact HB.out)) hb); clear HO_214002; clear HO_220002; clear HO_230002; clear BK197; clear BK213; clear BK219; clear BK229; clear HB; have HO_214002 := n0_; have HO_220002 := n1_; have HO_230002 := n2_; have HO253 := n3_; have BK197 := n4_; have BK213 := n5_; have BK219 := n6_; have BK229 := n7_; have HB := n8_; clear n0_ n1_ n2_ n3_ n4_ n5_ n6_ n7_ n8_; (try clear hb); (try clear hb2); (try clear hk); (try clear hi); (try clear ho0)) | ((with_reducible refine gate_callee (f := 18) rfl ?_); refine goesL_ (some 101) rfl rfl Try.func18 (by kernel_rfl) rfl #[.slice A2 l2.length c2] rfl (by (try simp only [List.map_toArray, List.map_cons, List.map_nil]); first | done | rfl | (simp only [List.length_drop, List.length_take]; rfl)) ?_; (with_reducible refine (laws_toIntS.calls kj74 _ _ l2 t254 _ ?side1 ?side2 A120.out).mono ?_); (case side1 => repeat (first | exact (Kd.C_below HR2.out HB.out) | (with_reducible refine Kd.C_alloc ?_ _) | (with_reducible refine Kd.C_drewN ?_ _) | (with_reducible refine Kd.C_drew ?_))); (case side2 => exact HC2.out); rintro e w134 ⟨v255, rfl, ho0, hb⟩; refine ⟨_, rfl, ?_⟩; have n0_ := Aside0.mk (Kd.R_elder' (by (with_reducible repeat (first | apply Kd.R_alloc | apply Kd.R_drewN | apply Kd.R_drew)); exact HO_214002.out) (Kd.R_base ho0) hb); have n1_ := Aside0.mk (Kd.R_elder' (by (with_reducible repeat (first | apply Kd.R_alloc | apply Kd.R_drewN | apply Kd.R_drew)); exact HO_220002.out) (Kd.R_base ho0) hb); have n2_ := Aside0.mk (Kd.R_elder' (by (with_reducible repeat (first | apply Kd.R_alloc | apply Kd.R_drewN | apply Kd.R_drew)); exact HO_230002.out) (Kd.R_base ho0) hb); have n3_ := Aside0.mk (Kd.R_elder' (by (with_reducible repeat (first | apply Kd.R_alloc | apply Kd.R_drewN | apply Kd.R_drew)); exact HO253.out) (Kd.R_base ho0) hb); have n4_ := Aside0.mk (Kd.R_lower (Kd.R_new' (Kd.R_new' (Kd.R_new' (Kd.R_new' ho0 (Kd.R_lt (by (with_reducible repeat (first | apply Kd.R_alloc | apply Kd.R_drewN | apply Kd.R_drew)); exact HO_214002.out))) (Kd.R_lt (by (with_reducible repeat (first | apply Kd.R_alloc | apply Kd.R_drewN | apply Kd.R_drew)); exact HO_220002.out))) (Kd.R_lt (by (with_reducible repeat (first | apply Kd.R_alloc | apply Kd.R_drewN | apply Kd.R_drew)); exact HO_230002.out))) (Kd.R_lt (by (with_reducible repeat (first | apply Kd.R_alloc | apply Kd.R_drewN | apply Kd.R_drew)); exact HO253.out))) (below_size (by repeat (first | (with_reducible first | exact HB.out | apply below_alloc | apply pw_below_drewN | apply below_drew1 | refine below_set ?_ GE197.out | refine below_set ?_ GE213.out | refine below_set ?_ GE219.out | refine below_set ?_ GE229.out) | exact HB.out)))); have n5_ := Aside0.mk (blk_below (g := gb197) (o := .cells #[.int .i64 a0_0, .int .i64 a0_1, .slice A0_2 l0_2.length c0_2] 24 (0, 0)) (by (with_reducible repeat (first | refine blk_drewN ?_ _ | refine blk_drew ?_ | refine blk_alloc ?_ _)); exact BK197.out) hb); have n6_ := Aside0.mk (blk_below (g := gb213) (o := .cells #[.int .i64 t207, .int .i64 t208, .slice Ao30 t209.length co30] 26 (0, 0)) (by (with_reducible repeat (first | refine blk_drewN ?_ _ | refine blk_drew ?_ | refine blk_alloc ?_ _)); exact BK213.out) hb); have n7_ := Aside0.mk (blk_below (g := gb219) (o := .cells #[.int .i64 t214, .int .i64 t215, .slice Ao37 t242.length co37] 26 (0, 0)) (by (with_reducible repeat (first | refine blk_drewN ?_ _ | refine blk_drew ?_ | refine blk_alloc ?_ _)); exact BK219.out) hb); have n8_ := Aside0.mk (blk_below (g := gb229) (o := .cells #[.int .i64 t223, .int .i64 t224, .slice Ao47 t225.length co47] 26 (0, 0)) (by (with_reducible repeat (first | refine blk_drewN ?_ _ | refine blk_drew ?_ | refine blk_alloc ?_ _)); exact BK229.out) hb); have n9_ := Aside0.mk (below_step (by repeat (first | (with_reducible first | exact HB.out | apply below_alloc | apply pw_below_drewN | apply below_drew1 | refine below_set ?_ GE197.out | refine below_set ?_ GE213.out | refine below_set ?_ GE219.out | refine below_set ?_ GE229.out) | exact HB.out)) hb); clear HO_214002; clear HO_220002; clear HO_230002; clear HO253; clear BK197; clear BK213; clear BK219; clear BK229; clear HB; have HO_214002 := n0_; have HO_220002 := n1_; have HO_230002 := n2_; have HO253 := n3_; have HO256 := n4_; have BK197 := n5_; have BK213 := n6_; have BK219 := n7_; have BK229 := n8_; have HB := n9_; clear n0_ n1_ n2_ n3_ n4_ n5_ n6_ n7_ n8_ n9_; (try clear hb); (try clear hb2); (try clear hk); (try clear hi); (try clear ho0); obtain ⟨Ao135, co135, eo135⟩ := Kd.R_slice HO253.out; subst eo135; obtain ⟨Ao136, co136, eo136⟩ := Kd.R_slice HO256.out; subst eo136) | ((with_reducible refine gate_callee (f := 19) rfl ?_); refine goesL_ (some 102) rfl rfl Try.func19 (by kernel_rfl) rfl #[.agg #[.int .i64 t249, .int .i64 t250, .slice Ao135 t251.length co135], .int .i64 a1, .slice Ao136 t254.length co136] rfl (by (try simp only [List.map_toArray, List.map_cons, List.map_nil]); first | done | rfl | (simp only [List.length_drop, List.length_take]; rfl)) ?_; (with_reducible refine (impl_AutoTile.calls kj74 t249 t250 _ _ t251 a1 _ _ t254 t257 t258 t259 t262 _ ?side1 ?side2 ?side3 ?side4 A121.out).mono ?_); (case side1 => repeat (first | exact (Kd.R_reads' HO253.out).2.2 | (with_reducible refine Kd.C_alloc ?_ _) | (with_reducible refine Kd.C_drewN ?_ _) | (with_reducible refine Kd.C_drew ?_))); (case side2 => exact (Kd.R_reads' HO253.out).2.1); (case side3 => repeat (first | exact (Kd.R_reads' HO256.out).2.2 | (with_reducible refine Kd.C_alloc ?_ _) | (with_reducible refine Kd.C_drewN ?_ _) | (with_reducible refine Kd.C_drew ?_))); (case side4 => exact (Kd.R_reads' HO256.out).2.1); rintro e w137 ⟨v260, rfl, ho0, hb⟩; refine ⟨_, rfl, ?_⟩; have n0_ := Aside0.mk (Kd.R_elder' (by (with_reducible repeat (first | apply Kd.R_alloc | apply Kd.R_drewN | apply Kd.R_drew)); exact HO_214002.out) (Kd.R_base ho0) hb); have n1_ := Aside0.mk (Kd.R_elder' (by (with_reducible repeat (first | apply Kd.R_alloc | apply Kd.R_drewN | apply Kd.R_drew)); exact HO_220002.out) (Kd.R_base ho0) hb); have n2_ := Aside0.mk (Kd.R_elder' (by (with_reducible repeat (first | apply Kd.R_alloc | apply Kd.R_drewN | apply Kd.R_drew)); exact HO_230002.out) (Kd.R_base ho0) hb); have n3_ := Aside0.mk (Kd.R_elder' (by (with_reducible repeat (first | apply Kd.R_alloc | apply Kd.R_drewN | apply Kd.R_drew)); exact HO253.out) (Kd.R_base ho0) hb); have n4_ := Aside0.mk (Kd.R_elder' (by (with_reducible repeat (first | apply Kd.R_alloc | apply Kd.R_drewN | apply Kd.R_drew)); exact HO256.out) (Kd.R_base ho0) hb); have n5_ := Aside0.mk (Kd.R_lower (Kd.R_new' (Kd.R_new' (Kd.R_new' (Kd.R_new' (Kd.R_new' ho0 (Kd.R_lt (by (with_reducible repeat (first | apply Kd.R_alloc | apply Kd.R_drewN | apply Kd.R_drew)); exact HO_214002.out))) (Kd.R_lt (by (with_reducible repeat (first | apply Kd.R_alloc | apply Kd.R_drewN | apply Kd.R_drew)); exact HO_220002.out))) (Kd.R_lt (by (with_reducible repeat (first | apply Kd.R_alloc | apply Kd.R_drewN | apply Kd.R_drew)); exact HO_230002.out))) (Kd.R_lt (by (with_reducible repeat (first | apply Kd.R_alloc | apply Kd.R_drewN | apply Kd.R_drew)); exact HO253.out))) (Kd.R_lt (by (with_reducible repeat (first | apply Kd.R_alloc | apply Kd.R_drewN | apply Kd.R_drew)); exact HO256.out))) (below_size (by repeat (first | (with_reducible first | exact HB.out | apply below_alloc | apply pw_below_drewN | apply below_drew1 | refine below_set ?_ GE197.out | refine below_set ?_ GE213.out | refine below_set ?_ GE219.out | refine below_set ?_ GE229.out) | exact HB.out)))); have n6_ := Aside0.mk (blk_below (g := gb197) (o := .cells #[.int .i64 a0_0, .int .i64 a0_1, .slice A0_2 l0_2.length c0_2] 24 (0, 0)) (by (with_reducible repeat (first | refine blk_drewN ?_ _ | refine blk_drew ?_ | refine blk_alloc ?_ _)); exact BK197.out) hb); have n7_ := Aside0.mk (blk_below (g := gb213) (o := .cells #[.int .i64 t207, .int .i64 t208, .slice Ao30 t209.length co30] 26 (0, 0)) (by (with_reducible repeat (first | refine blk_drewN ?_ _ | refine blk_drew ?_ | refine blk_alloc ?_ _)); exact BK213.out) hb); have n8_ := Aside0.mk (blk_below (g := gb219) (o := .cells #[.int .i64 t214, .int .i64 t215, .slice Ao37 t242.length co37] 26 (0, 0)) (by (with_reducible repeat (first | refine blk_drewN ?_ _ | refine blk_drew ?_ | refine blk_alloc ?_ _)); exact BK219.out) hb); have n9_ := Aside0.mk (blk_below (g := gb229) (o := .cells #[.int .i64 t223, .int .i64 t224, .slice Ao47 t225.length co47] 26 (0, 0)) (by (with_reducible repeat (first | refine blk_drewN ?_ _ | refine blk_drew ?_ | refine blk_alloc ?_ _)); exact BK229.out) hb); have n10_ := Aside0.mk (below_step (by repeat (first | (with_reducible first | exact HB.out | apply below_alloc | apply pw_below_drewN | apply below_drew1 | refine below_set ?_ GE197.out | refine below_set ?_ GE213.out | refine below_set ?_ GE219.out | refine below_set ?_ GE229.out) | exact HB.out)) hb); clear HO_214002; clear HO_220002; clear HO_230002; clear HO253; clear HO256; clear BK197; clear BK213; clear BK219; clear BK229; clear HB; have HO_214002 := n0_; have HO_220002 := n1_; have HO_230002 := n2_; have HO253 := n3_; have HO256 := n4_; have HO261 := n5_; have BK197 := n6_; have BK213 := n7_; have BK219 := n8_; have BK229 := n9_; have HB := n10_; clear n0_ n1_ n2_ n3_ n4_ n5_ n6_ n7_ n8_ n9_ n10_; (try clear hb); (try clear hb2); (try clear hk); (try clear hi); (try clear ho0)) | ((with_reducible refine gate_dst (N := 17) rfl ?_); refine box_event ?hg (N := 17) ?hd (cs := #[.int .i64 0, .int .i64 0, .slice none 0 0]) (t := 26) ?hr ?_; (case hd => rfl); (case hg => rfl); (case hr => first | (go_simp; done) | (go_simp; rfl)); intro gb263 hg w138 hbox hb; have n0_ := Aside0.mk (Kd.R_below (by (with_reducible repeat (first | apply Kd.R_alloc | apply Kd.R_drewN | apply Kd.R_drew)); exact HO_214002.out) hb); have n1_ := Aside0.mk (Kd.R_below (by (with_reducible repeat (first | apply Kd.R_alloc | apply Kd.R_drewN | apply Kd.R_drew)); exact HO_220002.out) hb); have n2_ := Aside0.mk (Kd.R_below (by (with_reducible repeat (first | apply Kd.R_alloc | apply Kd.R_drewN | apply Kd.R_drew)); exact HO_230002.out) hb); have n3_ := Aside0.mk (Kd.R_below (by (with_reducible repeat (first | apply Kd.R_alloc | apply Kd.R_drewN | apply Kd.R_drew)); exact HO253.out) hb); have n4_ := Aside0.mk (Kd.R_below (by (with_reducible repeat (first | apply Kd.R_alloc | apply Kd.R_drewN | apply Kd.R_drew)); exact HO256.out) hb); have n5_ := Aside0.mk (Kd.R_below (by (with_reducible repeat (first | apply Kd.R_alloc | apply Kd.R_drewN | apply Kd.R_drew)); exact HO261.out) hb); have n6_ := Aside0.mk (blk_below (g := gb197) (o := .cells #[.int .i64 a0_0, .int .i64 a0_1, .slice A0_2 l0_2.length c0_2] 24 (0, 0)) (by (with_reducible repeat (first | refine blk_drewN ?_ _ | refine blk_drew ?_ | refine blk_alloc ?_ _)); exact BK197.out) hb); have n7_ := Aside0.mk (blk_below (g := gb213) (o := .cells #[.int .i64 t207, .int .i64 t208, .slice Ao30 t209.length co30] 26 (0, 0)) (by (with_reducible repeat (first | refine blk_drewN ?_ _ | refine blk_drew ?_ | refine blk_alloc ?_ _)); exact BK213.out) hb); have n8_ := Aside0.mk (blk_below (g := gb219) (o := .cells #[.int .i64 t214, .int .i64 t215, .slice Ao37 t242.length co37] 26 (0, 0)) (by (with_reducible repeat (first | refine blk_drewN ?_ _ | refine blk_drew ?_ | refine blk_alloc ?_ _)); exact BK219.out) hb); have n9_ := Aside0.mk (blk_below (g := gb229) (o := .cells #[.int .i64 t223, .int .i64 t224, .slice Ao47 t225.length co47] 26 (0, 0)) (by (with_reducible repeat (first | refine blk_drewN ?_ _ | refine blk_drew ?_ | refine blk_alloc ?_ _)); exact BK229.out) hb); have n10_ := Aside0.mk (below_step (by repeat (first | (with_reducible first | exact HB.out | apply below_alloc | apply pw_below_drewN | apply below_drew1 | refine below_set ?_ GE197.out | refine below_set ?_ GE213.out | refine below_set ?_ GE219.out | refine below_set ?_ GE229.out) | exact HB.out)) hb); have n11_ := Aside0.mk (hbox); have n12_ := Aside0.mk ((by rw [hg]; exact (below_size (by repeat (first | (with_reducible first | exact HB.out | apply below_alloc | apply pw_below_drewN | apply below_drew1 | refine below_set ?_ GE197.out | refine below_set ?_ GE213.out | refine below_set ?_ GE219.out | refine below_set ?_ GE229.out) | exact HB.out))) : w.heap.size ≤ gb263)); have n13_ := Aside0.mk ((by rw [hg]; exact (below_size (by repeat (first | (with_reducible first | exact HB.out | apply below_alloc | apply pw_below_drewN | apply below_drew1 | refine below_set ?_ GE197.out | refine below_set ?_ GE213.out | refine below_set ?_ GE219.out | refine below_set ?_ GE229.out) | exact HB.out))) : w.heap.size ≤ gb263)); have n14_ := Aside0.mk ((by rw [hg]; exact Nat.ne_of_lt (blk_lt (g := gb197) (o := .cells #[.int .i64 a0_0, .int .i64 a0_1, .slice A0_2 l0_2.length c0_2] 24 (0, 0)) (by (with_reducible repeat (first | refine blk_drewN ?_ _ | refine blk_drew ?_ | refine blk_alloc ?_ _)); exact BK197.out)) : gb197 ≠ gb263)); have n15_ := Aside0.mk ((by rw [hg]; exact Nat.ne_of_gt (blk_lt (g := gb197) (o := .cells #[.int .i64 a0_0, .int .i64 a0_1, .slice A0_2 l0_2.length c0_2] 24 (0, 0)) (by (with_reducible repeat (first | refine blk_drewN ?_ _ | refine blk_drew ?_ | refine blk_alloc ?_ _)); exact BK197.out)) : gb263 ≠ gb197)); have n16_ := Aside0.mk ((by rw [hg]; exact Nat.ne_of_lt (blk_lt (g := gb213) (o := .cells #[.int .i64 t207, .int .i64 t208, .slice Ao30 t209.length co30] 26 (0, 0)) (by (with_reducible repeat (first | refine blk_drewN ?_ _ | refine blk_drew ?_ | refine blk_alloc ?_ _)); exact BK213.out)) : gb213 ≠ gb263)); have n17_ := Aside0.mk ((by rw [hg]; exact Nat.ne_of_gt (blk_lt (g := gb213) (o := .cells #[.int .i64 t207, .int .i64 t208, .slice Ao30 t209.length co30] 26 (0, 0)) (by (with_reducible repeat (first | refine blk_drewN ?_ _ | refine blk_drew ?_ | refine blk_alloc ?_ _)); exact BK213.out)) : gb263 ≠ gb213)); have n18_ := Aside0.mk ((by rw [hg]; exact Nat.ne_of_lt (blk_lt (g := gb219) (o := .cells #[.int .i64 t214, .int .i64 t215, .slice Ao37 t242.length co37] 26 (0, 0)) (by (with_reducible repeat (first | refine blk_drewN ?_ _ | refine blk_drew ?_ | refine blk_alloc ?_ _)); exact BK219.out)) : gb219 ≠ gb263)); have n19_ := Aside0.mk ((by rw [hg]; exact Nat.ne_of_gt (blk_lt (g := gb219) (o := .cells #[.int .i64 t214, .int .i64 t215, .slice Ao37 t242.length co37] 26 (0, 0)) (by (with_reducible repeat (first | refine blk_drewN ?_ _ | refine blk_drew ?_ | refine blk_alloc ?_ _)); exact BK219.out)) : gb263 ≠ gb219)); have n20_ := Aside0.mk ((by rw [hg]; exact Nat.ne_of_lt (blk_lt (g := gb229) (o := .cells #[.int .i64 t223, .int .i64 t224, .slice Ao47 t225.length co47] 26 (0, 0)) (by (with_reducible repeat (first | refine blk_drewN ?_ _ | refine blk_drew ?_ | refine blk_alloc ?_ _)); exact BK229.out)) : gb229 ≠ gb263)); have n21_ := Aside0.mk ((by rw [hg]; exact Nat.ne_of_gt (blk_lt (g := gb229) (o := .cells #[.int .i64 t223, .int .i64 t224, .slice Ao47 t225.length co47] 26 (0, 0)) (by (with_reducible repeat (first | refine blk_drewN ?_ _ | refine blk_drew ?_ | refine blk_alloc ?_ _)); exact BK229.out)) : gb263 ≠ gb229)); clear HO_214002; clear HO_220002; clear HO_230002; clear HO253; clear HO256; clear HO261; clear BK197; clear BK213; clear BK219; clear BK229; clear HB; have HO_214002 := n0_; have HO_220002 := n1_; have HO_230002 := n2_; have HO253 := n3_; have HO256 := n4_; have HO261 := n5_; have BK197 := n6_; have BK213 := n7_; have BK219 := n8_; have BK229 := n9_; have HB := n10_; have BK263 := n11_; have GW263 := n12_; have GE263 := n13_; have NB197_263 := n14_; have NB263_197 := n15_; have NB213_263 := n16_; have NB263_213 := n17_; have NB219_263 := n18_; have NB263_219 := n19_; have NB229_263 := n20_; have NB263_229 := n21_; clear n0_ n1_ n2_ n3_ n4_ n5_ n6_ n7_ n8_ n9_ n10_ n11_ n12_ n13_ n14_ n15_ n16_ n17_ n18_ n19_ n20_ n21_; clear hb hbox hg; have hnb139 := NB263_197.out; have hnc139 := NB197_263.out; have hnb140 := NB263_213.out; have hnc140 := NB213_263.out; have hnb141 := NB263_219.out; have hnc141 := NB219_263.out; have hnb142 := NB263_229.out; have hnc142 := NB229_263.out; have hcz143_0 : w138.cell? ⟨gb263, 0, none⟩ = some (.int .i64 0) := (blk_cell BK263.out 0).trans rfl; have hcz143_1 : w138.cell? ⟨gb263, 1, none⟩ = some (.int .i64 0) := (blk_cell BK263.out 1).trans rfl; have hcz143_2 : w138.cell? ⟨gb263, 2, none⟩ = some (.slice none 0 0) := (blk_cell BK263.out 2).trans rfl; have hfz143_0 := blk_frozen BK263.out 0; have hfz143_1 := blk_frozen BK263.out 1; have hfz143_2 := blk_frozen BK263.out 2; obtain ⟨Ao144, co144, eo144⟩ := Kd.R_slice HO261.out; subst eo144))
             (try simp only [Act.put, List.setIfInBounds_toArray, List.set_cons_zero, List.set_cons_succ])
             go_cut [113] (fun v113 wc => ∃ (kq : Nat) (x113_121 : Bool), v113 = .bool x113_121 ∧ Aside0 (laws_FnExactAutoTile.j2 kq t246 x113_121 t223 t224 t247 = some r) ∧ Aside0 (kq ≤ kj74) ∧ Aside0 (Kd.R (Kd.int .i64) 3 wc w.heap.size (fun k_ => some k_ ≠ ((.slice Ao37 t242.length co37) : Value).ownBlock ∧ some k_ ≠ ((.slice Ao47 t225.length co47) : Value).ownBlock ∧ some k_ ≠ ((.slice Ao144 t259.length co144) : Value).ownBlock) (.slice Ao30 t209.length co30) t209) ∧ Aside0 (Kd.R (Kd.int .i64) 3 wc w.heap.size (fun k_ => some k_ ≠ ((.slice Ao30 t209.length co30) : Value).ownBlock ∧ some k_ ≠ ((.slice Ao47 t225.length co47) : Value).ownBlock ∧ some k_ ≠ ((.slice Ao144 t259.length co144) : Value).ownBlock) (.slice Ao37 t242.length co37) t242) ∧ Aside0 (Kd.R (Kd.int .i64) 3 wc w.heap.size (fun k_ => some k_ ≠ ((.slice Ao30 t209.length co30) : Value).ownBlock ∧ some k_ ≠ ((.slice Ao37 t242.length co37) : Value).ownBlock ∧ some k_ ≠ ((.slice Ao144 t259.length co144) : Value).ownBlock) (.slice Ao47 t225.length co47) t247) ∧ Aside0 (Kd.R (Kd.int .i64) 3 wc w.heap.size (fun k_ => some k_ ≠ ((.slice Ao30 t209.length co30) : Value).ownBlock ∧ some k_ ≠ ((.slice Ao37 t242.length co37) : Value).ownBlock ∧ some k_ ≠ ((.slice Ao47 t225.length co47) : Value).ownBlock) (.slice Ao144 t259.length co144) t259) ∧ Aside0 (wc.heap[gb197]? = some (.cells #[.int .i64 a0_0, .int .i64 a0_1, (.slice A0_2 l0_2.length c0_2)] 24 (0, 0))) ∧ Aside0 (wc.heap[gb213]? = some (.cells #[.int .i64 t207, .int .i64 t208, (.slice Ao30 t209.length co30)] 26 (0, 0))) ∧ Aside0 (wc.heap[gb219]? = some (.cells #[.int .i64 t214, .int .i64 t215, (.slice Ao37 t242.length co37)] 26 (0, 0))) ∧ Aside0 (wc.heap[gb229]? = some (.cells #[.int .i64 t223, .int .i64 t224, (.slice Ao47 t225.length co47)] 26 (0, 0))) ∧ Aside0 (wc.heap[gb263]? = some (.cells #[.int .i64 t257, .int .i64 t258, (.slice Ao144 t259.length co144)] 26 (0, 0))) ∧ Aside0 (Below w.heap.size w wc))
             case first =>
              have H := HC122.out
              clear HC122
              replace H := Option.bind_eq_some_iff.mp H
              obtain ⟨t264, A1450, H⟩ := H
              replace H : (if t264 = true then (laws_FnExactAutoTile.j2 kj74 t246 (t262 != t212) t223 t224 t247) else (laws_FnExactAutoTile.j2 kj74 t246 true t223 t224 t247)) = some r := H
              have A145 := Aside0.mk A1450
              clear A1450
              by_cases c146 : t264 = true
              ·subst c146
               have H1 : (laws_FnExactAutoTile.j2 kj74 t246 (t262 != t212) t223 t224 t247) = some r := by rw [if_pos rfl] at H; exact H
               clear H
               have H := H1
               clear H1
               have H' := Aside0.mk H
               clear H
               have hnb147 := NB263_197.out
               have hnc147 := NB197_263.out
               have hnb148 := NB263_213.out
               have hnc148 := NB213_263.out
               have hnb149 := NB263_219.out
               have hnc149 := NB219_263.out
               have hnb150 := NB263_229.out
               have hnc150 := NB229_263.out
               have hcz151_0 : w138.cell? ⟨gb263, 0, none⟩ = some (.int .i64 0) := (blk_cell BK263.out 0).trans rfl
               have hcz151_1 : w138.cell? ⟨gb263, 1, none⟩ = some (.int .i64 0) := (blk_cell BK263.out 1).trans rfl
               have hcz151_2 : w138.cell? ⟨gb263, 2, none⟩ = some (.slice none 0 0) := (blk_cell BK263.out 2).trans rfl
               have hfz151_0 := blk_frozen BK263.out 0
               have hfz151_1 := blk_frozen BK263.out 1
               have hfz151_2 := blk_frozen BK263.out 2
               have hnb152 := NB213_197.out
               have hnc152 := NB197_213.out
               have hnb153 := NB213_219.out
               have hnc153 := NB219_213.out
               have hnb154 := NB213_229.out
               have hnc154 := NB229_213.out
               have hcz155_0 : w138.cell? ⟨gb213, 0, none⟩ = some (.int .i64 t207) := (blk_cell BK213.out 0).trans rfl
               have hcz155_1 : w138.cell? ⟨gb213, 1, none⟩ = some (.int .i64 t208) := (blk_cell BK213.out 1).trans rfl
               have hcz155_2 : w138.cell? ⟨gb213, 2, none⟩ = some (.slice Ao30 t209.length co30) := (blk_cell BK213.out 2).trans rfl
               have hfz155_0 := blk_frozen BK213.out 0
               have hfz155_1 := blk_frozen BK213.out 1
               have hfz155_2 := blk_frozen BK213.out 2
               go_wp2_with (first | ((with_reducible refine gate_callee (f := 20) rfl ?_); refine goesL_ (some 107) rfl rfl Try.func20 (by kernel_rfl) rfl #[.agg #[.int .i64 t257, .int .i64 t258, .slice Ao144 t259.length co144], .agg #[.int .i64 t207, .int .i64 t208, .slice Ao30 t209.length co30]] rfl (by (try simp only [List.map_toArray, List.map_cons, List.map_nil]); first | done | rfl | (simp only [List.length_drop, List.length_take]; rfl)) ?_; (with_reducible refine (laws_eqField.calls kj74 t257 t258 _ _ t259 t207 t208 _ _ t209 true _ ?side1 ?side2 ?side3 ?side4 A145.out).mono ?_); (case side1 => refine (Kd.R_reads' (e := 3) (base := w.heap.size) (ok := fun k_ => (((((True ∧ some k_ ≠ (.slice Ao30 t209.length co30 : Value).ownBlock) ∧ some k_ ≠ (.slice Ao37 t242.length co37 : Value).ownBlock) ∧ some k_ ≠ (.slice Ao47 t225.length co47 : Value).ownBlock) ∧ some k_ ≠ (.slice Ao135 t251.length co135 : Value).ownBlock) ∧ some k_ ≠ (.slice Ao136 t254.length co136 : Value).ownBlock)) (n := t259.length) (c := co144) ?_).2.2; exact (by (with_reducible repeat (first | apply Kd.R_alloc | apply Kd.R_drewN | apply Kd.R_drew)); exact (Kd.R_mono (Kd.R_far (p := ⟨gb263, 2, none⟩) (Kd.R_far (p := ⟨gb263, 1, none⟩) (Kd.R_far (p := ⟨gb263, 0, none⟩) (Kd.R_types HO261.out BK263.out (by decide)) (fun _ hk => hk.2) (.int .i64 t257)) (fun _ hk => hk.2) (.int .i64 t258)) (fun _ hk => hk.2) (.slice Ao144 t259.length co144)) (fun _ h_ => h_.1)))); (case side2 => exact (Kd.R_reads' HO261.out).2.1); (case side3 => refine (Kd.R_reads' (e := 3) (base := w.heap.size) (ok := fun k_ => ((((some k_ ≠ (.slice Ao37 t242.length co37 : Value).ownBlock ∧ some k_ ≠ (.slice Ao47 t225.length co47 : Value).ownBlock) ∧ some k_ ≠ (.slice Ao135 t251.length co135 : Value).ownBlock) ∧ some k_ ≠ (.slice Ao136 t254.length co136 : Value).ownBlock) ∧ some k_ ≠ (.slice Ao144 t259.length co144 : Value).ownBlock)) (n := t209.length) (c := co30) ?_).2.2; exact (by (with_reducible repeat (first | apply Kd.R_alloc | apply Kd.R_drewN | apply Kd.R_drew)); exact (Kd.R_mono (Kd.R_far (p := ⟨gb263, 2, none⟩) (Kd.R_far (p := ⟨gb263, 1, none⟩) (Kd.R_far (p := ⟨gb263, 0, none⟩) (Kd.R_types HO_214002.out BK263.out (by decide)) (fun _ hk => hk.2) (.int .i64 t257)) (fun _ hk => hk.2) (.int .i64 t258)) (fun _ hk => hk.2) (.slice Ao144 t259.length co144)) (fun _ h_ => h_.1)))); (case side4 => exact (Kd.R_reads' HO_214002.out).2.1); rintro e w156 ⟨rfl, hb⟩; refine ⟨_, rfl, ?_⟩; have n0_ := Aside0.mk (Kd.R_below (by (with_reducible repeat (first | apply Kd.R_alloc | apply Kd.R_drewN | apply Kd.R_drew)); exact (Kd.R_mono (Kd.R_far (p := ⟨gb263, 2, none⟩) (Kd.R_far (p := ⟨gb263, 1, none⟩) (Kd.R_far (p := ⟨gb263, 0, none⟩) (Kd.R_types HO_214002.out BK263.out (by decide)) (fun _ hk => hk.2) (.int .i64 t257)) (fun _ hk => hk.2) (.int .i64 t258)) (fun _ hk => hk.2) (.slice Ao144 t259.length co144)) (fun _ h_ => h_.1))) hb); have n1_ := Aside0.mk (Kd.R_below (by (with_reducible repeat (first | apply Kd.R_alloc | apply Kd.R_drewN | apply Kd.R_drew)); exact (Kd.R_mono (Kd.R_far (p := ⟨gb263, 2, none⟩) (Kd.R_far (p := ⟨gb263, 1, none⟩) (Kd.R_far (p := ⟨gb263, 0, none⟩) (Kd.R_types HO_220002.out BK263.out (by decide)) (fun _ hk => hk.2) (.int .i64 t257)) (fun _ hk => hk.2) (.int .i64 t258)) (fun _ hk => hk.2) (.slice Ao144 t259.length co144)) (fun _ h_ => h_.1))) hb); have n2_ := Aside0.mk (Kd.R_below (by (with_reducible repeat (first | apply Kd.R_alloc | apply Kd.R_drewN | apply Kd.R_drew)); exact (Kd.R_mono (Kd.R_far (p := ⟨gb263, 2, none⟩) (Kd.R_far (p := ⟨gb263, 1, none⟩) (Kd.R_far (p := ⟨gb263, 0, none⟩) (Kd.R_types HO_230002.out BK263.out (by decide)) (fun _ hk => hk.2) (.int .i64 t257)) (fun _ hk => hk.2) (.int .i64 t258)) (fun _ hk => hk.2) (.slice Ao144 t259.length co144)) (fun _ h_ => h_.1))) hb); have n3_ := Aside0.mk (Kd.R_below (by (with_reducible repeat (first | apply Kd.R_alloc | apply Kd.R_drewN | apply Kd.R_drew)); exact (Kd.R_mono (Kd.R_far (p := ⟨gb263, 2, none⟩) (Kd.R_far (p := ⟨gb263, 1, none⟩) (Kd.R_far (p := ⟨gb263, 0, none⟩) (Kd.R_types HO253.out BK263.out (by decide)) (fun _ hk => hk.2) (.int .i64 t257)) (fun _ hk => hk.2) (.int .i64 t258)) (fun _ hk => hk.2) (.slice Ao144 t259.length co144)) (fun _ h_ => h_.1))) hb); have n4_ := Aside0.mk (Kd.R_below (by (with_reducible repeat (first | apply Kd.R_alloc | apply Kd.R_drewN | apply Kd.R_drew)); exact (Kd.R_mono (Kd.R_far (p := ⟨gb263, 2, none⟩) (Kd.R_far (p := ⟨gb263, 1, none⟩) (Kd.R_far (p := ⟨gb263, 0, none⟩) (Kd.R_types HO256.out BK263.out (by decide)) (fun _ hk => hk.2) (.int .i64 t257)) (fun _ hk => hk.2) (.int .i64 t258)) (fun _ hk => hk.2) (.slice Ao144 t259.length co144)) (fun _ h_ => h_.1))) hb); have n5_ := Aside0.mk (Kd.R_below (by (with_reducible repeat (first | apply Kd.R_alloc | apply Kd.R_drewN | apply Kd.R_drew)); exact (Kd.R_mono (Kd.R_far (p := ⟨gb263, 2, none⟩) (Kd.R_far (p := ⟨gb263, 1, none⟩) (Kd.R_far (p := ⟨gb263, 0, none⟩) (Kd.R_types HO261.out BK263.out (by decide)) (fun _ hk => hk.2) (.int .i64 t257)) (fun _ hk => hk.2) (.int .i64 t258)) (fun _ hk => hk.2) (.slice Ao144 t259.length co144)) (fun _ h_ => h_.1))) hb); have n6_ := Aside0.mk (blk_below (g := gb197) (o := .cells #[.int .i64 a0_0, .int .i64 a0_1, .slice A0_2 l0_2.length c0_2] 24 (0, 0)) (by (with_reducible repeat (first | refine blk_drewN ?_ _ | refine blk_drew ?_ | refine blk_alloc ?_ _)); refine blk_far ?_ NB197_263.out _; (with_reducible repeat (first | refine blk_drewN ?_ _ | refine blk_drew ?_ | refine blk_alloc ?_ _)); refine blk_far ?_ NB197_263.out _; (with_reducible repeat (first | refine blk_drewN ?_ _ | refine blk_drew ?_ | refine blk_alloc ?_ _)); refine blk_far ?_ NB197_263.out _; (with_reducible repeat (first | refine blk_drewN ?_ _ | refine blk_drew ?_ | refine blk_alloc ?_ _)); exact BK197.out) hb); have n7_ := Aside0.mk (blk_below (g := gb213) (o := .cells #[.int .i64 t207, .int .i64 t208, .slice Ao30 t209.length co30] 26 (0, 0)) (by (with_reducible repeat (first | refine blk_drewN ?_ _ | refine blk_drew ?_ | refine blk_alloc ?_ _)); refine blk_far ?_ NB213_263.out _; (with_reducible repeat (first | refine blk_drewN ?_ _ | refine blk_drew ?_ | refine blk_alloc ?_ _)); refine blk_far ?_ NB213_263.out _; (with_reducible repeat (first | refine blk_drewN ?_ _ | refine blk_drew ?_ | refine blk_alloc ?_ _)); refine blk_far ?_ NB213_263.out _; (with_reducible repeat (first | refine blk_drewN ?_ _ | refine blk_drew ?_ | refine blk_alloc ?_ _)); exact BK213.out) hb); have n8_ := Aside0.mk (blk_below (g := gb219) (o := .cells #[.int .i64 t214, .int .i64 t215, .slice Ao37 t242.length co37] 26 (0, 0)) (by (with_reducible repeat (first | refine blk_drewN ?_ _ | refine blk_drew ?_ | refine blk_alloc ?_ _)); refine blk_far ?_ NB219_263.out _; (with_reducible repeat (first | refine blk_drewN ?_ _ | refine blk_drew ?_ | refine blk_alloc ?_ _)); refine blk_far ?_ NB219_263.out _; (with_reducible repeat (first | refine blk_drewN ?_ _ | refine blk_drew ?_ | refine blk_alloc ?_ _)); refine blk_far ?_ NB219_263.out _; (with_reducible repeat (first | refine blk_drewN ?_ _ | refine blk_drew ?_ | refine blk_alloc ?_ _)); exact BK219.out) hb); have n9_ := Aside0.mk (blk_below (g := gb229) (o := .cells #[.int .i64 t223, .int .i64 t224, .slice Ao47 t225.length co47] 26 (0, 0)) (by (with_reducible repeat (first | refine blk_drewN ?_ _ | refine blk_drew ?_ | refine blk_alloc ?_ _)); refine blk_far ?_ NB229_263.out _; (with_reducible repeat (first | refine blk_drewN ?_ _ | refine blk_drew ?_ | refine blk_alloc ?_ _)); refine blk_far ?_ NB229_263.out _; (with_reducible repeat (first | refine blk_drewN ?_ _ | refine blk_drew ?_ | refine blk_alloc ?_ _)); refine blk_far ?_ NB229_263.out _; (with_reducible repeat (first | refine blk_drewN ?_ _ | refine blk_drew ?_ | refine blk_alloc ?_ _)); exact BK229.out) hb); have n10_ := Aside0.mk (blk_below (g := gb263) (o := .cells #[.int .i64 t257, .int .i64 t258, .slice Ao144 t259.length co144] 26 (0, 0)) (by (with_reducible repeat (first | refine blk_drewN ?_ _ | refine blk_drew ?_ | refine blk_alloc ?_ _)); refine blk_put (cs := #[.int .i64 t257, .int .i64 t258, .slice none 0 0]) ?_ 2 _ rfl; (with_reducible repeat (first | refine blk_drewN ?_ _ | refine blk_drew ?_ | refine blk_alloc ?_ _)); refine blk_put (cs := #[.int .i64 t257, .int .i64 0, .slice none 0 0]) ?_ 1 _ rfl; (with_reducible repeat (first | refine blk_drewN ?_ _ | refine blk_drew ?_ | refine blk_alloc ?_ _)); refine blk_put (cs := #[.int .i64 0, .int .i64 0, .slice none 0 0]) ?_ 0 _ rfl; (with_reducible repeat (first | refine blk_drewN ?_ _ | refine blk_drew ?_ | refine blk_alloc ?_ _)); exact BK263.out) hb); have n11_ := Aside0.mk (below_step (by repeat (first | (with_reducible first | exact HB.out | apply below_alloc | apply pw_below_drewN | apply below_drew1 | refine below_set ?_ GE197.out | refine below_set ?_ GE213.out | refine below_set ?_ GE219.out | refine below_set ?_ GE229.out | refine below_set ?_ GE263.out) | exact HB.out)) hb); clear HO_214002; clear HO_220002; clear HO_230002; clear HO253; clear HO256; clear HO261; clear BK197; clear BK213; clear BK219; clear BK229; clear BK263; clear HB; have HO_214002 := n0_; have HO_220002 := n1_; have HO_230002 := n2_; have HO253 := n3_; have HO256 := n4_; have HO261 := n5_; have BK197 := n6_; have BK213 := n7_; have BK219 := n8_; have BK229 := n9_; have BK263 := n10_; have HB := n11_; clear n0_ n1_ n2_ n3_ n4_ n5_ n6_ n7_ n8_ n9_ n10_ n11_; (try clear hb); (try clear hb2); (try clear hk); (try clear hi)))
               go_meet
               case rel => exact ⟨_, ((t262 != t212)), (by first | rfl | (simp; done) | (simp [*]; done) | (simp [wrap64]; done)), H', ⟨by have := HJ16.out; have := HJ74.out; first | omega | exact Nat.le_refl _⟩, ⟨by (try simp only [hl220002_74]); (with_reducible repeat (first | apply Kd.R_alloc | apply Kd.R_drewN | apply Kd.R_drew)); exact Kd.R_mono HO_214002.out (fun _ hk => ⟨hk.1.1.1.1, ⟨hk.1.1.1.2, hk.2⟩⟩)⟩, ⟨by (try simp only [hl220002_74]); (with_reducible repeat (first | apply Kd.R_alloc | apply Kd.R_drewN | apply Kd.R_drew)); exact Kd.R_mono HO_220002.out (fun _ hk => ⟨hk.1.1.1.1, ⟨hk.1.1.1.2, hk.2⟩⟩)⟩, ⟨by (try simp only [hl220002_74]); (with_reducible repeat (first | apply Kd.R_alloc | apply Kd.R_drewN | apply Kd.R_drew)); exact Kd.R_mono HO_230002.out (fun _ hk => ⟨hk.1.1.1.1, ⟨hk.1.1.1.2, hk.2⟩⟩)⟩, ⟨by (try simp only [hl220002_74]); (with_reducible repeat (first | apply Kd.R_alloc | apply Kd.R_drewN | apply Kd.R_drew)); exact Kd.R_mono HO261.out (fun _ hk => ⟨hk.1.1.1.1.2, ⟨hk.1.1.1.2, hk.1.1.2⟩⟩)⟩, ⟨by (try simp only [hl220002_74]); (with_reducible repeat (first | refine blk_drewN ?_ _ | refine blk_drew ?_ | refine blk_alloc ?_ _)); exact BK197.out⟩, ⟨by (try simp only [hl220002_74]); (with_reducible repeat (first | refine blk_drewN ?_ _ | refine blk_drew ?_ | refine blk_alloc ?_ _)); exact BK213.out⟩, ⟨by (try simp only [hl220002_74]); (with_reducible repeat (first | refine blk_drewN ?_ _ | refine blk_drew ?_ | refine blk_alloc ?_ _)); exact BK219.out⟩, ⟨by (try simp only [hl220002_74]); (with_reducible repeat (first | refine blk_drewN ?_ _ | refine blk_drew ?_ | refine blk_alloc ?_ _)); exact BK229.out⟩, ⟨by (try simp only [hl220002_74]); (with_reducible repeat (first | refine blk_drewN ?_ _ | refine blk_drew ?_ | refine blk_alloc ?_ _)); exact BK263.out⟩, ⟨by repeat (first | (with_reducible first | exact HB.out | apply below_alloc | apply pw_below_drewN | apply below_drew1 | refine below_set ?_ GE197.out | refine below_set ?_ GE213.out | refine below_set ?_ GE219.out | refine below_set ?_ GE229.out | refine below_set ?_ GE263.out) | exact HB.out)⟩⟩
              ·replace c146 := Bool.eq_false_iff.mpr c146
               subst c146
               have H1 : (laws_FnExactAutoTile.j2 kj74 t246 true t223 t224 t247) = some r := by rw [if_neg (show ¬ (false = true) by decide)] at H; exact H
               clear H
               have H := H1
               clear H1
               have H' := Aside0.mk H
               clear H
               have hnb157 := NB263_197.out
               have hnc157 := NB197_263.out
               have hnb158 := NB263_213.out
               have hnc158 := NB213_263.out
               have hnb159 := NB263_219.out
               have hnc159 := NB219_263.out
               have hnb160 := NB263_229.out
               have hnc160 := NB229_263.out
               have hcz161_0 : w138.cell? ⟨gb263, 0, none⟩ = some (.int .i64 0) := (blk_cell BK263.out 0).trans rfl
               have hcz161_1 : w138.cell? ⟨gb263, 1, none⟩ = some (.int .i64 0) := (blk_cell BK263.out 1).trans rfl
               have hcz161_2 : w138.cell? ⟨gb263, 2, none⟩ = some (.slice none 0 0) := (blk_cell BK263.out 2).trans rfl
               have hfz161_0 := blk_frozen BK263.out 0
               have hfz161_1 := blk_frozen BK263.out 1
               have hfz161_2 := blk_frozen BK263.out 2
               have hnb162 := NB213_197.out
               have hnc162 := NB197_213.out
               have hnb163 := NB213_219.out
               have hnc163 := NB219_213.out
               have hnb164 := NB213_229.out
               have hnc164 := NB229_213.out
               have hcz165_0 : w138.cell? ⟨gb213, 0, none⟩ = some (.int .i64 t207) := (blk_cell BK213.out 0).trans rfl
               have hcz165_1 : w138.cell? ⟨gb213, 1, none⟩ = some (.int .i64 t208) := (blk_cell BK213.out 1).trans rfl
               have hcz165_2 : w138.cell? ⟨gb213, 2, none⟩ = some (.slice Ao30 t209.length co30) := (blk_cell BK213.out 2).trans rfl
               have hfz165_0 := blk_frozen BK213.out 0
               have hfz165_1 := blk_frozen BK213.out 1
               have hfz165_2 := blk_frozen BK213.out 2
               go_wp2_with (first | ((with_reducible refine gate_callee (f := 20) rfl ?_); refine goesL_ (some 107) rfl rfl Try.func20 (by kernel_rfl) rfl #[.agg #[.int .i64 t257, .int .i64 t258, .slice Ao144 t259.length co144], .agg #[.int .i64 t207, .int .i64 t208, .slice Ao30 t209.length co30]] rfl (by (try simp only [List.map_toArray, List.map_cons, List.map_nil]); first | done | rfl | (simp only [List.length_drop, List.length_take]; rfl)) ?_; (with_reducible refine (laws_eqField.calls kj74 t257 t258 _ _ t259 t207 t208 _ _ t209 false _ ?side1 ?side2 ?side3 ?side4 A145.out).mono ?_); (case side1 => refine (Kd.R_reads' (e := 3) (base := w.heap.size) (ok := fun k_ => (((((True ∧ some k_ ≠ (.slice Ao30 t209.length co30 : Value).ownBlock) ∧ some k_ ≠ (.slice Ao37 t242.length co37 : Value).ownBlock) ∧ some k_ ≠ (.slice Ao47 t225.length co47 : Value).ownBlock) ∧ some k_ ≠ (.slice Ao135 t251.length co135 : Value).ownBlock) ∧ some k_ ≠ (.slice Ao136 t254.length co136 : Value).ownBlock)) (n := t259.length) (c := co144) ?_).2.2; exact (by (with_reducible repeat (first | apply Kd.R_alloc | apply Kd.R_drewN | apply Kd.R_drew)); exact (Kd.R_mono (Kd.R_far (p := ⟨gb263, 2, none⟩) (Kd.R_far (p := ⟨gb263, 1, none⟩) (Kd.R_far (p := ⟨gb263, 0, none⟩) (Kd.R_types HO261.out BK263.out (by decide)) (fun _ hk => hk.2) (.int .i64 t257)) (fun _ hk => hk.2) (.int .i64 t258)) (fun _ hk => hk.2) (.slice Ao144 t259.length co144)) (fun _ h_ => h_.1)))); (case side2 => exact (Kd.R_reads' HO261.out).2.1); (case side3 => refine (Kd.R_reads' (e := 3) (base := w.heap.size) (ok := fun k_ => ((((some k_ ≠ (.slice Ao37 t242.length co37 : Value).ownBlock ∧ some k_ ≠ (.slice Ao47 t225.length co47 : Value).ownBlock) ∧ some k_ ≠ (.slice Ao135 t251.length co135 : Value).ownBlock) ∧ some k_ ≠ (.slice Ao136 t254.length co136 : Value).ownBlock) ∧ some k_ ≠ (.slice Ao144 t259.length co144 : Value).ownBlock)) (n := t209.length) (c := co30) ?_).2.2; exact (by (with_reducible repeat (first | apply Kd.R_alloc | apply Kd.R_drewN | apply Kd.R_drew)); exact (Kd.R_mono (Kd.R_far (p := ⟨gb263, 2, none⟩) (Kd.R_far (p := ⟨gb263, 1, none⟩) (Kd.R_far (p := ⟨gb263, 0, none⟩) (Kd.R_types HO_214002.out BK263.out (by decide)) (fun _ hk => hk.2) (.int .i64 t257)) (fun _ hk => hk.2) (.int .i64 t258)) (fun _ hk => hk.2) (.slice Ao144 t259.length co144)) (fun _ h_ => h_.1)))); (case side4 => exact (Kd.R_reads' HO_214002.out).2.1); rintro e w166 ⟨rfl, hb⟩; refine ⟨_, rfl, ?_⟩; have n0_ := Aside0.mk (Kd.R_below (by (with_reducible repeat (first | apply Kd.R_alloc | apply Kd.R_drewN | apply Kd.R_drew)); exact (Kd.R_mono (Kd.R_far (p := ⟨gb263, 2, none⟩) (Kd.R_far (p := ⟨gb263, 1, none⟩) (Kd.R_far (p := ⟨gb263, 0, none⟩) (Kd.R_types HO_214002.out BK263.out (by decide)) (fun _ hk => hk.2) (.int .i64 t257)) (fun _ hk => hk.2) (.int .i64 t258)) (fun _ hk => hk.2) (.slice Ao144 t259.length co144)) (fun _ h_ => h_.1))) hb); have n1_ := Aside0.mk (Kd.R_below (by (with_reducible repeat (first | apply Kd.R_alloc | apply Kd.R_drewN | apply Kd.R_drew)); exact (Kd.R_mono (Kd.R_far (p := ⟨gb263, 2, none⟩) (Kd.R_far (p := ⟨gb263, 1, none⟩) (Kd.R_far (p := ⟨gb263, 0, none⟩) (Kd.R_types HO_220002.out BK263.out (by decide)) (fun _ hk => hk.2) (.int .i64 t257)) (fun _ hk => hk.2) (.int .i64 t258)) (fun _ hk => hk.2) (.slice Ao144 t259.length co144)) (fun _ h_ => h_.1))) hb); have n2_ := Aside0.mk (Kd.R_below (by (with_reducible repeat (first | apply Kd.R_alloc | apply Kd.R_drewN | apply Kd.R_drew)); exact (Kd.R_mono (Kd.R_far (p := ⟨gb263, 2, none⟩) (Kd.R_far (p := ⟨gb263, 1, none⟩) (Kd.R_far (p := ⟨gb263, 0, none⟩) (Kd.R_types HO_230002.out BK263.out (by decide)) (fun _ hk => hk.2) (.int .i64 t257)) (fun _ hk => hk.2) (.int .i64 t258)) (fun _ hk => hk.2) (.slice Ao144 t259.length co144)) (fun _ h_ => h_.1))) hb); have n3_ := Aside0.mk (Kd.R_below (by (with_reducible repeat (first | apply Kd.R_alloc | apply Kd.R_drewN | apply Kd.R_drew)); exact (Kd.R_mono (Kd.R_far (p := ⟨gb263, 2, none⟩) (Kd.R_far (p := ⟨gb263, 1, none⟩) (Kd.R_far (p := ⟨gb263, 0, none⟩) (Kd.R_types HO253.out BK263.out (by decide)) (fun _ hk => hk.2) (.int .i64 t257)) (fun _ hk => hk.2) (.int .i64 t258)) (fun _ hk => hk.2) (.slice Ao144 t259.length co144)) (fun _ h_ => h_.1))) hb); have n4_ := Aside0.mk (Kd.R_below (by (with_reducible repeat (first | apply Kd.R_alloc | apply Kd.R_drewN | apply Kd.R_drew)); exact (Kd.R_mono (Kd.R_far (p := ⟨gb263, 2, none⟩) (Kd.R_far (p := ⟨gb263, 1, none⟩) (Kd.R_far (p := ⟨gb263, 0, none⟩) (Kd.R_types HO256.out BK263.out (by decide)) (fun _ hk => hk.2) (.int .i64 t257)) (fun _ hk => hk.2) (.int .i64 t258)) (fun _ hk => hk.2) (.slice Ao144 t259.length co144)) (fun _ h_ => h_.1))) hb); have n5_ := Aside0.mk (Kd.R_below (by (with_reducible repeat (first | apply Kd.R_alloc | apply Kd.R_drewN | apply Kd.R_drew)); exact (Kd.R_mono (Kd.R_far (p := ⟨gb263, 2, none⟩) (Kd.R_far (p := ⟨gb263, 1, none⟩) (Kd.R_far (p := ⟨gb263, 0, none⟩) (Kd.R_types HO261.out BK263.out (by decide)) (fun _ hk => hk.2) (.int .i64 t257)) (fun _ hk => hk.2) (.int .i64 t258)) (fun _ hk => hk.2) (.slice Ao144 t259.length co144)) (fun _ h_ => h_.1))) hb); have n6_ := Aside0.mk (blk_below (g := gb197) (o := .cells #[.int .i64 a0_0, .int .i64 a0_1, .slice A0_2 l0_2.length c0_2] 24 (0, 0)) (by (with_reducible repeat (first | refine blk_drewN ?_ _ | refine blk_drew ?_ | refine blk_alloc ?_ _)); refine blk_far ?_ NB197_263.out _; (with_reducible repeat (first | refine blk_drewN ?_ _ | refine blk_drew ?_ | refine blk_alloc ?_ _)); refine blk_far ?_ NB197_263.out _; (with_reducible repeat (first | refine blk_drewN ?_ _ | refine blk_drew ?_ | refine blk_alloc ?_ _)); refine blk_far ?_ NB197_263.out _; (with_reducible repeat (first | refine blk_drewN ?_ _ | refine blk_drew ?_ | refine blk_alloc ?_ _)); exact BK197.out) hb); have n7_ := Aside0.mk (blk_below (g := gb213) (o := .cells #[.int .i64 t207, .int .i64 t208, .slice Ao30 t209.length co30] 26 (0, 0)) (by (with_reducible repeat (first | refine blk_drewN ?_ _ | refine blk_drew ?_ | refine blk_alloc ?_ _)); refine blk_far ?_ NB213_263.out _; (with_reducible repeat (first | refine blk_drewN ?_ _ | refine blk_drew ?_ | refine blk_alloc ?_ _)); refine blk_far ?_ NB213_263.out _; (with_reducible repeat (first | refine blk_drewN ?_ _ | refine blk_drew ?_ | refine blk_alloc ?_ _)); refine blk_far ?_ NB213_263.out _; (with_reducible repeat (first | refine blk_drewN ?_ _ | refine blk_drew ?_ | refine blk_alloc ?_ _)); exact BK213.out) hb); have n8_ := Aside0.mk (blk_below (g := gb219) (o := .cells #[.int .i64 t214, .int .i64 t215, .slice Ao37 t242.length co37] 26 (0, 0)) (by (with_reducible repeat (first | refine blk_drewN ?_ _ | refine blk_drew ?_ | refine blk_alloc ?_ _)); refine blk_far ?_ NB219_263.out _; (with_reducible repeat (first | refine blk_drewN ?_ _ | refine blk_drew ?_ | refine blk_alloc ?_ _)); refine blk_far ?_ NB219_263.out _; (with_reducible repeat (first | refine blk_drewN ?_ _ | refine blk_drew ?_ | refine blk_alloc ?_ _)); refine blk_far ?_ NB219_263.out _; (with_reducible repeat (first | refine blk_drewN ?_ _ | refine blk_drew ?_ | refine blk_alloc ?_ _)); exact BK219.out) hb); have n9_ := Aside0.mk (blk_below (g := gb229) (o := .cells #[.int .i64 t223, .int .i64 t224, .slice Ao47 t225.length co47] 26 (0, 0)) (by (with_reducible repeat (first | refine blk_drewN ?_ _ | refine blk_drew ?_ | refine blk_alloc ?_ _)); refine blk_far ?_ NB229_263.out _; (with_reducible repeat (first | refine blk_drewN ?_ _ | refine blk_drew ?_ | refine blk_alloc ?_ _)); refine blk_far ?_ NB229_263.out _; (with_reducible repeat (first | refine blk_drewN ?_ _ | refine blk_drew ?_ | refine blk_alloc ?_ _)); refine blk_far ?_ NB229_263.out _; (with_reducible repeat (first | refine blk_drewN ?_ _ | refine blk_drew ?_ | refine blk_alloc ?_ _)); exact BK229.out) hb); have n10_ := Aside0.mk (blk_below (g := gb263) (o := .cells #[.int .i64 t257, .int .i64 t258, .slice Ao144 t259.length co144] 26 (0, 0)) (by (with_reducible repeat (first | refine blk_drewN ?_ _ | refine blk_drew ?_ | refine blk_alloc ?_ _)); refine blk_put (cs := #[.int .i64 t257, .int .i64 t258, .slice none 0 0]) ?_ 2 _ rfl; (with_reducible repeat (first | refine blk_drewN ?_ _ | refine blk_drew ?_ | refine blk_alloc ?_ _)); refine blk_put (cs := #[.int .i64 t257, .int .i64 0, .slice none 0 0]) ?_ 1 _ rfl; (with_reducible repeat (first | refine blk_drewN ?_ _ | refine blk_drew ?_ | refine blk_alloc ?_ _)); refine blk_put (cs := #[.int .i64 0, .int .i64 0, .slice none 0 0]) ?_ 0 _ rfl; (with_reducible repeat (first | refine blk_drewN ?_ _ | refine blk_drew ?_ | refine blk_alloc ?_ _)); exact BK263.out) hb); have n11_ := Aside0.mk (below_step (by repeat (first | (with_reducible first | exact HB.out | apply below_alloc | apply pw_below_drewN | apply below_drew1 | refine below_set ?_ GE197.out | refine below_set ?_ GE213.out | refine below_set ?_ GE219.out | refine below_set ?_ GE229.out | refine below_set ?_ GE263.out) | exact HB.out)) hb); clear HO_214002; clear HO_220002; clear HO_230002; clear HO253; clear HO256; clear HO261; clear BK197; clear BK213; clear BK219; clear BK229; clear BK263; clear HB; have HO_214002 := n0_; have HO_220002 := n1_; have HO_230002 := n2_; have HO253 := n3_; have HO256 := n4_; have HO261 := n5_; have BK197 := n6_; have BK213 := n7_; have BK219 := n8_; have BK229 := n9_; have BK263 := n10_; have HB := n11_; clear n0_ n1_ n2_ n3_ n4_ n5_ n6_ n7_ n8_ n9_ n10_ n11_; (try clear hb); (try clear hb2); (try clear hk); (try clear hi)))
               go_meet
               case rel => exact ⟨_, (true), (by first | rfl | (simp; done) | (simp [*]; done) | (simp [wrap64]; done)), H', ⟨by have := HJ16.out; have := HJ74.out; first | omega | exact Nat.le_refl _⟩, ⟨by (try simp only [hl220002_74]); (with_reducible repeat (first | apply Kd.R_alloc | apply Kd.R_drewN | apply Kd.R_drew)); exact Kd.R_mono HO_214002.out (fun _ hk => ⟨hk.1.1.1.1, ⟨hk.1.1.1.2, hk.2⟩⟩)⟩, ⟨by (try simp only [hl220002_74]); (with_reducible repeat (first | apply Kd.R_alloc | apply Kd.R_drewN | apply Kd.R_drew)); exact Kd.R_mono HO_220002.out (fun _ hk => ⟨hk.1.1.1.1, ⟨hk.1.1.1.2, hk.2⟩⟩)⟩, ⟨by (try simp only [hl220002_74]); (with_reducible repeat (first | apply Kd.R_alloc | apply Kd.R_drewN | apply Kd.R_drew)); exact Kd.R_mono HO_230002.out (fun _ hk => ⟨hk.1.1.1.1, ⟨hk.1.1.1.2, hk.2⟩⟩)⟩, ⟨by (try simp only [hl220002_74]); (with_reducible repeat (first | apply Kd.R_alloc | apply Kd.R_drewN | apply Kd.R_drew)); exact Kd.R_mono HO261.out (fun _ hk => ⟨hk.1.1.1.1.2, ⟨hk.1.1.1.2, hk.1.1.2⟩⟩)⟩, ⟨by (try simp only [hl220002_74]); (with_reducible repeat (first | refine blk_drewN ?_ _ | refine blk_drew ?_ | refine blk_alloc ?_ _)); exact BK197.out⟩, ⟨by (try simp only [hl220002_74]); (with_reducible repeat (first | refine blk_drewN ?_ _ | refine blk_drew ?_ | refine blk_alloc ?_ _)); exact BK213.out⟩, ⟨by (try simp only [hl220002_74]); (with_reducible repeat (first | refine blk_drewN ?_ _ | refine blk_drew ?_ | refine blk_alloc ?_ _)); exact BK219.out⟩, ⟨by (try simp only [hl220002_74]); (with_reducible repeat (first | refine blk_drewN ?_ _ | refine blk_drew ?_ | refine blk_alloc ?_ _)); exact BK229.out⟩, ⟨by (try simp only [hl220002_74]); (with_reducible repeat (first | refine blk_drewN ?_ _ | refine blk_drew ?_ | refine blk_alloc ?_ _)); exact BK263.out⟩, ⟨by repeat (first | (with_reducible first | exact HB.out | apply below_alloc | apply pw_below_drewN | apply below_drew1 | refine below_set ?_ GE197.out | refine below_set ?_ GE213.out | refine below_set ?_ GE219.out | refine below_set ?_ GE229.out | refine below_set ?_ GE263.out) | exact HB.out)⟩⟩
             case rest =>
              clear HC122
              try clear c1
              try clear c2
              try clear p2
              try clear c3
              try clear c4
              try clear c4b0
              try clear c4b1
              try clear c5
              try clear c6
              try clear c7
              try clear c7b0
              try clear c8
              try clear c9
              try clear c10
              try clear c11
              try clear c12
              try clear c13
              try clear c14
              try clear c15
              try clear c16
              try clear c17
              try clear c18
              try clear c19
              try clear c20
              try clear c21
              try clear c22
              try clear c23
              try clear c24
              try clear c28
              try clear c34
              try clear c35
              try clear c43
              try clear c44
              try clear c45
              try clear c49
              try clear c50
              try clear c51
              try clear c52
              try clear c54
              try clear c55
              try clear c58
              try clear c59
              try clear c60
              try clear c62
              try clear c63
              try clear c66
              try clear c69
              try clear c72
              try clear c82
              try clear c83
              try clear c84
              try clear c88
              try clear c88b0
              try clear c90
              try clear c91
              try clear c92
              try clear c93
              try clear c95
              try clear c96
              try clear c99
              try clear c100
              try clear c101
              try clear c103
              try clear c104
              try clear c107
              try clear c110
              try clear c110b0
              try clear c111
              try clear c112
              try clear c113
              try clear c118
              try clear c118b0
              try clear c118b1
              try clear c123
              try clear c124
              try clear c125
              try clear c130
              try clear c131
              try clear c139
              try clear c140
              try clear c141
              try clear c142
              try clear c146
              try clear c147
              try clear c148
              try clear c149
              try clear c150
              try clear c152
              try clear c153
              try clear c154
              try clear c157
              try clear c158
              try clear c159
              try clear c160
              try clear c162
              try clear c163
              try clear c164
              try clear hcz102_0
              try clear hcz102_1
              try clear hcz102_2
              try clear hcz105_0
              try clear hcz105_1
              try clear hcz105_2
              try clear hcz114_0
              try clear hcz114_1
              try clear hcz114_2
              try clear hcz116_0
              try clear hcz116_1
              try clear hcz116_2
              try clear hcz126_0
              try clear hcz126_1
              try clear hcz126_2
              try clear hcz128_0
              try clear hcz128_1
              try clear hcz128_2
              try clear hcz132_0
              try clear hcz132_1
              try clear hcz132_2
              try clear hcz143_0
              try clear hcz143_1
              try clear hcz143_2
              try clear hcz151_0
              try clear hcz151_1
              try clear hcz151_2
              try clear hcz155_0
              try clear hcz155_1
              try clear hcz155_2
              try clear hcz161_0
              try clear hcz161_1
              try clear hcz161_2
              try clear hcz165_0
              try clear hcz165_1
              try clear hcz165_2
              try clear hcz19_0
              try clear hcz19_1
              try clear hcz19_2
              try clear hcz21_0
              try clear hcz21_1
              try clear hcz21_2
              try clear hcz29_0
              try clear hcz29_1
              try clear hcz29_2
              try clear hcz31_0
              try clear hcz31_1
              try clear hcz31_2
              try clear hcz36_0
              try clear hcz36_1
              try clear hcz36_2
              try clear hcz39_0
              try clear hcz39_1
              try clear hcz39_2
              try clear hcz46_0
              try clear hcz46_1
              try clear hcz46_2
              try clear hcz53_0
              try clear hcz53_1
              try clear hcz53_2
              try clear hcz56_0
              try clear hcz56_1
              try clear hcz56_2
              try clear hcz61_0
              try clear hcz61_1
              try clear hcz61_2
              try clear hcz64_0
              try clear hcz64_1
              try clear hcz64_2
              try clear hcz85_0
              try clear hcz85_1
              try clear hcz85_2
              try clear hcz94_0
              try clear hcz94_1
              try clear hcz94_2
              try clear hcz97_0
              try clear hcz97_1
              try clear hcz97_2
              try clear hcz9_0
              try clear hcz9_1
              try clear hcz9_2
              try clear hfz102_0
              try clear hfz102_1
              try clear hfz102_2
              try clear hfz105_0
              try clear hfz105_1
              try clear hfz105_2
              try clear hfz114_0
              try clear hfz114_1
              try clear hfz114_2
              try clear hfz116_0
              try clear hfz116_1
              try clear hfz116_2
              try clear hfz126_0
              try clear hfz126_1
              try clear hfz126_2
              try clear hfz128_0
              try clear hfz128_1
              try clear hfz128_2
              try clear hfz132_0
              try clear hfz132_1
              try clear hfz132_2
              try clear hfz143_0
              try clear hfz143_1
              try clear hfz143_2
              try clear hfz151_0
              try clear hfz151_1
              try clear hfz151_2
              try clear hfz155_0
              try clear hfz155_1
              try clear hfz155_2
              try clear hfz161_0
              try clear hfz161_1
              try clear hfz161_2
              try clear hfz165_0
              try clear hfz165_1
              try clear hfz165_2
              try clear hfz19_0
              try clear hfz19_1
              try clear hfz19_2
              try clear hfz21_0
              try clear hfz21_1
              try clear hfz21_2
              try clear hfz29_0
              try clear hfz29_1
              try clear hfz29_2
              try clear hfz31_0
              try clear hfz31_1
              try clear hfz31_2
              try clear hfz36_0
              try clear hfz36_1
              try clear hfz36_2
              try clear hfz39_0
              try clear hfz39_1
              try clear hfz39_2
              try clear hfz46_0
              try clear hfz46_1
              try clear hfz46_2
              try clear hfz53_0
              try clear hfz53_1
              try clear hfz53_2
              try clear hfz56_0
              try clear hfz56_1
              try clear hfz56_2
              try clear hfz61_0
              try clear hfz61_1
              try clear hfz61_2
              try clear hfz64_0
              try clear hfz64_1
              try clear hfz64_2
              try clear hfz85_0
              try clear hfz85_1
              try clear hfz85_2
              try clear hfz94_0
              try clear hfz94_1
              try clear hfz94_2
              try clear hfz97_0
              try clear hfz97_1
              try clear hfz97_2
              try clear hfz9_0
              try clear hfz9_1
              try clear hfz9_2
              try clear p2
              obtain ⟨kq, x113_121, rfl, HA, HJ121, HO_214002, HO_220002, HO_230002, HO_264002, BK197, BK213, BK219, BK229, BK263, HB⟩ := hcut
              have hl230002_121 := (Kd.R_reads' HO_230002.out).1
              rw [hl230002_121] at HO_230002
              (try simp only [hl230002_121])
              (try simp only [hl230002_121] at BK197)
              (try simp only [hl230002_121] at BK213)
              (try simp only [hl230002_121] at BK219)
              (try simp only [hl230002_121] at BK229)
              (try simp only [hl230002_121] at BK263)
              (try simp only [hl230002_121] at HO_214002)
              (try simp only [hl230002_121] at HO_220002)
              (try simp only [hl230002_121] at HO_264002)
              cases kq with
              | zero => exact absurd HA.out (by simp [laws_FnExactAutoTile.j2])
              | succ kj121 =>
               have H := HA.out
               clear HA
               simp only [laws_FnExactAutoTile.j2] at H
               by_cases c167 : x113_121 = true
               ·subst c167
                have H1 : (some false) = some r := by rw [if_pos rfl] at H; exact H
                clear H
                have H := H1
                clear H1
                obtain rfl := Option.some.inj H
                go_wp2
                go_ret
                exact ⟨by first | rfl | (simp [errW_none, errW_some] <;> rfl) | (simp [*, errW_none, errW_some] <;> rfl), by repeat (first | (with_reducible first | exact HB.out | apply below_alloc | apply pw_below_drewN | apply below_drew1 | refine below_set ?_ GE197.out | refine below_set ?_ GE213.out | refine below_set ?_ GE219.out | refine below_set ?_ GE229.out | refine below_set ?_ GE263.out) | exact HB.out)⟩
               ·replace c167 := Bool.eq_false_iff.mpr c167
                subst c167
                have H1 : ((laws_heldField.f kj121 t223 t224 t247 1).bind fun t265 => (if t265 < 0 then (some false) else (if t265 = t246 then (some true) else (some false)))) = some r := by rw [if_neg (show ¬ (false = true) by decide)] at H; exact H
                clear H
                have H := H1
                clear H1
                replace H := Option.bind_eq_some_iff.mp H
                obtain ⟨t265, A1680, H⟩ := H
                replace H : (if t265 < 0 then (some false) else (if t265 = t246 then (some true) else (some false))) = some r := H
                have A168 := Aside0.mk A1680
                clear A1680
                by_cases c169 : t265 < 0
                ·rw [if_pos c169] at H
                 have c169b0 : decide (t265 < 0) = true := decide_eq_true c169
                 clear c169
                 obtain rfl := Option.some.inj H
                 have hnb170 := NB229_197.out
                 have hnc170 := NB197_229.out
                 have hnb171 := NB229_213.out
                 have hnc171 := NB213_229.out
                 have hnb172 := NB229_219.out
                 have hnc172 := NB219_229.out
                 have hnb173 := NB229_263.out
                 have hnc173 := NB263_229.out
                 have hcz174_0 : wc.cell? ⟨gb229, 0, none⟩ = some (.int .i64 t223) := (blk_cell BK229.out 0).trans rfl
                 have hcz174_1 : wc.cell? ⟨gb229, 1, none⟩ = some (.int .i64 t224) := (blk_cell BK229.out 1).trans rfl
                 have hcz174_2 : wc.cell? ⟨gb229, 2, none⟩ = some (.slice Ao47 t247.length co47) := (blk_cell BK229.out 2).trans rfl
                 have hfz174_0 := blk_frozen BK229.out 0
                 have hfz174_1 := blk_frozen BK229.out 1
                 have hfz174_2 := blk_frozen BK229.out 2
                 go_wp2_with (first | ((with_reducible refine gate_callee (f := 24) rfl ?_); refine goesL_ (some 116) rfl rfl Try.func24 (by kernel_rfl) rfl #[.agg #[.int .i64 t223, .int .i64 t224, .slice Ao47 t247.length co47], .int .i64 1] rfl (by (try simp only [List.map_toArray, List.map_cons, List.map_nil]); first | done | rfl | (simp only [List.length_drop, List.length_take]; rfl)) ?_; (with_reducible refine (laws_heldField.calls kj121 t223 t224 _ _ t247 1 t265 _ ?side1 ?side2 A168.out).mono ?_); (case side1 => repeat (first | exact (Kd.R_reads' HO_230002.out).2.2 | (with_reducible refine Kd.C_alloc ?_ _) | (with_reducible refine Kd.C_drewN ?_ _) | (with_reducible refine Kd.C_drew ?_))); (case side2 => exact (Kd.R_reads' HO_230002.out).2.1); rintro e w175 ⟨rfl, hb⟩; refine ⟨_, rfl, ?_⟩; have n0_ := Aside0.mk (Kd.R_below (by (with_reducible repeat (first | apply Kd.R_alloc | apply Kd.R_drewN | apply Kd.R_drew)); exact HO_214002.out) hb); have n1_ := Aside0.mk (Kd.R_below (by (with_reducible repeat (first | apply Kd.R_alloc | apply Kd.R_drewN | apply Kd.R_drew)); exact HO_220002.out) hb); have n2_ := Aside0.mk (Kd.R_below (by (with_reducible repeat (first | apply Kd.R_alloc | apply Kd.R_drewN | apply Kd.R_drew)); exact HO_230002.out) hb); have n3_ := Aside0.mk (Kd.R_below (by (with_reducible repeat (first | apply Kd.R_alloc | apply Kd.R_drewN | apply Kd.R_drew)); exact HO_264002.out) hb); have n4_ := Aside0.mk (blk_below (g := gb197) (o := .cells #[.int .i64 a0_0, .int .i64 a0_1, .slice A0_2 l0_2.length c0_2] 24 (0, 0)) (by (with_reducible repeat (first | refine blk_drewN ?_ _ | refine blk_drew ?_ | refine blk_alloc ?_ _)); exact BK197.out) hb); have n5_ := Aside0.mk (blk_below (g := gb213) (o := .cells #[.int .i64 t207, .int .i64 t208, .slice Ao30 t209.length co30] 26 (0, 0)) (by (with_reducible repeat (first | refine blk_drewN ?_ _ | refine blk_drew ?_ | refine blk_alloc ?_ _)); exact BK213.out) hb); have n6_ := Aside0.mk (blk_below (g := gb219) (o := .cells #[.int .i64 t214, .int .i64 t215, .slice Ao37 t242.length co37] 26 (0, 0)) (by (with_reducible repeat (first | refine blk_drewN ?_ _ | refine blk_drew ?_ | refine blk_alloc ?_ _)); exact BK219.out) hb); have n7_ := Aside0.mk (blk_below (g := gb229) (o := .cells #[.int .i64 t223, .int .i64 t224, .slice Ao47 t247.length co47] 26 (0, 0)) (by (with_reducible repeat (first | refine blk_drewN ?_ _ | refine blk_drew ?_ | refine blk_alloc ?_ _)); exact BK229.out) hb); have n8_ := Aside0.mk (blk_below (g := gb263) (o := .cells #[.int .i64 t257, .int .i64 t258, .slice Ao144 t259.length co144] 26 (0, 0)) (by (with_reducible repeat (first | refine blk_drewN ?_ _ | refine blk_drew ?_ | refine blk_alloc ?_ _)); exact BK263.out) hb); have n9_ := Aside0.mk (below_step (by repeat (first | (with_reducible first | exact HB.out | apply below_alloc | apply pw_below_drewN | apply below_drew1 | refine below_set ?_ GE197.out | refine below_set ?_ GE213.out | refine below_set ?_ GE219.out | refine below_set ?_ GE229.out | refine below_set ?_ GE263.out) | exact HB.out)) hb); clear HO_214002; clear HO_220002; clear HO_230002; clear HO_264002; clear BK197; clear BK213; clear BK219; clear BK229; clear BK263; clear HB; have HO_214002 := n0_; have HO_220002 := n1_; have HO_230002 := n2_; have HO_264002 := n3_; have BK197 := n4_; have BK213 := n5_; have BK219 := n6_; have BK229 := n7_; have BK263 := n8_; have HB := n9_; clear n0_ n1_ n2_ n3_ n4_ n5_ n6_ n7_ n8_ n9_; (try clear hb); (try clear hb2); (try clear hk); (try clear hi)))
                 go_ret
                 exact ⟨by first | rfl | (simp [errW_none, errW_some] <;> rfl) | (simp [*, errW_none, errW_some] <;> rfl), by repeat (first | (with_reducible first | exact HB.out | apply below_alloc | apply pw_below_drewN | apply below_drew1 | refine below_set ?_ GE197.out | refine below_set ?_ GE213.out | refine below_set ?_ GE219.out | refine below_set ?_ GE229.out | refine below_set ?_ GE263.out) | exact HB.out)⟩
                ·rw [if_neg c169] at H
                 have c169b0 : decide (t265 < 0) = false := decide_eq_false c169
                 clear c169
                 by_cases c176 : t265 = t246
                 ·rw [if_pos c176] at H
                  have c176b0 : (t265 == t246) = true := beq_iff_eq.mpr c176
                  have c176b1 : (t265 != t246) = false := bne_eq_false_iff_eq.mpr c176
                  clear c176
                  obtain rfl := Option.some.inj H
                  have hnb177 := NB229_197.out
                  have hnc177 := NB197_229.out
                  have hnb178 := NB229_213.out
                  have hnc178 := NB213_229.out
                  have hnb179 := NB229_219.out
                  have hnc179 := NB219_229.out
                  have hnb180 := NB229_263.out
                  have hnc180 := NB263_229.out
                  have hcz181_0 : wc.cell? ⟨gb229, 0, none⟩ = some (.int .i64 t223) := (blk_cell BK229.out 0).trans rfl
                  have hcz181_1 : wc.cell? ⟨gb229, 1, none⟩ = some (.int .i64 t224) := (blk_cell BK229.out 1).trans rfl
                  have hcz181_2 : wc.cell? ⟨gb229, 2, none⟩ = some (.slice Ao47 t247.length co47) := (blk_cell BK229.out 2).trans rfl
                  have hfz181_0 := blk_frozen BK229.out 0
                  have hfz181_1 := blk_frozen BK229.out 1
                  have hfz181_2 := blk_frozen BK229.out 2
                  go_wp2_with (first | ((with_reducible refine gate_callee (f := 24) rfl ?_); refine goesL_ (some 116) rfl rfl Try.func24 (by kernel_rfl) rfl #[.agg #[.int .i64 t223, .int .i64 t224, .slice Ao47 t247.length co47], .int .i64 1] rfl (by (try simp only [List.map_toArray, List.map_cons, List.map_nil]); first | done | rfl | (simp only [List.length_drop, List.length_take]; rfl)) ?_; (with_reducible refine (laws_heldField.calls kj121 t223 t224 _ _ t247 1 t265 _ ?side1 ?side2 A168.out).mono ?_); (case side1 => repeat (first | exact (Kd.R_reads' HO_230002.out).2.2 | (with_reducible refine Kd.C_alloc ?_ _) | (with_reducible refine Kd.C_drewN ?_ _) | (with_reducible refine Kd.C_drew ?_))); (case side2 => exact (Kd.R_reads' HO_230002.out).2.1); rintro e w182 ⟨rfl, hb⟩; refine ⟨_, rfl, ?_⟩; have n0_ := Aside0.mk (Kd.R_below (by (with_reducible repeat (first | apply Kd.R_alloc | apply Kd.R_drewN | apply Kd.R_drew)); exact HO_214002.out) hb); have n1_ := Aside0.mk (Kd.R_below (by (with_reducible repeat (first | apply Kd.R_alloc | apply Kd.R_drewN | apply Kd.R_drew)); exact HO_220002.out) hb); have n2_ := Aside0.mk (Kd.R_below (by (with_reducible repeat (first | apply Kd.R_alloc | apply Kd.R_drewN | apply Kd.R_drew)); exact HO_230002.out) hb); have n3_ := Aside0.mk (Kd.R_below (by (with_reducible repeat (first | apply Kd.R_alloc | apply Kd.R_drewN | apply Kd.R_drew)); exact HO_264002.out) hb); have n4_ := Aside0.mk (blk_below (g := gb197) (o := .cells #[.int .i64 a0_0, .int .i64 a0_1, .slice A0_2 l0_2.length c0_2] 24 (0, 0)) (by (with_reducible repeat (first | refine blk_drewN ?_ _ | refine blk_drew ?_ | refine blk_alloc ?_ _)); exact BK197.out) hb); have n5_ := Aside0.mk (blk_below (g := gb213) (o := .cells #[.int .i64 t207, .int .i64 t208, .slice Ao30 t209.length co30] 26 (0, 0)) (by (with_reducible repeat (first | refine blk_drewN ?_ _ | refine blk_drew ?_ | refine blk_alloc ?_ _)); exact BK213.out) hb); have n6_ := Aside0.mk (blk_below (g := gb219) (o := .cells #[.int .i64 t214, .int .i64 t215, .slice Ao37 t242.length co37] 26 (0, 0)) (by (with_reducible repeat (first | refine blk_drewN ?_ _ | refine blk_drew ?_ | refine blk_alloc ?_ _)); exact BK219.out) hb); have n7_ := Aside0.mk (blk_below (g := gb229) (o := .cells #[.int .i64 t223, .int .i64 t224, .slice Ao47 t247.length co47] 26 (0, 0)) (by (with_reducible repeat (first | refine blk_drewN ?_ _ | refine blk_drew ?_ | refine blk_alloc ?_ _)); exact BK229.out) hb); have n8_ := Aside0.mk (blk_below (g := gb263) (o := .cells #[.int .i64 t257, .int .i64 t258, .slice Ao144 t259.length co144] 26 (0, 0)) (by (with_reducible repeat (first | refine blk_drewN ?_ _ | refine blk_drew ?_ | refine blk_alloc ?_ _)); exact BK263.out) hb); have n9_ := Aside0.mk (below_step (by repeat (first | (with_reducible first | exact HB.out | apply below_alloc | apply pw_below_drewN | apply below_drew1 | refine below_set ?_ GE197.out | refine below_set ?_ GE213.out | refine below_set ?_ GE219.out | refine below_set ?_ GE229.out | refine below_set ?_ GE263.out) | exact HB.out)) hb); clear HO_214002; clear HO_220002; clear HO_230002; clear HO_264002; clear BK197; clear BK213; clear BK219; clear BK229; clear BK263; clear HB; have HO_214002 := n0_; have HO_220002 := n1_; have HO_230002 := n2_; have HO_264002 := n3_; have BK197 := n4_; have BK213 := n5_; have BK219 := n6_; have BK229 := n7_; have BK263 := n8_; have HB := n9_; clear n0_ n1_ n2_ n3_ n4_ n5_ n6_ n7_ n8_ n9_; (try clear hb); (try clear hb2); (try clear hk); (try clear hi)))
                  go_ret
                  exact ⟨by first | rfl | (simp [errW_none, errW_some] <;> rfl) | (simp [*, errW_none, errW_some] <;> rfl), by repeat (first | (with_reducible first | exact HB.out | apply below_alloc | apply pw_below_drewN | apply below_drew1 | refine below_set ?_ GE197.out | refine below_set ?_ GE213.out | refine below_set ?_ GE219.out | refine below_set ?_ GE229.out | refine below_set ?_ GE263.out) | exact HB.out)⟩
                 ·rw [if_neg c176] at H
                  have c176b0 : (t265 == t246) = false := beq_eq_false_iff_ne.mpr c176
                  have c176b1 : (t265 != t246) = true := bne_iff_ne.mpr c176
                  obtain rfl := Option.some.inj H
                  have hnb183 := NB229_197.out
                  have hnc183 := NB197_229.out
                  have hnb184 := NB229_213.out
                  have hnc184 := NB213_229.out
                  have hnb185 := NB229_219.out
                  have hnc185 := NB219_229.out
                  have hnb186 := NB229_263.out
                  have hnc186 := NB263_229.out
                  have hcz187_0 : wc.cell? ⟨gb229, 0, none⟩ = some (.int .i64 t223) := (blk_cell BK229.out 0).trans rfl
                  have hcz187_1 : wc.cell? ⟨gb229, 1, none⟩ = some (.int .i64 t224) := (blk_cell BK229.out 1).trans rfl
                  have hcz187_2 : wc.cell? ⟨gb229, 2, none⟩ = some (.slice Ao47 t247.length co47) := (blk_cell BK229.out 2).trans rfl
                  have hfz187_0 := blk_frozen BK229.out 0
                  have hfz187_1 := blk_frozen BK229.out 1
                  have hfz187_2 := blk_frozen BK229.out 2
                  go_wp2_with (first | ((with_reducible refine gate_callee (f := 24) rfl ?_); refine goesL_ (some 116) rfl rfl Try.func24 (by kernel_rfl) rfl #[.agg #[.int .i64 t223, .int .i64 t224, .slice Ao47 t247.length co47], .int .i64 1] rfl (by (try simp only [List.map_toArray, List.map_cons, List.map_nil]); first | done | rfl | (simp only [List.length_drop, List.length_take]; rfl)) ?_; (with_reducible refine (laws_heldField.calls kj121 t223 t224 _ _ t247 1 t265 _ ?side1 ?side2 A168.out).mono ?_); (case side1 => repeat (first | exact (Kd.R_reads' HO_230002.out).2.2 | (with_reducible refine Kd.C_alloc ?_ _) | (with_reducible refine Kd.C_drewN ?_ _) | (with_reducible refine Kd.C_drew ?_))); (case side2 => exact (Kd.R_reads' HO_230002.out).2.1); rintro e w188 ⟨rfl, hb⟩; refine ⟨_, rfl, ?_⟩; have n0_ := Aside0.mk (Kd.R_below (by (with_reducible repeat (first | apply Kd.R_alloc | apply Kd.R_drewN | apply Kd.R_drew)); exact HO_214002.out) hb); have n1_ := Aside0.mk (Kd.R_below (by (with_reducible repeat (first | apply Kd.R_alloc | apply Kd.R_drewN | apply Kd.R_drew)); exact HO_220002.out) hb); have n2_ := Aside0.mk (Kd.R_below (by (with_reducible repeat (first | apply Kd.R_alloc | apply Kd.R_drewN | apply Kd.R_drew)); exact HO_230002.out) hb); have n3_ := Aside0.mk (Kd.R_below (by (with_reducible repeat (first | apply Kd.R_alloc | apply Kd.R_drewN | apply Kd.R_drew)); exact HO_264002.out) hb); have n4_ := Aside0.mk (blk_below (g := gb197) (o := .cells #[.int .i64 a0_0, .int .i64 a0_1, .slice A0_2 l0_2.length c0_2] 24 (0, 0)) (by (with_reducible repeat (first | refine blk_drewN ?_ _ | refine blk_drew ?_ | refine blk_alloc ?_ _)); exact BK197.out) hb); have n5_ := Aside0.mk (blk_below (g := gb213) (o := .cells #[.int .i64 t207, .int .i64 t208, .slice Ao30 t209.length co30] 26 (0, 0)) (by (with_reducible repeat (first | refine blk_drewN ?_ _ | refine blk_drew ?_ | refine blk_alloc ?_ _)); exact BK213.out) hb); have n6_ := Aside0.mk (blk_below (g := gb219) (o := .cells #[.int .i64 t214, .int .i64 t215, .slice Ao37 t242.length co37] 26 (0, 0)) (by (with_reducible repeat (first | refine blk_drewN ?_ _ | refine blk_drew ?_ | refine blk_alloc ?_ _)); exact BK219.out) hb); have n7_ := Aside0.mk (blk_below (g := gb229) (o := .cells #[.int .i64 t223, .int .i64 t224, .slice Ao47 t247.length co47] 26 (0, 0)) (by (with_reducible repeat (first | refine blk_drewN ?_ _ | refine blk_drew ?_ | refine blk_alloc ?_ _)); exact BK229.out) hb); have n8_ := Aside0.mk (blk_below (g := gb263) (o := .cells #[.int .i64 t257, .int .i64 t258, .slice Ao144 t259.length co144] 26 (0, 0)) (by (with_reducible repeat (first | refine blk_drewN ?_ _ | refine blk_drew ?_ | refine blk_alloc ?_ _)); exact BK263.out) hb); have n9_ := Aside0.mk (below_step (by repeat (first | (with_reducible first | exact HB.out | apply below_alloc | apply pw_below_drewN | apply below_drew1 | refine below_set ?_ GE197.out | refine below_set ?_ GE213.out | refine below_set ?_ GE219.out | refine below_set ?_ GE229.out | refine below_set ?_ GE263.out) | exact HB.out)) hb); clear HO_214002; clear HO_220002; clear HO_230002; clear HO_264002; clear BK197; clear BK213; clear BK219; clear BK229; clear BK263; clear HB; have HO_214002 := n0_; have HO_220002 := n1_; have HO_230002 := n2_; have HO_264002 := n3_; have BK197 := n4_; have BK213 := n5_; have BK219 := n6_; have BK229 := n7_; have BK263 := n8_; have HB := n9_; clear n0_ n1_ n2_ n3_ n4_ n5_ n6_ n7_ n8_ n9_; (try clear hb); (try clear hb2); (try clear hk); (try clear hi)))
                  go_ret
                  exact ⟨by first | rfl | (simp [errW_none, errW_some] <;> rfl) | (simp [*, errW_none, errW_some] <;> rfl), by repeat (first | (with_reducible first | exact HB.out | apply below_alloc | apply pw_below_drewN | apply below_drew1 | refine below_set ?_ GE197.out | refine below_set ?_ GE213.out | refine below_set ?_ GE219.out | refine below_set ?_ GE229.out | refine below_set ?_ GE263.out) | exact HB.out)⟩
            ·rw [if_neg c118] at H
             have c118b0 : (t248 == t246) = false := beq_eq_false_iff_ne.mpr c118
             have c118b1 : (t248 != t246) = true := bne_iff_ne.mpr c118
             obtain rfl := Option.some.inj H
             have hnb189 := NB229_197.out
             have hnc189 := NB197_229.out
             have hnb190 := NB229_213.out
             have hnc190 := NB213_229.out
             have hnb191 := NB229_219.out
             have hnc191 := NB219_229.out
             have hcz192_0 : wc.cell? ⟨gb229, 0, none⟩ = some (.int .i64 t223) := (blk_cell BK229.out 0).trans rfl
             have hcz192_1 : wc.cell? ⟨gb229, 1, none⟩ = some (.int .i64 t224) := (blk_cell BK229.out 1).trans rfl
             have hcz192_2 : wc.cell? ⟨gb229, 2, none⟩ = some (.slice Ao47 t225.length co47) := (blk_cell BK229.out 2).trans rfl
             have hfz192_0 := blk_frozen BK229.out 0
             have hfz192_1 := blk_frozen BK229.out 1
             have hfz192_2 := blk_frozen BK229.out 2
             go_wp2_with (first | ((with_reducible refine gate_callee (f := 22) rfl ?_); refine goesL_ (some 87) rfl rfl Try.func22 (by kernel_rfl) rfl #[.agg #[.int .i64 t223, .int .i64 t224, .slice Ao47 t225.length co47], .int .i64 1] rfl (by (try simp only [List.map_toArray, List.map_cons, List.map_nil]); first | done | rfl | (simp only [List.length_drop, List.length_take]; rfl)) ?_; (with_reducible refine (laws_markField.calls kj74 t223 t224 (fun k_ => some k_ = (.slice Ao47 t225.length co47 : Value).ownBlock) (.slice Ao47 t225.length co47) t225 1 t246 t247 w _ ?side1 ?side2 A108.out).mono ?_); (case side1 => repeat (first | (with_reducible first | exact HB.out | apply below_alloc | apply pw_below_drewN | apply below_drew1 | refine below_set ?_ GE197.out | refine below_set ?_ GE213.out | refine below_set ?_ GE219.out | refine below_set ?_ GE229.out) | exact HB.out)); (case side2 => exact Kd.R_tight rfl HO_230002.out); rintro e w193 ⟨rfl, hy0, hb, hkp⟩; refine ⟨_, rfl, ?_⟩; have n0_ := Aside0.mk (Kd.R_mono (ok' := fun k_ => some k_ ≠ (.slice Ao37 t242.length co37 : Value).ownBlock ∧ some k_ ≠ (.slice Ao47 t225.length co47 : Value).ownBlock) (Kd.R_keptB (HO_214002.out) hkp (fun k_ hk_ hs_ => (hk_.2) hs_)) (fun k_ hk_ => ⟨hk_.1.1, hk_.1.2⟩)); have n1_ := Aside0.mk (Kd.R_mono (ok' := fun k_ => some k_ ≠ (.slice Ao30 t209.length co30 : Value).ownBlock ∧ some k_ ≠ (.slice Ao47 t225.length co47 : Value).ownBlock) (Kd.R_keptB (HO_220002.out) hkp (fun k_ hk_ hs_ => (hk_.2) hs_)) (fun k_ hk_ => ⟨hk_.1.1, hk_.1.2⟩)); have n2_ := Aside0.mk (Kd.R_reok rfl hy0 (fun k_ e_ => HO_230002.out.1 k_ e_)); (first | have n3_ := Aside0.mk (blk_kept BK197.out hkp (Kd.R_ne HO_230002.out BK197.out (by decide))) | have n3_ := Aside0.mk (blk_kept (blk_drewN BK197.out _) hkp (Kd.R_ne HO_230002.out BK197.out (by decide)))); (first | have n4_ := Aside0.mk (blk_kept BK213.out hkp (Kd.R_ne HO_230002.out BK213.out (by decide))) | have n4_ := Aside0.mk (blk_kept (blk_drewN BK213.out _) hkp (Kd.R_ne HO_230002.out BK213.out (by decide)))); (first | have n5_ := Aside0.mk (blk_kept BK219.out hkp (Kd.R_ne HO_230002.out BK219.out (by decide))) | have n5_ := Aside0.mk (blk_kept (blk_drewN BK219.out _) hkp (Kd.R_ne HO_230002.out BK219.out (by decide)))); (first | have n6_ := Aside0.mk (blk_kept BK229.out hkp (Kd.R_ne HO_230002.out BK229.out (by decide))) | have n6_ := Aside0.mk (blk_kept (blk_drewN BK229.out _) hkp (Kd.R_ne HO_230002.out BK229.out (by decide)))); have n7_ := Aside0.mk (hb); clear HO_214002; clear HO_220002; clear HO_230002; clear BK197; clear BK213; clear BK219; clear BK229; clear HB; have HO_214002 := n0_; have HO_220002 := n1_; have HO_230002 := n2_; have BK197 := n3_; have BK213 := n4_; have BK219 := n5_; have BK229 := n6_; have HB := n7_; clear n0_ n1_ n2_ n3_ n4_ n5_ n6_ n7_; (try clear hb); (try clear hkp); (try clear hy0); have hcz194_0 : w193.cell? ⟨gb229, 0, none⟩ = some (.int .i64 t223) := (blk_cell BK229.out 0).trans rfl; have hcz194_1 : w193.cell? ⟨gb229, 1, none⟩ = some (.int .i64 t224) := (blk_cell BK229.out 1).trans rfl; have hcz194_2 : w193.cell? ⟨gb229, 2, none⟩ = some (.slice Ao47 t225.length co47) := (blk_cell BK229.out 2).trans rfl; have hfz194_0 := blk_frozen BK229.out 0; have hfz194_1 := blk_frozen BK229.out 1; have hfz194_2 := blk_frozen BK229.out 2) | ((with_reducible refine gate_callee (f := 24) rfl ?_); refine goesL_ (some 90) rfl rfl Try.func24 (by kernel_rfl) rfl #[.agg #[.int .i64 t223, .int .i64 t224, .slice Ao47 t247.length co47], .int .i64 1] rfl (by (try simp only [List.map_toArray, List.map_cons, List.map_nil]); first | done | (rw [show t247.length = t225.length from (Kd.R_reads' HO_230002.out).1.symm] <;> rfl) | rfl | (simp only [List.length_drop, List.length_take]; rfl)) ?_; (with_reducible refine (laws_heldField.calls kj74 t223 t224 _ _ t247 1 t248 _ ?side1 ?side2 A109.out).mono ?_); (case side1 => repeat (first | exact (Kd.R_reads' HO_230002.out).2.2 | (with_reducible refine Kd.C_alloc ?_ _) | (with_reducible refine Kd.C_drewN ?_ _) | (with_reducible refine Kd.C_drew ?_))); (case side2 => rw [show t247.length = t225.length from (Kd.R_reads' HO_230002.out).1.symm]; exact (Kd.R_reads' HO_230002.out).2.1); rintro e w195 ⟨rfl, hb⟩; refine ⟨_, rfl, ?_⟩; have n0_ := Aside0.mk (Kd.R_below (by (with_reducible repeat (first | apply Kd.R_alloc | apply Kd.R_drewN | apply Kd.R_drew)); exact HO_214002.out) hb); have n1_ := Aside0.mk (Kd.R_below (by (with_reducible repeat (first | apply Kd.R_alloc | apply Kd.R_drewN | apply Kd.R_drew)); exact HO_220002.out) hb); have n2_ := Aside0.mk (Kd.R_below (by (with_reducible repeat (first | apply Kd.R_alloc | apply Kd.R_drewN | apply Kd.R_drew)); exact HO_230002.out) hb); have n3_ := Aside0.mk (blk_below (g := gb197) (o := .cells #[.int .i64 a0_0, .int .i64 a0_1, .slice A0_2 l0_2.length c0_2] 24 (0, 0)) (by (with_reducible repeat (first | refine blk_drewN ?_ _ | refine blk_drew ?_ | refine blk_alloc ?_ _)); exact BK197.out) hb); have n4_ := Aside0.mk (blk_below (g := gb213) (o := .cells #[.int .i64 t207, .int .i64 t208, .slice Ao30 t209.length co30] 26 (0, 0)) (by (with_reducible repeat (first | refine blk_drewN ?_ _ | refine blk_drew ?_ | refine blk_alloc ?_ _)); exact BK213.out) hb); have n5_ := Aside0.mk (blk_below (g := gb219) (o := .cells #[.int .i64 t214, .int .i64 t215, .slice Ao37 t242.length co37] 26 (0, 0)) (by (with_reducible repeat (first | refine blk_drewN ?_ _ | refine blk_drew ?_ | refine blk_alloc ?_ _)); exact BK219.out) hb); have n6_ := Aside0.mk (blk_below (g := gb229) (o := .cells #[.int .i64 t223, .int .i64 t224, .slice Ao47 t225.length co47] 26 (0, 0)) (by (with_reducible repeat (first | refine blk_drewN ?_ _ | refine blk_drew ?_ | refine blk_alloc ?_ _)); exact BK229.out) hb); have n7_ := Aside0.mk (below_step (by repeat (first | (with_reducible first | exact HB.out | apply below_alloc | apply pw_below_drewN | apply below_drew1 | refine below_set ?_ GE197.out | refine below_set ?_ GE213.out | refine below_set ?_ GE219.out | refine below_set ?_ GE229.out) | exact HB.out)) hb); clear HO_214002; clear HO_220002; clear HO_230002; clear BK197; clear BK213; clear BK219; clear BK229; clear HB; have HO_214002 := n0_; have HO_220002 := n1_; have HO_230002 := n2_; have BK197 := n3_; have BK213 := n4_; have BK219 := n5_; have BK229 := n6_; have HB := n7_; clear n0_ n1_ n2_ n3_ n4_ n5_ n6_ n7_; (try clear hb); (try clear hb2); (try clear hk); (try clear hi)))
             go_ret
             exact ⟨by first | rfl | (simp [errW_none, errW_some] <;> rfl) | (simp [*, errW_none, errW_some] <;> rfl), by repeat (first | (with_reducible first | exact HB.out | apply below_alloc | apply pw_below_drewN | apply below_drew1 | refine below_set ?_ GE197.out | refine below_set ?_ GE213.out | refine below_set ?_ GE219.out | refine below_set ?_ GE229.out) | exact HB.out)⟩
       ·replace c72 := Bool.eq_false_iff.mpr c72
        subst c72
        have H1 : (some false) = some r := by rw [if_neg (show ¬ (false = true) by decide)] at H; exact H
        clear H
        have H := H1
        clear H1
        obtain rfl := Option.some.inj H
        try go_wp2
        have n0_ := Aside0.mk (Kd.R_drew HO_11.out)
        have n1_ := Aside0.mk (Kd.R_drew HO_214002.out)
        have n2_ := Aside0.mk (Kd.R_drew HO_220002.out)
        have n3_ := Aside0.mk (Kd.R_drew HO_230002.out)
        have n4_ := Aside0.mk (blk_drew BK197.out)
        have n5_ := Aside0.mk (blk_drew BK213.out)
        have n6_ := Aside0.mk (blk_drew BK219.out)
        have n7_ := Aside0.mk (blk_drew BK229.out)
        have n8_ := Aside0.mk (below_drew1 HB.out)
        clear HO_11
        clear HO_214002
        clear HO_220002
        clear HO_230002
        clear BK197
        clear BK213
        clear BK219
        clear BK229
        clear HB
        have HO_11 := n0_
        have HO_214002 := n1_
        have HO_220002 := n2_
        have HO_230002 := n3_
        have BK197 := n4_
        have BK213 := n5_
        have BK219 := n6_
        have BK229 := n7_
        have HB := n8_
        clear n0_ n1_ n2_ n3_ n4_ n5_ n6_ n7_ n8_
        refine start_ (n := 5) (S := fun w' => w'.cell? ⟨gb219, 0, none⟩ = some (.int .i64 t214) ∧ w'.cell? ⟨gb219, 1, none⟩ = some (.int .i64 t215) ∧ w'.cell? ⟨gb219, 2, none⟩ = some (.slice Ao37 t216.length co37) ∧ w'.cell? ⟨gb197, 0, none⟩ = some (.int .i64 a0_0) ∧ w'.cell? ⟨gb197, 1, none⟩ = some (.int .i64 a0_1) ∧ w'.cell? ⟨gb197, 2, none⟩ = some (.slice A0_2 l0_2.length c0_2)) (ds := []) #[false, false, false, false, false] (by kernel_rfl) rfl rfl ⟨(blk_cell BK219.out 0).trans rfl, (blk_cell BK219.out 1).trans rfl, (blk_cell BK219.out 2).trans rfl, (blk_cell BK197.out 0).trans rfl, (blk_cell BK197.out 1).trans rfl, (blk_cell BK197.out 2).trans rfl⟩ (fun hHeld => ?_)
        generalize wc.drew = w196 at HO_11 HO_214002 HO_220002 HO_230002 BK197 BK213 BK219 BK229 HB hHeld ⊢
        refine take_ (i := 0) (N := some 56) (v := ?_) (a' := ?_) #[true, false, false, false, false] rfl rfl (by kernel_rfl) (fun _ _ _ h => h) (Or.inl ⟨by rfl, ?_⟩) hHeld ?_ ?_
        rotate_left
        ·rintro w' ⟨s0, s1, s2, s3, s4, s5⟩
         go_simp
         with_reducible rfl
        rotate_left
        ·simp only [Act.put, List.setIfInBounds_toArray, List.set_cons_zero, List.set_cons_succ, i64_w, i32_w]
         rfl
        refine take_ (i := 1) (N := some 57) (v := ?_) (a' := ?_) #[true, true, false, false, false] rfl rfl (by kernel_rfl) (fun _ _ _ h => h) (Or.inl ⟨by rfl, ?_⟩) hHeld ?_ ?_
        rotate_left
        ·rintro w' ⟨s0, s1, s2, s3, s4, s5⟩
         go_simp
         with_reducible rfl
        rotate_left
        ·simp only [Act.put, List.setIfInBounds_toArray, List.set_cons_zero, List.set_cons_succ, i64_w, i32_w]
         rfl
        refine one_ (i := 2) (N := some 58) #[true, true, true, false, false] rfl rfl (by kernel_rfl) (by decide) (fun K hK => ?_)
        refine goes_ Try.func17 (by kernel_rfl) rfl #[.agg #[.int .i64 a0_0, .int .i64 a0_1, .slice A0_2 l0_2.length c0_2]] (by rfl) rfl rfl (by (try simp only [List.map_toArray, List.map_cons, List.map_nil]); first | done | rfl | (simp only [List.length_drop, List.length_take]; rfl)) ?_
        with_reducible refine (laws_toField.calls kj16 a0_0 a0_1 _ _ l0_2 t231 t232 t233 _ ?side1 ?side2 A67.out).mono ?_
        (case side1 => repeat (first | exact (Kd.C_below HR0_2.out HB.out) | (with_reducible refine Kd.C_alloc ?_ _) | (with_reducible refine Kd.C_drewN ?_ _) | (with_reducible refine Kd.C_drew ?_)))
        (case side2 => exact HC0_2.out)
        rintro e w197 ⟨v234, rfl, ho0, hb⟩
        refine ⟨_, rfl, ?_⟩
        have n0_ := Aside0.mk (Kd.R_elder' (by (with_reducible repeat (first | apply Kd.R_alloc | apply Kd.R_drewN | apply Kd.R_drew)); exact HO_11.out) (Kd.R_base ho0) hb)
        have n1_ := Aside0.mk (Kd.R_elder' (by (with_reducible repeat (first | apply Kd.R_alloc | apply Kd.R_drewN | apply Kd.R_drew)); exact HO_214002.out) (Kd.R_base ho0) hb)
        have n2_ := Aside0.mk (Kd.R_elder' (by (with_reducible repeat (first | apply Kd.R_alloc | apply Kd.R_drewN | apply Kd.R_drew)); exact HO_220002.out) (Kd.R_base ho0) hb)
        have n3_ := Aside0.mk (Kd.R_elder' (by (with_reducible repeat (first | apply Kd.R_alloc | apply Kd.R_drewN | apply Kd.R_drew)); exact HO_230002.out) (Kd.R_base ho0) hb)
        have n4_ := Aside0.mk (Kd.R_lower (Kd.R_new' (Kd.R_new' (Kd.R_new' (Kd.R_new' ho0 (Kd.R_lt (by (with_reducible repeat (first | apply Kd.R_alloc | apply Kd.R_drewN | apply Kd.R_drew)); exact HO_11.out))) (Kd.R_lt (by (with_reducible repeat (first | apply Kd.R_alloc | apply Kd.R_drewN | apply Kd.R_drew)); exact HO_214002.out))) (Kd.R_lt (by (with_reducible repeat (first | apply Kd.R_alloc | apply Kd.R_drewN | apply Kd.R_drew)); exact HO_220002.out))) (Kd.R_lt (by (with_reducible repeat (first | apply Kd.R_alloc | apply Kd.R_drewN | apply Kd.R_drew)); exact HO_230002.out))) (below_size (by repeat (first | (with_reducible first | exact HB.out | apply below_alloc | apply pw_below_drewN | apply below_drew1 | refine below_set ?_ GE197.out | refine below_set ?_ GE213.out | refine below_set ?_ GE219.out | refine below_set ?_ GE229.out) | exact HB.out))))
        have n5_ := Aside0.mk (blk_below (g := gb197) (o := .cells #[.int .i64 a0_0, .int .i64 a0_1, .slice A0_2 l0_2.length c0_2] 24 (0, 0)) (by (with_reducible repeat (first | refine blk_drewN ?_ _ | refine blk_drew ?_ | refine blk_alloc ?_ _)); exact BK197.out) hb)
        have n6_ := Aside0.mk (blk_below (g := gb213) (o := .cells #[.int .i64 t207, .int .i64 t208, .slice Ao30 t209.length co30] 26 (0, 0)) (by (with_reducible repeat (first | refine blk_drewN ?_ _ | refine blk_drew ?_ | refine blk_alloc ?_ _)); exact BK213.out) hb)
        have n7_ := Aside0.mk (blk_below (g := gb219) (o := .cells #[.int .i64 t214, .int .i64 t215, .slice Ao37 t216.length co37] 26 (0, 0)) (by (with_reducible repeat (first | refine blk_drewN ?_ _ | refine blk_drew ?_ | refine blk_alloc ?_ _)); exact BK219.out) hb)
        have n8_ := Aside0.mk (blk_below (g := gb229) (o := .cells #[.int .i64 t223, .int .i64 t224, .slice Ao47 t225.length co47] 26 (0, 0)) (by (with_reducible repeat (first | refine blk_drewN ?_ _ | refine blk_drew ?_ | refine blk_alloc ?_ _)); exact BK229.out) hb)
        have n9_ := Aside0.mk (below_step (by repeat (first | (with_reducible first | exact HB.out | apply below_alloc | apply pw_below_drewN | apply below_drew1 | refine below_set ?_ GE197.out | refine below_set ?_ GE213.out | refine below_set ?_ GE219.out | refine below_set ?_ GE229.out) | exact HB.out)) hb)
        clear HO_11
        clear HO_214002
        clear HO_220002
        clear HO_230002
        clear BK197
        clear BK213
        clear BK219
        clear BK229
        clear HB
        have HO_11 := n0_
        have HO_214002 := n1_
        have HO_220002 := n2_
        have HO_230002 := n3_
        have HO235 := n4_
        have BK197 := n5_
        have BK213 := n6_
        have BK219 := n7_
        have BK229 := n8_
        have HB := n9_
        clear n0_ n1_ n2_ n3_ n4_ n5_ n6_ n7_ n8_ n9_
        (try clear hb)
        (try clear hb2)
        (try clear hk)
        (try clear hi)
        (try clear ho0)
        obtain ⟨Ao198, co198, eo198⟩ := Kd.R_slice HO235.out
        (first | subst eo198 | (injection eo198 with f1_ f2_ f3_; have f4_ := f1_.symm; have f5_ := f3_.symm; clear f1_ f2_ f3_; subst f4_; subst f5_))
        refine hK.out _ _ ⟨(blk_cell BK219.out 0).trans rfl, (blk_cell BK219.out 1).trans rfl, (blk_cell BK219.out 2).trans rfl, (blk_cell BK197.out 0).trans rfl, (blk_cell BK197.out 1).trans rfl, (blk_cell BK197.out 2).trans rfl⟩ (fun hHeld => ?_)
        clear hK K
        refine norm_ (a' := ?_) ?_ ?_
        rotate_left
        ·show Act.put _ (some 58) _ = _
         simp only [Act.put, List.setIfInBounds_toArray, List.set_cons_zero, List.set_cons_succ, i64_w, i32_w]
         rfl
        refine one_ (i := 3) (N := some 59) #[true, true, true, true, false] rfl rfl (by kernel_rfl) (by decide) (fun K hK => ?_)
        refine goes_ Try.func20 (by kernel_rfl) rfl #[.agg #[.int .i64 t214, .int .i64 t215, .slice Ao37 t216.length co37], .agg #[.int .i64 t231, .int .i64 t232, .slice Ao198 t233.length co198]] (by rfl) rfl rfl (by (try simp only [List.map_toArray, List.map_cons, List.map_nil]); first | done | rfl | (simp only [List.length_drop, List.length_take]; rfl)) ?_
        with_reducible refine (laws_eqField.calls kj16 t214 t215 _ _ t216 t231 t232 _ _ t233 true _ ?side1 ?side2 ?side3 ?side4 A68.out).mono ?_
        (case side1 => repeat (first | exact (Kd.R_reads' HO_220002.out).2.2 | (with_reducible refine Kd.C_alloc ?_ _) | (with_reducible refine Kd.C_drewN ?_ _) | (with_reducible refine Kd.C_drew ?_)))
        (case side2 => exact (Kd.R_reads' HO_220002.out).2.1)
        (case side3 => repeat (first | exact (Kd.R_reads' HO235.out).2.2 | (with_reducible refine Kd.C_alloc ?_ _) | (with_reducible refine Kd.C_drewN ?_ _) | (with_reducible refine Kd.C_drew ?_)))
        (case side4 => exact (Kd.R_reads' HO235.out).2.1)
        rintro e w199 ⟨rfl, hb⟩
        refine ⟨_, rfl, ?_⟩
        have n0_ := Aside0.mk (Kd.R_below (by (with_reducible repeat (first | apply Kd.R_alloc | apply Kd.R_drewN | apply Kd.R_drew)); exact HO_11.out) hb)
        have n1_ := Aside0.mk (Kd.R_below (by (with_reducible repeat (first | apply Kd.R_alloc | apply Kd.R_drewN | apply Kd.R_drew)); exact HO_214002.out) hb)
        have n2_ := Aside0.mk (Kd.R_below (by (with_reducible repeat (first | apply Kd.R_alloc | apply Kd.R_drewN | apply Kd.R_drew)); exact HO_220002.out) hb)
        have n3_ := Aside0.mk (Kd.R_below (by (with_reducible repeat (first | apply Kd.R_alloc | apply Kd.R_drewN | apply Kd.R_drew)); exact HO_230002.out) hb)
        have n4_ := Aside0.mk (Kd.R_below (by (with_reducible repeat (first | apply Kd.R_alloc | apply Kd.R_drewN | apply Kd.R_drew)); exact HO235.out) hb)
        have n5_ := Aside0.mk (blk_below (g := gb197) (o := .cells #[.int .i64 a0_0, .int .i64 a0_1, .slice A0_2 l0_2.length c0_2] 24 (0, 0)) (by (with_reducible repeat (first | refine blk_drewN ?_ _ | refine blk_drew ?_ | refine blk_alloc ?_ _)); exact BK197.out) hb)
        have n6_ := Aside0.mk (blk_below (g := gb213) (o := .cells #[.int .i64 t207, .int .i64 t208, .slice Ao30 t209.length co30] 26 (0, 0)) (by (with_reducible repeat (first | refine blk_drewN ?_ _ | refine blk_drew ?_ | refine blk_alloc ?_ _)); exact BK213.out) hb)
        have n7_ := Aside0.mk (blk_below (g := gb219) (o := .cells #[.int .i64 t214, .int .i64 t215, .slice Ao37 t216.length co37] 26 (0, 0)) (by (with_reducible repeat (first | refine blk_drewN ?_ _ | refine blk_drew ?_ | refine blk_alloc ?_ _)); exact BK219.out) hb)
        have n8_ := Aside0.mk (blk_below (g := gb229) (o := .cells #[.int .i64 t223, .int .i64 t224, .slice Ao47 t225.length co47] 26 (0, 0)) (by (with_reducible repeat (first | refine blk_drewN ?_ _ | refine blk_drew ?_ | refine blk_alloc ?_ _)); exact BK229.out) hb)
        have n9_ := Aside0.mk (below_step (by repeat (first | (with_reducible first | exact HB.out | apply below_alloc | apply pw_below_drewN | apply below_drew1 | refine below_set ?_ GE197.out | refine below_set ?_ GE213.out | refine below_set ?_ GE219.out | refine below_set ?_ GE229.out) | exact HB.out)) hb)
        clear HO_11
        clear HO_214002
        clear HO_220002
        clear HO_230002
        clear HO235
        clear BK197
        clear BK213
        clear BK219
        clear BK229
        clear HB
        have HO_11 := n0_
        have HO_214002 := n1_
        have HO_220002 := n2_
        have HO_230002 := n3_
        have HO235 := n4_
        have BK197 := n5_
        have BK213 := n6_
        have BK219 := n7_
        have BK229 := n8_
        have HB := n9_
        clear n0_ n1_ n2_ n3_ n4_ n5_ n6_ n7_ n8_ n9_
        (try clear hb)
        (try clear hb2)
        (try clear hk)
        (try clear hi)
        refine hK.out _ _ ⟨(blk_cell BK219.out 0).trans rfl, (blk_cell BK219.out 1).trans rfl, (blk_cell BK219.out 2).trans rfl, (blk_cell BK197.out 0).trans rfl, (blk_cell BK197.out 1).trans rfl, (blk_cell BK197.out 2).trans rfl⟩ (fun hHeld => ?_)
        clear hK K
        refine norm_ (a' := ?_) ?_ ?_
        rotate_left
        ·show Act.put _ (some 59) _ = _
         simp only [Act.put, List.setIfInBounds_toArray, List.set_cons_zero, List.set_cons_succ, i64_w, i32_w]
         rfl
        refine pure_ (i := 4) (N := some 60) (v := ?_) (a' := ?_) #[true, true, true, true, true] rfl rfl (by kernel_rfl) (fun _ _ _ h => h) (Or.inl ⟨by rfl, ?_⟩) ?_ ?_
        rotate_left
        ·intro w'
         go_simp
         with_reducible rfl
        rotate_left
        ·simp only [Act.put, List.setIfInBounds_toArray, List.set_cons_zero, List.set_cons_succ, i64_w, i32_w]
         rfl
        refine done_ (by kernel_rfl) ?_
        try go_wp2_with (first | ((with_reducible refine gate_callee (f := 18) rfl ?_); refine goesL_ (some 63) rfl rfl Try.func18 (by kernel_rfl) rfl #[.slice A2 l2.length c2] rfl (by (try simp only [List.map_toArray, List.map_cons, List.map_nil]); first | done | rfl | (simp only [List.length_drop, List.length_take]; rfl)) ?_; (with_reducible refine (laws_toIntS.calls kj16 _ _ l2 t237 _ ?side1 ?side2 A70.out).mono ?_); (case side1 => repeat (first | exact (Kd.C_below HR2.out HB.out) | (with_reducible refine Kd.C_alloc ?_ _) | (with_reducible refine Kd.C_drewN ?_ _) | (with_reducible refine Kd.C_drew ?_))); (case side2 => exact HC2.out); rintro e w200 ⟨v238, rfl, ho0, hb⟩; refine ⟨_, rfl, ?_⟩; have n0_ := Aside0.mk (Kd.R_elder' (by (with_reducible repeat (first | apply Kd.R_alloc | apply Kd.R_drewN | apply Kd.R_drew)); exact HO_11.out) (Kd.R_base ho0) hb); have n1_ := Aside0.mk (Kd.R_elder' (by (with_reducible repeat (first | apply Kd.R_alloc | apply Kd.R_drewN | apply Kd.R_drew)); exact HO_214002.out) (Kd.R_base ho0) hb); have n2_ := Aside0.mk (Kd.R_elder' (by (with_reducible repeat (first | apply Kd.R_alloc | apply Kd.R_drewN | apply Kd.R_drew)); exact HO_220002.out) (Kd.R_base ho0) hb); have n3_ := Aside0.mk (Kd.R_elder' (by (with_reducible repeat (first | apply Kd.R_alloc | apply Kd.R_drewN | apply Kd.R_drew)); exact HO_230002.out) (Kd.R_base ho0) hb); have n4_ := Aside0.mk (Kd.R_elder' (by (with_reducible repeat (first | apply Kd.R_alloc | apply Kd.R_drewN | apply Kd.R_drew)); exact HO235.out) (Kd.R_base ho0) hb); have n5_ := Aside0.mk (Kd.R_lower (Kd.R_new' (Kd.R_new' (Kd.R_new' (Kd.R_new' (Kd.R_new' ho0 (Kd.R_lt (by (with_reducible repeat (first | apply Kd.R_alloc | apply Kd.R_drewN | apply Kd.R_drew)); exact HO_11.out))) (Kd.R_lt (by (with_reducible repeat (first | apply Kd.R_alloc | apply Kd.R_drewN | apply Kd.R_drew)); exact HO_214002.out))) (Kd.R_lt (by (with_reducible repeat (first | apply Kd.R_alloc | apply Kd.R_drewN | apply Kd.R_drew)); exact HO_220002.out))) (Kd.R_lt (by (with_reducible repeat (first | apply Kd.R_alloc | apply Kd.R_drewN | apply Kd.R_drew)); exact HO_230002.out))) (Kd.R_lt (by (with_reducible repeat (first | apply Kd.R_alloc | apply Kd.R_drewN | apply Kd.R_drew)); exact HO235.out))) (below_size (by repeat (first | (with_reducible first | exact HB.out | apply below_alloc | apply pw_below_drewN | apply below_drew1 | refine below_set ?_ GE197.out | refine below_set ?_ GE213.out | refine below_set ?_ GE219.out | refine below_set ?_ GE229.out) | exact HB.out)))); have n6_ := Aside0.mk (blk_below (g := gb197) (o := .cells #[.int .i64 a0_0, .int .i64 a0_1, .slice A0_2 l0_2.length c0_2] 24 (0, 0)) (by (with_reducible repeat (first | refine blk_drewN ?_ _ | refine blk_drew ?_ | refine blk_alloc ?_ _)); exact BK197.out) hb); have n7_ := Aside0.mk (blk_below (g := gb213) (o := .cells #[.int .i64 t207, .int .i64 t208, .slice Ao30 t209.length co30] 26 (0, 0)) (by (with_reducible repeat (first | refine blk_drewN ?_ _ | refine blk_drew ?_ | refine blk_alloc ?_ _)); exact BK213.out) hb); have n8_ := Aside0.mk (blk_below (g := gb219) (o := .cells #[.int .i64 t214, .int .i64 t215, .slice Ao37 t216.length co37] 26 (0, 0)) (by (with_reducible repeat (first | refine blk_drewN ?_ _ | refine blk_drew ?_ | refine blk_alloc ?_ _)); exact BK219.out) hb); have n9_ := Aside0.mk (blk_below (g := gb229) (o := .cells #[.int .i64 t223, .int .i64 t224, .slice Ao47 t225.length co47] 26 (0, 0)) (by (with_reducible repeat (first | refine blk_drewN ?_ _ | refine blk_drew ?_ | refine blk_alloc ?_ _)); exact BK229.out) hb); have n10_ := Aside0.mk (below_step (by repeat (first | (with_reducible first | exact HB.out | apply below_alloc | apply pw_below_drewN | apply below_drew1 | refine below_set ?_ GE197.out | refine below_set ?_ GE213.out | refine below_set ?_ GE219.out | refine below_set ?_ GE229.out) | exact HB.out)) hb); clear HO_11; clear HO_214002; clear HO_220002; clear HO_230002; clear HO235; clear BK197; clear BK213; clear BK219; clear BK229; clear HB; have HO_11 := n0_; have HO_214002 := n1_; have HO_220002 := n2_; have HO_230002 := n3_; have HO235 := n4_; have HO239 := n5_; have BK197 := n6_; have BK213 := n7_; have BK219 := n8_; have BK229 := n9_; have HB := n10_; clear n0_ n1_ n2_ n3_ n4_ n5_ n6_ n7_ n8_ n9_ n10_; (try clear hb); (try clear hb2); (try clear hk); (try clear hi); (try clear ho0); obtain ⟨Ao201, co201, eo201⟩ := Kd.R_slice HO239.out; subst eo201) | ((with_reducible refine gate_callee (f := 21) rfl ?_); refine goesL_ (some 64) rfl rfl Try.func21 (by kernel_rfl) rfl #[.slice Ao40 t220.length co40, .slice Ao201 t237.length co201] rfl (by (try simp only [List.map_toArray, List.map_cons, List.map_nil]); first | done | rfl | (simp only [List.length_drop, List.length_take]; rfl)) ?_; (with_reducible refine (laws_eqIntS.calls kj16 _ _ t220 _ _ t237 false _ ?side1 ?side2 ?side3 ?side4 A71.out).mono ?_); (case side1 => repeat (first | exact (Kd.R_reads' HO_11.out).2.2 | (with_reducible refine Kd.C_alloc ?_ _) | (with_reducible refine Kd.C_drewN ?_ _) | (with_reducible refine Kd.C_drew ?_))); (case side2 => exact (Kd.R_reads' HO_11.out).2.1); (case side3 => repeat (first | exact (Kd.R_reads' HO239.out).2.2 | (with_reducible refine Kd.C_alloc ?_ _) | (with_reducible refine Kd.C_drewN ?_ _) | (with_reducible refine Kd.C_drew ?_))); (case side4 => exact (Kd.R_reads' HO239.out).2.1); rintro e w' ⟨rfl, ⟨nd, rfl⟩⟩; refine ⟨_, rfl, ?_⟩))
        go_ret
        exact ⟨by first | rfl | (simp [errW_none, errW_some] <;> rfl) | (simp [*, errW_none, errW_some] <;> rfl), by repeat (first | (with_reducible first | exact HB.out | apply below_alloc | apply pw_below_drewN | apply below_drew1 | refine below_set ?_ GE197.out | refine below_set ?_ GE213.out | refine below_set ?_ GE219.out | refine below_set ?_ GE229.out) | exact HB.out)⟩
      ·replace c69 := Bool.eq_false_iff.mpr c69
       subst c69
       have H1 : (some false) = some r := by rw [if_neg (show ¬ (false = true) by decide)] at H; exact H
       clear H
       have H := H1
       clear H1
       obtain rfl := Option.some.inj H
       try go_wp2
       have n0_ := Aside0.mk (Kd.R_drew HO_11.out)
       have n1_ := Aside0.mk (Kd.R_drew HO_214002.out)
       have n2_ := Aside0.mk (Kd.R_drew HO_220002.out)
       have n3_ := Aside0.mk (Kd.R_drew HO_230002.out)
       have n4_ := Aside0.mk (blk_drew BK197.out)
       have n5_ := Aside0.mk (blk_drew BK213.out)
       have n6_ := Aside0.mk (blk_drew BK219.out)
       have n7_ := Aside0.mk (blk_drew BK229.out)
       have n8_ := Aside0.mk (below_drew1 HB.out)
       clear HO_11
       clear HO_214002
       clear HO_220002
       clear HO_230002
       clear BK197
       clear BK213
       clear BK219
       clear BK229
       clear HB
       have HO_11 := n0_
       have HO_214002 := n1_
       have HO_220002 := n2_
       have HO_230002 := n3_
       have BK197 := n4_
       have BK213 := n5_
       have BK219 := n6_
       have BK229 := n7_
       have HB := n8_
       clear n0_ n1_ n2_ n3_ n4_ n5_ n6_ n7_ n8_
       refine start_ (n := 5) (S := fun w' => w'.cell? ⟨gb219, 0, none⟩ = some (.int .i64 t214) ∧ w'.cell? ⟨gb219, 1, none⟩ = some (.int .i64 t215) ∧ w'.cell? ⟨gb219, 2, none⟩ = some (.slice Ao37 t216.length co37) ∧ w'.cell? ⟨gb197, 0, none⟩ = some (.int .i64 a0_0) ∧ w'.cell? ⟨gb197, 1, none⟩ = some (.int .i64 a0_1) ∧ w'.cell? ⟨gb197, 2, none⟩ = some (.slice A0_2 l0_2.length c0_2)) (ds := []) #[false, false, false, false, false] (by kernel_rfl) rfl rfl ⟨(blk_cell BK219.out 0).trans rfl, (blk_cell BK219.out 1).trans rfl, (blk_cell BK219.out 2).trans rfl, (blk_cell BK197.out 0).trans rfl, (blk_cell BK197.out 1).trans rfl, (blk_cell BK197.out 2).trans rfl⟩ (fun hHeld => ?_)
       generalize wc.drew = w202 at HO_11 HO_214002 HO_220002 HO_230002 BK197 BK213 BK219 BK229 HB hHeld ⊢
       refine take_ (i := 0) (N := some 56) (v := ?_) (a' := ?_) #[true, false, false, false, false] rfl rfl (by kernel_rfl) (fun _ _ _ h => h) (Or.inl ⟨by rfl, ?_⟩) hHeld ?_ ?_
       rotate_left
       ·rintro w' ⟨s0, s1, s2, s3, s4, s5⟩
        go_simp
        with_reducible rfl
       rotate_left
       ·simp only [Act.put, List.setIfInBounds_toArray, List.set_cons_zero, List.set_cons_succ, i64_w, i32_w]
        rfl
       refine take_ (i := 1) (N := some 57) (v := ?_) (a' := ?_) #[true, true, false, false, false] rfl rfl (by kernel_rfl) (fun _ _ _ h => h) (Or.inl ⟨by rfl, ?_⟩) hHeld ?_ ?_
       rotate_left
       ·rintro w' ⟨s0, s1, s2, s3, s4, s5⟩
        go_simp
        with_reducible rfl
       rotate_left
       ·simp only [Act.put, List.setIfInBounds_toArray, List.set_cons_zero, List.set_cons_succ, i64_w, i32_w]
        rfl
       refine one_ (i := 2) (N := some 58) #[true, true, true, false, false] rfl rfl (by kernel_rfl) (by decide) (fun K hK => ?_)
       refine goes_ Try.func17 (by kernel_rfl) rfl #[.agg #[.int .i64 a0_0, .int .i64 a0_1, .slice A0_2 l0_2.length c0_2]] (by rfl) rfl rfl (by (try simp only [List.map_toArray, List.map_cons, List.map_nil]); first | done | rfl | (simp only [List.length_drop, List.length_take]; rfl)) ?_
       with_reducible refine (laws_toField.calls kj16 a0_0 a0_1 _ _ l0_2 t231 t232 t233 _ ?side1 ?side2 A67.out).mono ?_
       (case side1 => repeat (first | exact (Kd.C_below HR0_2.out HB.out) | (with_reducible refine Kd.C_alloc ?_ _) | (with_reducible refine Kd.C_drewN ?_ _) | (with_reducible refine Kd.C_drew ?_)))
       (case side2 => exact HC0_2.out)
       rintro e w203 ⟨v234, rfl, ho0, hb⟩
       refine ⟨_, rfl, ?_⟩
       have n0_ := Aside0.mk (Kd.R_elder' (by (with_reducible repeat (first | apply Kd.R_alloc | apply Kd.R_drewN | apply Kd.R_drew)); exact HO_11.out) (Kd.R_base ho0) hb)
       have n1_ := Aside0.mk (Kd.R_elder' (by (with_reducible repeat (first | apply Kd.R_alloc | apply Kd.R_drewN | apply Kd.R_drew)); exact HO_214002.out) (Kd.R_base ho0) hb)
       have n2_ := Aside0.mk (Kd.R_elder' (by (with_reducible repeat (first | apply Kd.R_alloc | apply Kd.R_drewN | apply Kd.R_drew)); exact HO_220002.out) (Kd.R_base ho0) hb)
       have n3_ := Aside0.mk (Kd.R_elder' (by (with_reducible repeat (first | apply Kd.R_alloc | apply Kd.R_drewN | apply Kd.R_drew)); exact HO_230002.out) (Kd.R_base ho0) hb)
       have n4_ := Aside0.mk (Kd.R_lower (Kd.R_new' (Kd.R_new' (Kd.R_new' (Kd.R_new' ho0 (Kd.R_lt (by (with_reducible repeat (first | apply Kd.R_alloc | apply Kd.R_drewN | apply Kd.R_drew)); exact HO_11.out))) (Kd.R_lt (by (with_reducible repeat (first | apply Kd.R_alloc | apply Kd.R_drewN | apply Kd.R_drew)); exact HO_214002.out))) (Kd.R_lt (by (with_reducible repeat (first | apply Kd.R_alloc | apply Kd.R_drewN | apply Kd.R_drew)); exact HO_220002.out))) (Kd.R_lt (by (with_reducible repeat (first | apply Kd.R_alloc | apply Kd.R_drewN | apply Kd.R_drew)); exact HO_230002.out))) (below_size (by repeat (first | (with_reducible first | exact HB.out | apply below_alloc | apply pw_below_drewN | apply below_drew1 | refine below_set ?_ GE197.out | refine below_set ?_ GE213.out | refine below_set ?_ GE219.out | refine below_set ?_ GE229.out) | exact HB.out))))
       have n5_ := Aside0.mk (blk_below (g := gb197) (o := .cells #[.int .i64 a0_0, .int .i64 a0_1, .slice A0_2 l0_2.length c0_2] 24 (0, 0)) (by (with_reducible repeat (first | refine blk_drewN ?_ _ | refine blk_drew ?_ | refine blk_alloc ?_ _)); exact BK197.out) hb)
       have n6_ := Aside0.mk (blk_below (g := gb213) (o := .cells #[.int .i64 t207, .int .i64 t208, .slice Ao30 t209.length co30] 26 (0, 0)) (by (with_reducible repeat (first | refine blk_drewN ?_ _ | refine blk_drew ?_ | refine blk_alloc ?_ _)); exact BK213.out) hb)
       have n7_ := Aside0.mk (blk_below (g := gb219) (o := .cells #[.int .i64 t214, .int .i64 t215, .slice Ao37 t216.length co37] 26 (0, 0)) (by (with_reducible repeat (first | refine blk_drewN ?_ _ | refine blk_drew ?_ | refine blk_alloc ?_ _)); exact BK219.out) hb)
       have n8_ := Aside0.mk (blk_below (g := gb229) (o := .cells #[.int .i64 t223, .int .i64 t224, .slice Ao47 t225.length co47] 26 (0, 0)) (by (with_reducible repeat (first | refine blk_drewN ?_ _ | refine blk_drew ?_ | refine blk_alloc ?_ _)); exact BK229.out) hb)
       have n9_ := Aside0.mk (below_step (by repeat (first | (with_reducible first | exact HB.out | apply below_alloc | apply pw_below_drewN | apply below_drew1 | refine below_set ?_ GE197.out | refine below_set ?_ GE213.out | refine below_set ?_ GE219.out | refine below_set ?_ GE229.out) | exact HB.out)) hb)
       clear HO_11
       clear HO_214002
       clear HO_220002
       clear HO_230002
       clear BK197
       clear BK213
       clear BK219
       clear BK229
       clear HB
       have HO_11 := n0_
       have HO_214002 := n1_
       have HO_220002 := n2_
       have HO_230002 := n3_
       have HO235 := n4_
       have BK197 := n5_
       have BK213 := n6_
       have BK219 := n7_
       have BK229 := n8_
       have HB := n9_
       clear n0_ n1_ n2_ n3_ n4_ n5_ n6_ n7_ n8_ n9_
       (try clear hb)
       (try clear hb2)
       (try clear hk)
       (try clear hi)
       (try clear ho0)
       obtain ⟨Ao204, co204, eo204⟩ := Kd.R_slice HO235.out
       (first | subst eo204 | (injection eo204 with f1_ f2_ f3_; have f4_ := f1_.symm; have f5_ := f3_.symm; clear f1_ f2_ f3_; subst f4_; subst f5_))
       refine hK.out _ _ ⟨(blk_cell BK219.out 0).trans rfl, (blk_cell BK219.out 1).trans rfl, (blk_cell BK219.out 2).trans rfl, (blk_cell BK197.out 0).trans rfl, (blk_cell BK197.out 1).trans rfl, (blk_cell BK197.out 2).trans rfl⟩ (fun hHeld => ?_)
       clear hK K
       refine norm_ (a' := ?_) ?_ ?_
       rotate_left
       ·show Act.put _ (some 58) _ = _
        simp only [Act.put, List.setIfInBounds_toArray, List.set_cons_zero, List.set_cons_succ, i64_w, i32_w]
        rfl
       refine one_ (i := 3) (N := some 59) #[true, true, true, true, false] rfl rfl (by kernel_rfl) (by decide) (fun K hK => ?_)
       refine goes_ Try.func20 (by kernel_rfl) rfl #[.agg #[.int .i64 t214, .int .i64 t215, .slice Ao37 t216.length co37], .agg #[.int .i64 t231, .int .i64 t232, .slice Ao204 t233.length co204]] (by rfl) rfl rfl (by (try simp only [List.map_toArray, List.map_cons, List.map_nil]); first | done | rfl | (simp only [List.length_drop, List.length_take]; rfl)) ?_
       with_reducible refine (laws_eqField.calls kj16 t214 t215 _ _ t216 t231 t232 _ _ t233 false _ ?side1 ?side2 ?side3 ?side4 A68.out).mono ?_
       (case side1 => repeat (first | exact (Kd.R_reads' HO_220002.out).2.2 | (with_reducible refine Kd.C_alloc ?_ _) | (with_reducible refine Kd.C_drewN ?_ _) | (with_reducible refine Kd.C_drew ?_)))
       (case side2 => exact (Kd.R_reads' HO_220002.out).2.1)
       (case side3 => repeat (first | exact (Kd.R_reads' HO235.out).2.2 | (with_reducible refine Kd.C_alloc ?_ _) | (with_reducible refine Kd.C_drewN ?_ _) | (with_reducible refine Kd.C_drew ?_)))
       (case side4 => exact (Kd.R_reads' HO235.out).2.1)
       rintro e w205 ⟨rfl, hb⟩
       refine ⟨_, rfl, ?_⟩
       have n0_ := Aside0.mk (Kd.R_below (by (with_reducible repeat (first | apply Kd.R_alloc | apply Kd.R_drewN | apply Kd.R_drew)); exact HO_11.out) hb)
       have n1_ := Aside0.mk (Kd.R_below (by (with_reducible repeat (first | apply Kd.R_alloc | apply Kd.R_drewN | apply Kd.R_drew)); exact HO_214002.out) hb)
       have n2_ := Aside0.mk (Kd.R_below (by (with_reducible repeat (first | apply Kd.R_alloc | apply Kd.R_drewN | apply Kd.R_drew)); exact HO_220002.out) hb)
       have n3_ := Aside0.mk (Kd.R_below (by (with_reducible repeat (first | apply Kd.R_alloc | apply Kd.R_drewN | apply Kd.R_drew)); exact HO_230002.out) hb)
       have n4_ := Aside0.mk (Kd.R_below (by (with_reducible repeat (first | apply Kd.R_alloc | apply Kd.R_drewN | apply Kd.R_drew)); exact HO235.out) hb)
       have n5_ := Aside0.mk (blk_below (g := gb197) (o := .cells #[.int .i64 a0_0, .int .i64 a0_1, .slice A0_2 l0_2.length c0_2] 24 (0, 0)) (by (with_reducible repeat (first | refine blk_drewN ?_ _ | refine blk_drew ?_ | refine blk_alloc ?_ _)); exact BK197.out) hb)
       have n6_ := Aside0.mk (blk_below (g := gb213) (o := .cells #[.int .i64 t207, .int .i64 t208, .slice Ao30 t209.length co30] 26 (0, 0)) (by (with_reducible repeat (first | refine blk_drewN ?_ _ | refine blk_drew ?_ | refine blk_alloc ?_ _)); exact BK213.out) hb)
       have n7_ := Aside0.mk (blk_below (g := gb219) (o := .cells #[.int .i64 t214, .int .i64 t215, .slice Ao37 t216.length co37] 26 (0, 0)) (by (with_reducible repeat (first | refine blk_drewN ?_ _ | refine blk_drew ?_ | refine blk_alloc ?_ _)); exact BK219.out) hb)
       have n8_ := Aside0.mk (blk_below (g := gb229) (o := .cells #[.int .i64 t223, .int .i64 t224, .slice Ao47 t225.length co47] 26 (0, 0)) (by (with_reducible repeat (first | refine blk_drewN ?_ _ | refine blk_drew ?_ | refine blk_alloc ?_ _)); exact BK229.out) hb)
       have n9_ := Aside0.mk (below_step (by repeat (first | (with_reducible first | exact HB.out | apply below_alloc | apply pw_below_drewN | apply below_drew1 | refine below_set ?_ GE197.out | refine below_set ?_ GE213.out | refine below_set ?_ GE219.out | refine below_set ?_ GE229.out) | exact HB.out)) hb)
       clear HO_11
       clear HO_214002
       clear HO_220002
       clear HO_230002
       clear HO235
       clear BK197
       clear BK213
       clear BK219
       clear BK229
       clear HB
       have HO_11 := n0_
       have HO_214002 := n1_
       have HO_220002 := n2_
       have HO_230002 := n3_
       have HO235 := n4_
       have BK197 := n5_
       have BK213 := n6_
       have BK219 := n7_
       have BK229 := n8_
       have HB := n9_
       clear n0_ n1_ n2_ n3_ n4_ n5_ n6_ n7_ n8_ n9_
       (try clear hb)
       (try clear hb2)
       (try clear hk)
       (try clear hi)
       refine hK.out _ _ ⟨(blk_cell BK219.out 0).trans rfl, (blk_cell BK219.out 1).trans rfl, (blk_cell BK219.out 2).trans rfl, (blk_cell BK197.out 0).trans rfl, (blk_cell BK197.out 1).trans rfl, (blk_cell BK197.out 2).trans rfl⟩ (fun hHeld => ?_)
       clear hK K
       refine norm_ (a' := ?_) ?_ ?_
       rotate_left
       ·show Act.put _ (some 59) _ = _
        simp only [Act.put, List.setIfInBounds_toArray, List.set_cons_zero, List.set_cons_succ, i64_w, i32_w]
        rfl
       refine pure_ (i := 4) (N := some 60) (v := ?_) (a' := ?_) #[true, true, true, true, true] rfl rfl (by kernel_rfl) (fun _ _ _ h => h) (Or.inl ⟨by rfl, ?_⟩) ?_ ?_
       rotate_left
       ·intro w'
        go_simp
        with_reducible rfl
       rotate_left
       ·simp only [Act.put, List.setIfInBounds_toArray, List.set_cons_zero, List.set_cons_succ, i64_w, i32_w]
        rfl
       refine done_ (by kernel_rfl) ?_
       try go_wp2
       go_ret
       exact ⟨by first | rfl | (simp [errW_none, errW_some] <;> rfl) | (simp [*, errW_none, errW_some] <;> rfl), by repeat (first | (with_reducible first | exact HB.out | apply below_alloc | apply pw_below_drewN | apply below_drew1 | refine below_set ?_ GE197.out | refine below_set ?_ GE213.out | refine below_set ?_ GE219.out | refine below_set ?_ GE229.out) | exact HB.out)⟩

/-! the law's reading -/
def ok24 (z : S24) : Prop := ((Lit.int .i64 z.f0).wf = true) ∧ ((Lit.int .i64 z.f1).wf = true) ∧ (z.f2.length ≤ maxLen ∧ ∀ z266 ∈ z.f2, (Lit.int .i64 z266).wf = true)
/-- THE ONE PURE STATEMENT of laws_FnExactAutoTile. -/
def laws_FnExactAutoTile.Pure : Prop := ∀ (a0_0 : Int) (a0_1 : Int) (l0_2 : List Int) (a1 : Int) (l2 : List Int), ((Lit.int .i64 a0_0).wf = true) → ((Lit.int .i64 a0_1).wf = true) → (l0_2.length ≤ maxLen ∧ ∀ z268 ∈ l0_2, (Lit.int .i64 z268).wf = true) → ((Lit.int .i64 a1).wf = true) → (l2.length ≤ maxLen ∧ ∀ z269 ∈ l2, (Lit.int .i64 z269).wf = true) → ∃ k, laws_FnExactAutoTile.f k a0_0 a0_1 l0_2 a1 l2 = some true


end Go.Proofs.Ytjaljjdmolhhpaa.XFnExactAutoTile
