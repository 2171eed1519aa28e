/- What the Go functions that this law comes to compute, each walked; written by a program of this session. -/
import Derived.Test.YtbjdhmgednhdgaaXShort
import Derived.Test.YtbjdhmgednhdgaaXFlt
import Derived.Test.YtbjdhmgednhdgaaXMark
import Derived.Test.YtbjdhmgednhdgaaXFnExactRunBusesx0
import Derived.Test.YtbjdhmgednhdgaaXFnExactRunBusesx1
namespace Go.Proofs.Ytbjdhmgednhdgaa.XFnExactRunBuses
open Go.RowKit Go.Proofs.YtbjdhmgednhdgaaW.PrintWords Go.Proofs.YtbjdhmgednhdgaaW.PrintLast Go.Proofs.YtbjdhmgednhdgaaW.PrintMore
attribute [local go_sem] run_fadd run_fsub run_fmul run_fdiv run_fconv run_fofI run_feq run_fneq run_flss run_fgtr run_fleq run_fgeq run_store_flt str_geq max2_int min2_int max_two min_two max_three min_three max_four min_four   -- for this text's walks alone
set_option linter.unusedVariables false
set_option linter.unusedSimpArgs false

/-! ### laws_eqFilter: function 65 -/
def laws_eqFilter.f (k : Nat) (a0_0 : Int) (a0_1 : Int) (a0_2 : Int) (a0_3 : Int) (a0_4 : Int) (a1_0 : Int) (a1_1 : Int) (a1_2 : Int) (a1_3 : Int) (a1_4 : Int) : Option (Bool) := (laws_sameFloat.f k a0_0 a1_0).bind fun t234 => (if t234 = true then ((laws_sameFloat.f k a0_1 a1_1).bind fun t235 => (if t235 = true then ((laws_sameFloat.f k a0_2 a1_2).bind fun t236 => (if t236 = true then ((laws_sameFloat.f k a0_3 a1_3).bind fun t237 => (if t237 = true then ((laws_sameFloat.f k a0_4 a1_4).bind fun t238 => (if t238 = true then (some true) else (some false))) else (some false))) else (some false))) else (some false))) else (some false))
theorem laws_eqFilter.mono : ∀ a0 a1 a2 a3 a4 a5 a6 a7 a8 a9 k, LeO (laws_eqFilter.f k a0 a1 a2 a3 a4 a5 a6 a7 a8 a9) (laws_eqFilter.f (k + 1) a0 a1 a2 a3 a4 a5 a6 a7 a8 a9) := by
 intro a0 a1 a2 a3 a4 a5 a6 a7 a8 a9 k
 unfold laws_eqFilter.f
 repeat' first
   | (with_reducible exact laws_sameFloat.mono _ _ _)
   | (with_reducible exact LeO.refl _)
   | (with_reducible exact LeO.none _)
   | (with_reducible refine LeO.ite ?_ ?_)
   | (with_reducible refine LeO.bind ?_ (fun _ => ?_))
   | exact laws_sameFloat.mono _ _ _
   | exact LeO.none _
   | refine LeO.ite ?_ ?_
   | refine LeO.bind ?_ (fun _ => ?_)
set_option maxHeartbeats 8000000 in
set_option maxRecDepth 100000 in
theorem laws_eqFilter.calls (k : Nat) (a0_0 : Int) (a0_1 : Int) (a0_2 : Int) (a0_3 : Int) (a0_4 : Int) (a1_0 : Int) (a1_1 : Int) (a1_2 : Int) (a1_3 : Int) (a1_4 : Int) (r : Bool) (w : World) (h : laws_eqFilter.f k a0_0 a0_1 a0_2 a0_3 a0_4 a1_0 a1_1 a1_2 a1_3 a1_4 = some r) :
  Calls Try.prog 65 #[.agg #[.float .f64 a0_0.toNat, .float .f64 a0_1.toNat, .float .f64 a0_2.toNat, .float .f64 a0_3.toNat, .float .f64 a0_4.toNat], .agg #[.float .f64 a1_0.toNat, .float .f64 a1_1.toNat, .float .f64 a1_2.toNat, .float .f64 a1_3.toNat, .float .f64 a1_4.toNat]] w fun e w' => e = .returned (.bool r) ∧ Below w.heap.size w w' := by
 have hu26 := Try.underlying26
 have HB := am_ (Below.refl w.heap.size w)
 have H : ((laws_sameFloat.f k a0_0 a1_0).bind fun t234 => (if t234 = true then ((laws_sameFloat.f k a0_1 a1_1).bind fun t235 => (if t235 = true then ((laws_sameFloat.f k a0_2 a1_2).bind fun t236 => (if t236 = true then ((laws_sameFloat.f k a0_3 a1_3).bind fun t237 => (if t237 = true then ((laws_sameFloat.f k a0_4 a1_4).bind fun t238 => (if t238 = true then (some true) else (some false))) else (some false))) else (some false))) else (some false))) else (some false))) = some r := h
 clear h
 obtain ⟨t234, A30, H⟩ := bE_ H
 have A3 := am_ A30
 clear A30
 by_cases c4 : t234 = true
 ·subst c4
  replace H := it_ H rfl
  obtain ⟨t235, A50, H⟩ := bE_ H
  have A5 := am_ A50
  clear A50
  by_cases c6 : t235 = true
  ·subst c6
   replace H := it_ H rfl
   obtain ⟨t236, A70, H⟩ := bE_ H
   have A7 := am_ A70
   clear A70
   by_cases c8 : t236 = true
   ·subst c8
    replace H := it_ H rfl
    obtain ⟨t237, A90, H⟩ := bE_ H
    have A9 := am_ A90
    clear A90
    by_cases c10 : t237 = true
    ·subst c10
     replace H := it_ H rfl
     obtain ⟨t238, A110, H⟩ := bE_ H
     have A11 := am_ A110
     clear A110
     by_cases c12 : t238 = true
     ·subst c12
      replace H := it_ H rfl
      obtain rfl := Option.some.inj H
      go_enter Try.func65, Try.ntmps65
      go_wp2_with (first | ((with_reducible refine gate_dst (N := 2) rfl ?_); refine bx_ 2 #[.float .f64 a0_0.toNat, .float .f64 a0_1.toNat, .float .f64 a0_2.toNat, .float .f64 a0_3.toNat, .float .f64 a0_4.toNat] 26 ?_; intro gb232 hg w13 hbox hb; have n0_ := am_ (below_step (bw_ HB.out) hb); have n1_ := am_ (hbox); have n2_ := am_ (gs_ hg (bw_ HB.out)); have n3_ := am_ (gs_ hg (bw_ HB.out)); replace HB := n0_; have BK232 := n1_; have GW232 := n2_; have GE232 := n3_; clear n0_ n1_ n2_ n3_; clear hb hbox hg) | ((with_reducible refine gate_dst (N := 3) rfl ?_); refine bx_ 3 #[.float .f64 a1_0.toNat, .float .f64 a1_1.toNat, .float .f64 a1_2.toNat, .float .f64 a1_3.toNat, .float .f64 a1_4.toNat] 26 ?_; intro gb233 hg w14 hbox hb; have n0_ := am_ (blk_below (bk_ BK232.out) hb); have n1_ := am_ (below_step (bw_ HB.out) hb); have n2_ := am_ (hbox); have n3_ := am_ (gs_ hg (bw_ HB.out)); have n4_ := am_ (gs_ hg (bw_ HB.out)); have n5_ := am_ (nl_ hg (bk_ BK232.out)); have n6_ := am_ (ng_ hg (bk_ BK232.out)); replace BK232 := n0_; replace HB := n1_; have BK233 := n2_; have GW233 := n3_; have GE233 := n4_; have NB232_233 := n5_; have NB233_232 := n6_; clear n0_ n1_ n2_ n3_ n4_ n5_ n6_; clear hb hbox hg; have hnb15 := NB232_233.out; have hnc15 := NB233_232.out; have hcz16_0 := cz_ BK232.out 0; have hcz16_1 := cz_ BK232.out 1; have hcz16_2 := cz_ BK232.out 2; have hcz16_3 := cz_ BK232.out 3; have hcz16_4 := cz_ BK232.out 4; have hfz16_0 := blk_frozen BK232.out 0; have hfz16_1 := blk_frozen BK232.out 1; have hfz16_2 := blk_frozen BK232.out 2; have hfz16_3 := blk_frozen BK232.out 3; have hfz16_4 := blk_frozen BK232.out 4; have hcz17_0 := cz_ BK233.out 0; have hcz17_1 := cz_ BK233.out 1; have hcz17_2 := cz_ BK233.out 2; have hcz17_3 := cz_ BK233.out 3; have hcz17_4 := cz_ BK233.out 4; have hfz17_0 := blk_frozen BK233.out 0; have hfz17_1 := blk_frozen BK233.out 1; have hfz17_2 := blk_frozen BK233.out 2; have hfz17_3 := blk_frozen BK233.out 3; have hfz17_4 := blk_frozen BK233.out 4) | ((with_reducible refine gate_callee (f := 14) rfl ?_); refine goesL_ (some 9) rfl rfl Try.func14 (by kernel_rfl) rfl #[.float .f64 a0_0.toNat, .float .f64 a1_0.toNat] rfl (by (try simp only [List.map_toArray, List.map_cons, List.map_nil]); first | done | rfl | (simp only [List.length_drop, List.length_take]; rfl)) ?_; (with_reducible refine (laws_sameFloat.calls k a0_0 a1_0 true _ A3.out).mono ?_); rintro e w' ⟨rfl, ⟨nd, rfl⟩⟩; refine ⟨_, rfl, ?_⟩) | ((with_reducible refine gate_callee (f := 14) rfl ?_); refine goesL_ (some 15) rfl rfl Try.func14 (by kernel_rfl) rfl #[.float .f64 a0_1.toNat, .float .f64 a1_1.toNat] rfl (by (try simp only [List.map_toArray, List.map_cons, List.map_nil]); first | done | rfl | (simp only [List.length_drop, List.length_take]; rfl)) ?_; (with_reducible refine (laws_sameFloat.calls k a0_1 a1_1 true _ A5.out).mono ?_); rintro e w' ⟨rfl, ⟨nd, rfl⟩⟩; refine ⟨_, rfl, ?_⟩) | ((with_reducible refine gate_callee (f := 14) rfl ?_); refine goesL_ (some 21) rfl rfl Try.func14 (by kernel_rfl) rfl #[.float .f64 a0_2.toNat, .float .f64 a1_2.toNat] rfl (by (try simp only [List.map_toArray, List.map_cons, List.map_nil]); first | done | rfl | (simp only [List.length_drop, List.length_take]; rfl)) ?_; (with_reducible refine (laws_sameFloat.calls k a0_2 a1_2 true _ A7.out).mono ?_); rintro e w' ⟨rfl, ⟨nd, rfl⟩⟩; refine ⟨_, rfl, ?_⟩) | ((with_reducible refine gate_callee (f := 14) rfl ?_); refine goesL_ (some 27) rfl rfl Try.func14 (by kernel_rfl) rfl #[.float .f64 a0_3.toNat, .float .f64 a1_3.toNat] rfl (by (try simp only [List.map_toArray, List.map_cons, List.map_nil]); first | done | rfl | (simp only [List.length_drop, List.length_take]; rfl)) ?_; (with_reducible refine (laws_sameFloat.calls k a0_3 a1_3 true _ A9.out).mono ?_); rintro e w' ⟨rfl, ⟨nd, rfl⟩⟩; refine ⟨_, rfl, ?_⟩) | ((with_reducible refine gate_callee (f := 14) rfl ?_); refine goesL_ (some 33) rfl rfl Try.func14 (by kernel_rfl) rfl #[.float .f64 a0_4.toNat, .float .f64 a1_4.toNat] rfl (by (try simp only [List.map_toArray, List.map_cons, List.map_nil]); first | done | rfl | (simp only [List.length_drop, List.length_take]; rfl)) ?_; (with_reducible refine (laws_sameFloat.calls k a0_4 a1_4 true _ A11.out).mono ?_); rintro e w' ⟨rfl, ⟨nd, rfl⟩⟩; refine ⟨_, rfl, ?_⟩))
      go_ret
      exact ⟨by first | rfl | (simp [errW_none, errW_some] <;> rfl) | (simp [*, errW_none, errW_some] <;> rfl), bw_ HB.out⟩
     ·replace c12 := Bool.eq_false_iff.mpr c12
      subst c12
      replace H := if_ H Bool.false_ne_true
      obtain rfl := Option.some.inj H
      go_enter Try.func65, Try.ntmps65
      go_wp2_with (first | ((with_reducible refine gate_dst (N := 2) rfl ?_); refine bx_ 2 #[.float .f64 a0_0.toNat, .float .f64 a0_1.toNat, .float .f64 a0_2.toNat, .float .f64 a0_3.toNat, .float .f64 a0_4.toNat] 26 ?_; intro gb232 hg w18 hbox hb; have n0_ := am_ (below_step (bw_ HB.out) hb); have n1_ := am_ (hbox); have n2_ := am_ (gs_ hg (bw_ HB.out)); have n3_ := am_ (gs_ hg (bw_ HB.out)); replace HB := n0_; have BK232 := n1_; have GW232 := n2_; have GE232 := n3_; clear n0_ n1_ n2_ n3_; clear hb hbox hg) | ((with_reducible refine gate_dst (N := 3) rfl ?_); refine bx_ 3 #[.float .f64 a1_0.toNat, .float .f64 a1_1.toNat, .float .f64 a1_2.toNat, .float .f64 a1_3.toNat, .float .f64 a1_4.toNat] 26 ?_; intro gb233 hg w19 hbox hb; have n0_ := am_ (blk_below (bk_ BK232.out) hb); have n1_ := am_ (below_step (bw_ HB.out) hb); have n2_ := am_ (hbox); have n3_ := am_ (gs_ hg (bw_ HB.out)); have n4_ := am_ (gs_ hg (bw_ HB.out)); have n5_ := am_ (nl_ hg (bk_ BK232.out)); have n6_ := am_ (ng_ hg (bk_ BK232.out)); replace BK232 := n0_; replace HB := n1_; have BK233 := n2_; have GW233 := n3_; have GE233 := n4_; have NB232_233 := n5_; have NB233_232 := n6_; clear n0_ n1_ n2_ n3_ n4_ n5_ n6_; clear hb hbox hg; have hnb20 := NB232_233.out; have hnc20 := NB233_232.out; have hcz21_0 := cz_ BK232.out 0; have hcz21_1 := cz_ BK232.out 1; have hcz21_2 := cz_ BK232.out 2; have hcz21_3 := cz_ BK232.out 3; have hcz21_4 := cz_ BK232.out 4; have hfz21_0 := blk_frozen BK232.out 0; have hfz21_1 := blk_frozen BK232.out 1; have hfz21_2 := blk_frozen BK232.out 2; have hfz21_3 := blk_frozen BK232.out 3; have hfz21_4 := blk_frozen BK232.out 4; have hcz22_0 := cz_ BK233.out 0; have hcz22_1 := cz_ BK233.out 1; have hcz22_2 := cz_ BK233.out 2; have hcz22_3 := cz_ BK233.out 3; have hcz22_4 := cz_ BK233.out 4; have hfz22_0 := blk_frozen BK233.out 0; have hfz22_1 := blk_frozen BK233.out 1; have hfz22_2 := blk_frozen BK233.out 2; have hfz22_3 := blk_frozen BK233.out 3; have hfz22_4 := blk_frozen BK233.out 4) | ((with_reducible refine gate_callee (f := 14) rfl ?_); refine goesL_ (some 9) rfl rfl Try.func14 (by kernel_rfl) rfl #[.float .f64 a0_0.toNat, .float .f64 a1_0.toNat] rfl (by (try simp only [List.map_toArray, List.map_cons, List.map_nil]); first | done | rfl | (simp only [List.length_drop, List.length_take]; rfl)) ?_; (with_reducible refine (laws_sameFloat.calls k a0_0 a1_0 true _ A3.out).mono ?_); rintro e w' ⟨rfl, ⟨nd, rfl⟩⟩; refine ⟨_, rfl, ?_⟩) | ((with_reducible refine gate_callee (f := 14) rfl ?_); refine goesL_ (some 15) rfl rfl Try.func14 (by kernel_rfl) rfl #[.float .f64 a0_1.toNat, .float .f64 a1_1.toNat] rfl (by (try simp only [List.map_toArray, List.map_cons, List.map_nil]); first | done | rfl | (simp only [List.length_drop, List.length_take]; rfl)) ?_; (with_reducible refine (laws_sameFloat.calls k a0_1 a1_1 true _ A5.out).mono ?_); rintro e w' ⟨rfl, ⟨nd, rfl⟩⟩; refine ⟨_, rfl, ?_⟩) | ((with_reducible refine gate_callee (f := 14) rfl ?_); refine goesL_ (some 21) rfl rfl Try.func14 (by kernel_rfl) rfl #[.float .f64 a0_2.toNat, .float .f64 a1_2.toNat] rfl (by (try simp only [List.map_toArray, List.map_cons, List.map_nil]); first | done | rfl | (simp only [List.length_drop, List.length_take]; rfl)) ?_; (with_reducible refine (laws_sameFloat.calls k a0_2 a1_2 true _ A7.out).mono ?_); rintro e w' ⟨rfl, ⟨nd, rfl⟩⟩; refine ⟨_, rfl, ?_⟩) | ((with_reducible refine gate_callee (f := 14) rfl ?_); refine goesL_ (some 27) rfl rfl Try.func14 (by kernel_rfl) rfl #[.float .f64 a0_3.toNat, .float .f64 a1_3.toNat] rfl (by (try simp only [List.map_toArray, List.map_cons, List.map_nil]); first | done | rfl | (simp only [List.length_drop, List.length_take]; rfl)) ?_; (with_reducible refine (laws_sameFloat.calls k a0_3 a1_3 true _ A9.out).mono ?_); rintro e w' ⟨rfl, ⟨nd, rfl⟩⟩; refine ⟨_, rfl, ?_⟩) | ((with_reducible refine gate_callee (f := 14) rfl ?_); refine goesL_ (some 33) rfl rfl Try.func14 (by kernel_rfl) rfl #[.float .f64 a0_4.toNat, .float .f64 a1_4.toNat] rfl (by (try simp only [List.map_toArray, List.map_cons, List.map_nil]); first | done | rfl | (simp only [List.length_drop, List.length_take]; rfl)) ?_; (with_reducible refine (laws_sameFloat.calls k a0_4 a1_4 false _ A11.out).mono ?_); rintro e w' ⟨rfl, ⟨nd, rfl⟩⟩; refine ⟨_, rfl, ?_⟩))
      go_ret
      exact ⟨by first | rfl | (simp [errW_none, errW_some] <;> rfl) | (simp [*, errW_none, errW_some] <;> rfl), bw_ HB.out⟩
    ·replace c10 := Bool.eq_false_iff.mpr c10
     subst c10
     replace H := if_ H Bool.false_ne_true
     obtain rfl := Option.some.inj H
     go_enter Try.func65, Try.ntmps65
     go_wp2_with (first | ((with_reducible refine gate_dst (N := 2) rfl ?_); refine bx_ 2 #[.float .f64 a0_0.toNat, .float .f64 a0_1.toNat, .float .f64 a0_2.toNat, .float .f64 a0_3.toNat, .float .f64 a0_4.toNat] 26 ?_; intro gb232 hg w23 hbox hb; have n0_ := am_ (below_step (bw_ HB.out) hb); have n1_ := am_ (hbox); have n2_ := am_ (gs_ hg (bw_ HB.out)); have n3_ := am_ (gs_ hg (bw_ HB.out)); replace HB := n0_; have BK232 := n1_; have GW232 := n2_; have GE232 := n3_; clear n0_ n1_ n2_ n3_; clear hb hbox hg) | ((with_reducible refine gate_dst (N := 3) rfl ?_); refine bx_ 3 #[.float .f64 a1_0.toNat, .float .f64 a1_1.toNat, .float .f64 a1_2.toNat, .float .f64 a1_3.toNat, .float .f64 a1_4.toNat] 26 ?_; intro gb233 hg w24 hbox hb; have n0_ := am_ (blk_below (bk_ BK232.out) hb); have n1_ := am_ (below_step (bw_ HB.out) hb); have n2_ := am_ (hbox); have n3_ := am_ (gs_ hg (bw_ HB.out)); have n4_ := am_ (gs_ hg (bw_ HB.out)); have n5_ := am_ (nl_ hg (bk_ BK232.out)); have n6_ := am_ (ng_ hg (bk_ BK232.out)); replace BK232 := n0_; replace HB := n1_; have BK233 := n2_; have GW233 := n3_; have GE233 := n4_; have NB232_233 := n5_; have NB233_232 := n6_; clear n0_ n1_ n2_ n3_ n4_ n5_ n6_; clear hb hbox hg; have hnb25 := NB232_233.out; have hnc25 := NB233_232.out; have hcz26_0 := cz_ BK232.out 0; have hcz26_1 := cz_ BK232.out 1; have hcz26_2 := cz_ BK232.out 2; have hcz26_3 := cz_ BK232.out 3; have hcz26_4 := cz_ BK232.out 4; have hfz26_0 := blk_frozen BK232.out 0; have hfz26_1 := blk_frozen BK232.out 1; have hfz26_2 := blk_frozen BK232.out 2; have hfz26_3 := blk_frozen BK232.out 3; have hfz26_4 := blk_frozen BK232.out 4; have hcz27_0 := cz_ BK233.out 0; have hcz27_1 := cz_ BK233.out 1; have hcz27_2 := cz_ BK233.out 2; have hcz27_3 := cz_ BK233.out 3; have hcz27_4 := cz_ BK233.out 4; have hfz27_0 := blk_frozen BK233.out 0; have hfz27_1 := blk_frozen BK233.out 1; have hfz27_2 := blk_frozen BK233.out 2; have hfz27_3 := blk_frozen BK233.out 3; have hfz27_4 := blk_frozen BK233.out 4) | ((with_reducible refine gate_callee (f := 14) rfl ?_); refine goesL_ (some 9) rfl rfl Try.func14 (by kernel_rfl) rfl #[.float .f64 a0_0.toNat, .float .f64 a1_0.toNat] rfl (by (try simp only [List.map_toArray, List.map_cons, List.map_nil]); first | done | rfl | (simp only [List.length_drop, List.length_take]; rfl)) ?_; (with_reducible refine (laws_sameFloat.calls k a0_0 a1_0 true _ A3.out).mono ?_); rintro e w' ⟨rfl, ⟨nd, rfl⟩⟩; refine ⟨_, rfl, ?_⟩) | ((with_reducible refine gate_callee (f := 14) rfl ?_); refine goesL_ (some 15) rfl rfl Try.func14 (by kernel_rfl) rfl #[.float .f64 a0_1.toNat, .float .f64 a1_1.toNat] rfl (by (try simp only [List.map_toArray, List.map_cons, List.map_nil]); first | done | rfl | (simp only [List.length_drop, List.length_take]; rfl)) ?_; (with_reducible refine (laws_sameFloat.calls k a0_1 a1_1 true _ A5.out).mono ?_); rintro e w' ⟨rfl, ⟨nd, rfl⟩⟩; refine ⟨_, rfl, ?_⟩) | ((with_reducible refine gate_callee (f := 14) rfl ?_); refine goesL_ (some 21) rfl rfl Try.func14 (by kernel_rfl) rfl #[.float .f64 a0_2.toNat, .float .f64 a1_2.toNat] rfl (by (try simp only [List.map_toArray, List.map_cons, List.map_nil]); first | done | rfl | (simp only [List.length_drop, List.length_take]; rfl)) ?_; (with_reducible refine (laws_sameFloat.calls k a0_2 a1_2 true _ A7.out).mono ?_); rintro e w' ⟨rfl, ⟨nd, rfl⟩⟩; refine ⟨_, rfl, ?_⟩) | ((with_reducible refine gate_callee (f := 14) rfl ?_); refine goesL_ (some 27) rfl rfl Try.func14 (by kernel_rfl) rfl #[.float .f64 a0_3.toNat, .float .f64 a1_3.toNat] rfl (by (try simp only [List.map_toArray, List.map_cons, List.map_nil]); first | done | rfl | (simp only [List.length_drop, List.length_take]; rfl)) ?_; (with_reducible refine (laws_sameFloat.calls k a0_3 a1_3 false _ A9.out).mono ?_); rintro e w' ⟨rfl, ⟨nd, rfl⟩⟩; refine ⟨_, rfl, ?_⟩))
     go_ret
     exact ⟨by first | rfl | (simp [errW_none, errW_some] <;> rfl) | (simp [*, errW_none, errW_some] <;> rfl), bw_ HB.out⟩
   ·replace c8 := Bool.eq_false_iff.mpr c8
    subst c8
    replace H := if_ H Bool.false_ne_true
    obtain rfl := Option.some.inj H
    go_enter Try.func65, Try.ntmps65
    go_wp2_with (first | ((with_reducible refine gate_dst (N := 2) rfl ?_); refine bx_ 2 #[.float .f64 a0_0.toNat, .float .f64 a0_1.toNat, .float .f64 a0_2.toNat, .float .f64 a0_3.toNat, .float .f64 a0_4.toNat] 26 ?_; intro gb232 hg w28 hbox hb; have n0_ := am_ (below_step (bw_ HB.out) hb); have n1_ := am_ (hbox); have n2_ := am_ (gs_ hg (bw_ HB.out)); have n3_ := am_ (gs_ hg (bw_ HB.out)); replace HB := n0_; have BK232 := n1_; have GW232 := n2_; have GE232 := n3_; clear n0_ n1_ n2_ n3_; clear hb hbox hg) | ((with_reducible refine gate_dst (N := 3) rfl ?_); refine bx_ 3 #[.float .f64 a1_0.toNat, .float .f64 a1_1.toNat, .float .f64 a1_2.toNat, .float .f64 a1_3.toNat, .float .f64 a1_4.toNat] 26 ?_; intro gb233 hg w29 hbox hb; have n0_ := am_ (blk_below (bk_ BK232.out) hb); have n1_ := am_ (below_step (bw_ HB.out) hb); have n2_ := am_ (hbox); have n3_ := am_ (gs_ hg (bw_ HB.out)); have n4_ := am_ (gs_ hg (bw_ HB.out)); have n5_ := am_ (nl_ hg (bk_ BK232.out)); have n6_ := am_ (ng_ hg (bk_ BK232.out)); replace BK232 := n0_; replace HB := n1_; have BK233 := n2_; have GW233 := n3_; have GE233 := n4_; have NB232_233 := n5_; have NB233_232 := n6_; clear n0_ n1_ n2_ n3_ n4_ n5_ n6_; clear hb hbox hg; have hnb30 := NB232_233.out; have hnc30 := NB233_232.out; have hcz31_0 := cz_ BK232.out 0; have hcz31_1 := cz_ BK232.out 1; have hcz31_2 := cz_ BK232.out 2; have hcz31_3 := cz_ BK232.out 3; have hcz31_4 := cz_ BK232.out 4; have hfz31_0 := blk_frozen BK232.out 0; have hfz31_1 := blk_frozen BK232.out 1; have hfz31_2 := blk_frozen BK232.out 2; have hfz31_3 := blk_frozen BK232.out 3; have hfz31_4 := blk_frozen BK232.out 4; have hcz32_0 := cz_ BK233.out 0; have hcz32_1 := cz_ BK233.out 1; have hcz32_2 := cz_ BK233.out 2; have hcz32_3 := cz_ BK233.out 3; have hcz32_4 := cz_ BK233.out 4; have hfz32_0 := blk_frozen BK233.out 0; have hfz32_1 := blk_frozen BK233.out 1; have hfz32_2 := blk_frozen BK233.out 2; have hfz32_3 := blk_frozen BK233.out 3; have hfz32_4 := blk_frozen BK233.out 4) | ((with_reducible refine gate_callee (f := 14) rfl ?_); refine goesL_ (some 9) rfl rfl Try.func14 (by kernel_rfl) rfl #[.float .f64 a0_0.toNat, .float .f64 a1_0.toNat] rfl (by (try simp only [List.map_toArray, List.map_cons, List.map_nil]); first | done | rfl | (simp only [List.length_drop, List.length_take]; rfl)) ?_; (with_reducible refine (laws_sameFloat.calls k a0_0 a1_0 true _ A3.out).mono ?_); rintro e w' ⟨rfl, ⟨nd, rfl⟩⟩; refine ⟨_, rfl, ?_⟩) | ((with_reducible refine gate_callee (f := 14) rfl ?_); refine goesL_ (some 15) rfl rfl Try.func14 (by kernel_rfl) rfl #[.float .f64 a0_1.toNat, .float .f64 a1_1.toNat] rfl (by (try simp only [List.map_toArray, List.map_cons, List.map_nil]); first | done | rfl | (simp only [List.length_drop, List.length_take]; rfl)) ?_; (with_reducible refine (laws_sameFloat.calls k a0_1 a1_1 true _ A5.out).mono ?_); rintro e w' ⟨rfl, ⟨nd, rfl⟩⟩; refine ⟨_, rfl, ?_⟩) | ((with_reducible refine gate_callee (f := 14) rfl ?_); refine goesL_ (some 21) rfl rfl Try.func14 (by kernel_rfl) rfl #[.float .f64 a0_2.toNat, .float .f64 a1_2.toNat] rfl (by (try simp only [List.map_toArray, List.map_cons, List.map_nil]); first | done | rfl | (simp only [List.length_drop, List.length_take]; rfl)) ?_; (with_reducible refine (laws_sameFloat.calls k a0_2 a1_2 false _ A7.out).mono ?_); rintro e w' ⟨rfl, ⟨nd, rfl⟩⟩; refine ⟨_, rfl, ?_⟩))
    go_ret
    exact ⟨by first | rfl | (simp [errW_none, errW_some] <;> rfl) | (simp [*, errW_none, errW_some] <;> rfl), bw_ HB.out⟩
  ·replace c6 := Bool.eq_false_iff.mpr c6
   subst c6
   replace H := if_ H Bool.false_ne_true
   obtain rfl := Option.some.inj H
   go_enter Try.func65, Try.ntmps65
   go_wp2_with (first | ((with_reducible refine gate_dst (N := 2) rfl ?_); refine bx_ 2 #[.float .f64 a0_0.toNat, .float .f64 a0_1.toNat, .float .f64 a0_2.toNat, .float .f64 a0_3.toNat, .float .f64 a0_4.toNat] 26 ?_; intro gb232 hg w33 hbox hb; have n0_ := am_ (below_step (bw_ HB.out) hb); have n1_ := am_ (hbox); have n2_ := am_ (gs_ hg (bw_ HB.out)); have n3_ := am_ (gs_ hg (bw_ HB.out)); replace HB := n0_; have BK232 := n1_; have GW232 := n2_; have GE232 := n3_; clear n0_ n1_ n2_ n3_; clear hb hbox hg) | ((with_reducible refine gate_dst (N := 3) rfl ?_); refine bx_ 3 #[.float .f64 a1_0.toNat, .float .f64 a1_1.toNat, .float .f64 a1_2.toNat, .float .f64 a1_3.toNat, .float .f64 a1_4.toNat] 26 ?_; intro gb233 hg w34 hbox hb; have n0_ := am_ (blk_below (bk_ BK232.out) hb); have n1_ := am_ (below_step (bw_ HB.out) hb); have n2_ := am_ (hbox); have n3_ := am_ (gs_ hg (bw_ HB.out)); have n4_ := am_ (gs_ hg (bw_ HB.out)); have n5_ := am_ (nl_ hg (bk_ BK232.out)); have n6_ := am_ (ng_ hg (bk_ BK232.out)); replace BK232 := n0_; replace HB := n1_; have BK233 := n2_; have GW233 := n3_; have GE233 := n4_; have NB232_233 := n5_; have NB233_232 := n6_; clear n0_ n1_ n2_ n3_ n4_ n5_ n6_; clear hb hbox hg; have hnb35 := NB232_233.out; have hnc35 := NB233_232.out; have hcz36_0 := cz_ BK232.out 0; have hcz36_1 := cz_ BK232.out 1; have hcz36_2 := cz_ BK232.out 2; have hcz36_3 := cz_ BK232.out 3; have hcz36_4 := cz_ BK232.out 4; have hfz36_0 := blk_frozen BK232.out 0; have hfz36_1 := blk_frozen BK232.out 1; have hfz36_2 := blk_frozen BK232.out 2; have hfz36_3 := blk_frozen BK232.out 3; have hfz36_4 := blk_frozen BK232.out 4; have hcz37_0 := cz_ BK233.out 0; have hcz37_1 := cz_ BK233.out 1; have hcz37_2 := cz_ BK233.out 2; have hcz37_3 := cz_ BK233.out 3; have hcz37_4 := cz_ BK233.out 4; have hfz37_0 := blk_frozen BK233.out 0; have hfz37_1 := blk_frozen BK233.out 1; have hfz37_2 := blk_frozen BK233.out 2; have hfz37_3 := blk_frozen BK233.out 3; have hfz37_4 := blk_frozen BK233.out 4) | ((with_reducible refine gate_callee (f := 14) rfl ?_); refine goesL_ (some 9) rfl rfl Try.func14 (by kernel_rfl) rfl #[.float .f64 a0_0.toNat, .float .f64 a1_0.toNat] rfl (by (try simp only [List.map_toArray, List.map_cons, List.map_nil]); first | done | rfl | (simp only [List.length_drop, List.length_take]; rfl)) ?_; (with_reducible refine (laws_sameFloat.calls k a0_0 a1_0 true _ A3.out).mono ?_); rintro e w' ⟨rfl, ⟨nd, rfl⟩⟩; refine ⟨_, rfl, ?_⟩) | ((with_reducible refine gate_callee (f := 14) rfl ?_); refine goesL_ (some 15) rfl rfl Try.func14 (by kernel_rfl) rfl #[.float .f64 a0_1.toNat, .float .f64 a1_1.toNat] rfl (by (try simp only [List.map_toArray, List.map_cons, List.map_nil]); first | done | rfl | (simp only [List.length_drop, List.length_take]; rfl)) ?_; (with_reducible refine (laws_sameFloat.calls k a0_1 a1_1 false _ A5.out).mono ?_); rintro e w' ⟨rfl, ⟨nd, rfl⟩⟩; refine ⟨_, rfl, ?_⟩))
   go_ret
   exact ⟨by first | rfl | (simp [errW_none, errW_some] <;> rfl) | (simp [*, errW_none, errW_some] <;> rfl), bw_ HB.out⟩
 ·replace c4 := Bool.eq_false_iff.mpr c4
  subst c4
  replace H := if_ H Bool.false_ne_true
  obtain rfl := Option.some.inj H
  go_enter Try.func65, Try.ntmps65
  go_wp2_with (first | ((with_reducible refine gate_dst (N := 2) rfl ?_); refine bx_ 2 #[.float .f64 a0_0.toNat, .float .f64 a0_1.toNat, .float .f64 a0_2.toNat, .float .f64 a0_3.toNat, .float .f64 a0_4.toNat] 26 ?_; intro gb232 hg w38 hbox hb; have n0_ := am_ (below_step (bw_ HB.out) hb); have n1_ := am_ (hbox); have n2_ := am_ (gs_ hg (bw_ HB.out)); have n3_ := am_ (gs_ hg (bw_ HB.out)); replace HB := n0_; have BK232 := n1_; have GW232 := n2_; have GE232 := n3_; clear n0_ n1_ n2_ n3_; clear hb hbox hg) | ((with_reducible refine gate_dst (N := 3) rfl ?_); refine bx_ 3 #[.float .f64 a1_0.toNat, .float .f64 a1_1.toNat, .float .f64 a1_2.toNat, .float .f64 a1_3.toNat, .float .f64 a1_4.toNat] 26 ?_; intro gb233 hg w39 hbox hb; have n0_ := am_ (blk_below (bk_ BK232.out) hb); have n1_ := am_ (below_step (bw_ HB.out) hb); have n2_ := am_ (hbox); have n3_ := am_ (gs_ hg (bw_ HB.out)); have n4_ := am_ (gs_ hg (bw_ HB.out)); have n5_ := am_ (nl_ hg (bk_ BK232.out)); have n6_ := am_ (ng_ hg (bk_ BK232.out)); replace BK232 := n0_; replace HB := n1_; have BK233 := n2_; have GW233 := n3_; have GE233 := n4_; have NB232_233 := n5_; have NB233_232 := n6_; clear n0_ n1_ n2_ n3_ n4_ n5_ n6_; clear hb hbox hg; have hnb40 := NB232_233.out; have hnc40 := NB233_232.out; have hcz41_0 := cz_ BK232.out 0; have hcz41_1 := cz_ BK232.out 1; have hcz41_2 := cz_ BK232.out 2; have hcz41_3 := cz_ BK232.out 3; have hcz41_4 := cz_ BK232.out 4; have hfz41_0 := blk_frozen BK232.out 0; have hfz41_1 := blk_frozen BK232.out 1; have hfz41_2 := blk_frozen BK232.out 2; have hfz41_3 := blk_frozen BK232.out 3; have hfz41_4 := blk_frozen BK232.out 4; have hcz42_0 := cz_ BK233.out 0; have hcz42_1 := cz_ BK233.out 1; have hcz42_2 := cz_ BK233.out 2; have hcz42_3 := cz_ BK233.out 3; have hcz42_4 := cz_ BK233.out 4; have hfz42_0 := blk_frozen BK233.out 0; have hfz42_1 := blk_frozen BK233.out 1; have hfz42_2 := blk_frozen BK233.out 2; have hfz42_3 := blk_frozen BK233.out 3; have hfz42_4 := blk_frozen BK233.out 4) | ((with_reducible refine gate_callee (f := 14) rfl ?_); refine goesL_ (some 9) rfl rfl Try.func14 (by kernel_rfl) rfl #[.float .f64 a0_0.toNat, .float .f64 a1_0.toNat] rfl (by (try simp only [List.map_toArray, List.map_cons, List.map_nil]); first | done | rfl | (simp only [List.length_drop, List.length_take]; rfl)) ?_; (with_reducible refine (laws_sameFloat.calls k a0_0 a1_0 false _ A3.out).mono ?_); rintro e w' ⟨rfl, ⟨nd, rfl⟩⟩; refine ⟨_, rfl, ?_⟩))
  go_ret
  exact ⟨by first | rfl | (simp [errW_none, errW_some] <;> rfl) | (simp [*, errW_none, errW_some] <;> rfl), bw_ HB.out⟩

/-! ### laws_eqBus: function 55 -/
def laws_eqBus.f (k : Nat) (a0_0 : Int) (a0_1 : Int) (a0_2 : Int) (a0_3 : Int) (a0_4 : Int) (a0_5 : Int) (a0_6 : Int) (a1_0 : Int) (a1_1 : Int) (a1_2 : Int) (a1_3 : Int) (a1_4 : Int) (a1_5 : Int) (a1_6 : Int) : Option (Bool) := (laws_sameFloat.f k a0_0 a1_0).bind fun t241 => (if t241 = true then ((laws_eqFilter.f k a0_1 a0_2 a0_3 a0_4 a0_5 a1_1 a1_2 a1_3 a1_4 a1_5).bind fun t242 => (if t242 = true then (if a0_6 = a1_6 then (some true) else (some false)) else (some false))) else (some false))
theorem laws_eqBus.mono : ∀ a0 a1 a2 a3 a4 a5 a6 a7 a8 a9 a10 a11 a12 a13 k, LeO (laws_eqBus.f k a0 a1 a2 a3 a4 a5 a6 a7 a8 a9 a10 a11 a12 a13) (laws_eqBus.f (k + 1) a0 a1 a2 a3 a4 a5 a6 a7 a8 a9 a10 a11 a12 a13) := by
 intro a0 a1 a2 a3 a4 a5 a6 a7 a8 a9 a10 a11 a12 a13 k
 unfold laws_eqBus.f
 repeat' first
   | (with_reducible exact laws_eqFilter.mono _ _ _ _ _ _ _ _ _ _ _)
   | (with_reducible exact laws_sameFloat.mono _ _ _)
   | (with_reducible exact LeO.refl _)
   | (with_reducible exact LeO.none _)
   | (with_reducible refine LeO.ite ?_ ?_)
   | (with_reducible refine LeO.bind ?_ (fun _ => ?_))
   | exact laws_eqFilter.mono _ _ _ _ _ _ _ _ _ _ _
   | exact laws_sameFloat.mono _ _ _
   | exact LeO.none _
   | refine LeO.ite ?_ ?_
   | refine LeO.bind ?_ (fun _ => ?_)
set_option maxHeartbeats 8000000 in
set_option maxRecDepth 100000 in
theorem laws_eqBus.calls (k : Nat) (a0_0 : Int) (a0_1 : Int) (a0_2 : Int) (a0_3 : Int) (a0_4 : Int) (a0_5 : Int) (a0_6 : Int) (a1_0 : Int) (a1_1 : Int) (a1_2 : Int) (a1_3 : Int) (a1_4 : Int) (a1_5 : Int) (a1_6 : Int) (r : Bool) (w : World) (h : laws_eqBus.f k a0_0 a0_1 a0_2 a0_3 a0_4 a0_5 a0_6 a1_0 a1_1 a1_2 a1_3 a1_4 a1_5 a1_6 = some r) :
  Calls Try.prog 55 #[.agg #[.float .f64 a0_0.toNat, .float .f64 a0_1.toNat, .float .f64 a0_2.toNat, .float .f64 a0_3.toNat, .float .f64 a0_4.toNat, .float .f64 a0_5.toNat, .int .i64 a0_6], .agg #[.float .f64 a1_0.toNat, .float .f64 a1_1.toNat, .float .f64 a1_2.toNat, .float .f64 a1_3.toNat, .float .f64 a1_4.toNat, .float .f64 a1_5.toNat, .int .i64 a1_6]] w fun e w' => e = .returned (.bool r) ∧ Below w.heap.size w w' := by
 have hu76 := Try.underlying76
 have hu26 := Try.underlying26
 have HB := am_ (Below.refl w.heap.size w)
 have H : ((laws_sameFloat.f k a0_0 a1_0).bind fun t241 => (if t241 = true then ((laws_eqFilter.f k a0_1 a0_2 a0_3 a0_4 a0_5 a1_1 a1_2 a1_3 a1_4 a1_5).bind fun t242 => (if t242 = true then (if a0_6 = a1_6 then (some true) else (some false)) else (some false))) else (some false))) = some r := h
 clear h
 obtain ⟨t241, A30, H⟩ := bE_ H
 have A3 := am_ A30
 clear A30
 by_cases c4 : t241 = true
 ·subst c4
  replace H := it_ H rfl
  obtain ⟨t242, A50, H⟩ := bE_ H
  have A5 := am_ A50
  clear A50
  by_cases c6 : t242 = true
  ·subst c6
   replace H := it_ H rfl
   by_cases c7 : a0_6 = a1_6
   ·rw [if_pos c7] at H
    have c7b0 : (a0_6 == a1_6) = true := beq_iff_eq.mpr c7
    have c7b1 : (a0_6 != a1_6) = false := bne_eq_false_iff_eq.mpr c7
    clear c7
    obtain rfl := Option.some.inj H
    go_enter Try.func55, Try.ntmps55
    go_wp2_with (first | ((with_reducible refine gate_dst (N := 2) rfl ?_); refine bx_ 2 #[.float .f64 a0_0.toNat, .float .f64 a0_1.toNat, .float .f64 a0_2.toNat, .float .f64 a0_3.toNat, .float .f64 a0_4.toNat, .float .f64 a0_5.toNat, .int .i64 a0_6] 76 ?_; intro gb239 hg w8 hbox hb; have n0_ := am_ (below_step (bw_ HB.out) hb); have n1_ := am_ (hbox); have n2_ := am_ (gs_ hg (bw_ HB.out)); have n3_ := am_ (gs_ hg (bw_ HB.out)); replace HB := n0_; have BK239 := n1_; have GW239 := n2_; have GE239 := n3_; clear n0_ n1_ n2_ n3_; clear hb hbox hg) | ((with_reducible refine gate_dst (N := 3) rfl ?_); refine bx_ 3 #[.float .f64 a1_0.toNat, .float .f64 a1_1.toNat, .float .f64 a1_2.toNat, .float .f64 a1_3.toNat, .float .f64 a1_4.toNat, .float .f64 a1_5.toNat, .int .i64 a1_6] 76 ?_; intro gb240 hg w9 hbox hb; have n0_ := am_ (blk_below (bk_ BK239.out) hb); have n1_ := am_ (below_step (bw_ HB.out) hb); have n2_ := am_ (hbox); have n3_ := am_ (gs_ hg (bw_ HB.out)); have n4_ := am_ (gs_ hg (bw_ HB.out)); have n5_ := am_ (nl_ hg (bk_ BK239.out)); have n6_ := am_ (ng_ hg (bk_ BK239.out)); replace BK239 := n0_; replace HB := n1_; have BK240 := n2_; have GW240 := n3_; have GE240 := n4_; have NB239_240 := n5_; have NB240_239 := n6_; clear n0_ n1_ n2_ n3_ n4_ n5_ n6_; clear hb hbox hg; have hnb10 := NB239_240.out; have hnc10 := NB240_239.out; have hcz11_0 := cz_ BK239.out 0; have hcz11_1 := cz_ BK239.out 1; have hcz11_2 := cz_ BK239.out 2; have hcz11_3 := cz_ BK239.out 3; have hcz11_4 := cz_ BK239.out 4; have hcz11_5 := cz_ BK239.out 5; have hcz11_6 := cz_ BK239.out 6; have hfz11_0 := blk_frozen BK239.out 0; have hfz11_1 := blk_frozen BK239.out 1; have hfz11_2 := blk_frozen BK239.out 2; have hfz11_3 := blk_frozen BK239.out 3; have hfz11_4 := blk_frozen BK239.out 4; have hfz11_5 := blk_frozen BK239.out 5; have hfz11_6 := blk_frozen BK239.out 6; have hcz12_0 := cz_ BK240.out 0; have hcz12_1 := cz_ BK240.out 1; have hcz12_2 := cz_ BK240.out 2; have hcz12_3 := cz_ BK240.out 3; have hcz12_4 := cz_ BK240.out 4; have hcz12_5 := cz_ BK240.out 5; have hcz12_6 := cz_ BK240.out 6; have hfz12_0 := blk_frozen BK240.out 0; have hfz12_1 := blk_frozen BK240.out 1; have hfz12_2 := blk_frozen BK240.out 2; have hfz12_3 := blk_frozen BK240.out 3; have hfz12_4 := blk_frozen BK240.out 4; have hfz12_5 := blk_frozen BK240.out 5; have hfz12_6 := blk_frozen BK240.out 6) | ((with_reducible refine gate_callee (f := 14) rfl ?_); refine goesL_ (some 9) rfl rfl Try.func14 (by kernel_rfl) rfl #[.float .f64 a0_0.toNat, .float .f64 a1_0.toNat] rfl (by (try simp only [List.map_toArray, List.map_cons, List.map_nil]); first | done | rfl | (simp only [List.length_drop, List.length_take]; rfl)) ?_; (with_reducible refine (laws_sameFloat.calls k a0_0 a1_0 true _ A3.out).mono ?_); rintro e w' ⟨rfl, ⟨nd, rfl⟩⟩; refine ⟨_, rfl, ?_⟩) | ((with_reducible refine gate_callee (f := 65) rfl ?_); refine goesL_ (some 15) rfl rfl Try.func65 (by kernel_rfl) rfl #[.agg #[.float .f64 a0_1.toNat, .float .f64 a0_2.toNat, .float .f64 a0_3.toNat, .float .f64 a0_4.toNat, .float .f64 a0_5.toNat], .agg #[.float .f64 a1_1.toNat, .float .f64 a1_2.toNat, .float .f64 a1_3.toNat, .float .f64 a1_4.toNat, .float .f64 a1_5.toNat]] rfl (by (try simp only [List.map_toArray, List.map_cons, List.map_nil]); first | done | rfl | (simp only [List.length_drop, List.length_take]; rfl)) ?_; (with_reducible refine (laws_eqFilter.calls k a0_1 a0_2 a0_3 a0_4 a0_5 a1_1 a1_2 a1_3 a1_4 a1_5 true _ A5.out).mono ?_); rintro e w13 ⟨rfl, hb⟩; refine ⟨_, rfl, ?_⟩; have n0_ := am_ (blk_below (bk_ BK239.out) hb); have n1_ := am_ (blk_below (bk_ BK240.out) hb); have n2_ := am_ (below_step (bw_ HB.out) hb); replace BK239 := n0_; replace BK240 := n1_; replace HB := n2_; clear n0_ n1_ n2_; (try clear hb); (try clear hb2); (try clear hk); (try clear hi); have hcz14_0 := cz_ BK239.out 0; have hcz14_1 := cz_ BK239.out 1; have hcz14_2 := cz_ BK239.out 2; have hcz14_3 := cz_ BK239.out 3; have hcz14_4 := cz_ BK239.out 4; have hcz14_5 := cz_ BK239.out 5; have hcz14_6 := cz_ BK239.out 6; have hfz14_0 := blk_frozen BK239.out 0; have hfz14_1 := blk_frozen BK239.out 1; have hfz14_2 := blk_frozen BK239.out 2; have hfz14_3 := blk_frozen BK239.out 3; have hfz14_4 := blk_frozen BK239.out 4; have hfz14_5 := blk_frozen BK239.out 5; have hfz14_6 := blk_frozen BK239.out 6; have hcz15_0 := cz_ BK240.out 0; have hcz15_1 := cz_ BK240.out 1; have hcz15_2 := cz_ BK240.out 2; have hcz15_3 := cz_ BK240.out 3; have hcz15_4 := cz_ BK240.out 4; have hcz15_5 := cz_ BK240.out 5; have hcz15_6 := cz_ BK240.out 6; have hfz15_0 := blk_frozen BK240.out 0; have hfz15_1 := blk_frozen BK240.out 1; have hfz15_2 := blk_frozen BK240.out 2; have hfz15_3 := blk_frozen BK240.out 3; have hfz15_4 := blk_frozen BK240.out 4; have hfz15_5 := blk_frozen BK240.out 5; have hfz15_6 := blk_frozen BK240.out 6))
    go_ret
    exact ⟨by first | rfl | (simp [errW_none, errW_some] <;> rfl) | (simp [*, errW_none, errW_some] <;> rfl), bw_ HB.out⟩
   ·rw [if_neg c7] at H
    have c7b0 : (a0_6 == a1_6) = false := beq_eq_false_iff_ne.mpr c7
    have c7b1 : (a0_6 != a1_6) = true := bne_iff_ne.mpr c7
    obtain rfl := Option.some.inj H
    go_enter Try.func55, Try.ntmps55
    go_wp2_with (first | ((with_reducible refine gate_dst (N := 2) rfl ?_); refine bx_ 2 #[.float .f64 a0_0.toNat, .float .f64 a0_1.toNat, .float .f64 a0_2.toNat, .float .f64 a0_3.toNat, .float .f64 a0_4.toNat, .float .f64 a0_5.toNat, .int .i64 a0_6] 76 ?_; intro gb239 hg w16 hbox hb; have n0_ := am_ (below_step (bw_ HB.out) hb); have n1_ := am_ (hbox); have n2_ := am_ (gs_ hg (bw_ HB.out)); have n3_ := am_ (gs_ hg (bw_ HB.out)); replace HB := n0_; have BK239 := n1_; have GW239 := n2_; have GE239 := n3_; clear n0_ n1_ n2_ n3_; clear hb hbox hg) | ((with_reducible refine gate_dst (N := 3) rfl ?_); refine bx_ 3 #[.float .f64 a1_0.toNat, .float .f64 a1_1.toNat, .float .f64 a1_2.toNat, .float .f64 a1_3.toNat, .float .f64 a1_4.toNat, .float .f64 a1_5.toNat, .int .i64 a1_6] 76 ?_; intro gb240 hg w17 hbox hb; have n0_ := am_ (blk_below (bk_ BK239.out) hb); have n1_ := am_ (below_step (bw_ HB.out) hb); have n2_ := am_ (hbox); have n3_ := am_ (gs_ hg (bw_ HB.out)); have n4_ := am_ (gs_ hg (bw_ HB.out)); have n5_ := am_ (nl_ hg (bk_ BK239.out)); have n6_ := am_ (ng_ hg (bk_ BK239.out)); replace BK239 := n0_; replace HB := n1_; have BK240 := n2_; have GW240 := n3_; have GE240 := n4_; have NB239_240 := n5_; have NB240_239 := n6_; clear n0_ n1_ n2_ n3_ n4_ n5_ n6_; clear hb hbox hg; have hnb18 := NB239_240.out; have hnc18 := NB240_239.out; have hcz19_0 := cz_ BK239.out 0; have hcz19_1 := cz_ BK239.out 1; have hcz19_2 := cz_ BK239.out 2; have hcz19_3 := cz_ BK239.out 3; have hcz19_4 := cz_ BK239.out 4; have hcz19_5 := cz_ BK239.out 5; have hcz19_6 := cz_ BK239.out 6; have hfz19_0 := blk_frozen BK239.out 0; have hfz19_1 := blk_frozen BK239.out 1; have hfz19_2 := blk_frozen BK239.out 2; have hfz19_3 := blk_frozen BK239.out 3; have hfz19_4 := blk_frozen BK239.out 4; have hfz19_5 := blk_frozen BK239.out 5; have hfz19_6 := blk_frozen BK239.out 6; have hcz20_0 := cz_ BK240.out 0; have hcz20_1 := cz_ BK240.out 1; have hcz20_2 := cz_ BK240.out 2; have hcz20_3 := cz_ BK240.out 3; have hcz20_4 := cz_ BK240.out 4; have hcz20_5 := cz_ BK240.out 5; have hcz20_6 := cz_ BK240.out 6; have hfz20_0 := blk_frozen BK240.out 0; have hfz20_1 := blk_frozen BK240.out 1; have hfz20_2 := blk_frozen BK240.out 2; have hfz20_3 := blk_frozen BK240.out 3; have hfz20_4 := blk_frozen BK240.out 4; have hfz20_5 := blk_frozen BK240.out 5; have hfz20_6 := blk_frozen BK240.out 6) | ((with_reducible refine gate_callee (f := 14) rfl ?_); refine goesL_ (some 9) rfl rfl Try.func14 (by kernel_rfl) rfl #[.float .f64 a0_0.toNat, .float .f64 a1_0.toNat] rfl (by (try simp only [List.map_toArray, List.map_cons, List.map_nil]); first | done | rfl | (simp only [List.length_drop, List.length_take]; rfl)) ?_; (with_reducible refine (laws_sameFloat.calls k a0_0 a1_0 true _ A3.out).mono ?_); rintro e w' ⟨rfl, ⟨nd, rfl⟩⟩; refine ⟨_, rfl, ?_⟩) | ((with_reducible refine gate_callee (f := 65) rfl ?_); refine goesL_ (some 15) rfl rfl Try.func65 (by kernel_rfl) rfl #[.agg #[.float .f64 a0_1.toNat, .float .f64 a0_2.toNat, .float .f64 a0_3.toNat, .float .f64 a0_4.toNat, .float .f64 a0_5.toNat], .agg #[.float .f64 a1_1.toNat, .float .f64 a1_2.toNat, .float .f64 a1_3.toNat, .float .f64 a1_4.toNat, .float .f64 a1_5.toNat]] rfl (by (try simp only [List.map_toArray, List.map_cons, List.map_nil]); first | done | rfl | (simp only [List.length_drop, List.length_take]; rfl)) ?_; (with_reducible refine (laws_eqFilter.calls k a0_1 a0_2 a0_3 a0_4 a0_5 a1_1 a1_2 a1_3 a1_4 a1_5 true _ A5.out).mono ?_); rintro e w21 ⟨rfl, hb⟩; refine ⟨_, rfl, ?_⟩; have n0_ := am_ (blk_below (bk_ BK239.out) hb); have n1_ := am_ (blk_below (bk_ BK240.out) hb); have n2_ := am_ (below_step (bw_ HB.out) hb); replace BK239 := n0_; replace BK240 := n1_; replace HB := n2_; clear n0_ n1_ n2_; (try clear hb); (try clear hb2); (try clear hk); (try clear hi); have hcz22_0 := cz_ BK239.out 0; have hcz22_1 := cz_ BK239.out 1; have hcz22_2 := cz_ BK239.out 2; have hcz22_3 := cz_ BK239.out 3; have hcz22_4 := cz_ BK239.out 4; have hcz22_5 := cz_ BK239.out 5; have hcz22_6 := cz_ BK239.out 6; have hfz22_0 := blk_frozen BK239.out 0; have hfz22_1 := blk_frozen BK239.out 1; have hfz22_2 := blk_frozen BK239.out 2; have hfz22_3 := blk_frozen BK239.out 3; have hfz22_4 := blk_frozen BK239.out 4; have hfz22_5 := blk_frozen BK239.out 5; have hfz22_6 := blk_frozen BK239.out 6; have hcz23_0 := cz_ BK240.out 0; have hcz23_1 := cz_ BK240.out 1; have hcz23_2 := cz_ BK240.out 2; have hcz23_3 := cz_ BK240.out 3; have hcz23_4 := cz_ BK240.out 4; have hcz23_5 := cz_ BK240.out 5; have hcz23_6 := cz_ BK240.out 6; have hfz23_0 := blk_frozen BK240.out 0; have hfz23_1 := blk_frozen BK240.out 1; have hfz23_2 := blk_frozen BK240.out 2; have hfz23_3 := blk_frozen BK240.out 3; have hfz23_4 := blk_frozen BK240.out 4; have hfz23_5 := blk_frozen BK240.out 5; have hfz23_6 := blk_frozen BK240.out 6))
    go_ret
    exact ⟨by first | rfl | (simp [errW_none, errW_some] <;> rfl) | (simp [*, errW_none, errW_some] <;> rfl), bw_ HB.out⟩
  ·replace c6 := Bool.eq_false_iff.mpr c6
   subst c6
   replace H := if_ H Bool.false_ne_true
   obtain rfl := Option.some.inj H
   go_enter Try.func55, Try.ntmps55
   go_wp2_with (first | ((with_reducible refine gate_dst (N := 2) rfl ?_); refine bx_ 2 #[.float .f64 a0_0.toNat, .float .f64 a0_1.toNat, .float .f64 a0_2.toNat, .float .f64 a0_3.toNat, .float .f64 a0_4.toNat, .float .f64 a0_5.toNat, .int .i64 a0_6] 76 ?_; intro gb239 hg w24 hbox hb; have n0_ := am_ (below_step (bw_ HB.out) hb); have n1_ := am_ (hbox); have n2_ := am_ (gs_ hg (bw_ HB.out)); have n3_ := am_ (gs_ hg (bw_ HB.out)); replace HB := n0_; have BK239 := n1_; have GW239 := n2_; have GE239 := n3_; clear n0_ n1_ n2_ n3_; clear hb hbox hg) | ((with_reducible refine gate_dst (N := 3) rfl ?_); refine bx_ 3 #[.float .f64 a1_0.toNat, .float .f64 a1_1.toNat, .float .f64 a1_2.toNat, .float .f64 a1_3.toNat, .float .f64 a1_4.toNat, .float .f64 a1_5.toNat, .int .i64 a1_6] 76 ?_; intro gb240 hg w25 hbox hb; have n0_ := am_ (blk_below (bk_ BK239.out) hb); have n1_ := am_ (below_step (bw_ HB.out) hb); have n2_ := am_ (hbox); have n3_ := am_ (gs_ hg (bw_ HB.out)); have n4_ := am_ (gs_ hg (bw_ HB.out)); have n5_ := am_ (nl_ hg (bk_ BK239.out)); have n6_ := am_ (ng_ hg (bk_ BK239.out)); replace BK239 := n0_; replace HB := n1_; have BK240 := n2_; have GW240 := n3_; have GE240 := n4_; have NB239_240 := n5_; have NB240_239 := n6_; clear n0_ n1_ n2_ n3_ n4_ n5_ n6_; clear hb hbox hg; have hnb26 := NB239_240.out; have hnc26 := NB240_239.out; have hcz27_0 := cz_ BK239.out 0; have hcz27_1 := cz_ BK239.out 1; have hcz27_2 := cz_ BK239.out 2; have hcz27_3 := cz_ BK239.out 3; have hcz27_4 := cz_ BK239.out 4; have hcz27_5 := cz_ BK239.out 5; have hcz27_6 := cz_ BK239.out 6; have hfz27_0 := blk_frozen BK239.out 0; have hfz27_1 := blk_frozen BK239.out 1; have hfz27_2 := blk_frozen BK239.out 2; have hfz27_3 := blk_frozen BK239.out 3; have hfz27_4 := blk_frozen BK239.out 4; have hfz27_5 := blk_frozen BK239.out 5; have hfz27_6 := blk_frozen BK239.out 6; have hcz28_0 := cz_ BK240.out 0; have hcz28_1 := cz_ BK240.out 1; have hcz28_2 := cz_ BK240.out 2; have hcz28_3 := cz_ BK240.out 3; have hcz28_4 := cz_ BK240.out 4; have hcz28_5 := cz_ BK240.out 5; have hcz28_6 := cz_ BK240.out 6; have hfz28_0 := blk_frozen BK240.out 0; have hfz28_1 := blk_frozen BK240.out 1; have hfz28_2 := blk_frozen BK240.out 2; have hfz28_3 := blk_frozen BK240.out 3; have hfz28_4 := blk_frozen BK240.out 4; have hfz28_5 := blk_frozen BK240.out 5; have hfz28_6 := blk_frozen BK240.out 6) | ((with_reducible refine gate_callee (f := 14) rfl ?_); refine goesL_ (some 9) rfl rfl Try.func14 (by kernel_rfl) rfl #[.float .f64 a0_0.toNat, .float .f64 a1_0.toNat] rfl (by (try simp only [List.map_toArray, List.map_cons, List.map_nil]); first | done | rfl | (simp only [List.length_drop, List.length_take]; rfl)) ?_; (with_reducible refine (laws_sameFloat.calls k a0_0 a1_0 true _ A3.out).mono ?_); rintro e w' ⟨rfl, ⟨nd, rfl⟩⟩; refine ⟨_, rfl, ?_⟩) | ((with_reducible refine gate_callee (f := 65) rfl ?_); refine goesL_ (some 15) rfl rfl Try.func65 (by kernel_rfl) rfl #[.agg #[.float .f64 a0_1.toNat, .float .f64 a0_2.toNat, .float .f64 a0_3.toNat, .float .f64 a0_4.toNat, .float .f64 a0_5.toNat], .agg #[.float .f64 a1_1.toNat, .float .f64 a1_2.toNat, .float .f64 a1_3.toNat, .float .f64 a1_4.toNat, .float .f64 a1_5.toNat]] rfl (by (try simp only [List.map_toArray, List.map_cons, List.map_nil]); first | done | rfl | (simp only [List.length_drop, List.length_take]; rfl)) ?_; (with_reducible refine (laws_eqFilter.calls k a0_1 a0_2 a0_3 a0_4 a0_5 a1_1 a1_2 a1_3 a1_4 a1_5 false _ A5.out).mono ?_); rintro e w29 ⟨rfl, hb⟩; refine ⟨_, rfl, ?_⟩; have n0_ := am_ (blk_below (bk_ BK239.out) hb); have n1_ := am_ (blk_below (bk_ BK240.out) hb); have n2_ := am_ (below_step (bw_ HB.out) hb); replace BK239 := n0_; replace BK240 := n1_; replace HB := n2_; clear n0_ n1_ n2_; (try clear hb); (try clear hb2); (try clear hk); (try clear hi)))
   go_ret
   exact ⟨by first | rfl | (simp [errW_none, errW_some] <;> rfl) | (simp [*, errW_none, errW_some] <;> rfl), bw_ HB.out⟩
 ·replace c4 := Bool.eq_false_iff.mpr c4
  subst c4
  replace H := if_ H Bool.false_ne_true
  obtain rfl := Option.some.inj H
  go_enter Try.func55, Try.ntmps55
  go_wp2_with (first | ((with_reducible refine gate_dst (N := 2) rfl ?_); refine bx_ 2 #[.float .f64 a0_0.toNat, .float .f64 a0_1.toNat, .float .f64 a0_2.toNat, .float .f64 a0_3.toNat, .float .f64 a0_4.toNat, .float .f64 a0_5.toNat, .int .i64 a0_6] 76 ?_; intro gb239 hg w30 hbox hb; have n0_ := am_ (below_step (bw_ HB.out) hb); have n1_ := am_ (hbox); have n2_ := am_ (gs_ hg (bw_ HB.out)); have n3_ := am_ (gs_ hg (bw_ HB.out)); replace HB := n0_; have BK239 := n1_; have GW239 := n2_; have GE239 := n3_; clear n0_ n1_ n2_ n3_; clear hb hbox hg) | ((with_reducible refine gate_dst (N := 3) rfl ?_); refine bx_ 3 #[.float .f64 a1_0.toNat, .float .f64 a1_1.toNat, .float .f64 a1_2.toNat, .float .f64 a1_3.toNat, .float .f64 a1_4.toNat, .float .f64 a1_5.toNat, .int .i64 a1_6] 76 ?_; intro gb240 hg w31 hbox hb; have n0_ := am_ (blk_below (bk_ BK239.out) hb); have n1_ := am_ (below_step (bw_ HB.out) hb); have n2_ := am_ (hbox); have n3_ := am_ (gs_ hg (bw_ HB.out)); have n4_ := am_ (gs_ hg (bw_ HB.out)); have n5_ := am_ (nl_ hg (bk_ BK239.out)); have n6_ := am_ (ng_ hg (bk_ BK239.out)); replace BK239 := n0_; replace HB := n1_; have BK240 := n2_; have GW240 := n3_; have GE240 := n4_; have NB239_240 := n5_; have NB240_239 := n6_; clear n0_ n1_ n2_ n3_ n4_ n5_ n6_; clear hb hbox hg; have hnb32 := NB239_240.out; have hnc32 := NB240_239.out; have hcz33_0 := cz_ BK239.out 0; have hcz33_1 := cz_ BK239.out 1; have hcz33_2 := cz_ BK239.out 2; have hcz33_3 := cz_ BK239.out 3; have hcz33_4 := cz_ BK239.out 4; have hcz33_5 := cz_ BK239.out 5; have hcz33_6 := cz_ BK239.out 6; have hfz33_0 := blk_frozen BK239.out 0; have hfz33_1 := blk_frozen BK239.out 1; have hfz33_2 := blk_frozen BK239.out 2; have hfz33_3 := blk_frozen BK239.out 3; have hfz33_4 := blk_frozen BK239.out 4; have hfz33_5 := blk_frozen BK239.out 5; have hfz33_6 := blk_frozen BK239.out 6; have hcz34_0 := cz_ BK240.out 0; have hcz34_1 := cz_ BK240.out 1; have hcz34_2 := cz_ BK240.out 2; have hcz34_3 := cz_ BK240.out 3; have hcz34_4 := cz_ BK240.out 4; have hcz34_5 := cz_ BK240.out 5; have hcz34_6 := cz_ BK240.out 6; have hfz34_0 := blk_frozen BK240.out 0; have hfz34_1 := blk_frozen BK240.out 1; have hfz34_2 := blk_frozen BK240.out 2; have hfz34_3 := blk_frozen BK240.out 3; have hfz34_4 := blk_frozen BK240.out 4; have hfz34_5 := blk_frozen BK240.out 5; have hfz34_6 := blk_frozen BK240.out 6) | ((with_reducible refine gate_callee (f := 14) rfl ?_); refine goesL_ (some 9) rfl rfl Try.func14 (by kernel_rfl) rfl #[.float .f64 a0_0.toNat, .float .f64 a1_0.toNat] rfl (by (try simp only [List.map_toArray, List.map_cons, List.map_nil]); first | done | rfl | (simp only [List.length_drop, List.length_take]; rfl)) ?_; (with_reducible refine (laws_sameFloat.calls k a0_0 a1_0 false _ A3.out).mono ?_); rintro e w' ⟨rfl, ⟨nd, rfl⟩⟩; refine ⟨_, rfl, ?_⟩))
  go_ret
  exact ⟨by first | rfl | (simp [errW_none, errW_some] <;> rfl) | (simp [*, errW_none, errW_some] <;> rfl), bw_ HB.out⟩

/-! ### laws_eqBusS: function 32 -/
def laws_eqBusS.l0 : Nat → List (S76) → List (S76) → Int → Option (Bool)
 | 0, _, _, _ => none
 | k + 1, x0, x1, x5 => if x5 < (x0.length : Int) then (if 0 ≤ x5 then (if x5 < (x1.length : Int) then ((laws_eqBus.f k ((rd_T76 x0 x5).f0) ((rd_T76 x0 x5).f1.f0) ((rd_T76 x0 x5).f1.f1) ((rd_T76 x0 x5).f1.f2) ((rd_T76 x0 x5).f1.f3) ((rd_T76 x0 x5).f1.f4) ((rd_T76 x0 x5).f2) ((rd_T76 x1 x5).f0) ((rd_T76 x1 x5).f1.f0) ((rd_T76 x1 x5).f1.f1) ((rd_T76 x1 x5).f1.f2) ((rd_T76 x1 x5).f1.f3) ((rd_T76 x1 x5).f1.f4) ((rd_T76 x1 x5).f2)).bind fun t245 => (if t245 = true then (laws_eqBusS.l0 k x0 x1 (wrap64 (x5 + 1))) else (some false))) else (none)) else (none)) else (some true)
def laws_eqBusS.f (k : Nat) (l0 : List (S76)) (l1 : List (S76)) : Option (Bool) := if (l0.length : Int) = (l1.length : Int) then (laws_eqBusS.l0 k l0 l1 0) else (some false)
theorem laws_eqBusS.mono_l : ∀ k, (∀ y0 y1 y2, LeO (laws_eqBusS.l0 k y0 y1 y2) (laws_eqBusS.l0 (k + 1) y0 y1 y2))
 | 0 => fun _ _ _ r h => by simp [laws_eqBusS.l0] at h
 | k + 1 => by
  have ih0 := laws_eqBusS.mono_l k
  ·intro y0 y1 y2
   unfold laws_eqBusS.l0
   repeat' first
   | (with_reducible exact ih0 _ _ _)
   | (with_reducible exact laws_eqBus.mono _ _ _ _ _ _ _ _ _ _ _ _ _ _ _)
   | (with_reducible exact LeO.refl _)
   | (with_reducible exact LeO.none _)
   | (with_reducible refine LeO.ite ?_ ?_)
   | (with_reducible refine LeO.bind ?_ (fun _ => ?_))
   | exact ih0 _ _ _
   | exact laws_eqBus.mono _ _ _ _ _ _ _ _ _ _ _ _ _ _ _
   | exact LeO.none _
   | refine LeO.ite ?_ ?_
   | refine LeO.bind ?_ (fun _ => ?_)
theorem laws_eqBusS.mono : ∀ a0 a1 k, LeO (laws_eqBusS.f k a0 a1) (laws_eqBusS.f (k + 1) a0 a1) := by
 intro a0 a1 k
 have ih0 := laws_eqBusS.mono_l k
 unfold laws_eqBusS.f
 repeat' first
   | (with_reducible exact ih0 _ _ _)
   | (with_reducible exact laws_eqBus.mono _ _ _ _ _ _ _ _ _ _ _ _ _ _ _)
   | (with_reducible exact LeO.refl _)
   | (with_reducible exact LeO.none _)
   | (with_reducible refine LeO.ite ?_ ?_)
   | (with_reducible refine LeO.bind ?_ (fun _ => ?_))
   | exact ih0 _ _ _
   | exact laws_eqBus.mono _ _ _ _ _ _ _ _ _ _ _ _ _ _ _
   | exact LeO.none _
   | refine LeO.ite ?_ ?_
   | refine LeO.bind ?_ (fun _ => ?_)
def laws_eqBusS.T6 : Bool × List (List Nat × List Nat) := (true, [([], []), ([], []), ([0, 1], [0, 1]), ([2], [2]), ([], []), ([], []), ([4, 5], [4, 5]), ([6], [6]), ([3, 7], [3, 7]), ([8], [8])])
def laws_eqBusS.B6 : List Nat := [0, 0, 3, 7, 0, 0, 48, 112, 255, 511]
theorem laws_eqBusS.tab6 : rtab .any (opsOf Try.f32 6) = laws_eqBusS.T6 := by kernel_rfl
theorem laws_eqBusS.bits6 : waitsOk laws_eqBusS.T6.2 laws_eqBusS.B6 = true := by kernel_rfl
set_option maxHeartbeats 8000000 in
set_option maxRecDepth 100000 in
theorem laws_eqBusS.calls (k : Nat) (A0 : Option Addr) (c0 : Nat) (l0 : List (S76)) (A1 : Option Addr) (c1 : Nat) (l1 : List (S76)) (r : Bool) (w : World) (hr0 : Kd.C k76 w A0 l0.length l0) (hc0 : l0.length ≤ c0) (hr1 : Kd.C k76 w A1 l1.length l1) (hc1 : l1.length ≤ c1) (h : laws_eqBusS.f k l0 l1 = some r) :
  Calls Try.prog 32 #[.slice A0 l0.length c0, .slice A1 l1.length c1] w fun e w' => e = .returned (.bool r) ∧ Below w.heap.size w w' := by
 have hu76 := Try.underlying76
 have HR0 := am_ hr0
 have HC0 := am_ hc0
 clear hr0 hc0
 have HR1 := am_ hr1
 have HC1 := am_ hc1
 clear hr1 hc1
 have HB := am_ (Below.refl w.heap.size w)
 have H : (if (l0.length : Int) = (l1.length : Int) then (laws_eqBusS.l0 k l0 l1 0) else (some false)) = some r := h
 clear h
 by_cases c3 : (l0.length : Int) = (l1.length : Int)
 ·rw [if_pos c3] at H
  have c3b0 : ((l0.length : Int) == (l1.length : Int)) = true := beq_iff_eq.mpr c3
  have c3b1 : ((l0.length : Int) != (l1.length : Int)) = false := bne_eq_false_iff_eq.mpr c3
  have c3b2 : (l0.length == l1.length) = true := by first | simpa using c3 | (simp at c3 ⊢; omega)
  clear c3
  have H' := am_ H
  clear H
  go_enter Try.func32, Try.ntmps32
  go_wp2
  go_loopg [5] k (fun kq v5 w' => ∃ (x5_1 : Int), v5 = .int .i64 x5_1 ∧ Aside0 (laws_eqBusS.l0 kq l0 l1 x5_1 = some r) ∧ Aside0 (kq ≤ k) ∧ Aside0 (Below w.heap.size w w'))
  case atStart => exact ⟨(0), sq_, H', ⟨Nat.le_refl _⟩, ⟨bw_ HB.out⟩⟩
  case round =>
   clear H'
   try clear c1
   try clear c3
   try clear c3b0
   try clear c3b1
   try clear c3b2
   obtain ⟨x5_1, rfl, HA, HK1, HB⟩ := hrel
   cases gk with
   | zero => exact absurd HA.out (by simp [laws_eqBusS.l0])
   | succ k1 =>
    have H := HA.out
    clear HA
    simp only [laws_eqBusS.l0] at H
    by_cases c4 : x5_1 < (l0.length : Int)
    ·rw [if_pos c4] at H
     have c4b0 : decide (x5_1 < (l0.length : Int)) = true := decide_eq_true c4
     clear c4
     obtain ⟨c5, H⟩ := ifn_ H
     have c5b0 : decide (0 ≤ x5_1) = true := decide_eq_true c5
     clear c5
     obtain ⟨c6, H⟩ := ifn_ H
     have c6b0 : decide (x5_1 < (l1.length : Int)) = true := decide_eq_true c6
     clear c6
     obtain ⟨t245, A70, H⟩ := bE_ H
     have A7 := am_ A70
     clear A70
     by_cases c8 : t245 = true
     ·subst c8
      replace H := it_ H rfl
      have H' := am_ H
      clear H
      try go_wp2
      have n0_ := am_ (below_drew1 HB.out)
      replace HB := n0_
      clear n0_
      have p243 : 0 ≤ (x5_1 : Int) := od_
      have q243 : x5_1 < (l0.length : Int) := od_
      obtain ⟨ad243, e243, hx243_0, hx243_1, hx243_2, hx243_3, hx243_4, hx243_5, hx243_6⟩ := at_T76 HR0.out x5_1 p243 q243
      have hw243_6 := hx243_6
      have hw243_5 := hx243_5
      have hw243_4 := hx243_4
      have hw243_3 := hx243_3
      have hw243_2 := hx243_2
      have hw243_1 := hx243_1
      have hw243_0 := hx243_0
      cases e243
      (try replace hx243_0 := hc_ HB.out hx243_0)
      (try replace hx243_1 := hc_ HB.out hx243_1)
      (try replace hx243_2 := hc_ HB.out hx243_2)
      (try replace hx243_3 := hc_ HB.out hx243_3)
      (try replace hx243_4 := hc_ HB.out hx243_4)
      (try replace hx243_5 := hc_ HB.out hx243_5)
      (try replace hx243_6 := hc_ HB.out hx243_6)
      replace p243 := eq_true p243
      replace q243 := eq_true q243
      have p244 : 0 ≤ (x5_1 : Int) := od_
      have q244 : x5_1 < (l1.length : Int) := od_
      obtain ⟨ad244, e244, hx244_0, hx244_1, hx244_2, hx244_3, hx244_4, hx244_5, hx244_6⟩ := at_T76 HR1.out x5_1 p244 q244
      have hw244_6 := hx244_6
      have hw244_5 := hx244_5
      have hw244_4 := hx244_4
      have hw244_3 := hx244_3
      have hw244_2 := hx244_2
      have hw244_1 := hx244_1
      have hw244_0 := hx244_0
      cases e244
      (try replace hx244_0 := hc_ HB.out hx244_0)
      (try replace hx244_1 := hc_ HB.out hx244_1)
      (try replace hx244_2 := hc_ HB.out hx244_2)
      (try replace hx244_3 := hc_ HB.out hx244_3)
      (try replace hx244_4 := hc_ HB.out hx244_4)
      (try replace hx244_5 := hc_ HB.out hx244_5)
      (try replace hx244_6 := hc_ HB.out hx244_6)
      replace p244 := eq_true p244
      replace q244 := eq_true q244
      refine start_ (n := 10) (S := fun w' => w'.cell? (ad243.add ((x5_1).toNat * 7)) = some (.float .f64 ((rd_T76 l0 x5_1).f0).toNat) ∧ w'.cell? ⟨(ad243.add ((x5_1).toNat * 7)).block, (ad243.add ((x5_1).toNat * 7)).off + 1, none⟩ = some (.float .f64 ((rd_T76 l0 x5_1).f1.f0).toNat) ∧ w'.cell? ⟨(ad243.add ((x5_1).toNat * 7)).block, (ad243.add ((x5_1).toNat * 7)).off + 2, none⟩ = some (.float .f64 ((rd_T76 l0 x5_1).f1.f1).toNat) ∧ w'.cell? ⟨(ad243.add ((x5_1).toNat * 7)).block, (ad243.add ((x5_1).toNat * 7)).off + 3, none⟩ = some (.float .f64 ((rd_T76 l0 x5_1).f1.f2).toNat) ∧ w'.cell? ⟨(ad243.add ((x5_1).toNat * 7)).block, (ad243.add ((x5_1).toNat * 7)).off + 4, none⟩ = some (.float .f64 ((rd_T76 l0 x5_1).f1.f3).toNat) ∧ w'.cell? ⟨(ad243.add ((x5_1).toNat * 7)).block, (ad243.add ((x5_1).toNat * 7)).off + 5, none⟩ = some (.float .f64 ((rd_T76 l0 x5_1).f1.f4).toNat) ∧ w'.cell? ⟨(ad243.add ((x5_1).toNat * 7)).block, (ad243.add ((x5_1).toNat * 7)).off + 6, none⟩ = some (.int .i64 ((rd_T76 l0 x5_1).f2)) ∧ w'.cell? (ad244.add ((x5_1).toNat * 7)) = some (.float .f64 ((rd_T76 l1 x5_1).f0).toNat) ∧ w'.cell? ⟨(ad244.add ((x5_1).toNat * 7)).block, (ad244.add ((x5_1).toNat * 7)).off + 1, none⟩ = some (.float .f64 ((rd_T76 l1 x5_1).f1.f0).toNat) ∧ w'.cell? ⟨(ad244.add ((x5_1).toNat * 7)).block, (ad244.add ((x5_1).toNat * 7)).off + 2, none⟩ = some (.float .f64 ((rd_T76 l1 x5_1).f1.f1).toNat) ∧ w'.cell? ⟨(ad244.add ((x5_1).toNat * 7)).block, (ad244.add ((x5_1).toNat * 7)).off + 3, none⟩ = some (.float .f64 ((rd_T76 l1 x5_1).f1.f2).toNat) ∧ w'.cell? ⟨(ad244.add ((x5_1).toNat * 7)).block, (ad244.add ((x5_1).toNat * 7)).off + 4, none⟩ = some (.float .f64 ((rd_T76 l1 x5_1).f1.f3).toNat) ∧ w'.cell? ⟨(ad244.add ((x5_1).toNat * 7)).block, (ad244.add ((x5_1).toNat * 7)).off + 5, none⟩ = some (.float .f64 ((rd_T76 l1 x5_1).f1.f4).toNat) ∧ w'.cell? ⟨(ad244.add ((x5_1).toNat * 7)).block, (ad244.add ((x5_1).toNat * 7)).off + 6, none⟩ = some (.int .i64 ((rd_T76 l1 x5_1).f2))) (ds := []) (Array.replicate 10 false) (by kernel_rfl) rfl rfl ⟨((HB.out.cell (World.block_lt_of_cell? w _ hw243_0)).trans hw243_0), ((HB.out.cell (World.block_lt_of_cell? w _ hw243_1)).trans hw243_1), ((HB.out.cell (World.block_lt_of_cell? w _ hw243_2)).trans hw243_2), ((HB.out.cell (World.block_lt_of_cell? w _ hw243_3)).trans hw243_3), ((HB.out.cell (World.block_lt_of_cell? w _ hw243_4)).trans hw243_4), ((HB.out.cell (World.block_lt_of_cell? w _ hw243_5)).trans hw243_5), ((HB.out.cell (World.block_lt_of_cell? w _ hw243_6)).trans hw243_6), ((HB.out.cell (World.block_lt_of_cell? w _ hw244_0)).trans hw244_0), ((HB.out.cell (World.block_lt_of_cell? w _ hw244_1)).trans hw244_1), ((HB.out.cell (World.block_lt_of_cell? w _ hw244_2)).trans hw244_2), ((HB.out.cell (World.block_lt_of_cell? w _ hw244_3)).trans hw244_3), ((HB.out.cell (World.block_lt_of_cell? w _ hw244_4)).trans hw244_4), ((HB.out.cell (World.block_lt_of_cell? w _ hw244_5)).trans hw244_5), ((HB.out.cell (World.block_lt_of_cell? w _ hw244_6)).trans hw244_6)⟩ (fun hHeld => ?_); refine with_tabW laws_eqBusS.tab6 laws_eqBusS.bits6 (fun HT_ HW_ => ?_)
      generalize wr.drew = w9 at HB hx243_0 hx243_1 hx243_2 hx243_3 hx243_4 hx243_5 hx243_6 hx244_0 hx244_1 hx244_2 hx244_3 hx244_4 hx244_5 hx244_6 hHeld ⊢
      refine pS_ 0 17 HT_ ?_
      refine pS_ 1 18 HT_ ?_
      refine pS_ 2 19 HT_ ?_
      refine pS_ 4 21 HT_ ?_
      refine pS_ 5 22 HT_ ?_
      refine pS_ 6 23 HT_ ?_
      refine tS_ 3 20 HT_ HW_ hHeld ?_
      refine tS_ 7 24 HT_ HW_ hHeld ?_
      refine oS_ 8 25 HT_ (fun K hK => ?_)
      refine goes_ Try.func55 (by kernel_rfl) rfl #[.agg #[.float .f64 ((rd_T76 l0 x5_1).f0).toNat, .float .f64 ((rd_T76 l0 x5_1).f1.f0).toNat, .float .f64 ((rd_T76 l0 x5_1).f1.f1).toNat, .float .f64 ((rd_T76 l0 x5_1).f1.f2).toNat, .float .f64 ((rd_T76 l0 x5_1).f1.f3).toNat, .float .f64 ((rd_T76 l0 x5_1).f1.f4).toNat, .int .i64 ((rd_T76 l0 x5_1).f2)], .agg #[.float .f64 ((rd_T76 l1 x5_1).f0).toNat, .float .f64 ((rd_T76 l1 x5_1).f1.f0).toNat, .float .f64 ((rd_T76 l1 x5_1).f1.f1).toNat, .float .f64 ((rd_T76 l1 x5_1).f1.f2).toNat, .float .f64 ((rd_T76 l1 x5_1).f1.f3).toNat, .float .f64 ((rd_T76 l1 x5_1).f1.f4).toNat, .int .i64 ((rd_T76 l1 x5_1).f2)]] (by rfl) rfl rfl (by (try simp only [List.map_toArray, List.map_cons, List.map_nil]); first | done | rfl | (simp only [List.length_drop, List.length_take]; rfl)) ?_
      with_reducible refine (laws_eqBus.calls k1 ((rd_T76 l0 x5_1).f0) ((rd_T76 l0 x5_1).f1.f0) ((rd_T76 l0 x5_1).f1.f1) ((rd_T76 l0 x5_1).f1.f2) ((rd_T76 l0 x5_1).f1.f3) ((rd_T76 l0 x5_1).f1.f4) ((rd_T76 l0 x5_1).f2) ((rd_T76 l1 x5_1).f0) ((rd_T76 l1 x5_1).f1.f0) ((rd_T76 l1 x5_1).f1.f1) ((rd_T76 l1 x5_1).f1.f2) ((rd_T76 l1 x5_1).f1.f3) ((rd_T76 l1 x5_1).f1.f4) ((rd_T76 l1 x5_1).f2) true _ A7.out).mono ?_
      rintro e w10 ⟨rfl, hb⟩
      refine ⟨_, rfl, ?_⟩
      have n0_ := am_ (below_step (bw_ HB.out) hb)
      replace HB := n0_
      clear n0_
      (try clear hb)
      (try clear hb2)
      (try clear hk)
      (try clear hi)
      refine hK.out _ _ ⟨((HB.out.cell (World.block_lt_of_cell? w _ hw243_0)).trans hw243_0), ((HB.out.cell (World.block_lt_of_cell? w _ hw243_1)).trans hw243_1), ((HB.out.cell (World.block_lt_of_cell? w _ hw243_2)).trans hw243_2), ((HB.out.cell (World.block_lt_of_cell? w _ hw243_3)).trans hw243_3), ((HB.out.cell (World.block_lt_of_cell? w _ hw243_4)).trans hw243_4), ((HB.out.cell (World.block_lt_of_cell? w _ hw243_5)).trans hw243_5), ((HB.out.cell (World.block_lt_of_cell? w _ hw243_6)).trans hw243_6), ((HB.out.cell (World.block_lt_of_cell? w _ hw244_0)).trans hw244_0), ((HB.out.cell (World.block_lt_of_cell? w _ hw244_1)).trans hw244_1), ((HB.out.cell (World.block_lt_of_cell? w _ hw244_2)).trans hw244_2), ((HB.out.cell (World.block_lt_of_cell? w _ hw244_3)).trans hw244_3), ((HB.out.cell (World.block_lt_of_cell? w _ hw244_4)).trans hw244_4), ((HB.out.cell (World.block_lt_of_cell? w _ hw244_5)).trans hw244_5), ((HB.out.cell (World.block_lt_of_cell? w _ hw244_6)).trans hw244_6)⟩ (fun hHeld => ?_)
      clear hK K
      refine nD_ 25 ?_
      refine pS_ 9 26 HT_ ?_
      refine done_ (done_of HT_.out (by kernel_rfl)) ?_
      try go_wp2
      go_roundg k1
      case measure => have := HK1.out; omega
      case rel => exact ⟨(wrap64 (x5_1 + 1)), sq_, H', ⟨by have := HK1.out; omega⟩, ⟨bw_ HB.out⟩⟩
     ·replace c8 := Bool.eq_false_iff.mpr c8
      subst c8
      replace H := if_ H Bool.false_ne_true
      obtain rfl := Option.some.inj H
      try go_wp2
      have n0_ := am_ (below_drew1 HB.out)
      replace HB := n0_
      clear n0_
      have p243 : 0 ≤ (x5_1 : Int) := od_
      have q243 : x5_1 < (l0.length : Int) := od_
      obtain ⟨ad243, e243, hx243_0, hx243_1, hx243_2, hx243_3, hx243_4, hx243_5, hx243_6⟩ := at_T76 HR0.out x5_1 p243 q243
      have hw243_6 := hx243_6
      have hw243_5 := hx243_5
      have hw243_4 := hx243_4
      have hw243_3 := hx243_3
      have hw243_2 := hx243_2
      have hw243_1 := hx243_1
      have hw243_0 := hx243_0
      cases e243
      (try replace hx243_0 := hc_ HB.out hx243_0)
      (try replace hx243_1 := hc_ HB.out hx243_1)
      (try replace hx243_2 := hc_ HB.out hx243_2)
      (try replace hx243_3 := hc_ HB.out hx243_3)
      (try replace hx243_4 := hc_ HB.out hx243_4)
      (try replace hx243_5 := hc_ HB.out hx243_5)
      (try replace hx243_6 := hc_ HB.out hx243_6)
      replace p243 := eq_true p243
      replace q243 := eq_true q243
      have p244 : 0 ≤ (x5_1 : Int) := od_
      have q244 : x5_1 < (l1.length : Int) := od_
      obtain ⟨ad244, e244, hx244_0, hx244_1, hx244_2, hx244_3, hx244_4, hx244_5, hx244_6⟩ := at_T76 HR1.out x5_1 p244 q244
      have hw244_6 := hx244_6
      have hw244_5 := hx244_5
      have hw244_4 := hx244_4
      have hw244_3 := hx244_3
      have hw244_2 := hx244_2
      have hw244_1 := hx244_1
      have hw244_0 := hx244_0
      cases e244
      (try replace hx244_0 := hc_ HB.out hx244_0)
      (try replace hx244_1 := hc_ HB.out hx244_1)
      (try replace hx244_2 := hc_ HB.out hx244_2)
      (try replace hx244_3 := hc_ HB.out hx244_3)
      (try replace hx244_4 := hc_ HB.out hx244_4)
      (try replace hx244_5 := hc_ HB.out hx244_5)
      (try replace hx244_6 := hc_ HB.out hx244_6)
      replace p244 := eq_true p244
      replace q244 := eq_true q244
      refine start_ (n := 10) (S := fun w' => w'.cell? (ad243.add ((x5_1).toNat * 7)) = some (.float .f64 ((rd_T76 l0 x5_1).f0).toNat) ∧ w'.cell? ⟨(ad243.add ((x5_1).toNat * 7)).block, (ad243.add ((x5_1).toNat * 7)).off + 1, none⟩ = some (.float .f64 ((rd_T76 l0 x5_1).f1.f0).toNat) ∧ w'.cell? ⟨(ad243.add ((x5_1).toNat * 7)).block, (ad243.add ((x5_1).toNat * 7)).off + 2, none⟩ = some (.float .f64 ((rd_T76 l0 x5_1).f1.f1).toNat) ∧ w'.cell? ⟨(ad243.add ((x5_1).toNat * 7)).block, (ad243.add ((x5_1).toNat * 7)).off + 3, none⟩ = some (.float .f64 ((rd_T76 l0 x5_1).f1.f2).toNat) ∧ w'.cell? ⟨(ad243.add ((x5_1).toNat * 7)).block, (ad243.add ((x5_1).toNat * 7)).off + 4, none⟩ = some (.float .f64 ((rd_T76 l0 x5_1).f1.f3).toNat) ∧ w'.cell? ⟨(ad243.add ((x5_1).toNat * 7)).block, (ad243.add ((x5_1).toNat * 7)).off + 5, none⟩ = some (.float .f64 ((rd_T76 l0 x5_1).f1.f4).toNat) ∧ w'.cell? ⟨(ad243.add ((x5_1).toNat * 7)).block, (ad243.add ((x5_1).toNat * 7)).off + 6, none⟩ = some (.int .i64 ((rd_T76 l0 x5_1).f2)) ∧ w'.cell? (ad244.add ((x5_1).toNat * 7)) = some (.float .f64 ((rd_T76 l1 x5_1).f0).toNat) ∧ w'.cell? ⟨(ad244.add ((x5_1).toNat * 7)).block, (ad244.add ((x5_1).toNat * 7)).off + 1, none⟩ = some (.float .f64 ((rd_T76 l1 x5_1).f1.f0).toNat) ∧ w'.cell? ⟨(ad244.add ((x5_1).toNat * 7)).block, (ad244.add ((x5_1).toNat * 7)).off + 2, none⟩ = some (.float .f64 ((rd_T76 l1 x5_1).f1.f1).toNat) ∧ w'.cell? ⟨(ad244.add ((x5_1).toNat * 7)).block, (ad244.add ((x5_1).toNat * 7)).off + 3, none⟩ = some (.float .f64 ((rd_T76 l1 x5_1).f1.f2).toNat) ∧ w'.cell? ⟨(ad244.add ((x5_1).toNat * 7)).block, (ad244.add ((x5_1).toNat * 7)).off + 4, none⟩ = some (.float .f64 ((rd_T76 l1 x5_1).f1.f3).toNat) ∧ w'.cell? ⟨(ad244.add ((x5_1).toNat * 7)).block, (ad244.add ((x5_1).toNat * 7)).off + 5, none⟩ = some (.float .f64 ((rd_T76 l1 x5_1).f1.f4).toNat) ∧ w'.cell? ⟨(ad244.add ((x5_1).toNat * 7)).block, (ad244.add ((x5_1).toNat * 7)).off + 6, none⟩ = some (.int .i64 ((rd_T76 l1 x5_1).f2))) (ds := []) (Array.replicate 10 false) (by kernel_rfl) rfl rfl ⟨((HB.out.cell (World.block_lt_of_cell? w _ hw243_0)).trans hw243_0), ((HB.out.cell (World.block_lt_of_cell? w _ hw243_1)).trans hw243_1), ((HB.out.cell (World.block_lt_of_cell? w _ hw243_2)).trans hw243_2), ((HB.out.cell (World.block_lt_of_cell? w _ hw243_3)).trans hw243_3), ((HB.out.cell (World.block_lt_of_cell? w _ hw243_4)).trans hw243_4), ((HB.out.cell (World.block_lt_of_cell? w _ hw243_5)).trans hw243_5), ((HB.out.cell (World.block_lt_of_cell? w _ hw243_6)).trans hw243_6), ((HB.out.cell (World.block_lt_of_cell? w _ hw244_0)).trans hw244_0), ((HB.out.cell (World.block_lt_of_cell? w _ hw244_1)).trans hw244_1), ((HB.out.cell (World.block_lt_of_cell? w _ hw244_2)).trans hw244_2), ((HB.out.cell (World.block_lt_of_cell? w _ hw244_3)).trans hw244_3), ((HB.out.cell (World.block_lt_of_cell? w _ hw244_4)).trans hw244_4), ((HB.out.cell (World.block_lt_of_cell? w _ hw244_5)).trans hw244_5), ((HB.out.cell (World.block_lt_of_cell? w _ hw244_6)).trans hw244_6)⟩ (fun hHeld => ?_); refine with_tabW laws_eqBusS.tab6 laws_eqBusS.bits6 (fun HT_ HW_ => ?_)
      generalize wr.drew = w11 at HB hx243_0 hx243_1 hx243_2 hx243_3 hx243_4 hx243_5 hx243_6 hx244_0 hx244_1 hx244_2 hx244_3 hx244_4 hx244_5 hx244_6 hHeld ⊢
      refine pS_ 0 17 HT_ ?_
      refine pS_ 1 18 HT_ ?_
      refine pS_ 2 19 HT_ ?_
      refine pS_ 4 21 HT_ ?_
      refine pS_ 5 22 HT_ ?_
      refine pS_ 6 23 HT_ ?_
      refine tS_ 3 20 HT_ HW_ hHeld ?_
      refine tS_ 7 24 HT_ HW_ hHeld ?_
      refine oS_ 8 25 HT_ (fun K hK => ?_)
      refine goes_ Try.func55 (by kernel_rfl) rfl #[.agg #[.float .f64 ((rd_T76 l0 x5_1).f0).toNat, .float .f64 ((rd_T76 l0 x5_1).f1.f0).toNat, .float .f64 ((rd_T76 l0 x5_1).f1.f1).toNat, .float .f64 ((rd_T76 l0 x5_1).f1.f2).toNat, .float .f64 ((rd_T76 l0 x5_1).f1.f3).toNat, .float .f64 ((rd_T76 l0 x5_1).f1.f4).toNat, .int .i64 ((rd_T76 l0 x5_1).f2)], .agg #[.float .f64 ((rd_T76 l1 x5_1).f0).toNat, .float .f64 ((rd_T76 l1 x5_1).f1.f0).toNat, .float .f64 ((rd_T76 l1 x5_1).f1.f1).toNat, .float .f64 ((rd_T76 l1 x5_1).f1.f2).toNat, .float .f64 ((rd_T76 l1 x5_1).f1.f3).toNat, .float .f64 ((rd_T76 l1 x5_1).f1.f4).toNat, .int .i64 ((rd_T76 l1 x5_1).f2)]] (by rfl) rfl rfl (by (try simp only [List.map_toArray, List.map_cons, List.map_nil]); first | done | rfl | (simp only [List.length_drop, List.length_take]; rfl)) ?_
      with_reducible refine (laws_eqBus.calls k1 ((rd_T76 l0 x5_1).f0) ((rd_T76 l0 x5_1).f1.f0) ((rd_T76 l0 x5_1).f1.f1) ((rd_T76 l0 x5_1).f1.f2) ((rd_T76 l0 x5_1).f1.f3) ((rd_T76 l0 x5_1).f1.f4) ((rd_T76 l0 x5_1).f2) ((rd_T76 l1 x5_1).f0) ((rd_T76 l1 x5_1).f1.f0) ((rd_T76 l1 x5_1).f1.f1) ((rd_T76 l1 x5_1).f1.f2) ((rd_T76 l1 x5_1).f1.f3) ((rd_T76 l1 x5_1).f1.f4) ((rd_T76 l1 x5_1).f2) false _ A7.out).mono ?_
      rintro e w12 ⟨rfl, hb⟩
      refine ⟨_, rfl, ?_⟩
      have n0_ := am_ (below_step (bw_ HB.out) hb)
      replace HB := n0_
      clear n0_
      (try clear hb)
      (try clear hb2)
      (try clear hk)
      (try clear hi)
      refine hK.out _ _ ⟨((HB.out.cell (World.block_lt_of_cell? w _ hw243_0)).trans hw243_0), ((HB.out.cell (World.block_lt_of_cell? w _ hw243_1)).trans hw243_1), ((HB.out.cell (World.block_lt_of_cell? w _ hw243_2)).trans hw243_2), ((HB.out.cell (World.block_lt_of_cell? w _ hw243_3)).trans hw243_3), ((HB.out.cell (World.block_lt_of_cell? w _ hw243_4)).trans hw243_4), ((HB.out.cell (World.block_lt_of_cell? w _ hw243_5)).trans hw243_5), ((HB.out.cell (World.block_lt_of_cell? w _ hw243_6)).trans hw243_6), ((HB.out.cell (World.block_lt_of_cell? w _ hw244_0)).trans hw244_0), ((HB.out.cell (World.block_lt_of_cell? w _ hw244_1)).trans hw244_1), ((HB.out.cell (World.block_lt_of_cell? w _ hw244_2)).trans hw244_2), ((HB.out.cell (World.block_lt_of_cell? w _ hw244_3)).trans hw244_3), ((HB.out.cell (World.block_lt_of_cell? w _ hw244_4)).trans hw244_4), ((HB.out.cell (World.block_lt_of_cell? w _ hw244_5)).trans hw244_5), ((HB.out.cell (World.block_lt_of_cell? w _ hw244_6)).trans hw244_6)⟩ (fun hHeld => ?_)
      clear hK K
      refine nD_ 25 ?_
      refine pS_ 9 26 HT_ ?_
      refine done_ (done_of HT_.out (by kernel_rfl)) ?_
      try go_wp2
      go_ret
      exact ⟨by first | rfl | (simp [errW_none, errW_some] <;> rfl) | (simp [*, errW_none, errW_some] <;> rfl), bw_ HB.out⟩
    ·rw [if_neg c4] at H
     have c4b0 : decide (x5_1 < (l0.length : Int)) = false := decide_eq_false c4
     clear c4
     obtain rfl := Option.some.inj H
     go_wp2
     go_ret
     exact ⟨by first | rfl | (simp [errW_none, errW_some] <;> rfl) | (simp [*, errW_none, errW_some] <;> rfl), bw_ HB.out⟩
 ·rw [if_neg c3] at H
  have c3b0 : ((l0.length : Int) == (l1.length : Int)) = false := beq_eq_false_iff_ne.mpr c3
  have c3b1 : ((l0.length : Int) != (l1.length : Int)) = true := bne_iff_ne.mpr c3
  have c3b2 : (l0.length == l1.length) = false := by first | simpa using c3 | (simp at c3 ⊢; omega)
  obtain rfl := Option.some.inj H
  go_enter Try.func32, Try.ntmps32
  go_wp2
  go_ret
  exact ⟨by first | rfl | (simp [errW_none, errW_some] <;> rfl) | (simp [*, errW_none, errW_some] <;> rfl), bw_ HB.out⟩

/-! ### laws_markBusS: function 33 -/
def laws_markBusS.l0 : Nat → List (S76) → Int → Int → Option (Int × (List (S76)))
 | 0, _, _, _ => none
 | k + 1, x0, x1, x5 => if x5 < (x0.length : Int) then (if 0 ≤ x5 then ((some (x0.set (x5 : Int).toNat (⟨fofI x1, (⟨(rd_T76 x0 x5).f1.f0, (rd_T76 x0 x5).f1.f1, (rd_T76 x0 x5).f1.f2, (rd_T76 x0 x5).f1.f3, (rd_T76 x0 x5).f1.f4⟩ : S26), (rd_T76 x0 x5).f2⟩ : S76) : List (S76))).bind fun y246 => ((some (y246.set (x5 : Int).toNat (⟨(rd_T76 y246 x5).f0, (⟨fofI (wrap64 (x1 + 1)), (rd_T76 y246 x5).f1.f1, (rd_T76 y246 x5).f1.f2, (rd_T76 y246 x5).f1.f3, (rd_T76 y246 x5).f1.f4⟩ : S26), (rd_T76 y246 x5).f2⟩ : S76) : List (S76))).bind fun y247 => ((some (y247.set (x5 : Int).toNat (⟨(rd_T76 y247 x5).f0, (⟨(rd_T76 y247 x5).f1.f0, fofI (wrap64 ((wrap64 (x1 + 1)) + 1)), (rd_T76 y247 x5).f1.f2, (rd_T76 y247 x5).f1.f3, (rd_T76 y247 x5).f1.f4⟩ : S26), (rd_T76 y247 x5).f2⟩ : S76) : List (S76))).bind fun y248 => ((some (y248.set (x5 : Int).toNat (⟨(rd_T76 y248 x5).f0, (⟨(rd_T76 y248 x5).f1.f0, (rd_T76 y248 x5).f1.f1, fofI (wrap64 ((wrap64 ((wrap64 (x1 + 1)) + 1)) + 1)), (rd_T76 y248 x5).f1.f3, (rd_T76 y248 x5).f1.f4⟩ : S26), (rd_T76 y248 x5).f2⟩ : S76) : List (S76))).bind fun y249 => ((some (y249.set (x5 : Int).toNat (⟨(rd_T76 y249 x5).f0, (⟨(rd_T76 y249 x5).f1.f0, (rd_T76 y249 x5).f1.f1, (rd_T76 y249 x5).f1.f2, fofI (wrap64 ((wrap64 ((wrap64 ((wrap64 (x1 + 1)) + 1)) + 1)) + 1)), (rd_T76 y249 x5).f1.f4⟩ : S26), (rd_T76 y249 x5).f2⟩ : S76) : List (S76))).bind fun y250 => ((some (y250.set (x5 : Int).toNat (⟨(rd_T76 y250 x5).f0, (⟨(rd_T76 y250 x5).f1.f0, (rd_T76 y250 x5).f1.f1, (rd_T76 y250 x5).f1.f2, (rd_T76 y250 x5).f1.f3, fofI (wrap64 ((wrap64 ((wrap64 ((wrap64 ((wrap64 (x1 + 1)) + 1)) + 1)) + 1)) + 1))⟩ : S26), (rd_T76 y250 x5).f2⟩ : S76) : List (S76))).bind fun y251 => (laws_markBusS.l0 k (y251.set (x5 : Int).toNat (⟨(rd_T76 y251 x5).f0, (⟨(rd_T76 y251 x5).f1.f0, (rd_T76 y251 x5).f1.f1, (rd_T76 y251 x5).f1.f2, (rd_T76 y251 x5).f1.f3, (rd_T76 y251 x5).f1.f4⟩ : S26), wrap64 ((wrap64 ((wrap64 ((wrap64 ((wrap64 ((wrap64 (x1 + 1)) + 1)) + 1)) + 1)) + 1)) + 1)⟩ : S76)) (wrap64 ((wrap64 ((wrap64 ((wrap64 ((wrap64 ((wrap64 ((wrap64 (x1 + 1)) + 1)) + 1)) + 1)) + 1)) + 1)) + 1)) (wrap64 (x5 + 1))))))))) else (none)) else (some (x1, x0))
def laws_markBusS.f (k : Nat) (l0 : List (S76)) (a1 : Int) : Option (Int × (List (S76))) := laws_markBusS.l0 k l0 a1 0
theorem laws_markBusS.mono_l : ∀ k, (∀ y0 y1 y2, LeO (laws_markBusS.l0 k y0 y1 y2) (laws_markBusS.l0 (k + 1) y0 y1 y2))
 | 0 => fun _ _ _ r h => by simp [laws_markBusS.l0] at h
 | k + 1 => by
  have ih0 := laws_markBusS.mono_l k
  ·intro y0 y1 y2
   unfold laws_markBusS.l0
   repeat' first
   | (with_reducible exact ih0 _ _ _)
   | (with_reducible exact LeO.refl _)
   | (with_reducible exact LeO.none _)
   | (with_reducible refine LeO.ite ?_ ?_)
   | (with_reducible refine LeO.bind ?_ (fun _ => ?_))
   | exact ih0 _ _ _
   | exact LeO.none _
   | refine LeO.ite ?_ ?_
   | refine LeO.bind ?_ (fun _ => ?_)
theorem laws_markBusS.mono : ∀ a0 a1 k, LeO (laws_markBusS.f k a0 a1) (laws_markBusS.f (k + 1) a0 a1) := by
 intro a0 a1 k
 have ih0 := laws_markBusS.mono_l k
 unfold laws_markBusS.f
 repeat' first
   | (with_reducible exact ih0 _ _ _)
   | (with_reducible exact LeO.refl _)
   | (with_reducible exact LeO.none _)
   | (with_reducible refine LeO.ite ?_ ?_)
   | (with_reducible refine LeO.bind ?_ (fun _ => ?_))
   | exact ih0 _ _ _
   | exact LeO.none _
   | refine LeO.ite ?_ ?_
   | refine LeO.bind ?_ (fun _ => ?_)
set_option maxHeartbeats 8000000 in
set_option maxRecDepth 100000 in
theorem laws_markBusS.calls (k : Nat) (P0_ : Nat → Prop) (u9000_ : Value) (l0 : List (S76)) (a1 : Int) (r1 : Int) (r2 : List (S76)) (w0 w : World) (hB : Below w0.heap.size w0 w) (ho0 : Kd.R k76 76 w w0.heap.size P0_ u9000_ l0) (h : laws_markBusS.f k l0 a1 = some (r1, r2)) :
  Calls Try.prog 33 #[u9000_, .int .i64 a1] w fun e w' => e = .returned (.int .i64 r1) ∧ Kd.R k76 76 w' w0.heap.size (fun k_ => (P0_ k_ ∨ w.heap.size ≤ k_)) u9000_ r2 ∧ Below w0.heap.size w0 w' ∧ Kept w w' (fun k_ => P0_ k_) := by
 have HO0 := am_ (show Kd.R k76 76 w w0.heap.size (fun k_ => (P0_ k_ ∨ w.heap.size ≤ k_)) u9000_ l0 from Kd.R_mono ho0 (fun k_ hk => (.inl hk)))
 have HK := am_ (Kept.refl w (fun k_ => P0_ k_))
 have HW0 := am_ hB.size
 have HB := am_ hB
 clear hB
 have H : (laws_markBusS.l0 k l0 a1 0) = some (r1, r2) := h
 clear h
 have H' := am_ H
 clear H
 go_enter Try.func33, Try.ntmps33
 go_wp2
 go_loopg [1, 5] k (fun kq v1 v5 w' => ∃ (x0_1 : List (S76)) (x1_1 : Int) (x5_1 : Int), v1 = .int .i64 x1_1 ∧ v5 = .int .i64 x5_1 ∧ Aside0 (laws_markBusS.l0 kq x0_1 x1_1 x5_1 = some (r1, r2)) ∧ Aside0 (kq ≤ k) ∧ Aside0 (Kd.R k76 76 w' w0.heap.size (fun k_ => (P0_ k_ ∨ w.heap.size ≤ k_)) u9000_ x0_1) ∧ Aside0 (Kept w w' (fun k_ => P0_ k_)) ∧ Aside0 (Below w0.heap.size w0 w'))
 case atStart => exact ⟨(l0), (a1), (0), sq_, sq_, H', ⟨Nat.le_refl _⟩, ⟨ra_ HO0.out⟩, ⟨kk_ HK.out⟩, ⟨bw_ HB.out⟩⟩
 case round =>
  clear H'
  obtain ⟨x0_1, x1_1, x5_1, rfl, rfl, HA, HK1, HO_0, HK, HB⟩ := hrel
  cases gk with
  | zero => exact absurd HA.out (by simp [laws_markBusS.l0])
  | succ k1 =>
   have H := HA.out
   clear HA
   simp only [laws_markBusS.l0] at H
   by_cases c3 : x5_1 < (x0_1.length : Int)
   ·rw [if_pos c3] at H
    have c3b0 : decide (x5_1 < (x0_1.length : Int)) = true := decide_eq_true c3
    clear c3
    obtain ⟨c4, H⟩ := ifn_ H
    have c4b0 : decide (0 ≤ x5_1) = true := decide_eq_true c4
    clear c4
    obtain ⟨y246, hy246⟩ : ∃ y_ : List (S76), y_ = (x0_1.set (x5_1 : Int).toNat (⟨fofI x1_1, (⟨(rd_T76 x0_1 x5_1).f1.f0, (rd_T76 x0_1 x5_1).f1.f1, (rd_T76 x0_1 x5_1).f1.f2, (rd_T76 x0_1 x5_1).f1.f3, (rd_T76 x0_1 x5_1).f1.f4⟩ : S26), (rd_T76 x0_1 x5_1).f2⟩ : S76)) := ⟨_, rfl⟩
    replace H : ((some (y246.set (x5_1 : Int).toNat (⟨(rd_T76 y246 x5_1).f0, (⟨fofI (wrap64 (x1_1 + 1)), (rd_T76 y246 x5_1).f1.f1, (rd_T76 y246 x5_1).f1.f2, (rd_T76 y246 x5_1).f1.f3, (rd_T76 y246 x5_1).f1.f4⟩ : S26), (rd_T76 y246 x5_1).f2⟩ : S76) : List (S76))).bind fun y247 => ((some (y247.set (x5_1 : Int).toNat (⟨(rd_T76 y247 x5_1).f0, (⟨(rd_T76 y247 x5_1).f1.f0, fofI (wrap64 ((wrap64 (x1_1 + 1)) + 1)), (rd_T76 y247 x5_1).f1.f2, (rd_T76 y247 x5_1).f1.f3, (rd_T76 y247 x5_1).f1.f4⟩ : S26), (rd_T76 y247 x5_1).f2⟩ : S76) : List (S76))).bind fun y248 => ((some (y248.set (x5_1 : Int).toNat (⟨(rd_T76 y248 x5_1).f0, (⟨(rd_T76 y248 x5_1).f1.f0, (rd_T76 y248 x5_1).f1.f1, fofI (wrap64 ((wrap64 ((wrap64 (x1_1 + 1)) + 1)) + 1)), (rd_T76 y248 x5_1).f1.f3, (rd_T76 y248 x5_1).f1.f4⟩ : S26), (rd_T76 y248 x5_1).f2⟩ : S76) : List (S76))).bind fun y249 => ((some (y249.set (x5_1 : Int).toNat (⟨(rd_T76 y249 x5_1).f0, (⟨(rd_T76 y249 x5_1).f1.f0, (rd_T76 y249 x5_1).f1.f1, (rd_T76 y249 x5_1).f1.f2, fofI (wrap64 ((wrap64 ((wrap64 ((wrap64 (x1_1 + 1)) + 1)) + 1)) + 1)), (rd_T76 y249 x5_1).f1.f4⟩ : S26), (rd_T76 y249 x5_1).f2⟩ : S76) : List (S76))).bind fun y250 => ((some (y250.set (x5_1 : Int).toNat (⟨(rd_T76 y250 x5_1).f0, (⟨(rd_T76 y250 x5_1).f1.f0, (rd_T76 y250 x5_1).f1.f1, (rd_T76 y250 x5_1).f1.f2, (rd_T76 y250 x5_1).f1.f3, fofI (wrap64 ((wrap64 ((wrap64 ((wrap64 ((wrap64 (x1_1 + 1)) + 1)) + 1)) + 1)) + 1))⟩ : S26), (rd_T76 y250 x5_1).f2⟩ : S76) : List (S76))).bind fun y251 => (laws_markBusS.l0 k1 (y251.set (x5_1 : Int).toNat (⟨(rd_T76 y251 x5_1).f0, (⟨(rd_T76 y251 x5_1).f1.f0, (rd_T76 y251 x5_1).f1.f1, (rd_T76 y251 x5_1).f1.f2, (rd_T76 y251 x5_1).f1.f3, (rd_T76 y251 x5_1).f1.f4⟩ : S26), wrap64 ((wrap64 ((wrap64 ((wrap64 ((wrap64 ((wrap64 (x1_1 + 1)) + 1)) + 1)) + 1)) + 1)) + 1)⟩ : S76)) (wrap64 ((wrap64 ((wrap64 ((wrap64 ((wrap64 ((wrap64 ((wrap64 (x1_1 + 1)) + 1)) + 1)) + 1)) + 1)) + 1)) + 1)) (wrap64 (x5_1 + 1)))))))) = some (r1, r2) := by first | (rw [hy246]; with_reducible exact H) | (have H2_ := (Option.bind_some _ _).symm.trans H; rw [hy246]; with_reducible exact H2_) | (have H2_ := (Option.bind_some _ _).symm.trans H; with_reducible exact H2_) | with_reducible exact H | (rw [hy246]; exact H) | exact H
    have Ny246 := am_ hy246
    clear hy246
    obtain ⟨y247, hy247⟩ : ∃ y_ : List (S76), y_ = (y246.set (x5_1 : Int).toNat (⟨(rd_T76 y246 x5_1).f0, (⟨fofI (wrap64 (x1_1 + 1)), (rd_T76 y246 x5_1).f1.f1, (rd_T76 y246 x5_1).f1.f2, (rd_T76 y246 x5_1).f1.f3, (rd_T76 y246 x5_1).f1.f4⟩ : S26), (rd_T76 y246 x5_1).f2⟩ : S76)) := ⟨_, rfl⟩
    replace H : ((some (y247.set (x5_1 : Int).toNat (⟨(rd_T76 y247 x5_1).f0, (⟨(rd_T76 y247 x5_1).f1.f0, fofI (wrap64 ((wrap64 (x1_1 + 1)) + 1)), (rd_T76 y247 x5_1).f1.f2, (rd_T76 y247 x5_1).f1.f3, (rd_T76 y247 x5_1).f1.f4⟩ : S26), (rd_T76 y247 x5_1).f2⟩ : S76) : List (S76))).bind fun y248 => ((some (y248.set (x5_1 : Int).toNat (⟨(rd_T76 y248 x5_1).f0, (⟨(rd_T76 y248 x5_1).f1.f0, (rd_T76 y248 x5_1).f1.f1, fofI (wrap64 ((wrap64 ((wrap64 (x1_1 + 1)) + 1)) + 1)), (rd_T76 y248 x5_1).f1.f3, (rd_T76 y248 x5_1).f1.f4⟩ : S26), (rd_T76 y248 x5_1).f2⟩ : S76) : List (S76))).bind fun y249 => ((some (y249.set (x5_1 : Int).toNat (⟨(rd_T76 y249 x5_1).f0, (⟨(rd_T76 y249 x5_1).f1.f0, (rd_T76 y249 x5_1).f1.f1, (rd_T76 y249 x5_1).f1.f2, fofI (wrap64 ((wrap64 ((wrap64 ((wrap64 (x1_1 + 1)) + 1)) + 1)) + 1)), (rd_T76 y249 x5_1).f1.f4⟩ : S26), (rd_T76 y249 x5_1).f2⟩ : S76) : List (S76))).bind fun y250 => ((some (y250.set (x5_1 : Int).toNat (⟨(rd_T76 y250 x5_1).f0, (⟨(rd_T76 y250 x5_1).f1.f0, (rd_T76 y250 x5_1).f1.f1, (rd_T76 y250 x5_1).f1.f2, (rd_T76 y250 x5_1).f1.f3, fofI (wrap64 ((wrap64 ((wrap64 ((wrap64 ((wrap64 (x1_1 + 1)) + 1)) + 1)) + 1)) + 1))⟩ : S26), (rd_T76 y250 x5_1).f2⟩ : S76) : List (S76))).bind fun y251 => (laws_markBusS.l0 k1 (y251.set (x5_1 : Int).toNat (⟨(rd_T76 y251 x5_1).f0, (⟨(rd_T76 y251 x5_1).f1.f0, (rd_T76 y251 x5_1).f1.f1, (rd_T76 y251 x5_1).f1.f2, (rd_T76 y251 x5_1).f1.f3, (rd_T76 y251 x5_1).f1.f4⟩ : S26), wrap64 ((wrap64 ((wrap64 ((wrap64 ((wrap64 ((wrap64 (x1_1 + 1)) + 1)) + 1)) + 1)) + 1)) + 1)⟩ : S76)) (wrap64 ((wrap64 ((wrap64 ((wrap64 ((wrap64 ((wrap64 ((wrap64 (x1_1 + 1)) + 1)) + 1)) + 1)) + 1)) + 1)) + 1)) (wrap64 (x5_1 + 1))))))) = some (r1, r2) := by first | (rw [hy247]; with_reducible exact H) | (have H2_ := (Option.bind_some _ _).symm.trans H; rw [hy247]; with_reducible exact H2_) | (have H2_ := (Option.bind_some _ _).symm.trans H; with_reducible exact H2_) | with_reducible exact H | (rw [hy247]; exact H) | exact H
    have Ny247 := am_ hy247
    clear hy247
    obtain ⟨y248, hy248⟩ : ∃ y_ : List (S76), y_ = (y247.set (x5_1 : Int).toNat (⟨(rd_T76 y247 x5_1).f0, (⟨(rd_T76 y247 x5_1).f1.f0, fofI (wrap64 ((wrap64 (x1_1 + 1)) + 1)), (rd_T76 y247 x5_1).f1.f2, (rd_T76 y247 x5_1).f1.f3, (rd_T76 y247 x5_1).f1.f4⟩ : S26), (rd_T76 y247 x5_1).f2⟩ : S76)) := ⟨_, rfl⟩
    replace H : ((some (y248.set (x5_1 : Int).toNat (⟨(rd_T76 y248 x5_1).f0, (⟨(rd_T76 y248 x5_1).f1.f0, (rd_T76 y248 x5_1).f1.f1, fofI (wrap64 ((wrap64 ((wrap64 (x1_1 + 1)) + 1)) + 1)), (rd_T76 y248 x5_1).f1.f3, (rd_T76 y248 x5_1).f1.f4⟩ : S26), (rd_T76 y248 x5_1).f2⟩ : S76) : List (S76))).bind fun y249 => ((some (y249.set (x5_1 : Int).toNat (⟨(rd_T76 y249 x5_1).f0, (⟨(rd_T76 y249 x5_1).f1.f0, (rd_T76 y249 x5_1).f1.f1, (rd_T76 y249 x5_1).f1.f2, fofI (wrap64 ((wrap64 ((wrap64 ((wrap64 (x1_1 + 1)) + 1)) + 1)) + 1)), (rd_T76 y249 x5_1).f1.f4⟩ : S26), (rd_T76 y249 x5_1).f2⟩ : S76) : List (S76))).bind fun y250 => ((some (y250.set (x5_1 : Int).toNat (⟨(rd_T76 y250 x5_1).f0, (⟨(rd_T76 y250 x5_1).f1.f0, (rd_T76 y250 x5_1).f1.f1, (rd_T76 y250 x5_1).f1.f2, (rd_T76 y250 x5_1).f1.f3, fofI (wrap64 ((wrap64 ((wrap64 ((wrap64 ((wrap64 (x1_1 + 1)) + 1)) + 1)) + 1)) + 1))⟩ : S26), (rd_T76 y250 x5_1).f2⟩ : S76) : List (S76))).bind fun y251 => (laws_markBusS.l0 k1 (y251.set (x5_1 : Int).toNat (⟨(rd_T76 y251 x5_1).f0, (⟨(rd_T76 y251 x5_1).f1.f0, (rd_T76 y251 x5_1).f1.f1, (rd_T76 y251 x5_1).f1.f2, (rd_T76 y251 x5_1).f1.f3, (rd_T76 y251 x5_1).f1.f4⟩ : S26), wrap64 ((wrap64 ((wrap64 ((wrap64 ((wrap64 ((wrap64 (x1_1 + 1)) + 1)) + 1)) + 1)) + 1)) + 1)⟩ : S76)) (wrap64 ((wrap64 ((wrap64 ((wrap64 ((wrap64 ((wrap64 ((wrap64 (x1_1 + 1)) + 1)) + 1)) + 1)) + 1)) + 1)) + 1)) (wrap64 (x5_1 + 1)))))) = some (r1, r2) := by first | (rw [hy248]; with_reducible exact H) | (have H2_ := (Option.bind_some _ _).symm.trans H; rw [hy248]; with_reducible exact H2_) | (have H2_ := (Option.bind_some _ _).symm.trans H; with_reducible exact H2_) | with_reducible exact H | (rw [hy248]; exact H) | exact H
    have Ny248 := am_ hy248
    clear hy248
    obtain ⟨y249, hy249⟩ : ∃ y_ : List (S76), y_ = (y248.set (x5_1 : Int).toNat (⟨(rd_T76 y248 x5_1).f0, (⟨(rd_T76 y248 x5_1).f1.f0, (rd_T76 y248 x5_1).f1.f1, fofI (wrap64 ((wrap64 ((wrap64 (x1_1 + 1)) + 1)) + 1)), (rd_T76 y248 x5_1).f1.f3, (rd_T76 y248 x5_1).f1.f4⟩ : S26), (rd_T76 y248 x5_1).f2⟩ : S76)) := ⟨_, rfl⟩
    replace H : ((some (y249.set (x5_1 : Int).toNat (⟨(rd_T76 y249 x5_1).f0, (⟨(rd_T76 y249 x5_1).f1.f0, (rd_T76 y249 x5_1).f1.f1, (rd_T76 y249 x5_1).f1.f2, fofI (wrap64 ((wrap64 ((wrap64 ((wrap64 (x1_1 + 1)) + 1)) + 1)) + 1)), (rd_T76 y249 x5_1).f1.f4⟩ : S26), (rd_T76 y249 x5_1).f2⟩ : S76) : List (S76))).bind fun y250 => ((some (y250.set (x5_1 : Int).toNat (⟨(rd_T76 y250 x5_1).f0, (⟨(rd_T76 y250 x5_1).f1.f0, (rd_T76 y250 x5_1).f1.f1, (rd_T76 y250 x5_1).f1.f2, (rd_T76 y250 x5_1).f1.f3, fofI (wrap64 ((wrap64 ((wrap64 ((wrap64 ((wrap64 (x1_1 + 1)) + 1)) + 1)) + 1)) + 1))⟩ : S26), (rd_T76 y250 x5_1).f2⟩ : S76) : List (S76))).bind fun y251 => (laws_markBusS.l0 k1 (y251.set (x5_1 : Int).toNat (⟨(rd_T76 y251 x5_1).f0, (⟨(rd_T76 y251 x5_1).f1.f0, (rd_T76 y251 x5_1).f1.f1, (rd_T76 y251 x5_1).f1.f2, (rd_T76 y251 x5_1).f1.f3, (rd_T76 y251 x5_1).f1.f4⟩ : S26), wrap64 ((wrap64 ((wrap64 ((wrap64 ((wrap64 ((wrap64 (x1_1 + 1)) + 1)) + 1)) + 1)) + 1)) + 1)⟩ : S76)) (wrap64 ((wrap64 ((wrap64 ((wrap64 ((wrap64 ((wrap64 ((wrap64 (x1_1 + 1)) + 1)) + 1)) + 1)) + 1)) + 1)) + 1)) (wrap64 (x5_1 + 1))))) = some (r1, r2) := by first | (rw [hy249]; with_reducible exact H) | (have H2_ := (Option.bind_some _ _).symm.trans H; rw [hy249]; with_reducible exact H2_) | (have H2_ := (Option.bind_some _ _).symm.trans H; with_reducible exact H2_) | with_reducible exact H | (rw [hy249]; exact H) | exact H
    have Ny249 := am_ hy249
    clear hy249
    obtain ⟨y250, hy250⟩ : ∃ y_ : List (S76), y_ = (y249.set (x5_1 : Int).toNat (⟨(rd_T76 y249 x5_1).f0, (⟨(rd_T76 y249 x5_1).f1.f0, (rd_T76 y249 x5_1).f1.f1, (rd_T76 y249 x5_1).f1.f2, fofI (wrap64 ((wrap64 ((wrap64 ((wrap64 (x1_1 + 1)) + 1)) + 1)) + 1)), (rd_T76 y249 x5_1).f1.f4⟩ : S26), (rd_T76 y249 x5_1).f2⟩ : S76)) := ⟨_, rfl⟩
    replace H : ((some (y250.set (x5_1 : Int).toNat (⟨(rd_T76 y250 x5_1).f0, (⟨(rd_T76 y250 x5_1).f1.f0, (rd_T76 y250 x5_1).f1.f1, (rd_T76 y250 x5_1).f1.f2, (rd_T76 y250 x5_1).f1.f3, fofI (wrap64 ((wrap64 ((wrap64 ((wrap64 ((wrap64 (x1_1 + 1)) + 1)) + 1)) + 1)) + 1))⟩ : S26), (rd_T76 y250 x5_1).f2⟩ : S76) : List (S76))).bind fun y251 => (laws_markBusS.l0 k1 (y251.set (x5_1 : Int).toNat (⟨(rd_T76 y251 x5_1).f0, (⟨(rd_T76 y251 x5_1).f1.f0, (rd_T76 y251 x5_1).f1.f1, (rd_T76 y251 x5_1).f1.f2, (rd_T76 y251 x5_1).f1.f3, (rd_T76 y251 x5_1).f1.f4⟩ : S26), wrap64 ((wrap64 ((wrap64 ((wrap64 ((wrap64 ((wrap64 (x1_1 + 1)) + 1)) + 1)) + 1)) + 1)) + 1)⟩ : S76)) (wrap64 ((wrap64 ((wrap64 ((wrap64 ((wrap64 ((wrap64 ((wrap64 (x1_1 + 1)) + 1)) + 1)) + 1)) + 1)) + 1)) + 1)) (wrap64 (x5_1 + 1)))) = some (r1, r2) := by first | (rw [hy250]; with_reducible exact H) | (have H2_ := (Option.bind_some _ _).symm.trans H; rw [hy250]; with_reducible exact H2_) | (have H2_ := (Option.bind_some _ _).symm.trans H; with_reducible exact H2_) | with_reducible exact H | (rw [hy250]; exact H) | exact H
    have Ny250 := am_ hy250
    clear hy250
    obtain ⟨y251, hy251⟩ : ∃ y_ : List (S76), y_ = (y250.set (x5_1 : Int).toNat (⟨(rd_T76 y250 x5_1).f0, (⟨(rd_T76 y250 x5_1).f1.f0, (rd_T76 y250 x5_1).f1.f1, (rd_T76 y250 x5_1).f1.f2, (rd_T76 y250 x5_1).f1.f3, fofI (wrap64 ((wrap64 ((wrap64 ((wrap64 ((wrap64 (x1_1 + 1)) + 1)) + 1)) + 1)) + 1))⟩ : S26), (rd_T76 y250 x5_1).f2⟩ : S76)) := ⟨_, rfl⟩
    replace H : (laws_markBusS.l0 k1 (y251.set (x5_1 : Int).toNat (⟨(rd_T76 y251 x5_1).f0, (⟨(rd_T76 y251 x5_1).f1.f0, (rd_T76 y251 x5_1).f1.f1, (rd_T76 y251 x5_1).f1.f2, (rd_T76 y251 x5_1).f1.f3, (rd_T76 y251 x5_1).f1.f4⟩ : S26), wrap64 ((wrap64 ((wrap64 ((wrap64 ((wrap64 ((wrap64 (x1_1 + 1)) + 1)) + 1)) + 1)) + 1)) + 1)⟩ : S76)) (wrap64 ((wrap64 ((wrap64 ((wrap64 ((wrap64 ((wrap64 ((wrap64 (x1_1 + 1)) + 1)) + 1)) + 1)) + 1)) + 1)) + 1)) (wrap64 (x5_1 + 1))) = some (r1, r2) := by first | (rw [hy251]; with_reducible exact H) | (have H2_ := (Option.bind_some _ _).symm.trans H; rw [hy251]; with_reducible exact H2_) | (have H2_ := (Option.bind_some _ _).symm.trans H; with_reducible exact H2_) | with_reducible exact H | (rw [hy251]; exact H) | exact H
    have Ny251 := am_ hy251
    clear hy251
    obtain ⟨y252, hy252⟩ : ∃ y_ : List (S76), y_ = (y251.set (x5_1 : Int).toNat (⟨(rd_T76 y251 x5_1).f0, (⟨(rd_T76 y251 x5_1).f1.f0, (rd_T76 y251 x5_1).f1.f1, (rd_T76 y251 x5_1).f1.f2, (rd_T76 y251 x5_1).f1.f3, (rd_T76 y251 x5_1).f1.f4⟩ : S26), wrap64 ((wrap64 ((wrap64 ((wrap64 ((wrap64 ((wrap64 (x1_1 + 1)) + 1)) + 1)) + 1)) + 1)) + 1)⟩ : S76)) := ⟨_, rfl⟩
    replace H : (laws_markBusS.l0 k1 y252 (wrap64 ((wrap64 ((wrap64 ((wrap64 ((wrap64 ((wrap64 ((wrap64 (x1_1 + 1)) + 1)) + 1)) + 1)) + 1)) + 1)) + 1)) (wrap64 (x5_1 + 1))) = some (r1, r2) := by first | (rw [hy252]; with_reducible exact H) | (have H2_ := (Option.bind_some _ _).symm.trans H; rw [hy252]; with_reducible exact H2_) | (have H2_ := (Option.bind_some _ _).symm.trans H; with_reducible exact H2_) | with_reducible exact H | (rw [hy252]; exact H) | exact H
    have Ny252 := am_ hy252
    clear hy252
    have H' := am_ H
    clear H
    obtain ⟨Ao12, co12, eo12⟩ := Kd.R_slice HO_0.out
    subst eo12
    have p5 : 0 ≤ (x5_1 : Int) := od_
    have q5 : (x5_1 : Int) < ((x0_1.length : Int) : Int) := od_
    obtain ⟨go5, co5, eo5, gb5, gl5, cl5, HG5⟩ := Kd.R_form HO_0.out (by omega)
    (first | cases eo5 | (injection eo5 with ea_ en_ ec_; (first | subst ea_ | (injection ea_ with ea_; subst ea_)); subst ec_; clear en_))
    have GB5 := am_ gb5
    have GG5 := am_ HG5
    clear gb5 gl5 HG5
    have HMgo5 := am_ (show (P0_ go5 ∨ w.heap.size ≤ go5) from (HO_0.out.1 _ rfl))
    obtain ⟨ce5, hcl5, hM5, hcc5, hfr5⟩ := Kd.R_elem HO_0.out z76 (x5_1 : Int) p5 q5
    obtain rfl := k76_openM hM5
    have hx5_0 : wr.cell? ⟨go5, (x5_1 : Int).toNat * 7, none⟩ = some (.float .f64 ((rd_T76 x0_1 x5_1).f0).toNat) := hcc5 0 _ rfl
    have hx5_1 : wr.cell? ⟨go5, (x5_1 : Int).toNat * 7 + 1, none⟩ = some (.float .f64 ((rd_T76 x0_1 x5_1).f1.f0).toNat) := hcc5 1 _ rfl
    have hx5_2 : wr.cell? ⟨go5, (x5_1 : Int).toNat * 7 + 2, none⟩ = some (.float .f64 ((rd_T76 x0_1 x5_1).f1.f1).toNat) := hcc5 2 _ rfl
    have hx5_3 : wr.cell? ⟨go5, (x5_1 : Int).toNat * 7 + 3, none⟩ = some (.float .f64 ((rd_T76 x0_1 x5_1).f1.f2).toNat) := hcc5 3 _ rfl
    have hx5_4 : wr.cell? ⟨go5, (x5_1 : Int).toNat * 7 + 4, none⟩ = some (.float .f64 ((rd_T76 x0_1 x5_1).f1.f3).toNat) := hcc5 4 _ rfl
    have hx5_5 : wr.cell? ⟨go5, (x5_1 : Int).toNat * 7 + 5, none⟩ = some (.float .f64 ((rd_T76 x0_1 x5_1).f1.f4).toNat) := hcc5 5 _ rfl
    have hx5_6 : wr.cell? ⟨go5, (x5_1 : Int).toNat * 7 + 6, none⟩ = some (.int .i64 ((rd_T76 x0_1 x5_1).f2)) := hcc5 6 _ rfl
    have hf5_0 : wr.frozen? ⟨go5, (x5_1 : Int).toNat * 7, none⟩ = false := hfr5 0
    have hf5_1 : wr.frozen? ⟨go5, (x5_1 : Int).toNat * 7 + 1, none⟩ = false := hfr5 1
    have hf5_2 : wr.frozen? ⟨go5, (x5_1 : Int).toNat * 7 + 2, none⟩ = false := hfr5 2
    have hf5_3 : wr.frozen? ⟨go5, (x5_1 : Int).toNat * 7 + 3, none⟩ = false := hfr5 3
    have hf5_4 : wr.frozen? ⟨go5, (x5_1 : Int).toNat * 7 + 4, none⟩ = false := hfr5 4
    have hf5_5 : wr.frozen? ⟨go5, (x5_1 : Int).toNat * 7 + 5, none⟩ = false := hfr5 5
    have hf5_6 : wr.frozen? ⟨go5, (x5_1 : Int).toNat * 7 + 6, none⟩ = false := hfr5 6
    clear hcl5 hcc5 hfr5; (try clear hM5)
    replace p5 := eq_true p5
    replace q5 := eq_true q5
    have HX13 := am_ (show Kd.R k76 76 wr w0.heap.size (fun k_ => (P0_ k_ ∨ w.heap.size ≤ k_)) (.slice (some ⟨go5, 0, none⟩) x0_1.length co12) x0_1 from (ra_ HO_0.out))
    obtain ⟨ce13, hcl13, hM13, hcc13, hfr13⟩ := Kd.R_elem HX13.out z76 (x5_1 : Int) od_ (by have h_ : (x5_1 : Int) < ((x0_1.length : Int) : Int) := od_; first | exact h_ | (have e_ := (Kd.R_reads' HO_0.out).1; omega) | simpa using h_)
    obtain rfl := k76_openM hM13
    have HP13 := Kd.R_seg HX13.out (x5_1 : Int) od_ (by have h_ : (x5_1 : Int) < ((x0_1.length : Int) : Int) := od_; first | exact h_ | (have e_ := (Kd.R_reads' HO_0.out).1; omega) | simpa using h_) (seg := [.float .f64 (fofI x1_1).toNat]) (j := 0) hcl13 hcc13 (show 1 ≤ 7 from by decide) (x' := (⟨fofI x1_1, (⟨(rd_T76 x0_1 x5_1).f1.f0, (rd_T76 x0_1 x5_1).f1.f1, (rd_T76 x0_1 x5_1).f1.f2, (rd_T76 x0_1 x5_1).f1.f3, (rd_T76 x0_1 x5_1).f1.f4⟩ : S26), (rd_T76 x0_1 x5_1).f2⟩ : S76)) (k76_mkM _ _ _ (⟨fofI x1_1, (⟨(rd_T76 x0_1 x5_1).f1.f0, (rd_T76 x0_1 x5_1).f1.f1, (rd_T76 x0_1 x5_1).f1.f2, (rd_T76 x0_1 x5_1).f1.f3, (rd_T76 x0_1 x5_1).f1.f4⟩ : S26), (rd_T76 x0_1 x5_1).f2⟩ : S76) ) (fun _ hk => hk)
    have hx13_0 := hcc13 0 _ rfl
    (try simp only [show (k76).sz = 7 from rfl, Nat.mul_one, Nat.add_zero] at hx13_0)
    have hf13_0 := hfr13 0
    (try simp only [show (k76).sz = 7 from rfl, Nat.mul_one, Nat.add_zero] at hf13_0)
    clear hcl13 hcc13 hfr13; (try clear hM13)
    go_wp2_with (first | ((with_reducible refine gate_store (t := 22) (p := 17) rfl ?_); refine se_ 22 17 (wr.setCell ⟨go5, (x5_1 : Int).toNat * 7, none⟩ (.float .f64 (fofI x1_1).toNat)) ?_; intro w14 hw; have hg : wr.grownBy w14 (some go5) := (by rw [hw]; exact HP13.2); have hp_ : Kd.R k76 76 w14 w0.heap.size (fun k_ => (P0_ k_ ∨ w.heap.size ≤ k_)) (.slice (some ⟨go5, 0, none⟩) x0_1.length co12) y246 := (by rw [hw, Ny246.out]; exact HP13.1); clear HP13; have n0_ := am_ (hp_); have n1_ := am_ ((by rw [hw]; exact below_set (HB.out) GB5.out : Below w0.heap.size w0 w14)); have n2_ := am_ (Kept.of_grown (S := (fun k_ => P0_ k_)) hg (kk_ HK.out) (fun k_ e_ => (HO_0.out.1 k_ e_))); replace HO_0 := n0_; replace HB := n1_; replace HK := n2_; clear n0_ n1_ n2_; clear hg hw hp_; have p6 : 0 ≤ (x5_1 : Int) := od_; have q6 : (x5_1 : Int) < ((x0_1.length : Int) : Int) := od_; obtain ⟨ce6, hcl6, hM6, hcc6, hfr6⟩ := Kd.R_elem HO_0.out z76 (x5_1 : Int) p6 q6; obtain rfl := k76_openM hM6; have hx6_0 : w14.cell? ⟨go5, (x5_1 : Int).toNat * 7, none⟩ = some (.float .f64 ((rd_T76 y246 x5_1).f0).toNat) := hcc6 0 _ rfl; have hx6_1 : w14.cell? ⟨go5, (x5_1 : Int).toNat * 7 + 1, none⟩ = some (.float .f64 ((rd_T76 y246 x5_1).f1.f0).toNat) := hcc6 1 _ rfl; have hx6_2 : w14.cell? ⟨go5, (x5_1 : Int).toNat * 7 + 2, none⟩ = some (.float .f64 ((rd_T76 y246 x5_1).f1.f1).toNat) := hcc6 2 _ rfl; have hx6_3 : w14.cell? ⟨go5, (x5_1 : Int).toNat * 7 + 3, none⟩ = some (.float .f64 ((rd_T76 y246 x5_1).f1.f2).toNat) := hcc6 3 _ rfl; have hx6_4 : w14.cell? ⟨go5, (x5_1 : Int).toNat * 7 + 4, none⟩ = some (.float .f64 ((rd_T76 y246 x5_1).f1.f3).toNat) := hcc6 4 _ rfl; have hx6_5 : w14.cell? ⟨go5, (x5_1 : Int).toNat * 7 + 5, none⟩ = some (.float .f64 ((rd_T76 y246 x5_1).f1.f4).toNat) := hcc6 5 _ rfl; have hx6_6 : w14.cell? ⟨go5, (x5_1 : Int).toNat * 7 + 6, none⟩ = some (.int .i64 ((rd_T76 y246 x5_1).f2)) := hcc6 6 _ rfl; have hf6_0 : w14.frozen? ⟨go5, (x5_1 : Int).toNat * 7, none⟩ = false := hfr6 0; have hf6_1 : w14.frozen? ⟨go5, (x5_1 : Int).toNat * 7 + 1, none⟩ = false := hfr6 1; have hf6_2 : w14.frozen? ⟨go5, (x5_1 : Int).toNat * 7 + 2, none⟩ = false := hfr6 2; have hf6_3 : w14.frozen? ⟨go5, (x5_1 : Int).toNat * 7 + 3, none⟩ = false := hfr6 3; have hf6_4 : w14.frozen? ⟨go5, (x5_1 : Int).toNat * 7 + 4, none⟩ = false := hfr6 4; have hf6_5 : w14.frozen? ⟨go5, (x5_1 : Int).toNat * 7 + 5, none⟩ = false := hfr6 5; have hf6_6 : w14.frozen? ⟨go5, (x5_1 : Int).toNat * 7 + 6, none⟩ = false := hfr6 6; clear hcl6 hcc6 hfr6; (try clear hM6); replace p6 := eq_true p6; replace q6 := eq_true q6; have HX15 := am_ (show Kd.R k76 76 w14 w0.heap.size (fun k_ => (P0_ k_ ∨ w.heap.size ≤ k_)) (.slice (some ⟨go5, 0, none⟩) x0_1.length co12) y246 from (ra_ HO_0.out)); obtain ⟨ce15, hcl15, hM15, hcc15, hfr15⟩ := Kd.R_elem HX15.out z76 (x5_1 : Int) od_ (by have h_ : (x5_1 : Int) < ((x0_1.length : Int) : Int) := od_; first | exact h_ | (have e_ := (Kd.R_reads' HO_0.out).1; omega) | simpa using h_); obtain rfl := k76_openM hM15; have HP15 := Kd.R_seg HX15.out (x5_1 : Int) od_ (by have h_ : (x5_1 : Int) < ((x0_1.length : Int) : Int) := od_; first | exact h_ | (have e_ := (Kd.R_reads' HO_0.out).1; omega) | simpa using h_) (seg := [.float .f64 (fofI (wrap64 (x1_1 + 1))).toNat]) (j := 1) hcl15 hcc15 (show 2 ≤ 7 from by decide) (x' := (⟨(rd_T76 y246 x5_1).f0, (⟨fofI (wrap64 (x1_1 + 1)), (rd_T76 y246 x5_1).f1.f1, (rd_T76 y246 x5_1).f1.f2, (rd_T76 y246 x5_1).f1.f3, (rd_T76 y246 x5_1).f1.f4⟩ : S26), (rd_T76 y246 x5_1).f2⟩ : S76)) (k76_mkM _ _ _ (⟨(rd_T76 y246 x5_1).f0, (⟨fofI (wrap64 (x1_1 + 1)), (rd_T76 y246 x5_1).f1.f1, (rd_T76 y246 x5_1).f1.f2, (rd_T76 y246 x5_1).f1.f3, (rd_T76 y246 x5_1).f1.f4⟩ : S26), (rd_T76 y246 x5_1).f2⟩ : S76) ) (fun _ hk => hk); have hx15_1 := hcc15 1 _ rfl; (try simp only [show (k76).sz = 7 from rfl, Nat.mul_one, Nat.add_zero] at hx15_1); have hf15_1 := hfr15 1; (try simp only [show (k76).sz = 7 from rfl, Nat.mul_one, Nat.add_zero] at hf15_1); clear hcl15 hcc15 hfr15; (try clear hM15)) | ((with_reducible refine gate_store (t := 22) (p := 26) rfl ?_); refine se_ 22 26 (w14.setCell ⟨go5, (x5_1 : Int).toNat * 7 + 1, none⟩ (.float .f64 (fofI (wrap64 (x1_1 + 1))).toNat)) ?_; intro w16 hw; have hg : w14.grownBy w16 (some go5) := (by rw [hw]; exact HP15.2); have hp_ : Kd.R k76 76 w16 w0.heap.size (fun k_ => (P0_ k_ ∨ w.heap.size ≤ k_)) (.slice (some ⟨go5, 0, none⟩) x0_1.length co12) y247 := (by rw [hw, Ny247.out]; exact HP15.1); clear HP15; have n0_ := am_ (hp_); have n1_ := am_ ((by rw [hw]; exact below_set (HB.out) GB5.out : Below w0.heap.size w0 w16)); have n2_ := am_ (Kept.of_grown (S := (fun k_ => P0_ k_)) hg (kk_ HK.out) (fun k_ e_ => (HO_0.out.1 k_ e_))); replace HO_0 := n0_; replace HB := n1_; replace HK := n2_; clear n0_ n1_ n2_; clear hg hw hp_; have p7 : 0 ≤ (x5_1 : Int) := od_; have q7 : (x5_1 : Int) < ((x0_1.length : Int) : Int) := od_; obtain ⟨ce7, hcl7, hM7, hcc7, hfr7⟩ := Kd.R_elem HO_0.out z76 (x5_1 : Int) p7 q7; obtain rfl := k76_openM hM7; have hx7_0 : w16.cell? ⟨go5, (x5_1 : Int).toNat * 7, none⟩ = some (.float .f64 ((rd_T76 y247 x5_1).f0).toNat) := hcc7 0 _ rfl; have hx7_1 : w16.cell? ⟨go5, (x5_1 : Int).toNat * 7 + 1, none⟩ = some (.float .f64 ((rd_T76 y247 x5_1).f1.f0).toNat) := hcc7 1 _ rfl; have hx7_2 : w16.cell? ⟨go5, (x5_1 : Int).toNat * 7 + 2, none⟩ = some (.float .f64 ((rd_T76 y247 x5_1).f1.f1).toNat) := hcc7 2 _ rfl; have hx7_3 : w16.cell? ⟨go5, (x5_1 : Int).toNat * 7 + 3, none⟩ = some (.float .f64 ((rd_T76 y247 x5_1).f1.f2).toNat) := hcc7 3 _ rfl; have hx7_4 : w16.cell? ⟨go5, (x5_1 : Int).toNat * 7 + 4, none⟩ = some (.float .f64 ((rd_T76 y247 x5_1).f1.f3).toNat) := hcc7 4 _ rfl; have hx7_5 : w16.cell? ⟨go5, (x5_1 : Int).toNat * 7 + 5, none⟩ = some (.float .f64 ((rd_T76 y247 x5_1).f1.f4).toNat) := hcc7 5 _ rfl; have hx7_6 : w16.cell? ⟨go5, (x5_1 : Int).toNat * 7 + 6, none⟩ = some (.int .i64 ((rd_T76 y247 x5_1).f2)) := hcc7 6 _ rfl; have hf7_0 : w16.frozen? ⟨go5, (x5_1 : Int).toNat * 7, none⟩ = false := hfr7 0; have hf7_1 : w16.frozen? ⟨go5, (x5_1 : Int).toNat * 7 + 1, none⟩ = false := hfr7 1; have hf7_2 : w16.frozen? ⟨go5, (x5_1 : Int).toNat * 7 + 2, none⟩ = false := hfr7 2; have hf7_3 : w16.frozen? ⟨go5, (x5_1 : Int).toNat * 7 + 3, none⟩ = false := hfr7 3; have hf7_4 : w16.frozen? ⟨go5, (x5_1 : Int).toNat * 7 + 4, none⟩ = false := hfr7 4; have hf7_5 : w16.frozen? ⟨go5, (x5_1 : Int).toNat * 7 + 5, none⟩ = false := hfr7 5; have hf7_6 : w16.frozen? ⟨go5, (x5_1 : Int).toNat * 7 + 6, none⟩ = false := hfr7 6; clear hcl7 hcc7 hfr7; (try clear hM7); replace p7 := eq_true p7; replace q7 := eq_true q7; have HX17 := am_ (show Kd.R k76 76 w16 w0.heap.size (fun k_ => (P0_ k_ ∨ w.heap.size ≤ k_)) (.slice (some ⟨go5, 0, none⟩) x0_1.length co12) y247 from (ra_ HO_0.out)); obtain ⟨ce17, hcl17, hM17, hcc17, hfr17⟩ := Kd.R_elem HX17.out z76 (x5_1 : Int) od_ (by have h_ : (x5_1 : Int) < ((x0_1.length : Int) : Int) := od_; first | exact h_ | (have e_ := (Kd.R_reads' HO_0.out).1; omega) | simpa using h_); obtain rfl := k76_openM hM17; have HP17 := Kd.R_seg HX17.out (x5_1 : Int) od_ (by have h_ : (x5_1 : Int) < ((x0_1.length : Int) : Int) := od_; first | exact h_ | (have e_ := (Kd.R_reads' HO_0.out).1; omega) | simpa using h_) (seg := [.float .f64 (fofI (wrap64 ((wrap64 (x1_1 + 1)) + 1))).toNat]) (j := 2) hcl17 hcc17 (show 3 ≤ 7 from by decide) (x' := (⟨(rd_T76 y247 x5_1).f0, (⟨(rd_T76 y247 x5_1).f1.f0, fofI (wrap64 ((wrap64 (x1_1 + 1)) + 1)), (rd_T76 y247 x5_1).f1.f2, (rd_T76 y247 x5_1).f1.f3, (rd_T76 y247 x5_1).f1.f4⟩ : S26), (rd_T76 y247 x5_1).f2⟩ : S76)) (k76_mkM _ _ _ (⟨(rd_T76 y247 x5_1).f0, (⟨(rd_T76 y247 x5_1).f1.f0, fofI (wrap64 ((wrap64 (x1_1 + 1)) + 1)), (rd_T76 y247 x5_1).f1.f2, (rd_T76 y247 x5_1).f1.f3, (rd_T76 y247 x5_1).f1.f4⟩ : S26), (rd_T76 y247 x5_1).f2⟩ : S76) ) (fun _ hk => hk); have hx17_2 := hcc17 2 _ rfl; (try simp only [show (k76).sz = 7 from rfl, Nat.mul_one, Nat.add_zero] at hx17_2); have hf17_2 := hfr17 2; (try simp only [show (k76).sz = 7 from rfl, Nat.mul_one, Nat.add_zero] at hf17_2); clear hcl17 hcc17 hfr17; (try clear hM17)) | ((with_reducible refine gate_store (t := 22) (p := 35) rfl ?_); refine se_ 22 35 (w16.setCell ⟨go5, (x5_1 : Int).toNat * 7 + 2, none⟩ (.float .f64 (fofI (wrap64 ((wrap64 (x1_1 + 1)) + 1))).toNat)) ?_; intro w18 hw; have hg : w16.grownBy w18 (some go5) := (by rw [hw]; exact HP17.2); have hp_ : Kd.R k76 76 w18 w0.heap.size (fun k_ => (P0_ k_ ∨ w.heap.size ≤ k_)) (.slice (some ⟨go5, 0, none⟩) x0_1.length co12) y248 := (by rw [hw, Ny248.out]; exact HP17.1); clear HP17; have n0_ := am_ (hp_); have n1_ := am_ ((by rw [hw]; exact below_set (HB.out) GB5.out : Below w0.heap.size w0 w18)); have n2_ := am_ (Kept.of_grown (S := (fun k_ => P0_ k_)) hg (kk_ HK.out) (fun k_ e_ => (HO_0.out.1 k_ e_))); replace HO_0 := n0_; replace HB := n1_; replace HK := n2_; clear n0_ n1_ n2_; clear hg hw hp_; have p8 : 0 ≤ (x5_1 : Int) := od_; have q8 : (x5_1 : Int) < ((x0_1.length : Int) : Int) := od_; obtain ⟨ce8, hcl8, hM8, hcc8, hfr8⟩ := Kd.R_elem HO_0.out z76 (x5_1 : Int) p8 q8; obtain rfl := k76_openM hM8; have hx8_0 : w18.cell? ⟨go5, (x5_1 : Int).toNat * 7, none⟩ = some (.float .f64 ((rd_T76 y248 x5_1).f0).toNat) := hcc8 0 _ rfl; have hx8_1 : w18.cell? ⟨go5, (x5_1 : Int).toNat * 7 + 1, none⟩ = some (.float .f64 ((rd_T76 y248 x5_1).f1.f0).toNat) := hcc8 1 _ rfl; have hx8_2 : w18.cell? ⟨go5, (x5_1 : Int).toNat * 7 + 2, none⟩ = some (.float .f64 ((rd_T76 y248 x5_1).f1.f1).toNat) := hcc8 2 _ rfl; have hx8_3 : w18.cell? ⟨go5, (x5_1 : Int).toNat * 7 + 3, none⟩ = some (.float .f64 ((rd_T76 y248 x5_1).f1.f2).toNat) := hcc8 3 _ rfl; have hx8_4 : w18.cell? ⟨go5, (x5_1 : Int).toNat * 7 + 4, none⟩ = some (.float .f64 ((rd_T76 y248 x5_1).f1.f3).toNat) := hcc8 4 _ rfl; have hx8_5 : w18.cell? ⟨go5, (x5_1 : Int).toNat * 7 + 5, none⟩ = some (.float .f64 ((rd_T76 y248 x5_1).f1.f4).toNat) := hcc8 5 _ rfl; have hx8_6 : w18.cell? ⟨go5, (x5_1 : Int).toNat * 7 + 6, none⟩ = some (.int .i64 ((rd_T76 y248 x5_1).f2)) := hcc8 6 _ rfl; have hf8_0 : w18.frozen? ⟨go5, (x5_1 : Int).toNat * 7, none⟩ = false := hfr8 0; have hf8_1 : w18.frozen? ⟨go5, (x5_1 : Int).toNat * 7 + 1, none⟩ = false := hfr8 1; have hf8_2 : w18.frozen? ⟨go5, (x5_1 : Int).toNat * 7 + 2, none⟩ = false := hfr8 2; have hf8_3 : w18.frozen? ⟨go5, (x5_1 : Int).toNat * 7 + 3, none⟩ = false := hfr8 3; have hf8_4 : w18.frozen? ⟨go5, (x5_1 : Int).toNat * 7 + 4, none⟩ = false := hfr8 4; have hf8_5 : w18.frozen? ⟨go5, (x5_1 : Int).toNat * 7 + 5, none⟩ = false := hfr8 5; have hf8_6 : w18.frozen? ⟨go5, (x5_1 : Int).toNat * 7 + 6, none⟩ = false := hfr8 6; clear hcl8 hcc8 hfr8; (try clear hM8); replace p8 := eq_true p8; replace q8 := eq_true q8; have HX19 := am_ (show Kd.R k76 76 w18 w0.heap.size (fun k_ => (P0_ k_ ∨ w.heap.size ≤ k_)) (.slice (some ⟨go5, 0, none⟩) x0_1.length co12) y248 from (ra_ HO_0.out)); obtain ⟨ce19, hcl19, hM19, hcc19, hfr19⟩ := Kd.R_elem HX19.out z76 (x5_1 : Int) od_ (by have h_ : (x5_1 : Int) < ((x0_1.length : Int) : Int) := od_; first | exact h_ | (have e_ := (Kd.R_reads' HO_0.out).1; omega) | simpa using h_); obtain rfl := k76_openM hM19; have HP19 := Kd.R_seg HX19.out (x5_1 : Int) od_ (by have h_ : (x5_1 : Int) < ((x0_1.length : Int) : Int) := od_; first | exact h_ | (have e_ := (Kd.R_reads' HO_0.out).1; omega) | simpa using h_) (seg := [.float .f64 (fofI (wrap64 ((wrap64 ((wrap64 (x1_1 + 1)) + 1)) + 1))).toNat]) (j := 3) hcl19 hcc19 (show 4 ≤ 7 from by decide) (x' := (⟨(rd_T76 y248 x5_1).f0, (⟨(rd_T76 y248 x5_1).f1.f0, (rd_T76 y248 x5_1).f1.f1, fofI (wrap64 ((wrap64 ((wrap64 (x1_1 + 1)) + 1)) + 1)), (rd_T76 y248 x5_1).f1.f3, (rd_T76 y248 x5_1).f1.f4⟩ : S26), (rd_T76 y248 x5_1).f2⟩ : S76)) (k76_mkM _ _ _ (⟨(rd_T76 y248 x5_1).f0, (⟨(rd_T76 y248 x5_1).f1.f0, (rd_T76 y248 x5_1).f1.f1, fofI (wrap64 ((wrap64 ((wrap64 (x1_1 + 1)) + 1)) + 1)), (rd_T76 y248 x5_1).f1.f3, (rd_T76 y248 x5_1).f1.f4⟩ : S26), (rd_T76 y248 x5_1).f2⟩ : S76) ) (fun _ hk => hk); have hx19_3 := hcc19 3 _ rfl; (try simp only [show (k76).sz = 7 from rfl, Nat.mul_one, Nat.add_zero] at hx19_3); have hf19_3 := hfr19 3; (try simp only [show (k76).sz = 7 from rfl, Nat.mul_one, Nat.add_zero] at hf19_3); clear hcl19 hcc19 hfr19; (try clear hM19)) | ((with_reducible refine gate_store (t := 22) (p := 44) rfl ?_); refine se_ 22 44 (w18.setCell ⟨go5, (x5_1 : Int).toNat * 7 + 3, none⟩ (.float .f64 (fofI (wrap64 ((wrap64 ((wrap64 (x1_1 + 1)) + 1)) + 1))).toNat)) ?_; intro w20 hw; have hg : w18.grownBy w20 (some go5) := (by rw [hw]; exact HP19.2); have hp_ : Kd.R k76 76 w20 w0.heap.size (fun k_ => (P0_ k_ ∨ w.heap.size ≤ k_)) (.slice (some ⟨go5, 0, none⟩) x0_1.length co12) y249 := (by rw [hw, Ny249.out]; exact HP19.1); clear HP19; have n0_ := am_ (hp_); have n1_ := am_ ((by rw [hw]; exact below_set (HB.out) GB5.out : Below w0.heap.size w0 w20)); have n2_ := am_ (Kept.of_grown (S := (fun k_ => P0_ k_)) hg (kk_ HK.out) (fun k_ e_ => (HO_0.out.1 k_ e_))); replace HO_0 := n0_; replace HB := n1_; replace HK := n2_; clear n0_ n1_ n2_; clear hg hw hp_; have p9 : 0 ≤ (x5_1 : Int) := od_; have q9 : (x5_1 : Int) < ((x0_1.length : Int) : Int) := od_; obtain ⟨ce9, hcl9, hM9, hcc9, hfr9⟩ := Kd.R_elem HO_0.out z76 (x5_1 : Int) p9 q9; obtain rfl := k76_openM hM9; have hx9_0 : w20.cell? ⟨go5, (x5_1 : Int).toNat * 7, none⟩ = some (.float .f64 ((rd_T76 y249 x5_1).f0).toNat) := hcc9 0 _ rfl; have hx9_1 : w20.cell? ⟨go5, (x5_1 : Int).toNat * 7 + 1, none⟩ = some (.float .f64 ((rd_T76 y249 x5_1).f1.f0).toNat) := hcc9 1 _ rfl; have hx9_2 : w20.cell? ⟨go5, (x5_1 : Int).toNat * 7 + 2, none⟩ = some (.float .f64 ((rd_T76 y249 x5_1).f1.f1).toNat) := hcc9 2 _ rfl; have hx9_3 : w20.cell? ⟨go5, (x5_1 : Int).toNat * 7 + 3, none⟩ = some (.float .f64 ((rd_T76 y249 x5_1).f1.f2).toNat) := hcc9 3 _ rfl; have hx9_4 : w20.cell? ⟨go5, (x5_1 : Int).toNat * 7 + 4, none⟩ = some (.float .f64 ((rd_T76 y249 x5_1).f1.f3).toNat) := hcc9 4 _ rfl; have hx9_5 : w20.cell? ⟨go5, (x5_1 : Int).toNat * 7 + 5, none⟩ = some (.float .f64 ((rd_T76 y249 x5_1).f1.f4).toNat) := hcc9 5 _ rfl; have hx9_6 : w20.cell? ⟨go5, (x5_1 : Int).toNat * 7 + 6, none⟩ = some (.int .i64 ((rd_T76 y249 x5_1).f2)) := hcc9 6 _ rfl; have hf9_0 : w20.frozen? ⟨go5, (x5_1 : Int).toNat * 7, none⟩ = false := hfr9 0; have hf9_1 : w20.frozen? ⟨go5, (x5_1 : Int).toNat * 7 + 1, none⟩ = false := hfr9 1; have hf9_2 : w20.frozen? ⟨go5, (x5_1 : Int).toNat * 7 + 2, none⟩ = false := hfr9 2; have hf9_3 : w20.frozen? ⟨go5, (x5_1 : Int).toNat * 7 + 3, none⟩ = false := hfr9 3; have hf9_4 : w20.frozen? ⟨go5, (x5_1 : Int).toNat * 7 + 4, none⟩ = false := hfr9 4; have hf9_5 : w20.frozen? ⟨go5, (x5_1 : Int).toNat * 7 + 5, none⟩ = false := hfr9 5; have hf9_6 : w20.frozen? ⟨go5, (x5_1 : Int).toNat * 7 + 6, none⟩ = false := hfr9 6; clear hcl9 hcc9 hfr9; (try clear hM9); replace p9 := eq_true p9; replace q9 := eq_true q9; have HX21 := am_ (show Kd.R k76 76 w20 w0.heap.size (fun k_ => (P0_ k_ ∨ w.heap.size ≤ k_)) (.slice (some ⟨go5, 0, none⟩) x0_1.length co12) y249 from (ra_ HO_0.out)); obtain ⟨ce21, hcl21, hM21, hcc21, hfr21⟩ := Kd.R_elem HX21.out z76 (x5_1 : Int) od_ (by have h_ : (x5_1 : Int) < ((x0_1.length : Int) : Int) := od_; first | exact h_ | (have e_ := (Kd.R_reads' HO_0.out).1; omega) | simpa using h_); obtain rfl := k76_openM hM21; have HP21 := Kd.R_seg HX21.out (x5_1 : Int) od_ (by have h_ : (x5_1 : Int) < ((x0_1.length : Int) : Int) := od_; first | exact h_ | (have e_ := (Kd.R_reads' HO_0.out).1; omega) | simpa using h_) (seg := [.float .f64 (fofI (wrap64 ((wrap64 ((wrap64 ((wrap64 (x1_1 + 1)) + 1)) + 1)) + 1))).toNat]) (j := 4) hcl21 hcc21 (show 5 ≤ 7 from by decide) (x' := (⟨(rd_T76 y249 x5_1).f0, (⟨(rd_T76 y249 x5_1).f1.f0, (rd_T76 y249 x5_1).f1.f1, (rd_T76 y249 x5_1).f1.f2, fofI (wrap64 ((wrap64 ((wrap64 ((wrap64 (x1_1 + 1)) + 1)) + 1)) + 1)), (rd_T76 y249 x5_1).f1.f4⟩ : S26), (rd_T76 y249 x5_1).f2⟩ : S76)) (k76_mkM _ _ _ (⟨(rd_T76 y249 x5_1).f0, (⟨(rd_T76 y249 x5_1).f1.f0, (rd_T76 y249 x5_1).f1.f1, (rd_T76 y249 x5_1).f1.f2, fofI (wrap64 ((wrap64 ((wrap64 ((wrap64 (x1_1 + 1)) + 1)) + 1)) + 1)), (rd_T76 y249 x5_1).f1.f4⟩ : S26), (rd_T76 y249 x5_1).f2⟩ : S76) ) (fun _ hk => hk); have hx21_4 := hcc21 4 _ rfl; (try simp only [show (k76).sz = 7 from rfl, Nat.mul_one, Nat.add_zero] at hx21_4); have hf21_4 := hfr21 4; (try simp only [show (k76).sz = 7 from rfl, Nat.mul_one, Nat.add_zero] at hf21_4); clear hcl21 hcc21 hfr21; (try clear hM21)) | ((with_reducible refine gate_store (t := 22) (p := 53) rfl ?_); refine se_ 22 53 (w20.setCell ⟨go5, (x5_1 : Int).toNat * 7 + 4, none⟩ (.float .f64 (fofI (wrap64 ((wrap64 ((wrap64 ((wrap64 (x1_1 + 1)) + 1)) + 1)) + 1))).toNat)) ?_; intro w22 hw; have hg : w20.grownBy w22 (some go5) := (by rw [hw]; exact HP21.2); have hp_ : Kd.R k76 76 w22 w0.heap.size (fun k_ => (P0_ k_ ∨ w.heap.size ≤ k_)) (.slice (some ⟨go5, 0, none⟩) x0_1.length co12) y250 := (by rw [hw, Ny250.out]; exact HP21.1); clear HP21; have n0_ := am_ (hp_); have n1_ := am_ ((by rw [hw]; exact below_set (HB.out) GB5.out : Below w0.heap.size w0 w22)); have n2_ := am_ (Kept.of_grown (S := (fun k_ => P0_ k_)) hg (kk_ HK.out) (fun k_ e_ => (HO_0.out.1 k_ e_))); replace HO_0 := n0_; replace HB := n1_; replace HK := n2_; clear n0_ n1_ n2_; clear hg hw hp_; have p10 : 0 ≤ (x5_1 : Int) := od_; have q10 : (x5_1 : Int) < ((x0_1.length : Int) : Int) := od_; obtain ⟨ce10, hcl10, hM10, hcc10, hfr10⟩ := Kd.R_elem HO_0.out z76 (x5_1 : Int) p10 q10; obtain rfl := k76_openM hM10; have hx10_0 : w22.cell? ⟨go5, (x5_1 : Int).toNat * 7, none⟩ = some (.float .f64 ((rd_T76 y250 x5_1).f0).toNat) := hcc10 0 _ rfl; have hx10_1 : w22.cell? ⟨go5, (x5_1 : Int).toNat * 7 + 1, none⟩ = some (.float .f64 ((rd_T76 y250 x5_1).f1.f0).toNat) := hcc10 1 _ rfl; have hx10_2 : w22.cell? ⟨go5, (x5_1 : Int).toNat * 7 + 2, none⟩ = some (.float .f64 ((rd_T76 y250 x5_1).f1.f1).toNat) := hcc10 2 _ rfl; have hx10_3 : w22.cell? ⟨go5, (x5_1 : Int).toNat * 7 + 3, none⟩ = some (.float .f64 ((rd_T76 y250 x5_1).f1.f2).toNat) := hcc10 3 _ rfl; have hx10_4 : w22.cell? ⟨go5, (x5_1 : Int).toNat * 7 + 4, none⟩ = some (.float .f64 ((rd_T76 y250 x5_1).f1.f3).toNat) := hcc10 4 _ rfl; have hx10_5 : w22.cell? ⟨go5, (x5_1 : Int).toNat * 7 + 5, none⟩ = some (.float .f64 ((rd_T76 y250 x5_1).f1.f4).toNat) := hcc10 5 _ rfl; have hx10_6 : w22.cell? ⟨go5, (x5_1 : Int).toNat * 7 + 6, none⟩ = some (.int .i64 ((rd_T76 y250 x5_1).f2)) := hcc10 6 _ rfl; have hf10_0 : w22.frozen? ⟨go5, (x5_1 : Int).toNat * 7, none⟩ = false := hfr10 0; have hf10_1 : w22.frozen? ⟨go5, (x5_1 : Int).toNat * 7 + 1, none⟩ = false := hfr10 1; have hf10_2 : w22.frozen? ⟨go5, (x5_1 : Int).toNat * 7 + 2, none⟩ = false := hfr10 2; have hf10_3 : w22.frozen? ⟨go5, (x5_1 : Int).toNat * 7 + 3, none⟩ = false := hfr10 3; have hf10_4 : w22.frozen? ⟨go5, (x5_1 : Int).toNat * 7 + 4, none⟩ = false := hfr10 4; have hf10_5 : w22.frozen? ⟨go5, (x5_1 : Int).toNat * 7 + 5, none⟩ = false := hfr10 5; have hf10_6 : w22.frozen? ⟨go5, (x5_1 : Int).toNat * 7 + 6, none⟩ = false := hfr10 6; clear hcl10 hcc10 hfr10; (try clear hM10); replace p10 := eq_true p10; replace q10 := eq_true q10; have HX23 := am_ (show Kd.R k76 76 w22 w0.heap.size (fun k_ => (P0_ k_ ∨ w.heap.size ≤ k_)) (.slice (some ⟨go5, 0, none⟩) x0_1.length co12) y250 from (ra_ HO_0.out)); obtain ⟨ce23, hcl23, hM23, hcc23, hfr23⟩ := Kd.R_elem HX23.out z76 (x5_1 : Int) od_ (by have h_ : (x5_1 : Int) < ((x0_1.length : Int) : Int) := od_; first | exact h_ | (have e_ := (Kd.R_reads' HO_0.out).1; omega) | simpa using h_); obtain rfl := k76_openM hM23; have HP23 := Kd.R_seg HX23.out (x5_1 : Int) od_ (by have h_ : (x5_1 : Int) < ((x0_1.length : Int) : Int) := od_; first | exact h_ | (have e_ := (Kd.R_reads' HO_0.out).1; omega) | simpa using h_) (seg := [.float .f64 (fofI (wrap64 ((wrap64 ((wrap64 ((wrap64 ((wrap64 (x1_1 + 1)) + 1)) + 1)) + 1)) + 1))).toNat]) (j := 5) hcl23 hcc23 (show 6 ≤ 7 from by decide) (x' := (⟨(rd_T76 y250 x5_1).f0, (⟨(rd_T76 y250 x5_1).f1.f0, (rd_T76 y250 x5_1).f1.f1, (rd_T76 y250 x5_1).f1.f2, (rd_T76 y250 x5_1).f1.f3, fofI (wrap64 ((wrap64 ((wrap64 ((wrap64 ((wrap64 (x1_1 + 1)) + 1)) + 1)) + 1)) + 1))⟩ : S26), (rd_T76 y250 x5_1).f2⟩ : S76)) (k76_mkM _ _ _ (⟨(rd_T76 y250 x5_1).f0, (⟨(rd_T76 y250 x5_1).f1.f0, (rd_T76 y250 x5_1).f1.f1, (rd_T76 y250 x5_1).f1.f2, (rd_T76 y250 x5_1).f1.f3, fofI (wrap64 ((wrap64 ((wrap64 ((wrap64 ((wrap64 (x1_1 + 1)) + 1)) + 1)) + 1)) + 1))⟩ : S26), (rd_T76 y250 x5_1).f2⟩ : S76) ) (fun _ hk => hk); have hx23_5 := hcc23 5 _ rfl; (try simp only [show (k76).sz = 7 from rfl, Nat.mul_one, Nat.add_zero] at hx23_5); have hf23_5 := hfr23 5; (try simp only [show (k76).sz = 7 from rfl, Nat.mul_one, Nat.add_zero] at hf23_5); clear hcl23 hcc23 hfr23; (try clear hM23)) | ((with_reducible refine gate_store (t := 22) (p := 62) rfl ?_); refine se_ 22 62 (w22.setCell ⟨go5, (x5_1 : Int).toNat * 7 + 5, none⟩ (.float .f64 (fofI (wrap64 ((wrap64 ((wrap64 ((wrap64 ((wrap64 (x1_1 + 1)) + 1)) + 1)) + 1)) + 1))).toNat)) ?_; intro w24 hw; have hg : w22.grownBy w24 (some go5) := (by rw [hw]; exact HP23.2); have hp_ : Kd.R k76 76 w24 w0.heap.size (fun k_ => (P0_ k_ ∨ w.heap.size ≤ k_)) (.slice (some ⟨go5, 0, none⟩) x0_1.length co12) y251 := (by rw [hw, Ny251.out]; exact HP23.1); clear HP23; have n0_ := am_ (hp_); have n1_ := am_ ((by rw [hw]; exact below_set (HB.out) GB5.out : Below w0.heap.size w0 w24)); have n2_ := am_ (Kept.of_grown (S := (fun k_ => P0_ k_)) hg (kk_ HK.out) (fun k_ e_ => (HO_0.out.1 k_ e_))); replace HO_0 := n0_; replace HB := n1_; replace HK := n2_; clear n0_ n1_ n2_; clear hg hw hp_; have p11 : 0 ≤ (x5_1 : Int) := od_; have q11 : (x5_1 : Int) < ((x0_1.length : Int) : Int) := od_; obtain ⟨ce11, hcl11, hM11, hcc11, hfr11⟩ := Kd.R_elem HO_0.out z76 (x5_1 : Int) p11 q11; obtain rfl := k76_openM hM11; have hx11_0 : w24.cell? ⟨go5, (x5_1 : Int).toNat * 7, none⟩ = some (.float .f64 ((rd_T76 y251 x5_1).f0).toNat) := hcc11 0 _ rfl; have hx11_1 : w24.cell? ⟨go5, (x5_1 : Int).toNat * 7 + 1, none⟩ = some (.float .f64 ((rd_T76 y251 x5_1).f1.f0).toNat) := hcc11 1 _ rfl; have hx11_2 : w24.cell? ⟨go5, (x5_1 : Int).toNat * 7 + 2, none⟩ = some (.float .f64 ((rd_T76 y251 x5_1).f1.f1).toNat) := hcc11 2 _ rfl; have hx11_3 : w24.cell? ⟨go5, (x5_1 : Int).toNat * 7 + 3, none⟩ = some (.float .f64 ((rd_T76 y251 x5_1).f1.f2).toNat) := hcc11 3 _ rfl; have hx11_4 : w24.cell? ⟨go5, (x5_1 : Int).toNat * 7 + 4, none⟩ = some (.float .f64 ((rd_T76 y251 x5_1).f1.f3).toNat) := hcc11 4 _ rfl; have hx11_5 : w24.cell? ⟨go5, (x5_1 : Int).toNat * 7 + 5, none⟩ = some (.float .f64 ((rd_T76 y251 x5_1).f1.f4).toNat) := hcc11 5 _ rfl; have hx11_6 : w24.cell? ⟨go5, (x5_1 : Int).toNat * 7 + 6, none⟩ = some (.int .i64 ((rd_T76 y251 x5_1).f2)) := hcc11 6 _ rfl; have hf11_0 : w24.frozen? ⟨go5, (x5_1 : Int).toNat * 7, none⟩ = false := hfr11 0; have hf11_1 : w24.frozen? ⟨go5, (x5_1 : Int).toNat * 7 + 1, none⟩ = false := hfr11 1; have hf11_2 : w24.frozen? ⟨go5, (x5_1 : Int).toNat * 7 + 2, none⟩ = false := hfr11 2; have hf11_3 : w24.frozen? ⟨go5, (x5_1 : Int).toNat * 7 + 3, none⟩ = false := hfr11 3; have hf11_4 : w24.frozen? ⟨go5, (x5_1 : Int).toNat * 7 + 4, none⟩ = false := hfr11 4; have hf11_5 : w24.frozen? ⟨go5, (x5_1 : Int).toNat * 7 + 5, none⟩ = false := hfr11 5; have hf11_6 : w24.frozen? ⟨go5, (x5_1 : Int).toNat * 7 + 6, none⟩ = false := hfr11 6; clear hcl11 hcc11 hfr11; (try clear hM11); replace p11 := eq_true p11; replace q11 := eq_true q11; have HX25 := am_ (show Kd.R k76 76 w24 w0.heap.size (fun k_ => (P0_ k_ ∨ w.heap.size ≤ k_)) (.slice (some ⟨go5, 0, none⟩) x0_1.length co12) y251 from (ra_ HO_0.out)); obtain ⟨ce25, hcl25, hM25, hcc25, hfr25⟩ := Kd.R_elem HX25.out z76 (x5_1 : Int) od_ (by have h_ : (x5_1 : Int) < ((x0_1.length : Int) : Int) := od_; first | exact h_ | (have e_ := (Kd.R_reads' HO_0.out).1; omega) | simpa using h_); obtain rfl := k76_openM hM25; have HP25 := Kd.R_seg HX25.out (x5_1 : Int) od_ (by have h_ : (x5_1 : Int) < ((x0_1.length : Int) : Int) := od_; first | exact h_ | (have e_ := (Kd.R_reads' HO_0.out).1; omega) | simpa using h_) (seg := [.int .i64 (wrap64 ((wrap64 ((wrap64 ((wrap64 ((wrap64 ((wrap64 (x1_1 + 1)) + 1)) + 1)) + 1)) + 1)) + 1))]) (j := 6) hcl25 hcc25 (show 7 ≤ 7 from by decide) (x' := (⟨(rd_T76 y251 x5_1).f0, (⟨(rd_T76 y251 x5_1).f1.f0, (rd_T76 y251 x5_1).f1.f1, (rd_T76 y251 x5_1).f1.f2, (rd_T76 y251 x5_1).f1.f3, (rd_T76 y251 x5_1).f1.f4⟩ : S26), wrap64 ((wrap64 ((wrap64 ((wrap64 ((wrap64 ((wrap64 (x1_1 + 1)) + 1)) + 1)) + 1)) + 1)) + 1)⟩ : S76)) (k76_mkM _ _ _ (⟨(rd_T76 y251 x5_1).f0, (⟨(rd_T76 y251 x5_1).f1.f0, (rd_T76 y251 x5_1).f1.f1, (rd_T76 y251 x5_1).f1.f2, (rd_T76 y251 x5_1).f1.f3, (rd_T76 y251 x5_1).f1.f4⟩ : S26), wrap64 ((wrap64 ((wrap64 ((wrap64 ((wrap64 ((wrap64 (x1_1 + 1)) + 1)) + 1)) + 1)) + 1)) + 1)⟩ : S76) ) (fun _ hk => hk); have hx25_6 := hcc25 6 _ rfl; (try simp only [show (k76).sz = 7 from rfl, Nat.mul_one, Nat.add_zero] at hx25_6); have hf25_6 := hfr25 6; (try simp only [show (k76).sz = 7 from rfl, Nat.mul_one, Nat.add_zero] at hf25_6); clear hcl25 hcc25 hfr25; (try clear hM25)) | ((with_reducible refine gate_store (t := 3) (p := 69) rfl ?_); refine se_ 3 69 (w24.setCell ⟨go5, (x5_1 : Int).toNat * 7 + 6, none⟩ (.int .i64 (wrap64 ((wrap64 ((wrap64 ((wrap64 ((wrap64 ((wrap64 (x1_1 + 1)) + 1)) + 1)) + 1)) + 1)) + 1)))) ?_; intro w26 hw; have hg : w24.grownBy w26 (some go5) := (by rw [hw]; exact HP25.2); have hp_ : Kd.R k76 76 w26 w0.heap.size (fun k_ => (P0_ k_ ∨ w.heap.size ≤ k_)) (.slice (some ⟨go5, 0, none⟩) x0_1.length co12) y252 := (by rw [hw, Ny252.out]; exact HP25.1); clear HP25; have n0_ := am_ (hp_); have n1_ := am_ ((by rw [hw]; exact below_set (HB.out) GB5.out : Below w0.heap.size w0 w26)); have n2_ := am_ (Kept.of_grown (S := (fun k_ => P0_ k_)) hg (kk_ HK.out) (fun k_ e_ => (HO_0.out.1 k_ e_))); replace HO_0 := n0_; replace HB := n1_; replace HK := n2_; clear n0_ n1_ n2_; clear hg hw hp_))
    go_roundg k1
    case measure => have := HK1.out; omega
    case rel => exact ⟨(y252), (wrap64 ((wrap64 ((wrap64 ((wrap64 ((wrap64 ((wrap64 ((wrap64 (x1_1 + 1)) + 1)) + 1)) + 1)) + 1)) + 1)) + 1)), (wrap64 (x5_1 + 1)), sq_, sq_, H', ⟨by have := HK1.out; omega⟩, ⟨ra_ HO_0.out⟩, ⟨kk_ HK.out⟩, ⟨bw_ HB.out⟩⟩
   ·rw [if_neg c3] at H
    have c3b0 : decide (x5_1 < (x0_1.length : Int)) = false := decide_eq_false c3
    clear c3
    simp only [Option.some.injEq, Prod.mk.injEq] at H
    obtain ⟨rfl, rfl⟩ := H
    obtain ⟨Ao27, co27, eo27⟩ := Kd.R_slice HO_0.out
    subst eo27
    go_wp2
    go_ret
    exact ⟨by first | rfl | (simp [errW_none, errW_some] <;> rfl) | (simp [*, errW_none, errW_some] <;> rfl), ra_ HO_0.out, bw_ HB.out, kk_ HK.out⟩

end Go.Proofs.Ytbjdhmgednhdgaa.XFnExactRunBuses
