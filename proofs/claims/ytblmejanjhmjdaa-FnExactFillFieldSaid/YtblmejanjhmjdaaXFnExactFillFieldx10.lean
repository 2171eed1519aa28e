/- What the Go functions that this law comes to compute, each walked; written by a program of this session. -/
import Derived.Test.YtblmejanjhmjdaaXMark
import Derived.Test.YtblmejanjhmjdaaXFnExactFillFieldx0
import Derived.Test.YtblmejanjhmjdaaXFnExactFillFieldx9
namespace Go.Proofs.Ytblmejanjhmjdaa.XFnExactFillField
open Go.RowKit Go.Proofs.YtblmejanjhmjdaaW.PrintWords Go.Proofs.YtblmejanjhmjdaaW.PrintLast Go.Proofs.YtblmejanjhmjdaaW.PrintMore
attribute [local go_sem] str_geq max2_int min2_int max_two min_two max_three min_three max_four min_four   -- for this text's walks alone
set_option linter.unusedVariables false
set_option linter.unusedSimpArgs false

/-! ### impl_Rules_may: function 32 -/
def impl_Rules_may.f (k : Nat) (a0_0 : Int) (l0_1 : List (List Int)) (l0_2 : List (List Int)) (a1_0 : Int) (a1_1 : Int) (l1_2 : List Int) (a2 : Int) (a3 : Int) : Option (Bool) := if a1_0 = 0 then (none) else ((impl_Field_tile.f a1_0 a1_1 l1_2 (wrap64 ((Int.tmod a2 a1_0) - 1)) (wrap64 (Int.tdiv a2 a1_0)) (-1)).bind fun t248 => ((impl_follows.f k l0_1 t248 a3).bind fun t249 => (if t249 = true then ((impl_Field_tile.f a1_0 a1_1 l1_2 (wrap64 ((Int.tmod a2 a1_0) + 1)) (wrap64 (Int.tdiv a2 a1_0)) (-1)).bind fun t250 => ((impl_follows.f k l0_1 a3 t250).bind fun t251 => (if t251 = true then ((impl_Field_tile.f a1_0 a1_1 l1_2 (Int.tmod a2 a1_0) (wrap64 ((wrap64 (Int.tdiv a2 a1_0)) - 1)) (-1)).bind fun t252 => ((impl_follows.f k l0_2 t252 a3).bind fun t253 => (if t253 = true then ((impl_Field_tile.f a1_0 a1_1 l1_2 (Int.tmod a2 a1_0) (wrap64 ((wrap64 (Int.tdiv a2 a1_0)) + 1)) (-1)).bind fun t254 => ((impl_follows.f k l0_2 a3 t254).bind fun t255 => (some t255))) else (some false)))) else (some false)))) else (some false))))
theorem impl_Rules_may.mono : ∀ a0 a1 a2 a3 a4 a5 a6 a7 k, LeO (impl_Rules_may.f k a0 a1 a2 a3 a4 a5 a6 a7) (impl_Rules_may.f (k + 1) a0 a1 a2 a3 a4 a5 a6 a7) := by
 intro a0 a1 a2 a3 a4 a5 a6 a7 k
 unfold impl_Rules_may.f
 repeat' first
   | (with_reducible exact impl_follows.mono _ _ _ _)
   | (with_reducible exact LeO.refl _)
   | (with_reducible exact LeO.none _)
   | (with_reducible refine LeO.ite ?_ ?_)
   | (with_reducible refine LeO.bind ?_ (fun _ => ?_))
   | exact impl_follows.mono _ _ _ _
   | exact LeO.none _
   | refine LeO.ite ?_ ?_
   | refine LeO.bind ?_ (fun _ => ?_)
def impl_Rules_may.T1 : Bool × List (List Nat × List Nat) := (true, [([], []), ([], []), ([1], [1]), ([0, 2], [0, 2]), ([], []), ([], []), ([5], [5]), ([4, 6], [4, 6]), ([3, 0, 1, 2, 3], [3]), ([7, 8, 0, 1, 2, 3, 4, 5, 6, 7, 8], [7])])
def impl_Rules_may.B1 : List Nat := [0, 0, 2, 7, 0, 0, 32, 112, 15, 511]
theorem impl_Rules_may.tab1 : rtab .any (opsOf Try.f32 1) = impl_Rules_may.T1 := by kernel_rfl
theorem impl_Rules_may.bits1 : waitsOk impl_Rules_may.T1.2 impl_Rules_may.B1 = true := by kernel_rfl
def impl_Rules_may.T2 : Bool × List (List Nat × List Nat) := (true, [([], []), ([0], [0]), ([], []), ([], []), ([3], [3]), ([], []), ([2, 4, 5], [2, 4, 5]), ([], []), ([1, 6, 7, 6], [1, 6, 7]), ([8, 8], [8]), ([9], [9]), ([10, 9], [9, 10]), ([9], [9]), ([9], [9]), ([9], [9]), ([14, 9], [9, 14]), ([9], [9]), ([13, 15, 16, 9, 9], [9, 13, 15, 16]), ([11, 12, 17, 17, 9], [9, 11, 12, 17]), ([9, 18], [9, 18]), ([19, 18], [19]), ([20], [20]), ([21, 20], [20, 21]), ([20], [20]), ([20], [20]), ([20], [20]), ([25, 20], [20, 25]), ([23, 24, 26, 20, 20], [20, 23, 24, 26]), ([20], [20]), ([22, 27, 28, 27, 20], [20, 22, 27, 28]), ([20, 29], [20, 29]), ([30, 29], [30]), ([31], [31]), ([32, 31], [31, 32]), ([31], [31]), ([31], [31]), ([31], [31]), ([31], [31]), ([37, 31], [31, 37]), ([35, 36, 38, 31, 31], [31, 35, 36, 38]), ([33, 34, 39, 39, 31], [31, 33, 34, 39]), ([31, 40], [31, 40]), ([41, 40, 0, 1, 2, 3, 4, 5, 6, 7, 8, 9, 10, 11, 12, 13, 14, 15, 16, 17, 18, 19, 20, 21, 22, 23, 24, 25, 26, 27, 28, 29, 30, 31, 32, 33, 34, 35, 36, 37, 38, 39, 40, 41], [41])])
def impl_Rules_may.B2 : List Nat := [0, 1, 0, 0, 8, 0, 60, 0, 255, 511, 1023, 2047, 1023, 1023, 1023, 17407, 1023, 123903, 262143, 524287, 1048575, 2097151, 4194303, 2097151, 2097151, 2097151, 35651583, 127926271, 2097151, 536870911, 1073741823, 2147483647, 4294967295, 8589934591, 4294967295, 4294967295, 4294967295, 4294967295, 141733920767, 519691042815, 1099511627775, 2199023255551, 4398046511103]
theorem impl_Rules_may.tab2 : rtab .any (opsOf Try.f32 2) = impl_Rules_may.T2 := by kernel_rfl
theorem impl_Rules_may.bits2 : waitsOk impl_Rules_may.T2.2 impl_Rules_may.B2 = true := by kernel_rfl
set_option maxHeartbeats 8000000 in
set_option maxRecDepth 100000 in
theorem impl_Rules_may.calls (k : Nat) (a0_0 : Int) (A0_1 : Option Addr) (c0_1 : Nat) (l0_1 : List (List Int)) (A0_2 : Option Addr) (c0_2 : Nat) (l0_2 : List (List Int)) (a1_0 : Int) (a1_1 : Int) (A1_2 : Option Addr) (c1_2 : Nat) (l1_2 : List Int) (a2 : Int) (a3 : Int) (r : Bool) (w : World) (hr0_1 : Kd.C (Kd.slice 3 (Kd.int .i64)) w A0_1 l0_1.length l0_1) (hc0_1 : l0_1.length ≤ c0_1) (hr0_2 : Kd.C (Kd.slice 3 (Kd.int .i64)) w A0_2 l0_2.length l0_2) (hc0_2 : l0_2.length ≤ c0_2) (hr1_2 : Kd.C (Kd.int .i64) w A1_2 l1_2.length l1_2) (hc1_2 : l1_2.length ≤ c1_2) (h : impl_Rules_may.f k a0_0 l0_1 l0_2 a1_0 a1_1 l1_2 a2 a3 = some r) :
  Calls Try.prog 32 #[.agg #[.int .i64 a0_0, .slice A0_1 l0_1.length c0_1, .slice A0_2 l0_2.length c0_2], .agg #[.int .i64 a1_0, .int .i64 a1_1, .slice A1_2 l1_2.length c1_2], .int .i64 a2, .int .i64 a3] w fun e w' => e = .returned (.bool r) ∧ Below w.heap.size w w' := by
 have hu32 := Try.underlying32
 have hu34 := Try.underlying34
 have HR0_1 := Aside0.mk hr0_1
 have HC0_1 := Aside0.mk hc0_1
 clear hr0_1 hc0_1
 have HR0_2 := Aside0.mk hr0_2
 have HC0_2 := Aside0.mk hc0_2
 clear hr0_2 hc0_2
 have HR1_2 := Aside0.mk hr1_2
 have HC1_2 := Aside0.mk hc1_2
 clear hr1_2 hc1_2
 have HB := Aside0.mk (Below.refl w.heap.size w)
 have H : (if a1_0 = 0 then (none) else ((impl_Field_tile.f a1_0 a1_1 l1_2 (wrap64 ((Int.tmod a2 a1_0) - 1)) (wrap64 (Int.tdiv a2 a1_0)) (-1)).bind fun t248 => ((impl_follows.f k l0_1 t248 a3).bind fun t249 => (if t249 = true then ((impl_Field_tile.f a1_0 a1_1 l1_2 (wrap64 ((Int.tmod a2 a1_0) + 1)) (wrap64 (Int.tdiv a2 a1_0)) (-1)).bind fun t250 => ((impl_follows.f k l0_1 a3 t250).bind fun t251 => (if t251 = true then ((impl_Field_tile.f a1_0 a1_1 l1_2 (Int.tmod a2 a1_0) (wrap64 ((wrap64 (Int.tdiv a2 a1_0)) - 1)) (-1)).bind fun t252 => ((impl_follows.f k l0_2 t252 a3).bind fun t253 => (if t253 = true then ((impl_Field_tile.f a1_0 a1_1 l1_2 (Int.tmod a2 a1_0) (wrap64 ((wrap64 (Int.tdiv a2 a1_0)) + 1)) (-1)).bind fun t254 => ((impl_follows.f k l0_2 a3 t254).bind fun t255 => (some t255))) else (some false)))) else (some false)))) else (some false))))) = some r := h
 clear h
 by_cases c5 : a1_0 = 0
 ·rw [if_pos c5] at H
  exact absurd H (by simp)
 ·rw [if_neg c5] at H
  have c5b0 : (a1_0 == 0) = false := beq_eq_false_iff_ne.mpr c5
  have c5b1 : (a1_0 != 0) = true := bne_iff_ne.mpr c5
  obtain ⟨t248, A60, H⟩ := bE_ H
  have A6 := Aside0.mk A60
  clear A60
  obtain ⟨t249, A70, H⟩ := bE_ H
  have A7 := Aside0.mk A70
  clear A70
  by_cases c8 : t249 = true
  ·subst c8
   replace H := it_ H rfl
   obtain ⟨t250, A90, H⟩ := bE_ H
   have A9 := Aside0.mk A90
   clear A90
   obtain ⟨t251, A100, H⟩ := bE_ H
   have A10 := Aside0.mk A100
   clear A100
   by_cases c11 : t251 = true
   ·subst c11
    replace H := it_ H rfl
    obtain ⟨t252, A120, H⟩ := bE_ H
    have A12 := Aside0.mk A120
    clear A120
    obtain ⟨t253, A130, H⟩ := bE_ H
    have A13 := Aside0.mk A130
    clear A130
    by_cases c14 : t253 = true
    ·subst c14
     replace H := it_ H rfl
     obtain ⟨t254, A150, H⟩ := bE_ H
     have A15 := Aside0.mk A150
     clear A150
     obtain ⟨t255, A160, H⟩ := bE_ H
     have A16 := Aside0.mk A160
     clear A160
     obtain rfl := Option.some.inj H
     go_enter Try.func32, Try.ntmps32
     try go_wp2_with (first | ((with_reducible refine gate_dst (N := 4) rfl ?_); refine bx_ 4 #[.int .i64 a0_0, .slice A0_1 l0_1.length c0_1, .slice A0_2 l0_2.length c0_2] 32 ?_; intro gb246 hg w17 hbox hb; have n0_ := Aside0.mk (below_step (bw_ HB.out) hb); have n1_ := Aside0.mk (hbox); have n2_ := Aside0.mk (gs_ hg (bw_ HB.out)); have n3_ := Aside0.mk (gs_ hg (bw_ HB.out)); clear HB; have HB := n0_; have BK246 := n1_; have GW246 := n2_; have GE246 := n3_; clear n0_ n1_ n2_ n3_; clear hb hbox hg) | ((with_reducible refine gate_dst (N := 5) rfl ?_); refine bx_ 5 #[.int .i64 a1_0, .int .i64 a1_1, .slice A1_2 l1_2.length c1_2] 34 ?_; intro gb247 hg w18 hbox hb; have n0_ := Aside0.mk (blk_below (bk_ BK246.out) hb); have n1_ := Aside0.mk (below_step (bw_ HB.out) hb); have n2_ := Aside0.mk (hbox); have n3_ := Aside0.mk (gs_ hg (bw_ HB.out)); have n4_ := Aside0.mk (gs_ hg (bw_ HB.out)); have n5_ := Aside0.mk (nl_ hg (bk_ BK246.out)); have n6_ := Aside0.mk (ng_ hg (bk_ BK246.out)); clear BK246; clear HB; have BK246 := n0_; have HB := n1_; have BK247 := n2_; have GW247 := n3_; have GE247 := n4_; have NB246_247 := n5_; have NB247_246 := n6_; clear n0_ n1_ n2_ n3_ n4_ n5_ n6_; clear hb hbox hg))
     have n0_ := Aside0.mk (blk_drew BK246.out)
     have n1_ := Aside0.mk (blk_drew BK247.out)
     have n2_ := Aside0.mk (below_drew1 HB.out)
     clear BK246
     clear BK247
     clear HB
     have BK246 := n0_
     have BK247 := n1_
     have HB := n2_
     clear n0_ n1_ n2_
     refine start_ (n := 10) (S := fun w' => w'.cell? ⟨gb247, 0, none⟩ = some (.int .i64 a1_0) ∧ w'.cell? ⟨gb247, 1, none⟩ = some (.int .i64 a1_1) ∧ w'.cell? ⟨gb247, 2, none⟩ = some (.slice A1_2 l1_2.length c1_2)) (ds := []) (Array.replicate 10 false) (by kernel_rfl) rfl rfl ⟨cz_ BK247.out 0, cz_ BK247.out 1, cz_ BK247.out 2⟩ (fun hHeld => ?_); refine with_tabW impl_Rules_may.tab1 impl_Rules_may.bits1 (fun HT_ HW_ => ?_)
     generalize w18.drew = w19 at BK246 BK247 HB hHeld ⊢
     refine pS_ 0 11 HT_ ?_
     refine pS_ 1 12 HT_ ?_
     refine pS_ 4 15 HT_ ?_
     refine pS_ 5 16 HT_ ?_
     refine tS_ 2 13 HT_ HW_ hHeld ?_
     refine pS_ 3 14 HT_ ?_
     refine pS_ 8 9 HT_ ?_
     refine tS_ 6 17 HT_ HW_ hHeld ?_
     refine pS_ 7 18 HT_ ?_
     refine pS_ 9 10 HT_ ?_
     refine done_ (done_of HT_.out (by kernel_rfl)) ?_
     try go_wp2
     have n0_ := Aside0.mk (blk_drew BK246.out)
     have n1_ := Aside0.mk (blk_drew BK247.out)
     have n2_ := Aside0.mk (below_drew1 HB.out)
     clear BK246
     clear BK247
     clear HB
     have BK246 := n0_
     have BK247 := n1_
     have HB := n2_
     clear n0_ n1_ n2_
     refine start_ (n := 43) (S := fun w' => w'.cell? ⟨gb246, 0, none⟩ = some (.int .i64 a0_0) ∧ w'.cell? ⟨gb246, 1, none⟩ = some (.slice A0_1 l0_1.length c0_1) ∧ w'.cell? ⟨gb246, 2, none⟩ = some (.slice A0_2 l0_2.length c0_2) ∧ w'.cell? ⟨gb247, 0, none⟩ = some (.int .i64 a1_0) ∧ w'.cell? ⟨gb247, 1, none⟩ = some (.int .i64 a1_1) ∧ w'.cell? ⟨gb247, 2, none⟩ = some (.slice A1_2 l1_2.length c1_2)) (ds := []) (Array.replicate 43 false) (by kernel_rfl) rfl rfl ⟨cz_ BK246.out 0, cz_ BK246.out 1, cz_ BK246.out 2, cz_ BK247.out 0, cz_ BK247.out 1, cz_ BK247.out 2⟩ (fun hHeld => ?_); refine with_tabW impl_Rules_may.tab2 impl_Rules_may.bits2 (fun HT_ HW_ => ?_)
     generalize w19.drew = w20 at BK246 BK247 HB hHeld ⊢
     refine pS_ 0 19 HT_ ?_
     refine pS_ 3 22 HT_ ?_
     refine pS_ 4 23 HT_ ?_
     refine pS_ 5 24 HT_ ?_
     refine pS_ 7 26 HT_ ?_
     refine tS_ 1 20 HT_ HW_ hHeld ?_
     refine tS_ 2 21 HT_ HW_ hHeld ?_
     refine oS_ 6 25 HT_ (fun K hK => ?_)
     refine goes_ Try.func46 (by kernel_rfl) rfl #[.agg #[.int .i64 a1_0, .int .i64 a1_1, .slice A1_2 l1_2.length c1_2], .int .i64 (wrap64 ((Int.tmod a2 a1_0) - 1)), .int .i64 (wrap64 (Int.tdiv a2 a1_0)), .int .i64 (-1)] (by rfl) rfl rfl (by (try simp only [List.map_toArray, List.map_cons, List.map_nil]); first | done | rfl | (simp only [List.length_drop, List.length_take]; rfl)) ?_
     with_reducible refine (impl_Field_tile.calls a1_0 a1_1 _ _ l1_2 (wrap64 ((Int.tmod a2 a1_0) - 1)) (wrap64 (Int.tdiv a2 a1_0)) (-1) t248 _ ?side1 ?side2 A6.out).mono ?_
     (case side1 => repeat (first | exact (Kd.C_below HR1_2.out HB.out) | (with_reducible refine Kd.C_alloc ?_ _) | (with_reducible refine Kd.C_drewN ?_ _) | (with_reducible refine Kd.C_drew ?_)))
     (case side2 => exact HC1_2.out)
     rintro e w21 ⟨rfl, hb⟩
     refine ⟨_, rfl, ?_⟩
     have n0_ := Aside0.mk (blk_below (bk_ BK246.out) hb)
     have n1_ := Aside0.mk (blk_below (bk_ BK247.out) hb)
     have n2_ := Aside0.mk (below_step (bw_ HB.out) hb)
     clear BK246
     clear BK247
     clear HB
     have BK246 := n0_
     have BK247 := n1_
     have HB := n2_
     clear n0_ n1_ n2_
     (try clear hb)
     (try clear hb2)
     (try clear hk)
     (try clear hi)
     refine hK.out _ _ ⟨cz_ BK246.out 0, cz_ BK246.out 1, cz_ BK246.out 2, cz_ BK247.out 0, cz_ BK247.out 1, cz_ BK247.out 2⟩ (fun hHeld => ?_)
     clear hK K
     refine nS_ ?_
     refine oS_ 8 27 HT_ (fun K hK => ?_)
     refine goes_ Try.func45 (by kernel_rfl) rfl #[.slice A0_1 l0_1.length c0_1, .int .i64 t248, .int .i64 a3] (by rfl) rfl rfl (by (try simp only [List.map_toArray, List.map_cons, List.map_nil]); first | done | rfl | (simp only [List.length_drop, List.length_take]; rfl)) ?_
     with_reducible refine (impl_follows.calls k _ _ l0_1 t248 a3 true _ ?side1 ?side2 A7.out).mono ?_
     (case side1 => repeat (first | exact (Kd.C_below HR0_1.out HB.out) | (with_reducible refine Kd.C_alloc ?_ _) | (with_reducible refine Kd.C_drewN ?_ _) | (with_reducible refine Kd.C_drew ?_)))
     (case side2 => exact HC0_1.out)
     rintro e w' ⟨rfl, ⟨nd, rfl⟩⟩
     refine ⟨_, rfl, ?_⟩
     refine hK.out _ _ ⟨cz_ BK246.out 0, cz_ BK246.out 1, cz_ BK246.out 2, cz_ BK247.out 0, cz_ BK247.out 1, cz_ BK247.out 2⟩ (fun hHeld => ?_)
     clear hK K
     refine nS_ ?_
     refine pS_ 9 28 HT_ ?_
     refine pS_ 10 29 HT_ ?_
     refine pS_ 12 31 HT_ ?_
     refine pS_ 14 33 HT_ ?_
     refine pS_ 15 34 HT_ ?_
     refine pS_ 16 35 HT_ ?_
     refine tS_ 11 30 HT_ HW_ hHeld ?_
     refine tS_ 13 32 HT_ HW_ hHeld ?_
     refine oS_ 17 36 HT_ (fun K hK => ?_)
     refine goes_ Try.func46 (by kernel_rfl) rfl #[.agg #[.int .i64 a1_0, .int .i64 a1_1, .slice A1_2 l1_2.length c1_2], .int .i64 (wrap64 ((Int.tmod a2 a1_0) + 1)), .int .i64 (wrap64 (Int.tdiv a2 a1_0)), .int .i64 (-1)] (by rfl) rfl rfl (by (try simp only [List.map_toArray, List.map_cons, List.map_nil]); first | done | rfl | (simp only [List.length_drop, List.length_take]; rfl)) ?_
     with_reducible refine (impl_Field_tile.calls a1_0 a1_1 _ _ l1_2 (wrap64 ((Int.tmod a2 a1_0) + 1)) (wrap64 (Int.tdiv a2 a1_0)) (-1) t250 _ ?side1 ?side2 A9.out).mono ?_
     (case side1 => repeat (first | exact (Kd.C_below HR1_2.out (bw_ HB.out)) | (with_reducible refine Kd.C_alloc ?_ _) | (with_reducible refine Kd.C_drewN ?_ _) | (with_reducible refine Kd.C_drew ?_)))
     (case side2 => exact HC1_2.out)
     rintro e w22 ⟨rfl, hb⟩
     refine ⟨_, rfl, ?_⟩
     have n0_ := Aside0.mk (blk_below (bk_ BK246.out) hb)
     have n1_ := Aside0.mk (blk_below (bk_ BK247.out) hb)
     have n2_ := Aside0.mk (below_step (bw_ HB.out) hb)
     clear BK246
     clear BK247
     clear HB
     have BK246 := n0_
     have BK247 := n1_
     have HB := n2_
     clear n0_ n1_ n2_
     (try clear hb)
     (try clear hb2)
     (try clear hk)
     (try clear hi)
     refine hK.out _ _ ⟨cz_ BK246.out 0, cz_ BK246.out 1, cz_ BK246.out 2, cz_ BK247.out 0, cz_ BK247.out 1, cz_ BK247.out 2⟩ (fun hHeld => ?_)
     clear hK K
     refine nS_ ?_
     refine oS_ 18 37 HT_ (fun K hK => ?_)
     refine goes_ Try.func45 (by kernel_rfl) rfl #[.slice A0_1 l0_1.length c0_1, .int .i64 a3, .int .i64 t250] (by rfl) rfl rfl (by (try simp only [List.map_toArray, List.map_cons, List.map_nil]); first | done | rfl | (simp only [List.length_drop, List.length_take]; rfl)) ?_
     with_reducible refine (impl_follows.calls k _ _ l0_1 a3 t250 true _ ?side1 ?side2 A10.out).mono ?_
     (case side1 => repeat (first | exact (Kd.C_below HR0_1.out HB.out) | (with_reducible refine Kd.C_alloc ?_ _) | (with_reducible refine Kd.C_drewN ?_ _) | (with_reducible refine Kd.C_drew ?_)))
     (case side2 => exact HC0_1.out)
     rintro e w' ⟨rfl, ⟨nd, rfl⟩⟩
     refine ⟨_, rfl, ?_⟩
     refine hK.out _ _ ⟨cz_ BK246.out 0, cz_ BK246.out 1, cz_ BK246.out 2, cz_ BK247.out 0, cz_ BK247.out 1, cz_ BK247.out 2⟩ (fun hHeld => ?_)
     clear hK K
     refine nS_ ?_
     refine pS_ 19 38 HT_ ?_
     refine pS_ 20 39 HT_ ?_
     refine pS_ 21 40 HT_ ?_
     refine pS_ 24 43 HT_ ?_
     refine pS_ 25 44 HT_ ?_
     refine pS_ 26 45 HT_ ?_
     refine pS_ 28 47 HT_ ?_
     refine tS_ 22 41 HT_ HW_ hHeld ?_
     refine tS_ 23 42 HT_ HW_ hHeld ?_
     refine oS_ 27 46 HT_ (fun K hK => ?_)
     refine goes_ Try.func46 (by kernel_rfl) rfl #[.agg #[.int .i64 a1_0, .int .i64 a1_1, .slice A1_2 l1_2.length c1_2], .int .i64 (Int.tmod a2 a1_0), .int .i64 (wrap64 ((wrap64 (Int.tdiv a2 a1_0)) - 1)), .int .i64 (-1)] (by rfl) rfl rfl (by (try simp only [List.map_toArray, List.map_cons, List.map_nil]); first | done | rfl | (simp only [List.length_drop, List.length_take]; rfl)) ?_
     with_reducible refine (impl_Field_tile.calls a1_0 a1_1 _ _ l1_2 (Int.tmod a2 a1_0) (wrap64 ((wrap64 (Int.tdiv a2 a1_0)) - 1)) (-1) t252 _ ?side1 ?side2 A12.out).mono ?_
     (case side1 => repeat (first | exact (Kd.C_below HR1_2.out (bw_ HB.out)) | (with_reducible refine Kd.C_alloc ?_ _) | (with_reducible refine Kd.C_drewN ?_ _) | (with_reducible refine Kd.C_drew ?_)))
     (case side2 => exact HC1_2.out)
     rintro e w23 ⟨rfl, hb⟩
     refine ⟨_, rfl, ?_⟩
     have n0_ := Aside0.mk (blk_below (bk_ BK246.out) hb)
     have n1_ := Aside0.mk (blk_below (bk_ BK247.out) hb)
     have n2_ := Aside0.mk (below_step (bw_ HB.out) hb)
     clear BK246
     clear BK247
     clear HB
     have BK246 := n0_
     have BK247 := n1_
     have HB := n2_
     clear n0_ n1_ n2_
     (try clear hb)
     (try clear hb2)
     (try clear hk)
     (try clear hi)
     refine hK.out _ _ ⟨cz_ BK246.out 0, cz_ BK246.out 1, cz_ BK246.out 2, cz_ BK247.out 0, cz_ BK247.out 1, cz_ BK247.out 2⟩ (fun hHeld => ?_)
     clear hK K
     refine nS_ ?_
     refine oS_ 29 48 HT_ (fun K hK => ?_)
     refine goes_ Try.func45 (by kernel_rfl) rfl #[.slice A0_2 l0_2.length c0_2, .int .i64 t252, .int .i64 a3] (by rfl) rfl rfl (by (try simp only [List.map_toArray, List.map_cons, List.map_nil]); first | done | rfl | (simp only [List.length_drop, List.length_take]; rfl)) ?_
     with_reducible refine (impl_follows.calls k _ _ l0_2 t252 a3 true _ ?side1 ?side2 A13.out).mono ?_
     (case side1 => repeat (first | exact (Kd.C_below HR0_2.out HB.out) | (with_reducible refine Kd.C_alloc ?_ _) | (with_reducible refine Kd.C_drewN ?_ _) | (with_reducible refine Kd.C_drew ?_)))
     (case side2 => exact HC0_2.out)
     rintro e w' ⟨rfl, ⟨nd, rfl⟩⟩
     refine ⟨_, rfl, ?_⟩
     refine hK.out _ _ ⟨cz_ BK246.out 0, cz_ BK246.out 1, cz_ BK246.out 2, cz_ BK247.out 0, cz_ BK247.out 1, cz_ BK247.out 2⟩ (fun hHeld => ?_)
     clear hK K
     refine nS_ ?_
     refine pS_ 30 49 HT_ ?_
     refine pS_ 31 50 HT_ ?_
     refine pS_ 32 51 HT_ ?_
     refine pS_ 34 53 HT_ ?_
     refine pS_ 36 55 HT_ ?_
     refine pS_ 37 56 HT_ ?_
     refine pS_ 38 57 HT_ ?_
     refine tS_ 33 52 HT_ HW_ hHeld ?_
     refine tS_ 35 54 HT_ HW_ hHeld ?_
     refine oS_ 39 58 HT_ (fun K hK => ?_)
     refine goes_ Try.func46 (by kernel_rfl) rfl #[.agg #[.int .i64 a1_0, .int .i64 a1_1, .slice A1_2 l1_2.length c1_2], .int .i64 (Int.tmod a2 a1_0), .int .i64 (wrap64 ((wrap64 (Int.tdiv a2 a1_0)) + 1)), .int .i64 (-1)] (by rfl) rfl rfl (by (try simp only [List.map_toArray, List.map_cons, List.map_nil]); first | done | rfl | (simp only [List.length_drop, List.length_take]; rfl)) ?_
     with_reducible refine (impl_Field_tile.calls a1_0 a1_1 _ _ l1_2 (Int.tmod a2 a1_0) (wrap64 ((wrap64 (Int.tdiv a2 a1_0)) + 1)) (-1) t254 _ ?side1 ?side2 A15.out).mono ?_
     (case side1 => repeat (first | exact (Kd.C_below HR1_2.out (bw_ HB.out)) | (with_reducible refine Kd.C_alloc ?_ _) | (with_reducible refine Kd.C_drewN ?_ _) | (with_reducible refine Kd.C_drew ?_)))
     (case side2 => exact HC1_2.out)
     rintro e w24 ⟨rfl, hb⟩
     refine ⟨_, rfl, ?_⟩
     have n0_ := Aside0.mk (blk_below (bk_ BK246.out) hb)
     have n1_ := Aside0.mk (blk_below (bk_ BK247.out) hb)
     have n2_ := Aside0.mk (below_step (bw_ HB.out) hb)
     clear BK246
     clear BK247
     clear HB
     have BK246 := n0_
     have BK247 := n1_
     have HB := n2_
     clear n0_ n1_ n2_
     (try clear hb)
     (try clear hb2)
     (try clear hk)
     (try clear hi)
     refine hK.out _ _ ⟨cz_ BK246.out 0, cz_ BK246.out 1, cz_ BK246.out 2, cz_ BK247.out 0, cz_ BK247.out 1, cz_ BK247.out 2⟩ (fun hHeld => ?_)
     clear hK K
     refine nS_ ?_
     refine oS_ 40 59 HT_ (fun K hK => ?_)
     refine goes_ Try.func45 (by kernel_rfl) rfl #[.slice A0_2 l0_2.length c0_2, .int .i64 a3, .int .i64 t254] (by rfl) rfl rfl (by (try simp only [List.map_toArray, List.map_cons, List.map_nil]); first | done | rfl | (simp only [List.length_drop, List.length_take]; rfl)) ?_
     with_reducible refine (impl_follows.calls k _ _ l0_2 a3 t254 t255 _ ?side1 ?side2 A16.out).mono ?_
     (case side1 => repeat (first | exact (Kd.C_below HR0_2.out HB.out) | (with_reducible refine Kd.C_alloc ?_ _) | (with_reducible refine Kd.C_drewN ?_ _) | (with_reducible refine Kd.C_drew ?_)))
     (case side2 => exact HC0_2.out)
     rintro e w' ⟨rfl, ⟨nd, rfl⟩⟩
     refine ⟨_, rfl, ?_⟩
     refine hK.out _ _ ⟨cz_ BK246.out 0, cz_ BK246.out 1, cz_ BK246.out 2, cz_ BK247.out 0, cz_ BK247.out 1, cz_ BK247.out 2⟩ (fun hHeld => ?_)
     clear hK K
     refine nS_ ?_
     refine pS_ 41 60 HT_ ?_
     refine pS_ 42 8 HT_ ?_
     refine done_ (done_of HT_.out (by kernel_rfl)) ?_
     try go_wp2
     go_ret
     exact ⟨by first | rfl | (simp [errW_none, errW_some] <;> rfl) | (simp [*, errW_none, errW_some] <;> rfl), bw_ HB.out⟩
    ·replace c14 := Bool.eq_false_iff.mpr c14
     subst c14
     replace H := if_ H Bool.false_ne_true
     obtain rfl := Option.some.inj H
     go_enter Try.func32, Try.ntmps32
     try go_wp2_with (first | ((with_reducible refine gate_dst (N := 4) rfl ?_); refine bx_ 4 #[.int .i64 a0_0, .slice A0_1 l0_1.length c0_1, .slice A0_2 l0_2.length c0_2] 32 ?_; intro gb246 hg w25 hbox hb; have n0_ := Aside0.mk (below_step (bw_ HB.out) hb); have n1_ := Aside0.mk (hbox); have n2_ := Aside0.mk (gs_ hg (bw_ HB.out)); have n3_ := Aside0.mk (gs_ hg (bw_ HB.out)); clear HB; have HB := n0_; have BK246 := n1_; have GW246 := n2_; have GE246 := n3_; clear n0_ n1_ n2_ n3_; clear hb hbox hg) | ((with_reducible refine gate_dst (N := 5) rfl ?_); refine bx_ 5 #[.int .i64 a1_0, .int .i64 a1_1, .slice A1_2 l1_2.length c1_2] 34 ?_; intro gb247 hg w26 hbox hb; have n0_ := Aside0.mk (blk_below (bk_ BK246.out) hb); have n1_ := Aside0.mk (below_step (bw_ HB.out) hb); have n2_ := Aside0.mk (hbox); have n3_ := Aside0.mk (gs_ hg (bw_ HB.out)); have n4_ := Aside0.mk (gs_ hg (bw_ HB.out)); have n5_ := Aside0.mk (nl_ hg (bk_ BK246.out)); have n6_ := Aside0.mk (ng_ hg (bk_ BK246.out)); clear BK246; clear HB; have BK246 := n0_; have HB := n1_; have BK247 := n2_; have GW247 := n3_; have GE247 := n4_; have NB246_247 := n5_; have NB247_246 := n6_; clear n0_ n1_ n2_ n3_ n4_ n5_ n6_; clear hb hbox hg))
     have n0_ := Aside0.mk (blk_drew BK246.out)
     have n1_ := Aside0.mk (blk_drew BK247.out)
     have n2_ := Aside0.mk (below_drew1 HB.out)
     clear BK246
     clear BK247
     clear HB
     have BK246 := n0_
     have BK247 := n1_
     have HB := n2_
     clear n0_ n1_ n2_
     refine start_ (n := 10) (S := fun w' => w'.cell? ⟨gb247, 0, none⟩ = some (.int .i64 a1_0) ∧ w'.cell? ⟨gb247, 1, none⟩ = some (.int .i64 a1_1) ∧ w'.cell? ⟨gb247, 2, none⟩ = some (.slice A1_2 l1_2.length c1_2)) (ds := []) (Array.replicate 10 false) (by kernel_rfl) rfl rfl ⟨cz_ BK247.out 0, cz_ BK247.out 1, cz_ BK247.out 2⟩ (fun hHeld => ?_); refine with_tabW impl_Rules_may.tab1 impl_Rules_may.bits1 (fun HT_ HW_ => ?_)
     generalize w26.drew = w27 at BK246 BK247 HB hHeld ⊢
     refine pS_ 0 11 HT_ ?_
     refine pS_ 1 12 HT_ ?_
     refine pS_ 4 15 HT_ ?_
     refine pS_ 5 16 HT_ ?_
     refine tS_ 2 13 HT_ HW_ hHeld ?_
     refine pS_ 3 14 HT_ ?_
     refine pS_ 8 9 HT_ ?_
     refine tS_ 6 17 HT_ HW_ hHeld ?_
     refine pS_ 7 18 HT_ ?_
     refine pS_ 9 10 HT_ ?_
     refine done_ (done_of HT_.out (by kernel_rfl)) ?_
     try go_wp2
     have n0_ := Aside0.mk (blk_drew BK246.out)
     have n1_ := Aside0.mk (blk_drew BK247.out)
     have n2_ := Aside0.mk (below_drew1 HB.out)
     clear BK246
     clear BK247
     clear HB
     have BK246 := n0_
     have BK247 := n1_
     have HB := n2_
     clear n0_ n1_ n2_
     refine start_ (n := 43) (S := fun w' => w'.cell? ⟨gb246, 0, none⟩ = some (.int .i64 a0_0) ∧ w'.cell? ⟨gb246, 1, none⟩ = some (.slice A0_1 l0_1.length c0_1) ∧ w'.cell? ⟨gb246, 2, none⟩ = some (.slice A0_2 l0_2.length c0_2) ∧ w'.cell? ⟨gb247, 0, none⟩ = some (.int .i64 a1_0) ∧ w'.cell? ⟨gb247, 1, none⟩ = some (.int .i64 a1_1) ∧ w'.cell? ⟨gb247, 2, none⟩ = some (.slice A1_2 l1_2.length c1_2)) (ds := []) (Array.replicate 43 false) (by kernel_rfl) rfl rfl ⟨cz_ BK246.out 0, cz_ BK246.out 1, cz_ BK246.out 2, cz_ BK247.out 0, cz_ BK247.out 1, cz_ BK247.out 2⟩ (fun hHeld => ?_); refine with_tabW impl_Rules_may.tab2 impl_Rules_may.bits2 (fun HT_ HW_ => ?_)
     generalize w27.drew = w28 at BK246 BK247 HB hHeld ⊢
     refine pS_ 0 19 HT_ ?_
     refine pS_ 3 22 HT_ ?_
     refine pS_ 4 23 HT_ ?_
     refine pS_ 5 24 HT_ ?_
     refine pS_ 7 26 HT_ ?_
     refine tS_ 1 20 HT_ HW_ hHeld ?_
     refine tS_ 2 21 HT_ HW_ hHeld ?_
     refine oS_ 6 25 HT_ (fun K hK => ?_)
     refine goes_ Try.func46 (by kernel_rfl) rfl #[.agg #[.int .i64 a1_0, .int .i64 a1_1, .slice A1_2 l1_2.length c1_2], .int .i64 (wrap64 ((Int.tmod a2 a1_0) - 1)), .int .i64 (wrap64 (Int.tdiv a2 a1_0)), .int .i64 (-1)] (by rfl) rfl rfl (by (try simp only [List.map_toArray, List.map_cons, List.map_nil]); first | done | rfl | (simp only [List.length_drop, List.length_take]; rfl)) ?_
     with_reducible refine (impl_Field_tile.calls a1_0 a1_1 _ _ l1_2 (wrap64 ((Int.tmod a2 a1_0) - 1)) (wrap64 (Int.tdiv a2 a1_0)) (-1) t248 _ ?side1 ?side2 A6.out).mono ?_
     (case side1 => repeat (first | exact (Kd.C_below HR1_2.out HB.out) | (with_reducible refine Kd.C_alloc ?_ _) | (with_reducible refine Kd.C_drewN ?_ _) | (with_reducible refine Kd.C_drew ?_)))
     (case side2 => exact HC1_2.out)
     rintro e w29 ⟨rfl, hb⟩
     refine ⟨_, rfl, ?_⟩
     have n0_ := Aside0.mk (blk_below (bk_ BK246.out) hb)
     have n1_ := Aside0.mk (blk_below (bk_ BK247.out) hb)
     have n2_ := Aside0.mk (below_step (bw_ HB.out) hb)
     clear BK246
     clear BK247
     clear HB
     have BK246 := n0_
     have BK247 := n1_
     have HB := n2_
     clear n0_ n1_ n2_
     (try clear hb)
     (try clear hb2)
     (try clear hk)
     (try clear hi)
     refine hK.out _ _ ⟨cz_ BK246.out 0, cz_ BK246.out 1, cz_ BK246.out 2, cz_ BK247.out 0, cz_ BK247.out 1, cz_ BK247.out 2⟩ (fun hHeld => ?_)
     clear hK K
     refine nS_ ?_
     refine oS_ 8 27 HT_ (fun K hK => ?_)
     refine goes_ Try.func45 (by kernel_rfl) rfl #[.slice A0_1 l0_1.length c0_1, .int .i64 t248, .int .i64 a3] (by rfl) rfl rfl (by (try simp only [List.map_toArray, List.map_cons, List.map_nil]); first | done | rfl | (simp only [List.length_drop, List.length_take]; rfl)) ?_
     with_reducible refine (impl_follows.calls k _ _ l0_1 t248 a3 true _ ?side1 ?side2 A7.out).mono ?_
     (case side1 => repeat (first | exact (Kd.C_below HR0_1.out HB.out) | (with_reducible refine Kd.C_alloc ?_ _) | (with_reducible refine Kd.C_drewN ?_ _) | (with_reducible refine Kd.C_drew ?_)))
     (case side2 => exact HC0_1.out)
     rintro e w' ⟨rfl, ⟨nd, rfl⟩⟩
     refine ⟨_, rfl, ?_⟩
     refine hK.out _ _ ⟨cz_ BK246.out 0, cz_ BK246.out 1, cz_ BK246.out 2, cz_ BK247.out 0, cz_ BK247.out 1, cz_ BK247.out 2⟩ (fun hHeld => ?_)
     clear hK K
     refine nS_ ?_
     refine pS_ 9 28 HT_ ?_
     refine pS_ 10 29 HT_ ?_
     refine pS_ 12 31 HT_ ?_
     refine pS_ 14 33 HT_ ?_
     refine pS_ 15 34 HT_ ?_
     refine pS_ 16 35 HT_ ?_
     refine tS_ 11 30 HT_ HW_ hHeld ?_
     refine tS_ 13 32 HT_ HW_ hHeld ?_
     refine oS_ 17 36 HT_ (fun K hK => ?_)
     refine goes_ Try.func46 (by kernel_rfl) rfl #[.agg #[.int .i64 a1_0, .int .i64 a1_1, .slice A1_2 l1_2.length c1_2], .int .i64 (wrap64 ((Int.tmod a2 a1_0) + 1)), .int .i64 (wrap64 (Int.tdiv a2 a1_0)), .int .i64 (-1)] (by rfl) rfl rfl (by (try simp only [List.map_toArray, List.map_cons, List.map_nil]); first | done | rfl | (simp only [List.length_drop, List.length_take]; rfl)) ?_
     with_reducible refine (impl_Field_tile.calls a1_0 a1_1 _ _ l1_2 (wrap64 ((Int.tmod a2 a1_0) + 1)) (wrap64 (Int.tdiv a2 a1_0)) (-1) t250 _ ?side1 ?side2 A9.out).mono ?_
     (case side1 => repeat (first | exact (Kd.C_below HR1_2.out (bw_ HB.out)) | (with_reducible refine Kd.C_alloc ?_ _) | (with_reducible refine Kd.C_drewN ?_ _) | (with_reducible refine Kd.C_drew ?_)))
     (case side2 => exact HC1_2.out)
     rintro e w30 ⟨rfl, hb⟩
     refine ⟨_, rfl, ?_⟩
     have n0_ := Aside0.mk (blk_below (bk_ BK246.out) hb)
     have n1_ := Aside0.mk (blk_below (bk_ BK247.out) hb)
     have n2_ := Aside0.mk (below_step (bw_ HB.out) hb)
     clear BK246
     clear BK247
     clear HB
     have BK246 := n0_
     have BK247 := n1_
     have HB := n2_
     clear n0_ n1_ n2_
     (try clear hb)
     (try clear hb2)
     (try clear hk)
     (try clear hi)
     refine hK.out _ _ ⟨cz_ BK246.out 0, cz_ BK246.out 1, cz_ BK246.out 2, cz_ BK247.out 0, cz_ BK247.out 1, cz_ BK247.out 2⟩ (fun hHeld => ?_)
     clear hK K
     refine nS_ ?_
     refine oS_ 18 37 HT_ (fun K hK => ?_)
     refine goes_ Try.func45 (by kernel_rfl) rfl #[.slice A0_1 l0_1.length c0_1, .int .i64 a3, .int .i64 t250] (by rfl) rfl rfl (by (try simp only [List.map_toArray, List.map_cons, List.map_nil]); first | done | rfl | (simp only [List.length_drop, List.length_take]; rfl)) ?_
     with_reducible refine (impl_follows.calls k _ _ l0_1 a3 t250 true _ ?side1 ?side2 A10.out).mono ?_
     (case side1 => repeat (first | exact (Kd.C_below HR0_1.out HB.out) | (with_reducible refine Kd.C_alloc ?_ _) | (with_reducible refine Kd.C_drewN ?_ _) | (with_reducible refine Kd.C_drew ?_)))
     (case side2 => exact HC0_1.out)
     rintro e w' ⟨rfl, ⟨nd, rfl⟩⟩
     refine ⟨_, rfl, ?_⟩
     refine hK.out _ _ ⟨cz_ BK246.out 0, cz_ BK246.out 1, cz_ BK246.out 2, cz_ BK247.out 0, cz_ BK247.out 1, cz_ BK247.out 2⟩ (fun hHeld => ?_)
     clear hK K
     refine nS_ ?_
     refine pS_ 19 38 HT_ ?_
     refine pS_ 20 39 HT_ ?_
     refine pS_ 21 40 HT_ ?_
     refine pS_ 24 43 HT_ ?_
     refine pS_ 25 44 HT_ ?_
     refine pS_ 26 45 HT_ ?_
     refine pS_ 28 47 HT_ ?_
     refine tS_ 22 41 HT_ HW_ hHeld ?_
     refine tS_ 23 42 HT_ HW_ hHeld ?_
     refine oS_ 27 46 HT_ (fun K hK => ?_)
     refine goes_ Try.func46 (by kernel_rfl) rfl #[.agg #[.int .i64 a1_0, .int .i64 a1_1, .slice A1_2 l1_2.length c1_2], .int .i64 (Int.tmod a2 a1_0), .int .i64 (wrap64 ((wrap64 (Int.tdiv a2 a1_0)) - 1)), .int .i64 (-1)] (by rfl) rfl rfl (by (try simp only [List.map_toArray, List.map_cons, List.map_nil]); first | done | rfl | (simp only [List.length_drop, List.length_take]; rfl)) ?_
     with_reducible refine (impl_Field_tile.calls a1_0 a1_1 _ _ l1_2 (Int.tmod a2 a1_0) (wrap64 ((wrap64 (Int.tdiv a2 a1_0)) - 1)) (-1) t252 _ ?side1 ?side2 A12.out).mono ?_
     (case side1 => repeat (first | exact (Kd.C_below HR1_2.out (bw_ HB.out)) | (with_reducible refine Kd.C_alloc ?_ _) | (with_reducible refine Kd.C_drewN ?_ _) | (with_reducible refine Kd.C_drew ?_)))
     (case side2 => exact HC1_2.out)
     rintro e w31 ⟨rfl, hb⟩
     refine ⟨_, rfl, ?_⟩
     have n0_ := Aside0.mk (blk_below (bk_ BK246.out) hb)
     have n1_ := Aside0.mk (blk_below (bk_ BK247.out) hb)
     have n2_ := Aside0.mk (below_step (bw_ HB.out) hb)
     clear BK246
     clear BK247
     clear HB
     have BK246 := n0_
     have BK247 := n1_
     have HB := n2_
     clear n0_ n1_ n2_
     (try clear hb)
     (try clear hb2)
     (try clear hk)
     (try clear hi)
     refine hK.out _ _ ⟨cz_ BK246.out 0, cz_ BK246.out 1, cz_ BK246.out 2, cz_ BK247.out 0, cz_ BK247.out 1, cz_ BK247.out 2⟩ (fun hHeld => ?_)
     clear hK K
     refine nS_ ?_
     refine oS_ 29 48 HT_ (fun K hK => ?_)
     refine goes_ Try.func45 (by kernel_rfl) rfl #[.slice A0_2 l0_2.length c0_2, .int .i64 t252, .int .i64 a3] (by rfl) rfl rfl (by (try simp only [List.map_toArray, List.map_cons, List.map_nil]); first | done | rfl | (simp only [List.length_drop, List.length_take]; rfl)) ?_
     with_reducible refine (impl_follows.calls k _ _ l0_2 t252 a3 false _ ?side1 ?side2 A13.out).mono ?_
     (case side1 => repeat (first | exact (Kd.C_below HR0_2.out HB.out) | (with_reducible refine Kd.C_alloc ?_ _) | (with_reducible refine Kd.C_drewN ?_ _) | (with_reducible refine Kd.C_drew ?_)))
     (case side2 => exact HC0_2.out)
     rintro e w' ⟨rfl, ⟨nd, rfl⟩⟩
     refine ⟨_, rfl, ?_⟩
     refine hK.out _ _ ⟨cz_ BK246.out 0, cz_ BK246.out 1, cz_ BK246.out 2, cz_ BK247.out 0, cz_ BK247.out 1, cz_ BK247.out 2⟩ (fun hHeld => ?_)
     clear hK K
     refine nS_ ?_
     refine pS_ 30 49 HT_ ?_
     refine pS_ 31 50 HT_ ?_
     refine pU_ 32 51 HT_ ?_
     refine pU_ 33 52 HT_ ?_
     refine pU_ 34 53 HT_ ?_
     refine pU_ 35 54 HT_ ?_
     refine pU_ 36 55 HT_ ?_
     refine pU_ 37 56 HT_ ?_
     refine pU_ 38 57 HT_ ?_
     refine pU_ 39 58 HT_ ?_
     refine pU_ 40 59 HT_ ?_
     refine pS_ 41 60 HT_ ?_
     refine pS_ 42 8 HT_ ?_
     refine done_ (done_of HT_.out (by kernel_rfl)) ?_
     try go_wp2
     go_ret
     exact ⟨by first | rfl | (simp [errW_none, errW_some] <;> rfl) | (simp [*, errW_none, errW_some] <;> rfl), bw_ HB.out⟩
   ·replace c11 := Bool.eq_false_iff.mpr c11
    subst c11
    replace H := if_ H Bool.false_ne_true
    obtain rfl := Option.some.inj H
    go_enter Try.func32, Try.ntmps32
    try go_wp2_with (first | ((with_reducible refine gate_dst (N := 4) rfl ?_); refine bx_ 4 #[.int .i64 a0_0, .slice A0_1 l0_1.length c0_1, .slice A0_2 l0_2.length c0_2] 32 ?_; intro gb246 hg w32 hbox hb; have n0_ := Aside0.mk (below_step (bw_ HB.out) hb); have n1_ := Aside0.mk (hbox); have n2_ := Aside0.mk (gs_ hg (bw_ HB.out)); have n3_ := Aside0.mk (gs_ hg (bw_ HB.out)); clear HB; have HB := n0_; have BK246 := n1_; have GW246 := n2_; have GE246 := n3_; clear n0_ n1_ n2_ n3_; clear hb hbox hg) | ((with_reducible refine gate_dst (N := 5) rfl ?_); refine bx_ 5 #[.int .i64 a1_0, .int .i64 a1_1, .slice A1_2 l1_2.length c1_2] 34 ?_; intro gb247 hg w33 hbox hb; have n0_ := Aside0.mk (blk_below (bk_ BK246.out) hb); have n1_ := Aside0.mk (below_step (bw_ HB.out) hb); have n2_ := Aside0.mk (hbox); have n3_ := Aside0.mk (gs_ hg (bw_ HB.out)); have n4_ := Aside0.mk (gs_ hg (bw_ HB.out)); have n5_ := Aside0.mk (nl_ hg (bk_ BK246.out)); have n6_ := Aside0.mk (ng_ hg (bk_ BK246.out)); clear BK246; clear HB; have BK246 := n0_; have HB := n1_; have BK247 := n2_; have GW247 := n3_; have GE247 := n4_; have NB246_247 := n5_; have NB247_246 := n6_; clear n0_ n1_ n2_ n3_ n4_ n5_ n6_; clear hb hbox hg))
    have n0_ := Aside0.mk (blk_drew BK246.out)
    have n1_ := Aside0.mk (blk_drew BK247.out)
    have n2_ := Aside0.mk (below_drew1 HB.out)
    clear BK246
    clear BK247
    clear HB
    have BK246 := n0_
    have BK247 := n1_
    have HB := n2_
    clear n0_ n1_ n2_
    refine start_ (n := 10) (S := fun w' => w'.cell? ⟨gb247, 0, none⟩ = some (.int .i64 a1_0) ∧ w'.cell? ⟨gb247, 1, none⟩ = some (.int .i64 a1_1) ∧ w'.cell? ⟨gb247, 2, none⟩ = some (.slice A1_2 l1_2.length c1_2)) (ds := []) (Array.replicate 10 false) (by kernel_rfl) rfl rfl ⟨cz_ BK247.out 0, cz_ BK247.out 1, cz_ BK247.out 2⟩ (fun hHeld => ?_); refine with_tabW impl_Rules_may.tab1 impl_Rules_may.bits1 (fun HT_ HW_ => ?_)
    generalize w33.drew = w34 at BK246 BK247 HB hHeld ⊢
    refine pS_ 0 11 HT_ ?_
    refine pS_ 1 12 HT_ ?_
    refine pS_ 4 15 HT_ ?_
    refine pS_ 5 16 HT_ ?_
    refine tS_ 2 13 HT_ HW_ hHeld ?_
    refine pS_ 3 14 HT_ ?_
    refine pS_ 8 9 HT_ ?_
    refine tS_ 6 17 HT_ HW_ hHeld ?_
    refine pS_ 7 18 HT_ ?_
    refine pS_ 9 10 HT_ ?_
    refine done_ (done_of HT_.out (by kernel_rfl)) ?_
    try go_wp2
    have n0_ := Aside0.mk (blk_drew BK246.out)
    have n1_ := Aside0.mk (blk_drew BK247.out)
    have n2_ := Aside0.mk (below_drew1 HB.out)
    clear BK246
    clear BK247
    clear HB
    have BK246 := n0_
    have BK247 := n1_
    have HB := n2_
    clear n0_ n1_ n2_
    refine start_ (n := 43) (S := fun w' => w'.cell? ⟨gb246, 0, none⟩ = some (.int .i64 a0_0) ∧ w'.cell? ⟨gb246, 1, none⟩ = some (.slice A0_1 l0_1.length c0_1) ∧ w'.cell? ⟨gb246, 2, none⟩ = some (.slice A0_2 l0_2.length c0_2) ∧ w'.cell? ⟨gb247, 0, none⟩ = some (.int .i64 a1_0) ∧ w'.cell? ⟨gb247, 1, none⟩ = some (.int .i64 a1_1) ∧ w'.cell? ⟨gb247, 2, none⟩ = some (.slice A1_2 l1_2.length c1_2)) (ds := []) (Array.replicate 43 false) (by kernel_rfl) rfl rfl ⟨cz_ BK246.out 0, cz_ BK246.out 1, cz_ BK246.out 2, cz_ BK247.out 0, cz_ BK247.out 1, cz_ BK247.out 2⟩ (fun hHeld => ?_); refine with_tabW impl_Rules_may.tab2 impl_Rules_may.bits2 (fun HT_ HW_ => ?_)
    generalize w34.drew = w35 at BK246 BK247 HB hHeld ⊢
    refine pS_ 0 19 HT_ ?_
    refine pS_ 3 22 HT_ ?_
    refine pS_ 4 23 HT_ ?_
    refine pS_ 5 24 HT_ ?_
    refine pS_ 7 26 HT_ ?_
    refine tS_ 1 20 HT_ HW_ hHeld ?_
    refine tS_ 2 21 HT_ HW_ hHeld ?_
    refine oS_ 6 25 HT_ (fun K hK => ?_)
    refine goes_ Try.func46 (by kernel_rfl) rfl #[.agg #[.int .i64 a1_0, .int .i64 a1_1, .slice A1_2 l1_2.length c1_2], .int .i64 (wrap64 ((Int.tmod a2 a1_0) - 1)), .int .i64 (wrap64 (Int.tdiv a2 a1_0)), .int .i64 (-1)] (by rfl) rfl rfl (by (try simp only [List.map_toArray, List.map_cons, List.map_nil]); first | done | rfl | (simp only [List.length_drop, List.length_take]; rfl)) ?_
    with_reducible refine (impl_Field_tile.calls a1_0 a1_1 _ _ l1_2 (wrap64 ((Int.tmod a2 a1_0) - 1)) (wrap64 (Int.tdiv a2 a1_0)) (-1) t248 _ ?side1 ?side2 A6.out).mono ?_
    (case side1 => repeat (first | exact (Kd.C_below HR1_2.out HB.out) | (with_reducible refine Kd.C_alloc ?_ _) | (with_reducible refine Kd.C_drewN ?_ _) | (with_reducible refine Kd.C_drew ?_)))
    (case side2 => exact HC1_2.out)
    rintro e w36 ⟨rfl, hb⟩
    refine ⟨_, rfl, ?_⟩
    have n0_ := Aside0.mk (blk_below (bk_ BK246.out) hb)
    have n1_ := Aside0.mk (blk_below (bk_ BK247.out) hb)
    have n2_ := Aside0.mk (below_step (bw_ HB.out) hb)
    clear BK246
    clear BK247
    clear HB
    have BK246 := n0_
    have BK247 := n1_
    have HB := n2_
    clear n0_ n1_ n2_
    (try clear hb)
    (try clear hb2)
    (try clear hk)
    (try clear hi)
    refine hK.out _ _ ⟨cz_ BK246.out 0, cz_ BK246.out 1, cz_ BK246.out 2, cz_ BK247.out 0, cz_ BK247.out 1, cz_ BK247.out 2⟩ (fun hHeld => ?_)
    clear hK K
    refine nS_ ?_
    refine oS_ 8 27 HT_ (fun K hK => ?_)
    refine goes_ Try.func45 (by kernel_rfl) rfl #[.slice A0_1 l0_1.length c0_1, .int .i64 t248, .int .i64 a3] (by rfl) rfl rfl (by (try simp only [List.map_toArray, List.map_cons, List.map_nil]); first | done | rfl | (simp only [List.length_drop, List.length_take]; rfl)) ?_
    with_reducible refine (impl_follows.calls k _ _ l0_1 t248 a3 true _ ?side1 ?side2 A7.out).mono ?_
    (case side1 => repeat (first | exact (Kd.C_below HR0_1.out HB.out) | (with_reducible refine Kd.C_alloc ?_ _) | (with_reducible refine Kd.C_drewN ?_ _) | (with_reducible refine Kd.C_drew ?_)))
    (case side2 => exact HC0_1.out)
    rintro e w' ⟨rfl, ⟨nd, rfl⟩⟩
    refine ⟨_, rfl, ?_⟩
    refine hK.out _ _ ⟨cz_ BK246.out 0, cz_ BK246.out 1, cz_ BK246.out 2, cz_ BK247.out 0, cz_ BK247.out 1, cz_ BK247.out 2⟩ (fun hHeld => ?_)
    clear hK K
    refine nS_ ?_
    refine pS_ 9 28 HT_ ?_
    refine pS_ 10 29 HT_ ?_
    refine pS_ 12 31 HT_ ?_
    refine pS_ 14 33 HT_ ?_
    refine pS_ 15 34 HT_ ?_
    refine pS_ 16 35 HT_ ?_
    refine tS_ 11 30 HT_ HW_ hHeld ?_
    refine tS_ 13 32 HT_ HW_ hHeld ?_
    refine oS_ 17 36 HT_ (fun K hK => ?_)
    refine goes_ Try.func46 (by kernel_rfl) rfl #[.agg #[.int .i64 a1_0, .int .i64 a1_1, .slice A1_2 l1_2.length c1_2], .int .i64 (wrap64 ((Int.tmod a2 a1_0) + 1)), .int .i64 (wrap64 (Int.tdiv a2 a1_0)), .int .i64 (-1)] (by rfl) rfl rfl (by (try simp only [List.map_toArray, List.map_cons, List.map_nil]); first | done | rfl | (simp only [List.length_drop, List.length_take]; rfl)) ?_
    with_reducible refine (impl_Field_tile.calls a1_0 a1_1 _ _ l1_2 (wrap64 ((Int.tmod a2 a1_0) + 1)) (wrap64 (Int.tdiv a2 a1_0)) (-1) t250 _ ?side1 ?side2 A9.out).mono ?_
    (case side1 => repeat (first | exact (Kd.C_below HR1_2.out (bw_ HB.out)) | (with_reducible refine Kd.C_alloc ?_ _) | (with_reducible refine Kd.C_drewN ?_ _) | (with_reducible refine Kd.C_drew ?_)))
    (case side2 => exact HC1_2.out)
    rintro e w37 ⟨rfl, hb⟩
    refine ⟨_, rfl, ?_⟩
    have n0_ := Aside0.mk (blk_below (bk_ BK246.out) hb)
    have n1_ := Aside0.mk (blk_below (bk_ BK247.out) hb)
    have n2_ := Aside0.mk (below_step (bw_ HB.out) hb)
    clear BK246
    clear BK247
    clear HB
    have BK246 := n0_
    have BK247 := n1_
    have HB := n2_
    clear n0_ n1_ n2_
    (try clear hb)
    (try clear hb2)
    (try clear hk)
    (try clear hi)
    refine hK.out _ _ ⟨cz_ BK246.out 0, cz_ BK246.out 1, cz_ BK246.out 2, cz_ BK247.out 0, cz_ BK247.out 1, cz_ BK247.out 2⟩ (fun hHeld => ?_)
    clear hK K
    refine nS_ ?_
    refine oS_ 18 37 HT_ (fun K hK => ?_)
    refine goes_ Try.func45 (by kernel_rfl) rfl #[.slice A0_1 l0_1.length c0_1, .int .i64 a3, .int .i64 t250] (by rfl) rfl rfl (by (try simp only [List.map_toArray, List.map_cons, List.map_nil]); first | done | rfl | (simp only [List.length_drop, List.length_take]; rfl)) ?_
    with_reducible refine (impl_follows.calls k _ _ l0_1 a3 t250 false _ ?side1 ?side2 A10.out).mono ?_
    (case side1 => repeat (first | exact (Kd.C_below HR0_1.out HB.out) | (with_reducible refine Kd.C_alloc ?_ _) | (with_reducible refine Kd.C_drewN ?_ _) | (with_reducible refine Kd.C_drew ?_)))
    (case side2 => exact HC0_1.out)
    rintro e w' ⟨rfl, ⟨nd, rfl⟩⟩
    refine ⟨_, rfl, ?_⟩
    refine hK.out _ _ ⟨cz_ BK246.out 0, cz_ BK246.out 1, cz_ BK246.out 2, cz_ BK247.out 0, cz_ BK247.out 1, cz_ BK247.out 2⟩ (fun hHeld => ?_)
    clear hK K
    refine nS_ ?_
    refine pS_ 19 38 HT_ ?_
    refine pS_ 20 39 HT_ ?_
    refine pU_ 21 40 HT_ ?_
    refine pU_ 22 41 HT_ ?_
    refine pU_ 23 42 HT_ ?_
    refine pU_ 24 43 HT_ ?_
    refine pU_ 25 44 HT_ ?_
    refine pU_ 26 45 HT_ ?_
    refine pU_ 27 46 HT_ ?_
    refine pU_ 28 47 HT_ ?_
    refine pU_ 29 48 HT_ ?_
    refine pS_ 30 49 HT_ ?_
    refine pS_ 31 50 HT_ ?_
    refine pU_ 32 51 HT_ ?_
    refine pU_ 33 52 HT_ ?_
    refine pU_ 34 53 HT_ ?_
    refine pU_ 35 54 HT_ ?_
    refine pU_ 36 55 HT_ ?_
    refine pU_ 37 56 HT_ ?_
    refine pU_ 38 57 HT_ ?_
    refine pU_ 39 58 HT_ ?_
    refine pU_ 40 59 HT_ ?_
    refine pS_ 41 60 HT_ ?_
    refine pS_ 42 8 HT_ ?_
    refine done_ (done_of HT_.out (by kernel_rfl)) ?_
    try go_wp2
    go_ret
    exact ⟨by first | rfl | (simp [errW_none, errW_some] <;> rfl) | (simp [*, errW_none, errW_some] <;> rfl), bw_ HB.out⟩
  ·replace c8 := Bool.eq_false_iff.mpr c8
   subst c8
   replace H := if_ H Bool.false_ne_true
   obtain rfl := Option.some.inj H
   go_enter Try.func32, Try.ntmps32
   try go_wp2_with (first | ((with_reducible refine gate_dst (N := 4) rfl ?_); refine bx_ 4 #[.int .i64 a0_0, .slice A0_1 l0_1.length c0_1, .slice A0_2 l0_2.length c0_2] 32 ?_; intro gb246 hg w38 hbox hb; have n0_ := Aside0.mk (below_step (bw_ HB.out) hb); have n1_ := Aside0.mk (hbox); have n2_ := Aside0.mk (gs_ hg (bw_ HB.out)); have n3_ := Aside0.mk (gs_ hg (bw_ HB.out)); clear HB; have HB := n0_; have BK246 := n1_; have GW246 := n2_; have GE246 := n3_; clear n0_ n1_ n2_ n3_; clear hb hbox hg) | ((with_reducible refine gate_dst (N := 5) rfl ?_); refine bx_ 5 #[.int .i64 a1_0, .int .i64 a1_1, .slice A1_2 l1_2.length c1_2] 34 ?_; intro gb247 hg w39 hbox hb; have n0_ := Aside0.mk (blk_below (bk_ BK246.out) hb); have n1_ := Aside0.mk (below_step (bw_ HB.out) hb); have n2_ := Aside0.mk (hbox); have n3_ := Aside0.mk (gs_ hg (bw_ HB.out)); have n4_ := Aside0.mk (gs_ hg (bw_ HB.out)); have n5_ := Aside0.mk (nl_ hg (bk_ BK246.out)); have n6_ := Aside0.mk (ng_ hg (bk_ BK246.out)); clear BK246; clear HB; have BK246 := n0_; have HB := n1_; have BK247 := n2_; have GW247 := n3_; have GE247 := n4_; have NB246_247 := n5_; have NB247_246 := n6_; clear n0_ n1_ n2_ n3_ n4_ n5_ n6_; clear hb hbox hg))
   have n0_ := Aside0.mk (blk_drew BK246.out)
   have n1_ := Aside0.mk (blk_drew BK247.out)
   have n2_ := Aside0.mk (below_drew1 HB.out)
   clear BK246
   clear BK247
   clear HB
   have BK246 := n0_
   have BK247 := n1_
   have HB := n2_
   clear n0_ n1_ n2_
   refine start_ (n := 10) (S := fun w' => w'.cell? ⟨gb247, 0, none⟩ = some (.int .i64 a1_0) ∧ w'.cell? ⟨gb247, 1, none⟩ = some (.int .i64 a1_1) ∧ w'.cell? ⟨gb247, 2, none⟩ = some (.slice A1_2 l1_2.length c1_2)) (ds := []) (Array.replicate 10 false) (by kernel_rfl) rfl rfl ⟨cz_ BK247.out 0, cz_ BK247.out 1, cz_ BK247.out 2⟩ (fun hHeld => ?_); refine with_tabW impl_Rules_may.tab1 impl_Rules_may.bits1 (fun HT_ HW_ => ?_)
   generalize w39.drew = w40 at BK246 BK247 HB hHeld ⊢
   refine pS_ 0 11 HT_ ?_
   refine pS_ 1 12 HT_ ?_
   refine pS_ 4 15 HT_ ?_
   refine pS_ 5 16 HT_ ?_
   refine tS_ 2 13 HT_ HW_ hHeld ?_
   refine pS_ 3 14 HT_ ?_
   refine pS_ 8 9 HT_ ?_
   refine tS_ 6 17 HT_ HW_ hHeld ?_
   refine pS_ 7 18 HT_ ?_
   refine pS_ 9 10 HT_ ?_
   refine done_ (done_of HT_.out (by kernel_rfl)) ?_
   try go_wp2
   have n0_ := Aside0.mk (blk_drew BK246.out)
   have n1_ := Aside0.mk (blk_drew BK247.out)
   have n2_ := Aside0.mk (below_drew1 HB.out)
   clear BK246
   clear BK247
   clear HB
   have BK246 := n0_
   have BK247 := n1_
   have HB := n2_
   clear n0_ n1_ n2_
   refine start_ (n := 43) (S := fun w' => w'.cell? ⟨gb246, 0, none⟩ = some (.int .i64 a0_0) ∧ w'.cell? ⟨gb246, 1, none⟩ = some (.slice A0_1 l0_1.length c0_1) ∧ w'.cell? ⟨gb246, 2, none⟩ = some (.slice A0_2 l0_2.length c0_2) ∧ w'.cell? ⟨gb247, 0, none⟩ = some (.int .i64 a1_0) ∧ w'.cell? ⟨gb247, 1, none⟩ = some (.int .i64 a1_1) ∧ w'.cell? ⟨gb247, 2, none⟩ = some (.slice A1_2 l1_2.length c1_2)) (ds := []) (Array.replicate 43 false) (by kernel_rfl) rfl rfl ⟨cz_ BK246.out 0, cz_ BK246.out 1, cz_ BK246.out 2, cz_ BK247.out 0, cz_ BK247.out 1, cz_ BK247.out 2⟩ (fun hHeld => ?_); refine with_tabW impl_Rules_may.tab2 impl_Rules_may.bits2 (fun HT_ HW_ => ?_)
   generalize w40.drew = w41 at BK246 BK247 HB hHeld ⊢
   refine pS_ 0 19 HT_ ?_
   refine pS_ 3 22 HT_ ?_
   refine pS_ 4 23 HT_ ?_
   refine pS_ 5 24 HT_ ?_
   refine pS_ 7 26 HT_ ?_
   refine tS_ 1 20 HT_ HW_ hHeld ?_
   refine tS_ 2 21 HT_ HW_ hHeld ?_
   refine oS_ 6 25 HT_ (fun K hK => ?_)
   refine goes_ Try.func46 (by kernel_rfl) rfl #[.agg #[.int .i64 a1_0, .int .i64 a1_1, .slice A1_2 l1_2.length c1_2], .int .i64 (wrap64 ((Int.tmod a2 a1_0) - 1)), .int .i64 (wrap64 (Int.tdiv a2 a1_0)), .int .i64 (-1)] (by rfl) rfl rfl (by (try simp only [List.map_toArray, List.map_cons, List.map_nil]); first | done | rfl | (simp only [List.length_drop, List.length_take]; rfl)) ?_
   with_reducible refine (impl_Field_tile.calls a1_0 a1_1 _ _ l1_2 (wrap64 ((Int.tmod a2 a1_0) - 1)) (wrap64 (Int.tdiv a2 a1_0)) (-1) t248 _ ?side1 ?side2 A6.out).mono ?_
   (case side1 => repeat (first | exact (Kd.C_below HR1_2.out HB.out) | (with_reducible refine Kd.C_alloc ?_ _) | (with_reducible refine Kd.C_drewN ?_ _) | (with_reducible refine Kd.C_drew ?_)))
   (case side2 => exact HC1_2.out)
   rintro e w42 ⟨rfl, hb⟩
   refine ⟨_, rfl, ?_⟩
   have n0_ := Aside0.mk (blk_below (bk_ BK246.out) hb)
   have n1_ := Aside0.mk (blk_below (bk_ BK247.out) hb)
   have n2_ := Aside0.mk (below_step (bw_ HB.out) hb)
   clear BK246
   clear BK247
   clear HB
   have BK246 := n0_
   have BK247 := n1_
   have HB := n2_
   clear n0_ n1_ n2_
   (try clear hb)
   (try clear hb2)
   (try clear hk)
   (try clear hi)
   refine hK.out _ _ ⟨cz_ BK246.out 0, cz_ BK246.out 1, cz_ BK246.out 2, cz_ BK247.out 0, cz_ BK247.out 1, cz_ BK247.out 2⟩ (fun hHeld => ?_)
   clear hK K
   refine nS_ ?_
   refine oS_ 8 27 HT_ (fun K hK => ?_)
   refine goes_ Try.func45 (by kernel_rfl) rfl #[.slice A0_1 l0_1.length c0_1, .int .i64 t248, .int .i64 a3] (by rfl) rfl rfl (by (try simp only [List.map_toArray, List.map_cons, List.map_nil]); first | done | rfl | (simp only [List.length_drop, List.length_take]; rfl)) ?_
   with_reducible refine (impl_follows.calls k _ _ l0_1 t248 a3 false _ ?side1 ?side2 A7.out).mono ?_
   (case side1 => repeat (first | exact (Kd.C_below HR0_1.out HB.out) | (with_reducible refine Kd.C_alloc ?_ _) | (with_reducible refine Kd.C_drewN ?_ _) | (with_reducible refine Kd.C_drew ?_)))
   (case side2 => exact HC0_1.out)
   rintro e w' ⟨rfl, ⟨nd, rfl⟩⟩
   refine ⟨_, rfl, ?_⟩
   refine hK.out _ _ ⟨cz_ BK246.out 0, cz_ BK246.out 1, cz_ BK246.out 2, cz_ BK247.out 0, cz_ BK247.out 1, cz_ BK247.out 2⟩ (fun hHeld => ?_)
   clear hK K
   refine nS_ ?_
   refine pS_ 9 28 HT_ ?_
   refine pU_ 10 29 HT_ ?_
   refine pU_ 11 30 HT_ ?_
   refine pU_ 12 31 HT_ ?_
   refine pU_ 13 32 HT_ ?_
   refine pU_ 14 33 HT_ ?_
   refine pU_ 15 34 HT_ ?_
   refine pU_ 16 35 HT_ ?_
   refine pU_ 17 36 HT_ ?_
   refine pU_ 18 37 HT_ ?_
   refine pS_ 19 38 HT_ ?_
   refine pS_ 20 39 HT_ ?_
   refine pU_ 21 40 HT_ ?_
   refine pU_ 22 41 HT_ ?_
   refine pU_ 23 42 HT_ ?_
   refine pU_ 24 43 HT_ ?_
   refine pU_ 25 44 HT_ ?_
   refine pU_ 26 45 HT_ ?_
   refine pU_ 27 46 HT_ ?_
   refine pU_ 28 47 HT_ ?_
   refine pU_ 29 48 HT_ ?_
   refine pS_ 30 49 HT_ ?_
   refine pS_ 31 50 HT_ ?_
   refine pU_ 32 51 HT_ ?_
   refine pU_ 33 52 HT_ ?_
   refine pU_ 34 53 HT_ ?_
   refine pU_ 35 54 HT_ ?_
   refine pU_ 36 55 HT_ ?_
   refine pU_ 37 56 HT_ ?_
   refine pU_ 38 57 HT_ ?_
   refine pU_ 39 58 HT_ ?_
   refine pU_ 40 59 HT_ ?_
   refine pS_ 41 60 HT_ ?_
   refine pS_ 42 8 HT_ ?_
   refine done_ (done_of HT_.out (by kernel_rfl)) ?_
   try go_wp2
   go_ret
   exact ⟨by first | rfl | (simp [errW_none, errW_some] <;> rfl) | (simp [*, errW_none, errW_some] <;> rfl), bw_ HB.out⟩

end Go.Proofs.Ytblmejanjhmjdaa.XFnExactFillField
