/- What the Go functions that this law comes to compute, each walked; written by a program of this session. -/
import Derived.Test.YtcabbfphidjapaaDoorXShort
import Derived.Test.YtcabbfphidjapaaDoorXMark
import Derived.Test.YtcabbfphidjapaaDoorXFnExactRunMusicx0
import Derived.Test.YtcabbfphidjapaaDoorXFnExactRunMusicx1
import Derived.Test.YtcabbfphidjapaaDoorXFnExactRunMusicx3
import Derived.Test.YtcabbfphidjapaaDoorXFnExactRunMusicx4
namespace Go.Proofs.YtcabbfphidjapaaDoor.XFnExactRunMusic
open Go.RowKit Go.Proofs.YtcabbfphidjapaaDoorW.PrintWords Go.Proofs.YtcabbfphidjapaaDoorW.PrintLast Go.Proofs.YtcabbfphidjapaaDoorW.PrintMore
attribute [local go_sem] str_geq max2_int min2_int max_two min_two max_three min_three max_four min_four   -- for this text's walks alone
set_option linter.unusedVariables false
set_option linter.unusedSimpArgs false

/-! ### spec_RunMusic: function 7 -/
mutual
def spec_RunMusic.j0 : Nat → List (S49) → Int → Bool → ByteArray → Int → ByteArray → Option (ByteArray × Int × ByteArray × List ByteArray × Bool)
 | 0, _, _, _, _, _, _ => none
 | k + 1, x0, x2, x19, x140000, x140001, x140002 => if x19 = true then (some ((⟨#[]⟩ : ByteArray), 0, (⟨#[]⟩ : ByteArray), ([] : List ByteArray), false)) else (spec_RunMusic.l0 k x0 x2 ([] : List ByteArray) x140000 x140001 x140002)
def spec_RunMusic.l0 : Nat → List (S49) → Int → List ByteArray → ByteArray → Int → ByteArray → Option (ByteArray × Int × ByteArray × List ByteArray × Bool)
 | 0, _, _, _, _, _, _ => none
 | k + 1, x0, x2, x9, x140000, x140001, x140002 => if x2 > 0 then ((spec_l15Section.f k x0 x140000).bind fun t143 => (if 0 ≤ t143 then (if t143 < (x0.length : Int) then (if x140002.toList = ([] : List UInt8) then (spec_RunMusic.j2 k x0 x2 x9 false x140000 x140001 x140002 ((rd_T49 x0 t143).f0) ((rd_T49 x0 t143).f1) ((rd_T49 x0 t143).f2) ((rd_T49 x0 t143).f3)) else ((spec_l14In.f k ((rd_T49 x0 t143).f2) x140001).bind fun t146 => (spec_RunMusic.j2 k x0 x2 x9 t146 x140000 x140001 x140002 ((rd_T49 x0 t143).f0) ((rd_T49 x0 t143).f1) ((rd_T49 x0 t143).f2) ((rd_T49 x0 t143).f3)))) else (none)) else (none))) else (some (x140000, x140001, x140002, x9, true))
def spec_RunMusic.j2 : Nat → List (S49) → Int → List ByteArray → Bool → ByteArray → Int → ByteArray → ByteArray → Int → List Int → ByteArray → Option (ByteArray × Int × ByteArray × List ByteArray × Bool)
 | 0, _, _, _, _, _, _, _, _, _, _, _ => none
 | k + 1, x0, x2, x9, x41, x140000, x140001, x140002, x146000, x146001, x146002, x146003 => if x41 = true then ((spec_l15Section.f k x0 x140002).bind fun t147 => (if 0 ≤ t147 then (if t147 < (x0.length : Int) then (if x140002.size + 1 ≤ 9223372036854775807 then ((spec_l1Num.f k 0).bind fun t149 => (if (x140002 ++ (⟨#[58]⟩ : ByteArray)).size + t149.size ≤ 9223372036854775807 then (if x9.length < 8796093022208 then ((some (x9 ++ [(x140002 ++ (⟨#[58]⟩ : ByteArray)) ++ t149] : List ByteArray)).bind fun y150 => (if 1 = ((rd_T49 x0 t147).f1) then (spec_RunMusic.l0 k x0 (wrap64 (x2 - 1)) y150 ((rd_T49 x0 t147).f3) 0 (⟨#[]⟩ : ByteArray)) else (spec_RunMusic.l0 k x0 (wrap64 (x2 - 1)) y150 x140002 1 (⟨#[]⟩ : ByteArray)))) else (none)) else (none))) else (none)) else (none)) else (none))) else (if x140000.size + 1 ≤ 9223372036854775807 then ((spec_l1Num.f k x140001).bind fun t153 => (if (x140000 ++ (⟨#[58]⟩ : ByteArray)).size + t153.size ≤ 9223372036854775807 then (if x9.length < 8796093022208 then ((some (x9 ++ [(x140000 ++ (⟨#[58]⟩ : ByteArray)) ++ t153] : List ByteArray)).bind fun y154 => (if (wrap64 (x140001 + 1)) = x146001 then (spec_RunMusic.l0 k x0 (wrap64 (x2 - 1)) y154 x146003 0 x140002) else (spec_RunMusic.l0 k x0 (wrap64 (x2 - 1)) y154 x140000 (wrap64 (x140001 + 1)) x140002))) else (none)) else (none))) else (none))
end
def spec_RunMusic.f (k : Nat) (l0 : List (S49)) (a1_0 : ByteArray) (a1_1 : Int) (a1_2 : ByteArray) (a2 : Int) : Option (ByteArray × Int × ByteArray × List ByteArray × Bool) := (spec_GoodMusic.f k l0 a1_0 a1_1 a1_2).bind fun t141 => (if t141 = true then ((spec_l1In.f a2 0 1000).bind fun t142 => (spec_RunMusic.j0 k l0 a2 (!t142) a1_0 a1_1 a1_2)) else (spec_RunMusic.j0 k l0 a2 true a1_0 a1_1 a1_2))
theorem spec_RunMusic.mono_l : ∀ k, (∀ y0 y1 y2 y3 y4 y5, LeO (spec_RunMusic.j0 k y0 y1 y2 y3 y4 y5) (spec_RunMusic.j0 (k + 1) y0 y1 y2 y3 y4 y5)) ∧ (∀ y0 y1 y2 y3 y4 y5, LeO (spec_RunMusic.l0 k y0 y1 y2 y3 y4 y5) (spec_RunMusic.l0 (k + 1) y0 y1 y2 y3 y4 y5)) ∧ (∀ y0 y1 y2 y3 y4 y5 y6 y7 y8 y9 y10, LeO (spec_RunMusic.j2 k y0 y1 y2 y3 y4 y5 y6 y7 y8 y9 y10) (spec_RunMusic.j2 (k + 1) y0 y1 y2 y3 y4 y5 y6 y7 y8 y9 y10))
 | 0 => ⟨fun _ _ _ _ _ _ r h => by simp [spec_RunMusic.j0] at h, fun _ _ _ _ _ _ r h => by simp [spec_RunMusic.l0] at h, fun _ _ _ _ _ _ _ _ _ _ _ r h => by simp [spec_RunMusic.j2] at h⟩
 | k + 1 => by
  obtain ⟨ih0, ih1, ih2⟩ := spec_RunMusic.mono_l k
  refine ⟨?_, ?_, ?_⟩
  ·intro y0 y1 y2 y3 y4 y5
   unfold spec_RunMusic.j0
   repeat' first
   | (with_reducible exact ih0 _ _ _ _ _ _)
   | (with_reducible exact ih1 _ _ _ _ _ _)
   | (with_reducible exact ih2 _ _ _ _ _ _ _ _ _ _ _)
   | (with_reducible exact spec_GoodMusic.mono _ _ _ _ _)
   | (with_reducible exact spec_l14In.mono _ _ _)
   | (with_reducible exact spec_l15Section.mono _ _ _)
   | (with_reducible exact spec_l1Num.mono _ _)
   | (with_reducible exact LeO.refl _)
   | (with_reducible exact LeO.none _)
   | (with_reducible refine LeO.ite ?_ ?_)
   | (with_reducible refine LeO.bind ?_ (fun _ => ?_))
   | exact ih0 _ _ _ _ _ _
   | exact ih1 _ _ _ _ _ _
   | exact ih2 _ _ _ _ _ _ _ _ _ _ _
   | exact spec_GoodMusic.mono _ _ _ _ _
   | exact spec_l14In.mono _ _ _
   | exact spec_l15Section.mono _ _ _
   | exact spec_l1Num.mono _ _
   | exact LeO.none _
   | refine LeO.ite ?_ ?_
   | refine LeO.bind ?_ (fun _ => ?_)
  ·intro y0 y1 y2 y3 y4 y5
   unfold spec_RunMusic.l0
   repeat' first
   | (with_reducible exact ih0 _ _ _ _ _ _)
   | (with_reducible exact ih1 _ _ _ _ _ _)
   | (with_reducible exact ih2 _ _ _ _ _ _ _ _ _ _ _)
   | (with_reducible exact spec_GoodMusic.mono _ _ _ _ _)
   | (with_reducible exact spec_l14In.mono _ _ _)
   | (with_reducible exact spec_l15Section.mono _ _ _)
   | (with_reducible exact spec_l1Num.mono _ _)
   | (with_reducible exact LeO.refl _)
   | (with_reducible exact LeO.none _)
   | (with_reducible refine LeO.ite ?_ ?_)
   | (with_reducible refine LeO.bind ?_ (fun _ => ?_))
   | exact ih0 _ _ _ _ _ _
   | exact ih1 _ _ _ _ _ _
   | exact ih2 _ _ _ _ _ _ _ _ _ _ _
   | exact spec_GoodMusic.mono _ _ _ _ _
   | exact spec_l14In.mono _ _ _
   | exact spec_l15Section.mono _ _ _
   | exact spec_l1Num.mono _ _
   | exact LeO.none _
   | refine LeO.ite ?_ ?_
   | refine LeO.bind ?_ (fun _ => ?_)
  ·intro y0 y1 y2 y3 y4 y5 y6 y7 y8 y9 y10
   unfold spec_RunMusic.j2
   repeat' first
   | (with_reducible exact ih0 _ _ _ _ _ _)
   | (with_reducible exact ih1 _ _ _ _ _ _)
   | (with_reducible exact ih2 _ _ _ _ _ _ _ _ _ _ _)
   | (with_reducible exact spec_GoodMusic.mono _ _ _ _ _)
   | (with_reducible exact spec_l14In.mono _ _ _)
   | (with_reducible exact spec_l15Section.mono _ _ _)
   | (with_reducible exact spec_l1Num.mono _ _)
   | (with_reducible exact LeO.refl _)
   | (with_reducible exact LeO.none _)
   | (with_reducible refine LeO.ite ?_ ?_)
   | (with_reducible refine LeO.bind ?_ (fun _ => ?_))
   | exact ih0 _ _ _ _ _ _
   | exact ih1 _ _ _ _ _ _
   | exact ih2 _ _ _ _ _ _ _ _ _ _ _
   | exact spec_GoodMusic.mono _ _ _ _ _
   | exact spec_l14In.mono _ _ _
   | exact spec_l15Section.mono _ _ _
   | exact spec_l1Num.mono _ _
   | exact LeO.none _
   | refine LeO.ite ?_ ?_
   | refine LeO.bind ?_ (fun _ => ?_)
theorem spec_RunMusic.mono : ∀ a0 a1 a2 a3 a4 k, LeO (spec_RunMusic.f k a0 a1 a2 a3 a4) (spec_RunMusic.f (k + 1) a0 a1 a2 a3 a4) := by
 intro a0 a1 a2 a3 a4 k
 obtain ⟨ih0, ih1, ih2⟩ := spec_RunMusic.mono_l k
 unfold spec_RunMusic.f
 repeat' first
   | (with_reducible exact ih0 _ _ _ _ _ _)
   | (with_reducible exact ih1 _ _ _ _ _ _)
   | (with_reducible exact ih2 _ _ _ _ _ _ _ _ _ _ _)
   | (with_reducible exact spec_GoodMusic.mono _ _ _ _ _)
   | (with_reducible exact spec_l14In.mono _ _ _)
   | (with_reducible exact spec_l15Section.mono _ _ _)
   | (with_reducible exact spec_l1Num.mono _ _)
   | (with_reducible exact LeO.refl _)
   | (with_reducible exact LeO.none _)
   | (with_reducible refine LeO.ite ?_ ?_)
   | (with_reducible refine LeO.bind ?_ (fun _ => ?_))
   | exact ih0 _ _ _ _ _ _
   | exact ih1 _ _ _ _ _ _
   | exact ih2 _ _ _ _ _ _ _ _ _ _ _
   | exact spec_GoodMusic.mono _ _ _ _ _
   | exact spec_l14In.mono _ _ _
   | exact spec_l15Section.mono _ _ _
   | exact spec_l1Num.mono _ _
   | exact LeO.none _
   | refine LeO.ite ?_ ?_
   | refine LeO.bind ?_ (fun _ => ?_)
def spec_RunMusic.T10 : Bool × List (List Nat × List Nat) := (true, [([], []), ([], []), ([1], [1]), ([2], [2]), ([], []), ([4], [4]), ([5], [5]), ([3, 6], [3, 6]), ([7], [7]), ([0, 8, 6], [0, 8]), ([9, 9, 0, 1, 2, 3, 4, 5, 6, 7, 8, 9], [0, 9])])
def spec_RunMusic.B10 : List Nat := [0, 0, 2, 6, 0, 16, 48, 126, 254, 511, 1023]
theorem spec_RunMusic.tab10 : rtab .any (opsOf Tryd.f7 10) = spec_RunMusic.T10 := by kernel_rfl
theorem spec_RunMusic.bits10 : waitsOk spec_RunMusic.T10.2 spec_RunMusic.B10 = true := by kernel_rfl
set_option maxHeartbeats 8000000 in
set_option maxRecDepth 100000 in
theorem spec_RunMusic.calls (k : Nat) (A0 : Option Addr) (c0 : Nat) (l0 : List (S49)) (a1_0 : ByteArray) (a1_1 : Int) (a1_2 : ByteArray) (a2 : Int) (r1 : ByteArray) (r2 : Int) (r3 : ByteArray) (r4 : List ByteArray) (r5 : Bool) (w : World) (hr0 : Kd.C k49 w A0 l0.length l0) (hc0 : l0.length ≤ c0) (h : spec_RunMusic.f k l0 a1_0 a1_1 a1_2 a2 = some (r1, r2, r3, r4, r5)) :
  Calls Tryd.prog 7 #[.slice A0 l0.length c0, .agg #[.string a1_0, .int .i64 a1_1, .string a1_2], .int .i64 a2] w fun e w' => ∃ v3_ : Value, e = .returned (.tuple #[.agg #[.string r1, .int .i64 r2, .string r3], v3_, .bool r5]) ∧ Kd.R Kd.string 9 w' w.heap.size (fun _ => True) v3_ r4 ∧ Below w.heap.size w w' := by
 have hu27 := Tryd.underlying27
 have hu49 := Tryd.underlying49
 have HR0 := am_ hr0
 have HC0 := am_ hc0
 clear hr0 hc0
 have HB := am_ (Below.refl w.heap.size w)
 have H : ((spec_GoodMusic.f k l0 a1_0 a1_1 a1_2).bind fun t141 => (if t141 = true then ((spec_l1In.f a2 0 1000).bind fun t142 => (spec_RunMusic.j0 k l0 a2 (!t142) a1_0 a1_1 a1_2)) else (spec_RunMusic.j0 k l0 a2 true a1_0 a1_1 a1_2))) = some (r1, r2, r3, r4, r5) := h
 clear h
 have HC4 := am_ H
 clear H
 go_enter Tryd.func7, Tryd.ntmps7
 go_upto_region 1 with (first | ((with_reducible refine gate_dst (N := 4) rfl ?_); refine bx_ 4 #[.string a1_0, .int .i64 a1_1, .string a1_2] 27 ?_; intro gb139 hg w5 hbox hb; have n0_ := am_ (below_step (bw_ HB.out) hb); have n1_ := am_ (hbox); have n2_ := am_ (gs_ hg (bw_ HB.out)); have n3_ := am_ (gs_ hg (bw_ HB.out)); replace HB := n0_; have BK139 := n1_; have GW139 := n2_; have GE139 := n3_; clear n0_ n1_ n2_ n3_; clear hb hbox hg) | ((with_reducible refine gate_dst (N := 6) rfl ?_); refine bx_ 6 #[.string (⟨#[]⟩ : ByteArray), .int .i64 0, .string (⟨#[]⟩ : ByteArray)] 27 ?_; intro gb140 hg w6 hbox hb; have n0_ := am_ (blk_below (bk_ BK139.out) hb); have n1_ := am_ (below_step (bw_ HB.out) hb); have n2_ := am_ (hbox); have n3_ := am_ (gs_ hg (bw_ HB.out)); have n4_ := am_ (gs_ hg (bw_ HB.out)); have n5_ := am_ (nl_ hg (bk_ BK139.out)); have n6_ := am_ (ng_ hg (bk_ BK139.out)); replace BK139 := n0_; replace HB := n1_; have BK140 := n2_; have GW140 := n3_; have GE140 := n4_; have NB139_140 := n5_; have NB140_139 := n6_; clear n0_ n1_ n2_ n3_ n4_ n5_ n6_; clear hb hbox hg))
 (try simp only [Act.put, List.setIfInBounds_toArray, List.set_cons_zero, List.set_cons_succ])
 go_cut [19] (fun v19 wc => ∃ (kq : Nat) (x19_3 : Bool), v19 = .bool x19_3 ∧ Aside0 (spec_RunMusic.j0 kq l0 a2 x19_3 a1_0 a1_1 a1_2 = some (r1, r2, r3, r4, r5)) ∧ Aside0 (kq ≤ k) ∧ Aside0 (wc.heap[gb139]? = some (.cells #[.string a1_0, .int .i64 a1_1, .string a1_2] 27 (0, 0))) ∧ Aside0 (wc.heap[gb140]? = some (.cells #[.string (⟨#[]⟩ : ByteArray), .int .i64 0, .string (⟨#[]⟩ : ByteArray)] 27 (0, 0))) ∧ Aside0 (Below w.heap.size w wc))
 case first =>
  have H := HC4.out
  clear HC4
  obtain ⟨t141, A70, H⟩ := bE_ H
  have A7 := am_ A70
  clear A70
  by_cases c8 : t141 = true
  ·subst c8
   replace H := it_ H rfl
   obtain ⟨t142, A90, H⟩ := bE_ H
   have A9 := am_ A90
   clear A90
   have H' := am_ H
   clear H
   have hnb10 := NB139_140.out
   have hnc10 := NB140_139.out
   have hcz11_0 := cz_ BK139.out 0
   have hcz11_1 := cz_ BK139.out 1
   have hcz11_2 := cz_ BK139.out 2
   have hfz11_0 := blk_frozen BK139.out 0
   have hfz11_1 := blk_frozen BK139.out 1
   have hfz11_2 := blk_frozen BK139.out 2
   go_wp2_with (first | ((with_reducible refine gate_callee (f := 20) rfl ?_); refine goesL_ (some 13) rfl rfl Tryd.func20 (by kernel_rfl) rfl #[.slice A0 l0.length c0, .agg #[.string a1_0, .int .i64 a1_1, .string a1_2]] rfl (by (try simp only [List.map_toArray, List.map_cons, List.map_nil]); first | done | rfl | (simp only [List.length_drop, List.length_take]; rfl)) ?_; (with_reducible refine (spec_GoodMusic.calls k _ _ l0 a1_0 a1_1 a1_2 true _ ?side1 ?side2 A7.out).mono ?_); (case side1 => repeat (first | exact (Kd.C_below HR0.out HB.out) | (with_reducible refine Kd.C_alloc ?_ _) | (with_reducible refine Kd.C_drewN ?_ _) | (with_reducible refine Kd.C_drew ?_))); (case side2 => exact HC0.out); rintro e w12 ⟨rfl, hb⟩; refine ⟨_, rfl, ?_⟩; have n0_ := am_ (blk_below (bk_ BK139.out) hb); have n1_ := am_ (blk_below (bk_ BK140.out) hb); have n2_ := am_ (below_step (bw_ HB.out) hb); replace BK139 := n0_; replace BK140 := n1_; replace HB := n2_; clear n0_ n1_ n2_; (try clear hb); (try clear hb2); (try clear hk); (try clear hi)) | (go_at_call 21; (with_reducible refine (spec_l1In.calls a2 0 1000 t142 _ A9.out).mono ?_); rintro e w' ⟨rfl, ⟨nd, rfl⟩⟩))
   go_meet
   case rel => exact ⟨_, (!t142), sq_, H', ⟨by first | omega | exact Nat.le_refl _⟩, ⟨bk_ BK139.out⟩, ⟨bk_ BK140.out⟩, ⟨bw_ HB.out⟩⟩
  ·replace c8 := Bool.eq_false_iff.mpr c8
   subst c8
   replace H := if_ H Bool.false_ne_true
   have H' := am_ H
   clear H
   have hnb13 := NB139_140.out
   have hnc13 := NB140_139.out
   have hcz14_0 := cz_ BK139.out 0
   have hcz14_1 := cz_ BK139.out 1
   have hcz14_2 := cz_ BK139.out 2
   have hfz14_0 := blk_frozen BK139.out 0
   have hfz14_1 := blk_frozen BK139.out 1
   have hfz14_2 := blk_frozen BK139.out 2
   go_wp2_with (first | ((with_reducible refine gate_callee (f := 20) rfl ?_); refine goesL_ (some 13) rfl rfl Tryd.func20 (by kernel_rfl) rfl #[.slice A0 l0.length c0, .agg #[.string a1_0, .int .i64 a1_1, .string a1_2]] rfl (by (try simp only [List.map_toArray, List.map_cons, List.map_nil]); first | done | rfl | (simp only [List.length_drop, List.length_take]; rfl)) ?_; (with_reducible refine (spec_GoodMusic.calls k _ _ l0 a1_0 a1_1 a1_2 false _ ?side1 ?side2 A7.out).mono ?_); (case side1 => repeat (first | exact (Kd.C_below HR0.out HB.out) | (with_reducible refine Kd.C_alloc ?_ _) | (with_reducible refine Kd.C_drewN ?_ _) | (with_reducible refine Kd.C_drew ?_))); (case side2 => exact HC0.out); rintro e w15 ⟨rfl, hb⟩; refine ⟨_, rfl, ?_⟩; have n0_ := am_ (blk_below (bk_ BK139.out) hb); have n1_ := am_ (blk_below (bk_ BK140.out) hb); have n2_ := am_ (below_step (bw_ HB.out) hb); replace BK139 := n0_; replace BK140 := n1_; replace HB := n2_; clear n0_ n1_ n2_; (try clear hb); (try clear hb2); (try clear hk); (try clear hi)))
   go_meet
   case rel => exact ⟨_, (true), sq_, H', ⟨by first | omega | exact Nat.le_refl _⟩, ⟨bk_ BK139.out⟩, ⟨bk_ BK140.out⟩, ⟨bw_ HB.out⟩⟩
 case rest =>
  clear HC4
  obtain ⟨kq, x19_3, rfl, HA, HJ3, BK139, BK140, HB⟩ := hcut
  cases kq with
  | zero => exact absurd HA.out (by simp [spec_RunMusic.j0])
  | succ kj3 =>
   have H := HA.out
   clear HA
   simp only [spec_RunMusic.j0] at H
   by_cases c16 : x19_3 = true
   ·subst c16
    replace H := it_ H rfl
    simp only [Option.some.injEq, Prod.mk.injEq] at H
    obtain ⟨rfl, rfl, rfl, rfl, rfl⟩ := H
    have hnb17 := NB140_139.out
    have hnc17 := NB139_140.out
    have hcz18_0 := cz_ BK140.out 0
    have hcz18_1 := cz_ BK140.out 1
    have hcz18_2 := cz_ BK140.out 2
    have hfz18_0 := blk_frozen BK140.out 0
    have hfz18_1 := blk_frozen BK140.out 1
    have hfz18_2 := blk_frozen BK140.out 2
    go_wp2
    refine bodyPost_ret (results_ctt rfl _ _ gb140 27 #[.string (⟨#[]⟩ : ByteArray), .int .i64 0, .string (⟨#[]⟩ : ByteArray)] (0, 0) _ rfl (by (with_reducible repeat (first | refine blk_drewN ?_ _ | refine blk_drew ?_ | refine blk_alloc ?_ _)); refine blk_put (cs := #[.string (⟨#[]⟩ : ByteArray), .int .i64 0, .string (⟨#[]⟩ : ByteArray)]) ?_ 2 _ rfl; (with_reducible repeat (first | refine blk_drewN ?_ _ | refine blk_drew ?_ | refine blk_alloc ?_ _)); refine blk_put (cs := #[.string (⟨#[]⟩ : ByteArray), .int .i64 0, .string (⟨#[]⟩ : ByteArray)]) ?_ 1 _ rfl; (with_reducible repeat (first | refine blk_drewN ?_ _ | refine blk_drew ?_ | refine blk_alloc ?_ _)); refine blk_put (cs := #[.string (⟨#[]⟩ : ByteArray), .int .i64 0, .string (⟨#[]⟩ : ByteArray)]) ?_ 0 _ rfl; (with_reducible repeat (first | refine blk_drewN ?_ _ | refine blk_drew ?_ | refine blk_alloc ?_ _)); exact BK140.out) Tryd.underlying27 rfl (by kernel_rfl)) rfl ?_
    exact ⟨_, by first | rfl | (simp [errW_none, errW_some] <;> rfl) | (simp [*, errW_none, errW_some] <;> rfl), by first | exact Kd.R_nil _ _ _ _ _ | exact Kd.N_nil _ _ _ _ _ | exact Kd.V_nil _ _ _ _ _ | exact Kd.Q_nil _ _ _ _ _ | exact Kd.S_nil _ _ _ _ _, bw_ HB.out⟩
   ·replace c16 := Bool.eq_false_iff.mpr c16
    subst c16
    replace H := if_ H Bool.false_ne_true
    have H' := am_ H
    clear H
    go_wp2
    go_loopg [2, 9] kj3 (fun kq v2 v9 w' => ∃ (x2_2 : Int) (x9_2 : List ByteArray) (x140000_2 : ByteArray) (x140001_2 : Int) (x140002_2 : ByteArray), v2 = .int .i64 x2_2 ∧ Aside0 (spec_RunMusic.l0 kq l0 x2_2 x9_2 x140000_2 x140001_2 x140002_2 = some (r1, r2, r3, r4, r5)) ∧ Aside0 (kq ≤ kj3) ∧ Aside0 (Kd.R Kd.string 9 w' w.heap.size (fun _ => True) v9 x9_2) ∧ Aside0 (w'.heap[gb139]? = some (.cells #[.string x140000_2, .int .i64 x140001_2, .string x140002_2] 27 (0, 0))) ∧ Aside0 (w'.heap[gb140]? = some (.cells #[.string (⟨#[]⟩ : ByteArray), .int .i64 0, .string (⟨#[]⟩ : ByteArray)] 27 (0, 0))) ∧ Aside0 (Below w.heap.size w w'))
    case atStart => exact ⟨(a2), (([] : List ByteArray)), (a1_0), (a1_1), (a1_2), sq_, H', ⟨Nat.le_refl _⟩, ⟨by first | exact Kd.R_nil _ _ _ _ _ | exact Kd.N_nil _ _ _ _ _ | exact Kd.V_nil _ _ _ _ _ | exact Kd.Q_nil _ _ _ _ _ | exact Kd.S_nil _ _ _ _ _⟩, ⟨bk_ BK139.out⟩, ⟨bk_ BK140.out⟩, ⟨bw_ HB.out⟩⟩
    case round =>
     clear H'
     try clear c16
     obtain ⟨x2_2, x9_2, x140000_2, x140001_2, x140002_2, rfl, HA, HK2, HO_9, BK139, BK140, HB⟩ := hrel
     cases gk with
     | zero => exact absurd HA.out (by simp [spec_RunMusic.l0])
     | succ k2 =>
      have H := HA.out
      clear HA
      simp only [spec_RunMusic.l0] at H
      by_cases c19 : x2_2 > 0
      ·rw [if_pos c19] at H
       have c19b0 : decide (0 < x2_2) = true := decide_eq_true c19
       clear c19
       obtain ⟨t143, A200, H⟩ := bE_ H
       have A20 := am_ A200
       clear A200
       obtain ⟨c21, H⟩ := ifn_ H
       have c21b0 : decide (0 ≤ t143) = true := decide_eq_true c21
       clear c21
       obtain ⟨c22, H⟩ := ifn_ H
       have c22b0 : decide (t143 < (l0.length : Int)) = true := decide_eq_true c22
       clear c22
       have HC23 := am_ H
       clear H
       have hnb24 := NB139_140.out
       have hnc24 := NB140_139.out
       have hcz25_0 := cz_ BK139.out 0
       have hcz25_1 := cz_ BK139.out 1
       have hcz25_2 := cz_ BK139.out 2
       have hfz25_0 := blk_frozen BK139.out 0
       have hfz25_1 := blk_frozen BK139.out 1
       have hfz25_2 := blk_frozen BK139.out 2
       go_upto_region 7 with (first | ((with_reducible refine gate_callee (f := 22) rfl ?_); refine goesL_ (some 29) rfl rfl Tryd.func22 (by kernel_rfl) rfl #[.slice A0 l0.length c0, .string x140000_2] rfl (by (try simp only [List.map_toArray, List.map_cons, List.map_nil]); first | done | rfl | (simp only [List.length_drop, List.length_take]; rfl)) ?_; (with_reducible refine (spec_l15Section.calls k2 _ _ l0 x140000_2 t143 _ ?side1 ?side2 A20.out).mono ?_); (case side1 => repeat (first | exact (Kd.C_below HR0.out HB.out) | (with_reducible refine Kd.C_alloc ?_ _) | (with_reducible refine Kd.C_drewN ?_ _) | (with_reducible refine Kd.C_drew ?_))); (case side2 => exact HC0.out); rintro e w26 ⟨rfl, hb⟩; refine ⟨_, rfl, ?_⟩; have n0_ := am_ (Kd.R_below (ra_ HO_9.out) hb); have n1_ := am_ (blk_below (bk_ BK139.out) hb); have n2_ := am_ (blk_below (bk_ BK140.out) hb); have n3_ := am_ (below_step (bw_ HB.out) hb); replace HO_9 := n0_; replace BK139 := n1_; replace BK140 := n2_; replace HB := n3_; clear n0_ n1_ n2_ n3_; (try clear hb); (try clear hb2); (try clear hk); (try clear hi); have p144 : 0 ≤ (t143 : Int) := od_; have q144 : t143 < (l0.length : Int) := od_; obtain ⟨ad144, A144_2, c144_2, e144, hx144_0, hx144_1, hx144_2, hx144_3, hl144_2, hi144_2⟩ := at_T49 HR0.out t143 p144 q144; cases e144; (try replace hx144_0 := hc_ HB.out hx144_0); (try replace hx144_1 := hc_ HB.out hx144_1); (try replace hx144_2 := hc_ HB.out hx144_2); (try replace hx144_3 := hc_ HB.out hx144_3); have HR144_2 := am_ hi144_2; have HC144_2 := am_ hl144_2; clear hi144_2 hl144_2; replace p144 := eq_true p144; replace q144 := eq_true q144) | ((with_reducible refine gate_dst (N := 10) rfl ?_); refine bx_ 10 #[.string (⟨#[]⟩ : ByteArray), .int .i64 0, .slice none 0 0, .string (⟨#[]⟩ : ByteArray)] 49 ?_; intro gb145 hg w27 hbox hb; have n0_ := am_ (Kd.R_below (ra_ HO_9.out) hb); have n1_ := am_ (blk_below (bk_ BK139.out) hb); have n2_ := am_ (blk_below (bk_ BK140.out) hb); have n3_ := am_ (below_step (bw_ HB.out) hb); have n4_ := am_ (hbox); have n5_ := am_ (gs_ hg (bw_ HB.out)); have n6_ := am_ (gs_ hg (bw_ HB.out)); have n7_ := am_ (nl_ hg (bk_ BK139.out)); have n8_ := am_ (ng_ hg (bk_ BK139.out)); have n9_ := am_ (nl_ hg (bk_ BK140.out)); have n10_ := am_ (ng_ hg (bk_ BK140.out)); replace HO_9 := n0_; replace BK139 := n1_; replace BK140 := n2_; replace HB := n3_; have BK145 := n4_; have GW145 := n5_; have GE145 := n6_; have NB139_145 := n7_; have NB145_139 := n8_; have NB140_145 := n9_; have NB145_140 := n10_; clear n0_ n1_ n2_ n3_ n4_ n5_ n6_ n7_ n8_ n9_ n10_; clear hb hbox hg; have hnb28 := NB145_139.out; have hnc28 := NB139_145.out; have hnb29 := NB145_140.out; have hnc29 := NB140_145.out; have hcz30_0 := cz_ BK145.out 0; have hcz30_1 := cz_ BK145.out 1; have hcz30_2 := cz_ BK145.out 2; have hcz30_3 := cz_ BK145.out 3; have hfz30_0 := blk_frozen BK145.out 0; have hfz30_1 := blk_frozen BK145.out 1; have hfz30_2 := blk_frozen BK145.out 2; have hfz30_3 := blk_frozen BK145.out 3))
       (try simp only [Act.put, List.setIfInBounds_toArray, List.set_cons_zero, List.set_cons_succ])
       go_cut [41] (fun v41 wc => ∃ (kq : Nat) (x41_22 : Bool), v41 = .bool x41_22 ∧ Aside0 (spec_RunMusic.j2 kq l0 x2_2 x9_2 x41_22 x140000_2 x140001_2 x140002_2 ((rd_T49 l0 t143).f0) ((rd_T49 l0 t143).f1) ((rd_T49 l0 t143).f2) ((rd_T49 l0 t143).f3) = some (r1, r2, r3, r4, r5)) ∧ Aside0 (kq ≤ k2) ∧ Aside0 (Kd.R Kd.string 9 wc w.heap.size (fun _ => True) u9 x9_2) ∧ Aside0 (wc.heap[gb139]? = some (.cells #[.string x140000_2, .int .i64 x140001_2, .string x140002_2] 27 (0, 0))) ∧ Aside0 (wc.heap[gb140]? = some (.cells #[.string (⟨#[]⟩ : ByteArray), .int .i64 0, .string (⟨#[]⟩ : ByteArray)] 27 (0, 0))) ∧ Aside0 (wc.heap[gb145]? = some (.cells #[.string ((rd_T49 l0 t143).f0), .int .i64 ((rd_T49 l0 t143).f1), (.slice A144_2 ((rd_T49 l0 t143).f2).length c144_2), .string ((rd_T49 l0 t143).f3)] 49 (0, 0))) ∧ Aside0 (Below w.heap.size w wc))
       case first =>
        have H := HC23.out
        clear HC23
        by_cases c31 : x140002_2.toList = ([] : List UInt8)
        ·rw [if_pos c31] at H
         have c31b0 : (x140002_2.toList == ([] : List UInt8)) = true := beq_iff_eq.mpr c31
         have c31b1 : (x140002_2.toList != ([] : List UInt8)) = false := bne_eq_false_iff_eq.mpr c31
         clear c31
         (first | rw [c31b0] | (simp only [i64_w, i32_w]; rw [c31b0]) | skip)
         have H' := am_ H
         clear H
         have hnb32 := NB139_140.out
         have hnc32 := NB140_139.out
         have hnb33 := NB139_145.out
         have hnc33 := NB145_139.out
         have hcz34_0 := cz_ BK139.out 0
         have hcz34_1 := cz_ BK139.out 1
         have hcz34_2 := cz_ BK139.out 2
         have hfz34_0 := blk_frozen BK139.out 0
         have hfz34_1 := blk_frozen BK139.out 1
         have hfz34_2 := blk_frozen BK139.out 2
         go_wp2
         go_meet
         case rel => exact ⟨_, (false), sq_, H', ⟨by have := HJ3.out; have := HK2.out; first | omega | exact Nat.le_refl _⟩, ⟨ra_ (Kd.R_mono (Kd.R_far (p := ⟨gb145, 3, none⟩) (Kd.R_far (p := ⟨gb145, 2, none⟩) (Kd.R_far (p := ⟨gb145, 1, none⟩) (Kd.R_far (p := ⟨gb145, 0, none⟩) (Kd.R_types HO_9.out BK145.out (by decide)) (fun _ hk => hk.2) (.string ((rd_T49 l0 t143).f0))) (fun _ hk => hk.2) (.int .i64 ((rd_T49 l0 t143).f1))) (fun _ hk => hk.2) (.slice A144_2 ((rd_T49 l0 t143).f2).length c144_2)) (fun _ hk => hk.2) (.string ((rd_T49 l0 t143).f3))) (fun _ hk => trivial))⟩, ⟨by (with_reducible repeat (first | refine blk_drewN ?_ _ | refine blk_drew ?_ | refine blk_alloc ?_ _)); refine blk_far ?_ NB139_145.out _; (with_reducible repeat (first | refine blk_drewN ?_ _ | refine blk_drew ?_ | refine blk_alloc ?_ _)); refine blk_far ?_ NB139_145.out _; (with_reducible repeat (first | refine blk_drewN ?_ _ | refine blk_drew ?_ | refine blk_alloc ?_ _)); refine blk_far ?_ NB139_145.out _; (with_reducible repeat (first | refine blk_drewN ?_ _ | refine blk_drew ?_ | refine blk_alloc ?_ _)); refine blk_far ?_ NB139_145.out _; (with_reducible repeat (first | refine blk_drewN ?_ _ | refine blk_drew ?_ | refine blk_alloc ?_ _)); exact BK139.out⟩, ⟨by (with_reducible repeat (first | refine blk_drewN ?_ _ | refine blk_drew ?_ | refine blk_alloc ?_ _)); refine blk_far ?_ NB140_145.out _; (with_reducible repeat (first | refine blk_drewN ?_ _ | refine blk_drew ?_ | refine blk_alloc ?_ _)); refine blk_far ?_ NB140_145.out _; (with_reducible repeat (first | refine blk_drewN ?_ _ | refine blk_drew ?_ | refine blk_alloc ?_ _)); refine blk_far ?_ NB140_145.out _; (with_reducible repeat (first | refine blk_drewN ?_ _ | refine blk_drew ?_ | refine blk_alloc ?_ _)); refine blk_far ?_ NB140_145.out _; (with_reducible repeat (first | refine blk_drewN ?_ _ | refine blk_drew ?_ | refine blk_alloc ?_ _)); exact BK140.out⟩, ⟨by (with_reducible repeat (first | refine blk_drewN ?_ _ | refine blk_drew ?_ | refine blk_alloc ?_ _)); refine blk_put (cs := #[.string ((rd_T49 l0 t143).f0), .int .i64 ((rd_T49 l0 t143).f1), .slice A144_2 ((rd_T49 l0 t143).f2).length c144_2, .string (⟨#[]⟩ : ByteArray)]) ?_ 3 _ rfl; (with_reducible repeat (first | refine blk_drewN ?_ _ | refine blk_drew ?_ | refine blk_alloc ?_ _)); refine blk_put (cs := #[.string ((rd_T49 l0 t143).f0), .int .i64 ((rd_T49 l0 t143).f1), .slice none 0 0, .string (⟨#[]⟩ : ByteArray)]) ?_ 2 _ rfl; (with_reducible repeat (first | refine blk_drewN ?_ _ | refine blk_drew ?_ | refine blk_alloc ?_ _)); refine blk_put (cs := #[.string ((rd_T49 l0 t143).f0), .int .i64 0, .slice none 0 0, .string (⟨#[]⟩ : ByteArray)]) ?_ 1 _ rfl; (with_reducible repeat (first | refine blk_drewN ?_ _ | refine blk_drew ?_ | refine blk_alloc ?_ _)); refine blk_put (cs := #[.string (⟨#[]⟩ : ByteArray), .int .i64 0, .slice none 0 0, .string (⟨#[]⟩ : ByteArray)]) ?_ 0 _ rfl; (with_reducible repeat (first | refine blk_drewN ?_ _ | refine blk_drew ?_ | refine blk_alloc ?_ _)); exact BK145.out⟩, ⟨bw_ HB.out⟩⟩
        ·rw [if_neg c31] at H
         have c31b0 : (x140002_2.toList == ([] : List UInt8)) = false := beq_eq_false_iff_ne.mpr c31
         have c31b1 : (x140002_2.toList != ([] : List UInt8)) = true := bne_iff_ne.mpr c31
         (first | rw [c31b0] | (simp only [i64_w, i32_w]; rw [c31b0]) | skip)
         obtain ⟨t146, A350, H⟩ := bE_ H
         have A35 := am_ A350
         clear A350
         have H' := am_ H
         clear H
         have hnb36 := NB139_140.out
         have hnc36 := NB140_139.out
         have hnb37 := NB139_145.out
         have hnc37 := NB145_139.out
         have hcz38_0 := cz_ BK139.out 0
         have hcz38_1 := cz_ BK139.out 1
         have hcz38_2 := cz_ BK139.out 2
         have hfz38_0 := blk_frozen BK139.out 0
         have hfz38_1 := blk_frozen BK139.out 1
         have hfz38_2 := blk_frozen BK139.out 2
         have hnb39 := NB145_140.out
         have hnc39 := NB140_145.out
         have hcz40_0 := cz_ BK145.out 0
         have hcz40_1 := cz_ BK145.out 1
         have hcz40_2 := cz_ BK145.out 2
         have hcz40_3 := cz_ BK145.out 3
         have hfz40_0 := blk_frozen BK145.out 0
         have hfz40_1 := blk_frozen BK145.out 1
         have hfz40_2 := blk_frozen BK145.out 2
         have hfz40_3 := blk_frozen BK145.out 3
         go_wp2_with (first | (go_at_call 23; (with_reducible refine (spec_l14In.calls k2 _ _ ((rd_T49 l0 t143).f2) x140001_2 t146 _ ?side1 ?side2 A35.out).mono ?_); (case side1 => exact Kd.C_below HR144_2.out (bw_ HB.out)); (case side2 => exact HC144_2.out); rintro e w' ⟨rfl, ⟨nd, rfl⟩⟩))
         go_meet
         case rel => exact ⟨_, (t146), sq_, H', ⟨by have := HJ3.out; have := HK2.out; first | omega | exact Nat.le_refl _⟩, ⟨ra_ (Kd.R_mono (Kd.R_far (p := ⟨gb145, 3, none⟩) (Kd.R_far (p := ⟨gb145, 2, none⟩) (Kd.R_far (p := ⟨gb145, 1, none⟩) (Kd.R_far (p := ⟨gb145, 0, none⟩) (Kd.R_types HO_9.out BK145.out (by decide)) (fun _ hk => hk.2) (.string ((rd_T49 l0 t143).f0))) (fun _ hk => hk.2) (.int .i64 ((rd_T49 l0 t143).f1))) (fun _ hk => hk.2) (.slice A144_2 ((rd_T49 l0 t143).f2).length c144_2)) (fun _ hk => hk.2) (.string ((rd_T49 l0 t143).f3))) (fun _ hk => trivial))⟩, ⟨by (with_reducible repeat (first | refine blk_drewN ?_ _ | refine blk_drew ?_ | refine blk_alloc ?_ _)); refine blk_far ?_ NB139_145.out _; (with_reducible repeat (first | refine blk_drewN ?_ _ | refine blk_drew ?_ | refine blk_alloc ?_ _)); refine blk_far ?_ NB139_145.out _; (with_reducible repeat (first | refine blk_drewN ?_ _ | refine blk_drew ?_ | refine blk_alloc ?_ _)); refine blk_far ?_ NB139_145.out _; (with_reducible repeat (first | refine blk_drewN ?_ _ | refine blk_drew ?_ | refine blk_alloc ?_ _)); refine blk_far ?_ NB139_145.out _; (with_reducible repeat (first | refine blk_drewN ?_ _ | refine blk_drew ?_ | refine blk_alloc ?_ _)); exact BK139.out⟩, ⟨by (with_reducible repeat (first | refine blk_drewN ?_ _ | refine blk_drew ?_ | refine blk_alloc ?_ _)); refine blk_far ?_ NB140_145.out _; (with_reducible repeat (first | refine blk_drewN ?_ _ | refine blk_drew ?_ | refine blk_alloc ?_ _)); refine blk_far ?_ NB140_145.out _; (with_reducible repeat (first | refine blk_drewN ?_ _ | refine blk_drew ?_ | refine blk_alloc ?_ _)); refine blk_far ?_ NB140_145.out _; (with_reducible repeat (first | refine blk_drewN ?_ _ | refine blk_drew ?_ | refine blk_alloc ?_ _)); refine blk_far ?_ NB140_145.out _; (with_reducible repeat (first | refine blk_drewN ?_ _ | refine blk_drew ?_ | refine blk_alloc ?_ _)); exact BK140.out⟩, ⟨by (with_reducible repeat (first | refine blk_drewN ?_ _ | refine blk_drew ?_ | refine blk_alloc ?_ _)); refine blk_put (cs := #[.string ((rd_T49 l0 t143).f0), .int .i64 ((rd_T49 l0 t143).f1), .slice A144_2 ((rd_T49 l0 t143).f2).length c144_2, .string (⟨#[]⟩ : ByteArray)]) ?_ 3 _ rfl; (with_reducible repeat (first | refine blk_drewN ?_ _ | refine blk_drew ?_ | refine blk_alloc ?_ _)); refine blk_put (cs := #[.string ((rd_T49 l0 t143).f0), .int .i64 ((rd_T49 l0 t143).f1), .slice none 0 0, .string (⟨#[]⟩ : ByteArray)]) ?_ 2 _ rfl; (with_reducible repeat (first | refine blk_drewN ?_ _ | refine blk_drew ?_ | refine blk_alloc ?_ _)); refine blk_put (cs := #[.string ((rd_T49 l0 t143).f0), .int .i64 0, .slice none 0 0, .string (⟨#[]⟩ : ByteArray)]) ?_ 1 _ rfl; (with_reducible repeat (first | refine blk_drewN ?_ _ | refine blk_drew ?_ | refine blk_alloc ?_ _)); refine blk_put (cs := #[.string (⟨#[]⟩ : ByteArray), .int .i64 0, .slice none 0 0, .string (⟨#[]⟩ : ByteArray)]) ?_ 0 _ rfl; (with_reducible repeat (first | refine blk_drewN ?_ _ | refine blk_drew ?_ | refine blk_alloc ?_ _)); exact BK145.out⟩, ⟨bw_ HB.out⟩⟩
       case rest =>
        clear HC23
        try clear c16
        try clear c19
        try clear c19b0
        try clear c21
        try clear c21b0
        try clear c22
        try clear c22b0
        try clear hcz25_0
        try clear hcz25_1
        try clear hcz25_2
        try clear hcz30_0
        try clear hcz30_1
        try clear hcz30_2
        try clear hcz30_3
        try clear hfz25_0
        try clear hfz25_1
        try clear hfz25_2
        try clear hfz30_0
        try clear hfz30_1
        try clear hfz30_2
        try clear hfz30_3
        try clear hx144_0
        try clear hx144_1
        try clear hx144_2
        try clear hx144_3
        try clear p144
        try clear q144
        obtain ⟨kq, x41_22, rfl, HA, HJ22, HO_9, BK139, BK140, BK145, HB⟩ := hcut
        cases kq with
        | zero => exact absurd HA.out (by simp [spec_RunMusic.j2])
        | succ kj22 =>
         have H := HA.out
         clear HA
         simp only [spec_RunMusic.j2] at H
         by_cases c41 : x41_22 = true
         ·subst c41
          replace H := it_ H rfl
          obtain ⟨t147, A420, H⟩ := bE_ H
          have A42 := am_ A420
          clear A420
          obtain ⟨c43, H⟩ := ifn_ H
          have c43b0 : decide (0 ≤ t147) = true := decide_eq_true c43
          clear c43
          obtain ⟨c44, H⟩ := ifn_ H
          have c44b0 : decide (t147 < (l0.length : Int)) = true := decide_eq_true c44
          clear c44
          obtain ⟨c45, H⟩ := ifn_ H
          have c45b0 := eq_true c45
          have c45b1 : decide (x140002_2.size + 1 ≤ 9223372036854775807) = true := decide_eq_true c45
          try have c45b2 : (9223372036854775807 < x140002_2.size + 1) = False := eq_false (Nat.not_lt.2 c45)
          obtain ⟨t149, A460, H⟩ := bE_ H
          have A46 := am_ A460
          clear A460
          obtain ⟨c47, H⟩ := ifn_ H
          have c47b0 := eq_true c47
          have c47b1 : decide ((x140002_2 ++ (⟨#[58]⟩ : ByteArray)).size + t149.size ≤ 9223372036854775807) = true := decide_eq_true c47
          try have c47b2 : (9223372036854775807 < (x140002_2 ++ (⟨#[58]⟩ : ByteArray)).size + t149.size) = False := eq_false (Nat.not_lt.2 c47)
          try have c47b3 : (9223372036854775807 < x140002_2.size + 1 + t149.size) = False := eq_false (Nat.not_lt.2 (by have h_ := c47; rw [ByteArray.size_append] at h_; exact h_))
          obtain ⟨c48, H⟩ := ifn_ H
          have LMc48 := am_ c48
          clear c48
          obtain ⟨y150, hy150⟩ : ∃ y_ : List ByteArray, y_ = (x9_2 ++ [(x140002_2 ++ (⟨#[58]⟩ : ByteArray)) ++ t149]) := ⟨_, rfl⟩
          replace H : (if 1 = ((rd_T49 l0 t147).f1) then (spec_RunMusic.l0 kj22 l0 (wrap64 (x2_2 - 1)) y150 ((rd_T49 l0 t147).f3) 0 (⟨#[]⟩ : ByteArray)) else (spec_RunMusic.l0 kj22 l0 (wrap64 (x2_2 - 1)) y150 x140002_2 1 (⟨#[]⟩ : ByteArray))) = some (r1, r2, r3, r4, r5) := by first | (rw [hy150]; with_reducible exact H) | (have H2_ := (Option.bind_some _ _).symm.trans H; rw [hy150]; with_reducible exact H2_) | (have H2_ := (Option.bind_some _ _).symm.trans H; with_reducible exact H2_) | with_reducible exact H | (rw [hy150]; exact H) | exact H
          have Ny150 := am_ hy150
          clear hy150
          by_cases c49 : 1 = ((rd_T49 l0 t147).f1)
          ·rw [if_pos c49] at H
           have c49b0 : (1 == ((rd_T49 l0 t147).f1)) = true := beq_iff_eq.mpr c49
           have c49b1 : (1 != ((rd_T49 l0 t147).f1)) = false := bne_eq_false_iff_eq.mpr c49
           clear c49
           have H' := am_ H
           clear H
           have hnb50 := NB139_140.out
           have hnc50 := NB140_139.out
           have hnb51 := NB139_145.out
           have hnc51 := NB145_139.out
           have hcz52_0 := cz_ BK139.out 0
           have hcz52_1 := cz_ BK139.out 1
           have hcz52_2 := cz_ BK139.out 2
           have hfz52_0 := blk_frozen BK139.out 0
           have hfz52_1 := blk_frozen BK139.out 1
           have hfz52_2 := blk_frozen BK139.out 2
           try go_wp2_with (first | ((with_reducible refine gate_callee (f := 22) rfl ?_); refine goesL_ (some 49) rfl rfl Tryd.func22 (by kernel_rfl) rfl #[.slice (some ad144) l0.length c0, .string x140002_2] rfl (by (try simp only [List.map_toArray, List.map_cons, List.map_nil]); first | done | rfl | (simp only [List.length_drop, List.length_take]; rfl)) ?_; (with_reducible refine (spec_l15Section.calls kj22 _ _ l0 x140002_2 t147 _ ?side1 ?side2 A42.out).mono ?_); (case side1 => exact Kd.C_below HR0.out (bw_ HB.out)); (case side2 => exact HC0.out); rintro e w53 ⟨rfl, hb⟩; refine ⟨_, rfl, ?_⟩; have n0_ := am_ (Kd.R_below (ra_ ((Kd.R_mono (Kd.R_far (p := ⟨gb139, 2, none⟩) (Kd.R_far (p := ⟨gb139, 1, none⟩) (Kd.R_far (p := ⟨gb139, 0, none⟩) (Kd.R_types HO_9.out BK139.out (by decide)) (fun _ hk => hk.2) (.string x140002_2)) (fun _ hk => hk.2) (.int .i64 0)) (fun _ hk => hk.2) (.string (⟨#[]⟩ : ByteArray))) (fun _ h_ => h_.1)))) hb); have n1_ := am_ (blk_below (g := gb139) (o := .cells #[.string x140002_2, .int .i64 0, .string (⟨#[]⟩ : ByteArray)] 27 (0, 0)) (by (with_reducible repeat (first | refine blk_drewN ?_ _ | refine blk_drew ?_ | refine blk_alloc ?_ _)); refine blk_put (cs := #[.string x140002_2, .int .i64 0, .string x140002_2]) ?_ 2 _ rfl; (with_reducible repeat (first | refine blk_drewN ?_ _ | refine blk_drew ?_ | refine blk_alloc ?_ _)); refine blk_put (cs := #[.string x140002_2, .int .i64 x140001_2, .string x140002_2]) ?_ 1 _ rfl; (with_reducible repeat (first | refine blk_drewN ?_ _ | refine blk_drew ?_ | refine blk_alloc ?_ _)); refine blk_put (cs := #[.string x140000_2, .int .i64 x140001_2, .string x140002_2]) ?_ 0 _ rfl; (with_reducible repeat (first | refine blk_drewN ?_ _ | refine blk_drew ?_ | refine blk_alloc ?_ _)); exact BK139.out) hb); have n2_ := am_ (blk_below (g := gb140) (o := .cells #[.string (⟨#[]⟩ : ByteArray), .int .i64 0, .string (⟨#[]⟩ : ByteArray)] 27 (0, 0)) (by (with_reducible repeat (first | refine blk_drewN ?_ _ | refine blk_drew ?_ | refine blk_alloc ?_ _)); refine blk_far ?_ NB140_139.out _; (with_reducible repeat (first | refine blk_drewN ?_ _ | refine blk_drew ?_ | refine blk_alloc ?_ _)); refine blk_far ?_ NB140_139.out _; (with_reducible repeat (first | refine blk_drewN ?_ _ | refine blk_drew ?_ | refine blk_alloc ?_ _)); refine blk_far ?_ NB140_139.out _; (with_reducible repeat (first | refine blk_drewN ?_ _ | refine blk_drew ?_ | refine blk_alloc ?_ _)); exact BK140.out) hb); have n3_ := am_ (blk_below (g := gb145) (o := .cells #[.string ((rd_T49 l0 t143).f0), .int .i64 ((rd_T49 l0 t143).f1), .slice A144_2 ((rd_T49 l0 t143).f2).length c144_2, .string ((rd_T49 l0 t143).f3)] 49 (0, 0)) (by (with_reducible repeat (first | refine blk_drewN ?_ _ | refine blk_drew ?_ | refine blk_alloc ?_ _)); refine blk_far ?_ NB145_139.out _; (with_reducible repeat (first | refine blk_drewN ?_ _ | refine blk_drew ?_ | refine blk_alloc ?_ _)); refine blk_far ?_ NB145_139.out _; (with_reducible repeat (first | refine blk_drewN ?_ _ | refine blk_drew ?_ | refine blk_alloc ?_ _)); refine blk_far ?_ NB145_139.out _; (with_reducible repeat (first | refine blk_drewN ?_ _ | refine blk_drew ?_ | refine blk_alloc ?_ _)); exact BK145.out) hb); have n4_ := am_ (below_step (bw_ HB.out) hb); replace HO_9 := n0_; replace BK139 := n1_; replace BK140 := n2_; replace BK145 := n3_; replace HB := n4_; clear n0_ n1_ n2_ n3_ n4_; (try clear hb); (try clear hb2); (try clear hk); (try clear hi); have p148 : 0 ≤ (t147 : Int) := od_; have q148 : t147 < (l0.length : Int) := od_; obtain ⟨ad148, A148_2, c148_2, e148, hx148_0, hx148_1, hx148_2, hx148_3, hl148_2, hi148_2⟩ := at_T49 HR0.out t147 p148 q148; obtain rfl : ad144 = ad148 := (by injection e148); (try replace hx148_0 := hc_ HB.out hx148_0); (try replace hx148_1 := hc_ HB.out hx148_1); (try replace hx148_2 := hc_ HB.out hx148_2); (try replace hx148_3 := hc_ HB.out hx148_3); have HR148_2 := am_ hi148_2; have HC148_2 := am_ hl148_2; clear hi148_2 hl148_2; replace p148 := eq_true p148; replace q148 := eq_true q148; have hnb54 := NB145_140.out; have hnc54 := NB140_145.out; have hcz55_0 := cz_ BK145.out 0; have hcz55_1 := cz_ BK145.out 1; have hcz55_2 := cz_ BK145.out 2; have hcz55_3 := cz_ BK145.out 3; have hfz55_0 := blk_frozen BK145.out 0; have hfz55_1 := blk_frozen BK145.out 1; have hfz55_2 := blk_frozen BK145.out 2; have hfz55_3 := blk_frozen BK145.out 3))
           have n0_ : Aside0 (Kd.R Kd.string 9 ((((w53.setCell ⟨gb145, 0, none⟩ (.string ((rd_T49 l0 t147).f0))).setCell ⟨gb145, 1, none⟩ (.int .i64 ((rd_T49 l0 t147).f1))).setCell ⟨gb145, 2, none⟩ (.slice A148_2 ((rd_T49 l0 t147).f2).length c148_2)).setCell ⟨gb145, 3, none⟩ (.string ((rd_T49 l0 t147).f3))) w.heap.size (fun _ => True) u9 x9_2) := ⟨ra_ (Kd.R_mono (Kd.R_far (p := ⟨gb145, 3, none⟩) (Kd.R_far (p := ⟨gb145, 2, none⟩) (Kd.R_far (p := ⟨gb145, 1, none⟩) (Kd.R_far (p := ⟨gb145, 0, none⟩) (Kd.R_types HO_9.out BK145.out (by decide)) (fun _ hk => hk.2) (.string ((rd_T49 l0 t147).f0))) (fun _ hk => hk.2) (.int .i64 ((rd_T49 l0 t147).f1))) (fun _ hk => hk.2) (.slice A148_2 ((rd_T49 l0 t147).f2).length c148_2)) (fun _ hk => hk.2) (.string ((rd_T49 l0 t147).f3))) (fun _ hk => trivial))⟩
           have n1_ : Aside0 (((((w53.setCell ⟨gb145, 0, none⟩ (.string ((rd_T49 l0 t147).f0))).setCell ⟨gb145, 1, none⟩ (.int .i64 ((rd_T49 l0 t147).f1))).setCell ⟨gb145, 2, none⟩ (.slice A148_2 ((rd_T49 l0 t147).f2).length c148_2)).setCell ⟨gb145, 3, none⟩ (.string ((rd_T49 l0 t147).f3))).heap[gb139]? = some (.cells #[.string x140002_2, .int .i64 0, .string (⟨#[]⟩ : ByteArray)] 27 (0, 0))) := ⟨by (with_reducible repeat (first | refine blk_drewN ?_ _ | refine blk_drew ?_ | refine blk_alloc ?_ _)); refine blk_far ?_ NB139_145.out _; (with_reducible repeat (first | refine blk_drewN ?_ _ | refine blk_drew ?_ | refine blk_alloc ?_ _)); refine blk_far ?_ NB139_145.out _; (with_reducible repeat (first | refine blk_drewN ?_ _ | refine blk_drew ?_ | refine blk_alloc ?_ _)); refine blk_far ?_ NB139_145.out _; (with_reducible repeat (first | refine blk_drewN ?_ _ | refine blk_drew ?_ | refine blk_alloc ?_ _)); refine blk_far ?_ NB139_145.out _; (with_reducible repeat (first | refine blk_drewN ?_ _ | refine blk_drew ?_ | refine blk_alloc ?_ _)); exact BK139.out⟩
           have n2_ : Aside0 (((((w53.setCell ⟨gb145, 0, none⟩ (.string ((rd_T49 l0 t147).f0))).setCell ⟨gb145, 1, none⟩ (.int .i64 ((rd_T49 l0 t147).f1))).setCell ⟨gb145, 2, none⟩ (.slice A148_2 ((rd_T49 l0 t147).f2).length c148_2)).setCell ⟨gb145, 3, none⟩ (.string ((rd_T49 l0 t147).f3))).heap[gb140]? = some (.cells #[.string (⟨#[]⟩ : ByteArray), .int .i64 0, .string (⟨#[]⟩ : ByteArray)] 27 (0, 0))) := ⟨by (with_reducible repeat (first | refine blk_drewN ?_ _ | refine blk_drew ?_ | refine blk_alloc ?_ _)); refine blk_far ?_ NB140_145.out _; (with_reducible repeat (first | refine blk_drewN ?_ _ | refine blk_drew ?_ | refine blk_alloc ?_ _)); refine blk_far ?_ NB140_145.out _; (with_reducible repeat (first | refine blk_drewN ?_ _ | refine blk_drew ?_ | refine blk_alloc ?_ _)); refine blk_far ?_ NB140_145.out _; (with_reducible repeat (first | refine blk_drewN ?_ _ | refine blk_drew ?_ | refine blk_alloc ?_ _)); refine blk_far ?_ NB140_145.out _; (with_reducible repeat (first | refine blk_drewN ?_ _ | refine blk_drew ?_ | refine blk_alloc ?_ _)); exact BK140.out⟩
           have n3_ : Aside0 (((((w53.setCell ⟨gb145, 0, none⟩ (.string ((rd_T49 l0 t147).f0))).setCell ⟨gb145, 1, none⟩ (.int .i64 ((rd_T49 l0 t147).f1))).setCell ⟨gb145, 2, none⟩ (.slice A148_2 ((rd_T49 l0 t147).f2).length c148_2)).setCell ⟨gb145, 3, none⟩ (.string ((rd_T49 l0 t147).f3))).heap[gb145]? = some (.cells #[.string ((rd_T49 l0 t147).f0), .int .i64 ((rd_T49 l0 t147).f1), .slice A148_2 ((rd_T49 l0 t147).f2).length c148_2, .string ((rd_T49 l0 t147).f3)] 49 (0, 0))) := ⟨by (with_reducible repeat (first | refine blk_drewN ?_ _ | refine blk_drew ?_ | refine blk_alloc ?_ _)); refine blk_put (cs := #[.string ((rd_T49 l0 t147).f0), .int .i64 ((rd_T49 l0 t147).f1), .slice A148_2 ((rd_T49 l0 t147).f2).length c148_2, .string ((rd_T49 l0 t143).f3)]) ?_ 3 _ rfl; (with_reducible repeat (first | refine blk_drewN ?_ _ | refine blk_drew ?_ | refine blk_alloc ?_ _)); refine blk_put (cs := #[.string ((rd_T49 l0 t147).f0), .int .i64 ((rd_T49 l0 t147).f1), .slice A144_2 ((rd_T49 l0 t143).f2).length c144_2, .string ((rd_T49 l0 t143).f3)]) ?_ 2 _ rfl; (with_reducible repeat (first | refine blk_drewN ?_ _ | refine blk_drew ?_ | refine blk_alloc ?_ _)); refine blk_put (cs := #[.string ((rd_T49 l0 t147).f0), .int .i64 ((rd_T49 l0 t143).f1), .slice A144_2 ((rd_T49 l0 t143).f2).length c144_2, .string ((rd_T49 l0 t143).f3)]) ?_ 1 _ rfl; (with_reducible repeat (first | refine blk_drewN ?_ _ | refine blk_drew ?_ | refine blk_alloc ?_ _)); refine blk_put (cs := #[.string ((rd_T49 l0 t143).f0), .int .i64 ((rd_T49 l0 t143).f1), .slice A144_2 ((rd_T49 l0 t143).f2).length c144_2, .string ((rd_T49 l0 t143).f3)]) ?_ 0 _ rfl; (with_reducible repeat (first | refine blk_drewN ?_ _ | refine blk_drew ?_ | refine blk_alloc ?_ _)); exact BK145.out⟩
           have n4_ : Aside0 (Below w.heap.size w ((((w53.setCell ⟨gb145, 0, none⟩ (.string ((rd_T49 l0 t147).f0))).setCell ⟨gb145, 1, none⟩ (.int .i64 ((rd_T49 l0 t147).f1))).setCell ⟨gb145, 2, none⟩ (.slice A148_2 ((rd_T49 l0 t147).f2).length c148_2)).setCell ⟨gb145, 3, none⟩ (.string ((rd_T49 l0 t147).f3)))) := ⟨bw_ HB.out⟩
           (try clear HO_9)
           (try clear BK139)
           (try clear BK140)
           (try clear BK145)
           (try clear HB)
           generalize ((((w53.setCell ⟨gb145, 0, none⟩ (.string ((rd_T49 l0 t147).f0))).setCell ⟨gb145, 1, none⟩ (.int .i64 ((rd_T49 l0 t147).f1))).setCell ⟨gb145, 2, none⟩ (.slice A148_2 ((rd_T49 l0 t147).f2).length c148_2)).setCell ⟨gb145, 3, none⟩ (.string ((rd_T49 l0 t147).f3))) = w56 at n0_ n1_ n2_ n3_ n4_ ⊢
           have HO_9 := n0_
           have BK139 := n1_
           have BK140 := n2_
           have BK145 := n3_
           have HB := n4_
           clear n0_ n1_ n2_ n3_ n4_
           have n0_ := am_ (Kd.R_drew HO_9.out)
           have n1_ := am_ (blk_drew BK139.out)
           have n2_ := am_ (blk_drew BK140.out)
           have n3_ := am_ (blk_drew BK145.out)
           have n4_ := am_ (below_drew1 HB.out)
           replace HO_9 := n0_
           replace BK139 := n1_
           replace BK140 := n2_
           replace BK145 := n3_
           replace HB := n4_
           clear n0_ n1_ n2_ n3_ n4_
           refine start_ (n := 11) (S := fun w' => w'.cell? ⟨gb139, 0, none⟩ = some (.string x140002_2) ∧ w'.cell? ⟨gb139, 1, none⟩ = some (.int .i64 0) ∧ w'.cell? ⟨gb139, 2, none⟩ = some (.string (⟨#[]⟩ : ByteArray))) (ds := []) (Array.replicate 11 false) (by kernel_rfl) rfl rfl ⟨cz_ BK139.out 0, cz_ BK139.out 1, cz_ BK139.out 2⟩ (fun hHeld => ?_); refine with_tabW spec_RunMusic.tab10 spec_RunMusic.bits10 (fun HT_ HW_ => ?_)
           generalize w56.drew = w57 at HO_9 BK139 BK140 BK145 HB hHeld ⊢
           refine pS_ 0 52 HT_ ?_
           refine pS_ 1 53 HT_ ?_
           refine pS_ 4 56 HT_ ?_
           refine tS_ 2 54 HT_ HW_ hHeld ?_
           refine pS_ 3 55 HT_ ?_
           refine tS_ 5 57 HT_ HW_ hHeld ?_
           refine oS_ 6 58 HT_ (fun K hK => ?_)
           refine goes_ Tryd.func24 (by kernel_rfl) rfl #[.int .i64 0] (by rfl) rfl rfl (by (try simp only [List.map_toArray, List.map_cons, List.map_nil]); first | done | rfl | (simp only [List.length_drop, List.length_take]; rfl)) ?_
           with_reducible refine (spec_l1Num.calls kj22 0 t149 _ A46.out).mono ?_
           rintro e w58 ⟨rfl, hb⟩
           refine ⟨_, rfl, ?_⟩
           have n0_ := am_ (Kd.R_below (ra_ HO_9.out) hb)
           have n1_ := am_ (blk_below (bk_ BK139.out) hb)
           have n2_ := am_ (blk_below (bk_ BK140.out) hb)
           have n3_ := am_ (blk_below (bk_ BK145.out) hb)
           have n4_ := am_ (below_step (bw_ HB.out) hb)
           replace HO_9 := n0_
           replace BK139 := n1_
           replace BK140 := n2_
           replace BK145 := n3_
           replace HB := n4_
           clear n0_ n1_ n2_ n3_ n4_
           (try clear hb)
           (try clear hb2)
           (try clear hk)
           (try clear hi)
           refine hK.out _ _ ⟨cz_ BK139.out 0, cz_ BK139.out 1, cz_ BK139.out 2⟩ (fun hHeld => ?_)
           clear hK K
           refine nS_ ?_
           refine pS_ 7 59 HT_ ?_
           refine oS_ 8 60 HT_ (fun K hK => ?_)
           refine value_ (w1 := ?_) (v := ?_) (by rfl) rfl ?_ ?_
           rotate_left 2
           ·go_simp
            constructor
            ·rfl
            ·rfl
           refine hK.out _ _ ⟨(blk_cell (blk_alloc BK139.out _) 0).trans rfl, (blk_cell (blk_alloc BK139.out _) 1).trans rfl, (blk_cell (blk_alloc BK139.out _) 2).trans rfl⟩ (fun hHeld => ?_)
           clear hK K
           refine nS_ ?_
           refine oS_ 9 61 HT_ (fun K hK => ?_)
           refine Kd.R_append_step Kd.string (w0 := w) w.heap.size (by rfl) (.tmp 52) (.tmp 60) 28 9 (.string ⟨#[]⟩) 16 rfl Tryd.underlying28 info9 rfl (by decide) (by omega) u9 x9_2 ((x140002_2 ++ (⟨#[58]⟩ : ByteArray)) ++ t149) [.string ((x140002_2 ++ (⟨#[58]⟩ : ByteArray)) ++ t149)] (fun _ => True) (fun _ => False) rfl rfl ?aP (fun _ hk => hk.elim) ?aF ?aO ?aB ?aS ?aL ?_
           (case aP => exact rfl)
           (case aB => exact (bw_ HB.out))
           (case aF => exact (fun _ _ => trivial))
           (case aO => exact (ra_ HO_9.out))
           (case aS => exact (below_size (bw_ HB.out)))
           (case aL => have := LMc48.out; omega)
           intro v151 w59 ho hb hg hat
           rw [← Ny150.out] at ho
           have n0_ := am_ (blk_grown (bk_ BK139.out) hg (Kd.R_ne HO_9.out BK139.out (by decide)))
           have n1_ := am_ (blk_grown (bk_ BK140.out) hg (Kd.R_ne HO_9.out BK140.out (by decide)))
           have n2_ := am_ (blk_grown (bk_ BK145.out) hg (Kd.R_ne HO_9.out BK145.out (by decide)))
           have n3_ := am_ (hb)
           have n4_ := am_ (ho)
           clear HO_9
           replace BK139 := n0_
           replace BK140 := n1_
           replace BK145 := n2_
           replace HB := n3_
           have HO152 := n4_
           clear n0_ n1_ n2_ n3_ n4_
           clear ho hb hg hat
           refine hK.out _ _ ⟨cz_ BK139.out 0, cz_ BK139.out 1, cz_ BK139.out 2⟩ (fun hHeld => ?_)
           clear hK K
           refine nS_ ?_
           refine pS_ 10 9 HT_ ?_
           refine done_ (done_of HT_.out (by kernel_rfl)) ?_
           have hcz60_0 := cz_ BK139.out 0
           have hcz60_1 := cz_ BK139.out 1
           have hcz60_2 := cz_ BK139.out 2
           have hfz60_0 := blk_frozen BK139.out 0
           have hfz60_1 := blk_frozen BK139.out 1
           have hfz60_2 := blk_frozen BK139.out 2
           have hcz61_0 := cz_ BK145.out 0
           have hcz61_1 := cz_ BK145.out 1
           have hcz61_2 := cz_ BK145.out 2
           have hcz61_3 := cz_ BK145.out 3
           have hfz61_0 := blk_frozen BK145.out 0
           have hfz61_1 := blk_frozen BK145.out 1
           have hfz61_2 := blk_frozen BK145.out 2
           have hfz61_3 := blk_frozen BK145.out 3
           try go_wp2
           go_roundg kj22
           case measure => have := HJ3.out; have := HK2.out; have := HJ22.out; omega
           case rel => exact ⟨(wrap64 (x2_2 - 1)), (y150), ((rd_T49 l0 t147).f3), (0), ((⟨#[]⟩ : ByteArray)), sq_, H', ⟨by have := HJ3.out; have := HK2.out; have := HJ22.out; omega⟩, ⟨ra_ (Kd.R_mono (Kd.R_far (p := ⟨gb139, 1, none⟩) (Kd.R_far (p := ⟨gb139, 0, none⟩) (Kd.R_far (p := ⟨gb139, 1, none⟩) (Kd.R_types HO152.out BK139.out (by decide)) (fun _ hk => hk.2) (.int .i64 1)) (fun _ hk => hk.2) (.string ((rd_T49 l0 t147).f3))) (fun _ hk => hk.2) (.int .i64 0)) (fun _ hk => trivial))⟩, ⟨by (with_reducible repeat (first | refine blk_drewN ?_ _ | refine blk_drew ?_ | refine blk_alloc ?_ _)); refine blk_put (cs := #[.string ((rd_T49 l0 t147).f3), .int .i64 1, .string (⟨#[]⟩ : ByteArray)]) ?_ 1 _ rfl; (with_reducible repeat (first | refine blk_drewN ?_ _ | refine blk_drew ?_ | refine blk_alloc ?_ _)); refine blk_put (cs := #[.string x140002_2, .int .i64 1, .string (⟨#[]⟩ : ByteArray)]) ?_ 0 _ rfl; (with_reducible repeat (first | refine blk_drewN ?_ _ | refine blk_drew ?_ | refine blk_alloc ?_ _)); refine blk_put (cs := #[.string x140002_2, .int .i64 0, .string (⟨#[]⟩ : ByteArray)]) ?_ 1 _ rfl; (with_reducible repeat (first | refine blk_drewN ?_ _ | refine blk_drew ?_ | refine blk_alloc ?_ _)); exact BK139.out⟩, ⟨by (with_reducible repeat (first | refine blk_drewN ?_ _ | refine blk_drew ?_ | refine blk_alloc ?_ _)); refine blk_far ?_ NB140_139.out _; (with_reducible repeat (first | refine blk_drewN ?_ _ | refine blk_drew ?_ | refine blk_alloc ?_ _)); refine blk_far ?_ NB140_139.out _; (with_reducible repeat (first | refine blk_drewN ?_ _ | refine blk_drew ?_ | refine blk_alloc ?_ _)); refine blk_far ?_ NB140_139.out _; (with_reducible repeat (first | refine blk_drewN ?_ _ | refine blk_drew ?_ | refine blk_alloc ?_ _)); exact BK140.out⟩, ⟨bw_ HB.out⟩⟩
          ·rw [if_neg c49] at H
           have c49b0 : (1 == ((rd_T49 l0 t147).f1)) = false := beq_eq_false_iff_ne.mpr c49
           have c49b1 : (1 != ((rd_T49 l0 t147).f1)) = true := bne_iff_ne.mpr c49
           have H' := am_ H
           clear H
           have hnb62 := NB139_140.out
           have hnc62 := NB140_139.out
           have hnb63 := NB139_145.out
           have hnc63 := NB145_139.out
           have hcz64_0 := cz_ BK139.out 0
           have hcz64_1 := cz_ BK139.out 1
           have hcz64_2 := cz_ BK139.out 2
           have hfz64_0 := blk_frozen BK139.out 0
           have hfz64_1 := blk_frozen BK139.out 1
           have hfz64_2 := blk_frozen BK139.out 2
           try go_wp2_with (first | ((with_reducible refine gate_callee (f := 22) rfl ?_); refine goesL_ (some 49) rfl rfl Tryd.func22 (by kernel_rfl) rfl #[.slice (some ad144) l0.length c0, .string x140002_2] rfl (by (try simp only [List.map_toArray, List.map_cons, List.map_nil]); first | done | rfl | (simp only [List.length_drop, List.length_take]; rfl)) ?_; (with_reducible refine (spec_l15Section.calls kj22 _ _ l0 x140002_2 t147 _ ?side1 ?side2 A42.out).mono ?_); (case side1 => exact Kd.C_below HR0.out (bw_ HB.out)); (case side2 => exact HC0.out); rintro e w65 ⟨rfl, hb⟩; refine ⟨_, rfl, ?_⟩; have n0_ := am_ (Kd.R_below (ra_ ((Kd.R_mono (Kd.R_far (p := ⟨gb139, 2, none⟩) (Kd.R_far (p := ⟨gb139, 1, none⟩) (Kd.R_far (p := ⟨gb139, 0, none⟩) (Kd.R_types HO_9.out BK139.out (by decide)) (fun _ hk => hk.2) (.string x140002_2)) (fun _ hk => hk.2) (.int .i64 0)) (fun _ hk => hk.2) (.string (⟨#[]⟩ : ByteArray))) (fun _ h_ => h_.1)))) hb); have n1_ := am_ (blk_below (g := gb139) (o := .cells #[.string x140002_2, .int .i64 0, .string (⟨#[]⟩ : ByteArray)] 27 (0, 0)) (by (with_reducible repeat (first | refine blk_drewN ?_ _ | refine blk_drew ?_ | refine blk_alloc ?_ _)); refine blk_put (cs := #[.string x140002_2, .int .i64 0, .string x140002_2]) ?_ 2 _ rfl; (with_reducible repeat (first | refine blk_drewN ?_ _ | refine blk_drew ?_ | refine blk_alloc ?_ _)); refine blk_put (cs := #[.string x140002_2, .int .i64 x140001_2, .string x140002_2]) ?_ 1 _ rfl; (with_reducible repeat (first | refine blk_drewN ?_ _ | refine blk_drew ?_ | refine blk_alloc ?_ _)); refine blk_put (cs := #[.string x140000_2, .int .i64 x140001_2, .string x140002_2]) ?_ 0 _ rfl; (with_reducible repeat (first | refine blk_drewN ?_ _ | refine blk_drew ?_ | refine blk_alloc ?_ _)); exact BK139.out) hb); have n2_ := am_ (blk_below (g := gb140) (o := .cells #[.string (⟨#[]⟩ : ByteArray), .int .i64 0, .string (⟨#[]⟩ : ByteArray)] 27 (0, 0)) (by (with_reducible repeat (first | refine blk_drewN ?_ _ | refine blk_drew ?_ | refine blk_alloc ?_ _)); refine blk_far ?_ NB140_139.out _; (with_reducible repeat (first | refine blk_drewN ?_ _ | refine blk_drew ?_ | refine blk_alloc ?_ _)); refine blk_far ?_ NB140_139.out _; (with_reducible repeat (first | refine blk_drewN ?_ _ | refine blk_drew ?_ | refine blk_alloc ?_ _)); refine blk_far ?_ NB140_139.out _; (with_reducible repeat (first | refine blk_drewN ?_ _ | refine blk_drew ?_ | refine blk_alloc ?_ _)); exact BK140.out) hb); have n3_ := am_ (blk_below (g := gb145) (o := .cells #[.string ((rd_T49 l0 t143).f0), .int .i64 ((rd_T49 l0 t143).f1), .slice A144_2 ((rd_T49 l0 t143).f2).length c144_2, .string ((rd_T49 l0 t143).f3)] 49 (0, 0)) (by (with_reducible repeat (first | refine blk_drewN ?_ _ | refine blk_drew ?_ | refine blk_alloc ?_ _)); refine blk_far ?_ NB145_139.out _; (with_reducible repeat (first | refine blk_drewN ?_ _ | refine blk_drew ?_ | refine blk_alloc ?_ _)); refine blk_far ?_ NB145_139.out _; (with_reducible repeat (first | refine blk_drewN ?_ _ | refine blk_drew ?_ | refine blk_alloc ?_ _)); refine blk_far ?_ NB145_139.out _; (with_reducible repeat (first | refine blk_drewN ?_ _ | refine blk_drew ?_ | refine blk_alloc ?_ _)); exact BK145.out) hb); have n4_ := am_ (below_step (bw_ HB.out) hb); replace HO_9 := n0_; replace BK139 := n1_; replace BK140 := n2_; replace BK145 := n3_; replace HB := n4_; clear n0_ n1_ n2_ n3_ n4_; (try clear hb); (try clear hb2); (try clear hk); (try clear hi); have p148 : 0 ≤ (t147 : Int) := od_; have q148 : t147 < (l0.length : Int) := od_; obtain ⟨ad148, A148_2, c148_2, e148, hx148_0, hx148_1, hx148_2, hx148_3, hl148_2, hi148_2⟩ := at_T49 HR0.out t147 p148 q148; obtain rfl : ad144 = ad148 := (by injection e148); (try replace hx148_0 := hc_ HB.out hx148_0); (try replace hx148_1 := hc_ HB.out hx148_1); (try replace hx148_2 := hc_ HB.out hx148_2); (try replace hx148_3 := hc_ HB.out hx148_3); have HR148_2 := am_ hi148_2; have HC148_2 := am_ hl148_2; clear hi148_2 hl148_2; replace p148 := eq_true p148; replace q148 := eq_true q148; have hnb66 := NB145_140.out; have hnc66 := NB140_145.out; have hcz67_0 := cz_ BK145.out 0; have hcz67_1 := cz_ BK145.out 1; have hcz67_2 := cz_ BK145.out 2; have hcz67_3 := cz_ BK145.out 3; have hfz67_0 := blk_frozen BK145.out 0; have hfz67_1 := blk_frozen BK145.out 1; have hfz67_2 := blk_frozen BK145.out 2; have hfz67_3 := blk_frozen BK145.out 3))
           have n0_ : Aside0 (Kd.R Kd.string 9 ((((w65.setCell ⟨gb145, 0, none⟩ (.string ((rd_T49 l0 t147).f0))).setCell ⟨gb145, 1, none⟩ (.int .i64 ((rd_T49 l0 t147).f1))).setCell ⟨gb145, 2, none⟩ (.slice A148_2 ((rd_T49 l0 t147).f2).length c148_2)).setCell ⟨gb145, 3, none⟩ (.string ((rd_T49 l0 t147).f3))) w.heap.size (fun _ => True) u9 x9_2) := ⟨ra_ (Kd.R_mono (Kd.R_far (p := ⟨gb145, 3, none⟩) (Kd.R_far (p := ⟨gb145, 2, none⟩) (Kd.R_far (p := ⟨gb145, 1, none⟩) (Kd.R_far (p := ⟨gb145, 0, none⟩) (Kd.R_types HO_9.out BK145.out (by decide)) (fun _ hk => hk.2) (.string ((rd_T49 l0 t147).f0))) (fun _ hk => hk.2) (.int .i64 ((rd_T49 l0 t147).f1))) (fun _ hk => hk.2) (.slice A148_2 ((rd_T49 l0 t147).f2).length c148_2)) (fun _ hk => hk.2) (.string ((rd_T49 l0 t147).f3))) (fun _ hk => trivial))⟩
           have n1_ : Aside0 (((((w65.setCell ⟨gb145, 0, none⟩ (.string ((rd_T49 l0 t147).f0))).setCell ⟨gb145, 1, none⟩ (.int .i64 ((rd_T49 l0 t147).f1))).setCell ⟨gb145, 2, none⟩ (.slice A148_2 ((rd_T49 l0 t147).f2).length c148_2)).setCell ⟨gb145, 3, none⟩ (.string ((rd_T49 l0 t147).f3))).heap[gb139]? = some (.cells #[.string x140002_2, .int .i64 0, .string (⟨#[]⟩ : ByteArray)] 27 (0, 0))) := ⟨by (with_reducible repeat (first | refine blk_drewN ?_ _ | refine blk_drew ?_ | refine blk_alloc ?_ _)); refine blk_far ?_ NB139_145.out _; (with_reducible repeat (first | refine blk_drewN ?_ _ | refine blk_drew ?_ | refine blk_alloc ?_ _)); refine blk_far ?_ NB139_145.out _; (with_reducible repeat (first | refine blk_drewN ?_ _ | refine blk_drew ?_ | refine blk_alloc ?_ _)); refine blk_far ?_ NB139_145.out _; (with_reducible repeat (first | refine blk_drewN ?_ _ | refine blk_drew ?_ | refine blk_alloc ?_ _)); refine blk_far ?_ NB139_145.out _; (with_reducible repeat (first | refine blk_drewN ?_ _ | refine blk_drew ?_ | refine blk_alloc ?_ _)); exact BK139.out⟩
           have n2_ : Aside0 (((((w65.setCell ⟨gb145, 0, none⟩ (.string ((rd_T49 l0 t147).f0))).setCell ⟨gb145, 1, none⟩ (.int .i64 ((rd_T49 l0 t147).f1))).setCell ⟨gb145, 2, none⟩ (.slice A148_2 ((rd_T49 l0 t147).f2).length c148_2)).setCell ⟨gb145, 3, none⟩ (.string ((rd_T49 l0 t147).f3))).heap[gb140]? = some (.cells #[.string (⟨#[]⟩ : ByteArray), .int .i64 0, .string (⟨#[]⟩ : ByteArray)] 27 (0, 0))) := ⟨by (with_reducible repeat (first | refine blk_drewN ?_ _ | refine blk_drew ?_ | refine blk_alloc ?_ _)); refine blk_far ?_ NB140_145.out _; (with_reducible repeat (first | refine blk_drewN ?_ _ | refine blk_drew ?_ | refine blk_alloc ?_ _)); refine blk_far ?_ NB140_145.out _; (with_reducible repeat (first | refine blk_drewN ?_ _ | refine blk_drew ?_ | refine blk_alloc ?_ _)); refine blk_far ?_ NB140_145.out _; (with_reducible repeat (first | refine blk_drewN ?_ _ | refine blk_drew ?_ | refine blk_alloc ?_ _)); refine blk_far ?_ NB140_145.out _; (with_reducible repeat (first | refine blk_drewN ?_ _ | refine blk_drew ?_ | refine blk_alloc ?_ _)); exact BK140.out⟩
           have n3_ : Aside0 (((((w65.setCell ⟨gb145, 0, none⟩ (.string ((rd_T49 l0 t147).f0))).setCell ⟨gb145, 1, none⟩ (.int .i64 ((rd_T49 l0 t147).f1))).setCell ⟨gb145, 2, none⟩ (.slice A148_2 ((rd_T49 l0 t147).f2).length c148_2)).setCell ⟨gb145, 3, none⟩ (.string ((rd_T49 l0 t147).f3))).heap[gb145]? = some (.cells #[.string ((rd_T49 l0 t147).f0), .int .i64 ((rd_T49 l0 t147).f1), .slice A148_2 ((rd_T49 l0 t147).f2).length c148_2, .string ((rd_T49 l0 t147).f3)] 49 (0, 0))) := ⟨by (with_reducible repeat (first | refine blk_drewN ?_ _ | refine blk_drew ?_ | refine blk_alloc ?_ _)); refine blk_put (cs := #[.string ((rd_T49 l0 t147).f0), .int .i64 ((rd_T49 l0 t147).f1), .slice A148_2 ((rd_T49 l0 t147).f2).length c148_2, .string ((rd_T49 l0 t143).f3)]) ?_ 3 _ rfl; (with_reducible repeat (first | refine blk_drewN ?_ _ | refine blk_drew ?_ | refine blk_alloc ?_ _)); refine blk_put (cs := #[.string ((rd_T49 l0 t147).f0), .int .i64 ((rd_T49 l0 t147).f1), .slice A144_2 ((rd_T49 l0 t143).f2).length c144_2, .string ((rd_T49 l0 t143).f3)]) ?_ 2 _ rfl; (with_reducible repeat (first | refine blk_drewN ?_ _ | refine blk_drew ?_ | refine blk_alloc ?_ _)); refine blk_put (cs := #[.string ((rd_T49 l0 t147).f0), .int .i64 ((rd_T49 l0 t143).f1), .slice A144_2 ((rd_T49 l0 t143).f2).length c144_2, .string ((rd_T49 l0 t143).f3)]) ?_ 1 _ rfl; (with_reducible repeat (first | refine blk_drewN ?_ _ | refine blk_drew ?_ | refine blk_alloc ?_ _)); refine blk_put (cs := #[.string ((rd_T49 l0 t143).f0), .int .i64 ((rd_T49 l0 t143).f1), .slice A144_2 ((rd_T49 l0 t143).f2).length c144_2, .string ((rd_T49 l0 t143).f3)]) ?_ 0 _ rfl; (with_reducible repeat (first | refine blk_drewN ?_ _ | refine blk_drew ?_ | refine blk_alloc ?_ _)); exact BK145.out⟩
           have n4_ : Aside0 (Below w.heap.size w ((((w65.setCell ⟨gb145, 0, none⟩ (.string ((rd_T49 l0 t147).f0))).setCell ⟨gb145, 1, none⟩ (.int .i64 ((rd_T49 l0 t147).f1))).setCell ⟨gb145, 2, none⟩ (.slice A148_2 ((rd_T49 l0 t147).f2).length c148_2)).setCell ⟨gb145, 3, none⟩ (.string ((rd_T49 l0 t147).f3)))) := ⟨bw_ HB.out⟩
           (try clear HO_9)
           (try clear BK139)
           (try clear BK140)
           (try clear BK145)
           (try clear HB)
           generalize ((((w65.setCell ⟨gb145, 0, none⟩ (.string ((rd_T49 l0 t147).f0))).setCell ⟨gb145, 1, none⟩ (.int .i64 ((rd_T49 l0 t147).f1))).setCell ⟨gb145, 2, none⟩ (.slice A148_2 ((rd_T49 l0 t147).f2).length c148_2)).setCell ⟨gb145, 3, none⟩ (.string ((rd_T49 l0 t147).f3))) = w68 at n0_ n1_ n2_ n3_ n4_ ⊢
           have HO_9 := n0_
           have BK139 := n1_
           have BK140 := n2_
           have BK145 := n3_
           have HB := n4_
           clear n0_ n1_ n2_ n3_ n4_
           have n0_ := am_ (Kd.R_drew HO_9.out)
           have n1_ := am_ (blk_drew BK139.out)
           have n2_ := am_ (blk_drew BK140.out)
           have n3_ := am_ (blk_drew BK145.out)
           have n4_ := am_ (below_drew1 HB.out)
           replace HO_9 := n0_
           replace BK139 := n1_
           replace BK140 := n2_
           replace BK145 := n3_
           replace HB := n4_
           clear n0_ n1_ n2_ n3_ n4_
           refine start_ (n := 11) (S := fun w' => w'.cell? ⟨gb139, 0, none⟩ = some (.string x140002_2) ∧ w'.cell? ⟨gb139, 1, none⟩ = some (.int .i64 0) ∧ w'.cell? ⟨gb139, 2, none⟩ = some (.string (⟨#[]⟩ : ByteArray))) (ds := []) (Array.replicate 11 false) (by kernel_rfl) rfl rfl ⟨cz_ BK139.out 0, cz_ BK139.out 1, cz_ BK139.out 2⟩ (fun hHeld => ?_); refine with_tabW spec_RunMusic.tab10 spec_RunMusic.bits10 (fun HT_ HW_ => ?_)
           generalize w68.drew = w69 at HO_9 BK139 BK140 BK145 HB hHeld ⊢
           refine pS_ 0 52 HT_ ?_
           refine pS_ 1 53 HT_ ?_
           refine pS_ 4 56 HT_ ?_
           refine tS_ 2 54 HT_ HW_ hHeld ?_
           refine pS_ 3 55 HT_ ?_
           refine tS_ 5 57 HT_ HW_ hHeld ?_
           refine oS_ 6 58 HT_ (fun K hK => ?_)
           refine goes_ Tryd.func24 (by kernel_rfl) rfl #[.int .i64 0] (by rfl) rfl rfl (by (try simp only [List.map_toArray, List.map_cons, List.map_nil]); first | done | rfl | (simp only [List.length_drop, List.length_take]; rfl)) ?_
           with_reducible refine (spec_l1Num.calls kj22 0 t149 _ A46.out).mono ?_
           rintro e w70 ⟨rfl, hb⟩
           refine ⟨_, rfl, ?_⟩
           have n0_ := am_ (Kd.R_below (ra_ HO_9.out) hb)
           have n1_ := am_ (blk_below (bk_ BK139.out) hb)
           have n2_ := am_ (blk_below (bk_ BK140.out) hb)
           have n3_ := am_ (blk_below (bk_ BK145.out) hb)
           have n4_ := am_ (below_step (bw_ HB.out) hb)
           replace HO_9 := n0_
           replace BK139 := n1_
           replace BK140 := n2_
           replace BK145 := n3_
           replace HB := n4_
           clear n0_ n1_ n2_ n3_ n4_
           (try clear hb)
           (try clear hb2)
           (try clear hk)
           (try clear hi)
           refine hK.out _ _ ⟨cz_ BK139.out 0, cz_ BK139.out 1, cz_ BK139.out 2⟩ (fun hHeld => ?_)
           clear hK K
           refine nS_ ?_
           refine pS_ 7 59 HT_ ?_
           refine oS_ 8 60 HT_ (fun K hK => ?_)
           refine value_ (w1 := ?_) (v := ?_) (by rfl) rfl ?_ ?_
           rotate_left 2
           ·go_simp
            constructor
            ·rfl
            ·rfl
           refine hK.out _ _ ⟨(blk_cell (blk_alloc BK139.out _) 0).trans rfl, (blk_cell (blk_alloc BK139.out _) 1).trans rfl, (blk_cell (blk_alloc BK139.out _) 2).trans rfl⟩ (fun hHeld => ?_)
           clear hK K
           refine nS_ ?_
           refine oS_ 9 61 HT_ (fun K hK => ?_)
           refine Kd.R_append_step Kd.string (w0 := w) w.heap.size (by rfl) (.tmp 52) (.tmp 60) 28 9 (.string ⟨#[]⟩) 16 rfl Tryd.underlying28 info9 rfl (by decide) (by omega) u9 x9_2 ((x140002_2 ++ (⟨#[58]⟩ : ByteArray)) ++ t149) [.string ((x140002_2 ++ (⟨#[58]⟩ : ByteArray)) ++ t149)] (fun _ => True) (fun _ => False) rfl rfl ?aP (fun _ hk => hk.elim) ?aF ?aO ?aB ?aS ?aL ?_
           (case aP => exact rfl)
           (case aB => exact (bw_ HB.out))
           (case aF => exact (fun _ _ => trivial))
           (case aO => exact (ra_ HO_9.out))
           (case aS => exact (below_size (bw_ HB.out)))
           (case aL => have := LMc48.out; omega)
           intro v151 w71 ho hb hg hat
           rw [← Ny150.out] at ho
           have n0_ := am_ (blk_grown (bk_ BK139.out) hg (Kd.R_ne HO_9.out BK139.out (by decide)))
           have n1_ := am_ (blk_grown (bk_ BK140.out) hg (Kd.R_ne HO_9.out BK140.out (by decide)))
           have n2_ := am_ (blk_grown (bk_ BK145.out) hg (Kd.R_ne HO_9.out BK145.out (by decide)))
           have n3_ := am_ (hb)
           have n4_ := am_ (ho)
           clear HO_9
           replace BK139 := n0_
           replace BK140 := n1_
           replace BK145 := n2_
           replace HB := n3_
           have HO152 := n4_
           clear n0_ n1_ n2_ n3_ n4_
           clear ho hb hg hat
           refine hK.out _ _ ⟨cz_ BK139.out 0, cz_ BK139.out 1, cz_ BK139.out 2⟩ (fun hHeld => ?_)
           clear hK K
           refine nS_ ?_
           refine pS_ 10 9 HT_ ?_
           refine done_ (done_of HT_.out (by kernel_rfl)) ?_
           have hcz72_0 := cz_ BK139.out 0
           have hcz72_1 := cz_ BK139.out 1
           have hcz72_2 := cz_ BK139.out 2
           have hfz72_0 := blk_frozen BK139.out 0
           have hfz72_1 := blk_frozen BK139.out 1
           have hfz72_2 := blk_frozen BK139.out 2
           have hcz73_0 := cz_ BK145.out 0
           have hcz73_1 := cz_ BK145.out 1
           have hcz73_2 := cz_ BK145.out 2
           have hcz73_3 := cz_ BK145.out 3
           have hfz73_0 := blk_frozen BK145.out 0
           have hfz73_1 := blk_frozen BK145.out 1
           have hfz73_2 := blk_frozen BK145.out 2
           have hfz73_3 := blk_frozen BK145.out 3
           try go_wp2
           go_roundg kj22
           case measure => have := HJ3.out; have := HK2.out; have := HJ22.out; omega
           case rel => exact ⟨(wrap64 (x2_2 - 1)), (y150), (x140002_2), (1), ((⟨#[]⟩ : ByteArray)), sq_, H', ⟨by have := HJ3.out; have := HK2.out; have := HJ22.out; omega⟩, ⟨ra_ (Kd.R_mono (Kd.R_far (p := ⟨gb139, 1, none⟩) (Kd.R_types HO152.out BK139.out (by decide)) (fun _ hk => hk.2) (.int .i64 1)) (fun _ hk => trivial))⟩, ⟨by (with_reducible repeat (first | refine blk_drewN ?_ _ | refine blk_drew ?_ | refine blk_alloc ?_ _)); refine blk_put (cs := #[.string x140002_2, .int .i64 0, .string (⟨#[]⟩ : ByteArray)]) ?_ 1 _ rfl; (with_reducible repeat (first | refine blk_drewN ?_ _ | refine blk_drew ?_ | refine blk_alloc ?_ _)); exact BK139.out⟩, ⟨by (with_reducible repeat (first | refine blk_drewN ?_ _ | refine blk_drew ?_ | refine blk_alloc ?_ _)); refine blk_far ?_ NB140_139.out _; (with_reducible repeat (first | refine blk_drewN ?_ _ | refine blk_drew ?_ | refine blk_alloc ?_ _)); exact BK140.out⟩, ⟨bw_ HB.out⟩⟩
         ·replace c41 := Bool.eq_false_iff.mpr c41
          subst c41
          replace H := if_ H Bool.false_ne_true
          obtain ⟨c74, H⟩ := ifn_ H
          have c74b0 := eq_true c74
          have c74b1 : decide (x140000_2.size + 1 ≤ 9223372036854775807) = true := decide_eq_true c74
          try have c74b2 : (9223372036854775807 < x140000_2.size + 1) = False := eq_false (Nat.not_lt.2 c74)
          obtain ⟨t153, A750, H⟩ := bE_ H
          have A75 := am_ A750
          clear A750
          obtain ⟨c76, H⟩ := ifn_ H
          have c76b0 := eq_true c76
          have c76b1 : decide ((x140000_2 ++ (⟨#[58]⟩ : ByteArray)).size + t153.size ≤ 9223372036854775807) = true := decide_eq_true c76
          try have c76b2 : (9223372036854775807 < (x140000_2 ++ (⟨#[58]⟩ : ByteArray)).size + t153.size) = False := eq_false (Nat.not_lt.2 c76)
          try have c76b3 : (9223372036854775807 < x140000_2.size + 1 + t153.size) = False := eq_false (Nat.not_lt.2 (by have h_ := c76; rw [ByteArray.size_append] at h_; exact h_))
          obtain ⟨c77, H⟩ := ifn_ H
          have LMc77 := am_ c77
          clear c77
          obtain ⟨y154, hy154⟩ : ∃ y_ : List ByteArray, y_ = (x9_2 ++ [(x140000_2 ++ (⟨#[58]⟩ : ByteArray)) ++ t153]) := ⟨_, rfl⟩
          replace H : (if (wrap64 (x140001_2 + 1)) = ((rd_T49 l0 t143).f1) then (spec_RunMusic.l0 kj22 l0 (wrap64 (x2_2 - 1)) y154 ((rd_T49 l0 t143).f3) 0 x140002_2) else (spec_RunMusic.l0 kj22 l0 (wrap64 (x2_2 - 1)) y154 x140000_2 (wrap64 (x140001_2 + 1)) x140002_2)) = some (r1, r2, r3, r4, r5) := by first | (rw [hy154]; with_reducible exact H) | (have H2_ := (Option.bind_some _ _).symm.trans H; rw [hy154]; with_reducible exact H2_) | (have H2_ := (Option.bind_some _ _).symm.trans H; with_reducible exact H2_) | with_reducible exact H | (rw [hy154]; exact H) | exact H
          have Ny154 := am_ hy154
          clear hy154
          by_cases c78 : (wrap64 (x140001_2 + 1)) = ((rd_T49 l0 t143).f1)
          ·rw [if_pos c78] at H
           have c78b0 : ((wrap64 (x140001_2 + 1)) == ((rd_T49 l0 t143).f1)) = true := beq_iff_eq.mpr c78
           have c78b1 : ((wrap64 (x140001_2 + 1)) != ((rd_T49 l0 t143).f1)) = false := bne_eq_false_iff_eq.mpr c78
           clear c78
           have H' := am_ H
           clear H
           try go_wp2
           have n0_ := am_ (Kd.R_drew HO_9.out)
           have n1_ := am_ (blk_drew BK139.out)
           have n2_ := am_ (blk_drew BK140.out)
           have n3_ := am_ (blk_drew BK145.out)
           have n4_ := am_ (below_drew1 HB.out)
           replace HO_9 := n0_
           replace BK139 := n1_
           replace BK140 := n2_
           replace BK145 := n3_
           replace HB := n4_
           clear n0_ n1_ n2_ n3_ n4_
           refine start_ (n := 11) (S := fun w' => w'.cell? ⟨gb139, 0, none⟩ = some (.string x140000_2) ∧ w'.cell? ⟨gb139, 1, none⟩ = some (.int .i64 x140001_2) ∧ w'.cell? ⟨gb139, 2, none⟩ = some (.string x140002_2)) (ds := []) (Array.replicate 11 false) (by kernel_rfl) rfl rfl ⟨cz_ BK139.out 0, cz_ BK139.out 1, cz_ BK139.out 2⟩ (fun hHeld => ?_); refine with_tabW spec_RunMusic.tab10 spec_RunMusic.bits10 (fun HT_ HW_ => ?_)
           generalize wc.drew = w79 at HO_9 BK139 BK140 BK145 HB hHeld ⊢
           refine pS_ 0 52 HT_ ?_
           refine pS_ 1 53 HT_ ?_
           refine pS_ 4 56 HT_ ?_
           refine tS_ 2 54 HT_ HW_ hHeld ?_
           refine pS_ 3 55 HT_ ?_
           refine tS_ 5 57 HT_ HW_ hHeld ?_
           refine oS_ 6 58 HT_ (fun K hK => ?_)
           refine goes_ Tryd.func24 (by kernel_rfl) rfl #[.int .i64 x140001_2] (by rfl) rfl rfl (by (try simp only [List.map_toArray, List.map_cons, List.map_nil]); first | done | rfl | (simp only [List.length_drop, List.length_take]; rfl)) ?_
           with_reducible refine (spec_l1Num.calls kj22 x140001_2 t153 _ A75.out).mono ?_
           rintro e w80 ⟨rfl, hb⟩
           refine ⟨_, rfl, ?_⟩
           have n0_ := am_ (Kd.R_below (ra_ HO_9.out) hb)
           have n1_ := am_ (blk_below (bk_ BK139.out) hb)
           have n2_ := am_ (blk_below (bk_ BK140.out) hb)
           have n3_ := am_ (blk_below (bk_ BK145.out) hb)
           have n4_ := am_ (below_step (bw_ HB.out) hb)
           replace HO_9 := n0_
           replace BK139 := n1_
           replace BK140 := n2_
           replace BK145 := n3_
           replace HB := n4_
           clear n0_ n1_ n2_ n3_ n4_
           (try clear hb)
           (try clear hb2)
           (try clear hk)
           (try clear hi)
           refine hK.out _ _ ⟨cz_ BK139.out 0, cz_ BK139.out 1, cz_ BK139.out 2⟩ (fun hHeld => ?_)
           clear hK K
           refine nS_ ?_
           refine pS_ 7 59 HT_ ?_
           refine oS_ 8 60 HT_ (fun K hK => ?_)
           refine value_ (w1 := ?_) (v := ?_) (by rfl) rfl ?_ ?_
           rotate_left 2
           ·go_simp
            constructor
            ·rfl
            ·rfl
           refine hK.out _ _ ⟨(blk_cell (blk_alloc BK139.out _) 0).trans rfl, (blk_cell (blk_alloc BK139.out _) 1).trans rfl, (blk_cell (blk_alloc BK139.out _) 2).trans rfl⟩ (fun hHeld => ?_)
           clear hK K
           refine nS_ ?_
           refine oS_ 9 61 HT_ (fun K hK => ?_)
           refine Kd.R_append_step Kd.string (w0 := w) w.heap.size (by rfl) (.tmp 52) (.tmp 60) 28 9 (.string ⟨#[]⟩) 16 rfl Tryd.underlying28 info9 rfl (by decide) (by omega) u9 x9_2 ((x140000_2 ++ (⟨#[58]⟩ : ByteArray)) ++ t153) [.string ((x140000_2 ++ (⟨#[58]⟩ : ByteArray)) ++ t153)] (fun _ => True) (fun _ => False) rfl rfl ?aP (fun _ hk => hk.elim) ?aF ?aO ?aB ?aS ?aL ?_
           (case aP => exact rfl)
           (case aB => exact (bw_ HB.out))
           (case aF => exact (fun _ _ => trivial))
           (case aO => exact (ra_ HO_9.out))
           (case aS => exact (below_size (bw_ HB.out)))
           (case aL => have := LMc77.out; omega)
           intro v155 w81 ho hb hg hat
           rw [← Ny154.out] at ho
           have n0_ := am_ (blk_grown (bk_ BK139.out) hg (Kd.R_ne HO_9.out BK139.out (by decide)))
           have n1_ := am_ (blk_grown (bk_ BK140.out) hg (Kd.R_ne HO_9.out BK140.out (by decide)))
           have n2_ := am_ (blk_grown (bk_ BK145.out) hg (Kd.R_ne HO_9.out BK145.out (by decide)))
           have n3_ := am_ (hb)
           have n4_ := am_ (ho)
           clear HO_9
           replace BK139 := n0_
           replace BK140 := n1_
           replace BK145 := n2_
           replace HB := n3_
           have HO156 := n4_
           clear n0_ n1_ n2_ n3_ n4_
           clear ho hb hg hat
           refine hK.out _ _ ⟨cz_ BK139.out 0, cz_ BK139.out 1, cz_ BK139.out 2⟩ (fun hHeld => ?_)
           clear hK K
           refine nS_ ?_
           refine pS_ 10 9 HT_ ?_
           refine done_ (done_of HT_.out (by kernel_rfl)) ?_
           have hnb82 := NB139_140.out
           have hnc82 := NB140_139.out
           have hnb83 := NB139_145.out
           have hnc83 := NB145_139.out
           have hcz84_0 := cz_ BK139.out 0
           have hcz84_1 := cz_ BK139.out 1
           have hcz84_2 := cz_ BK139.out 2
           have hfz84_0 := blk_frozen BK139.out 0
           have hfz84_1 := blk_frozen BK139.out 1
           have hfz84_2 := blk_frozen BK139.out 2
           have hnb85 := NB145_140.out
           have hnc85 := NB140_145.out
           have hcz86_0 := cz_ BK145.out 0
           have hcz86_1 := cz_ BK145.out 1
           have hcz86_2 := cz_ BK145.out 2
           have hcz86_3 := cz_ BK145.out 3
           have hfz86_0 := blk_frozen BK145.out 0
           have hfz86_1 := blk_frozen BK145.out 1
           have hfz86_2 := blk_frozen BK145.out 2
           have hfz86_3 := blk_frozen BK145.out 3
           try go_wp2
           go_roundg kj22
           case measure => have := HJ3.out; have := HK2.out; have := HJ22.out; omega
           case rel => exact ⟨(wrap64 (x2_2 - 1)), (y154), (((rd_T49 l0 t143).f3)), (0), (x140002_2), sq_, H', ⟨by have := HJ3.out; have := HK2.out; have := HJ22.out; omega⟩, ⟨ra_ (Kd.R_mono (Kd.R_far (p := ⟨gb139, 1, none⟩) (Kd.R_far (p := ⟨gb139, 0, none⟩) (Kd.R_far (p := ⟨gb139, 1, none⟩) (Kd.R_types HO156.out BK139.out (by decide)) (fun _ hk => hk.2) (.int .i64 (wrap64 (x140001_2 + 1)))) (fun _ hk => hk.2) (.string ((rd_T49 l0 t143).f3))) (fun _ hk => hk.2) (.int .i64 0)) (fun _ hk => trivial))⟩, ⟨by (with_reducible repeat (first | refine blk_drewN ?_ _ | refine blk_drew ?_ | refine blk_alloc ?_ _)); refine blk_put (cs := #[.string ((rd_T49 l0 t143).f3), .int .i64 (wrap64 (x140001_2 + 1)), .string x140002_2]) ?_ 1 _ rfl; (with_reducible repeat (first | refine blk_drewN ?_ _ | refine blk_drew ?_ | refine blk_alloc ?_ _)); refine blk_put (cs := #[.string x140000_2, .int .i64 (wrap64 (x140001_2 + 1)), .string x140002_2]) ?_ 0 _ rfl; (with_reducible repeat (first | refine blk_drewN ?_ _ | refine blk_drew ?_ | refine blk_alloc ?_ _)); refine blk_put (cs := #[.string x140000_2, .int .i64 x140001_2, .string x140002_2]) ?_ 1 _ rfl; (with_reducible repeat (first | refine blk_drewN ?_ _ | refine blk_drew ?_ | refine blk_alloc ?_ _)); exact BK139.out⟩, ⟨by (with_reducible repeat (first | refine blk_drewN ?_ _ | refine blk_drew ?_ | refine blk_alloc ?_ _)); refine blk_far ?_ NB140_139.out _; (with_reducible repeat (first | refine blk_drewN ?_ _ | refine blk_drew ?_ | refine blk_alloc ?_ _)); refine blk_far ?_ NB140_139.out _; (with_reducible repeat (first | refine blk_drewN ?_ _ | refine blk_drew ?_ | refine blk_alloc ?_ _)); refine blk_far ?_ NB140_139.out _; (with_reducible repeat (first | refine blk_drewN ?_ _ | refine blk_drew ?_ | refine blk_alloc ?_ _)); exact BK140.out⟩, ⟨bw_ HB.out⟩⟩
          ·rw [if_neg c78] at H
           have c78b0 : ((wrap64 (x140001_2 + 1)) == ((rd_T49 l0 t143).f1)) = false := beq_eq_false_iff_ne.mpr c78
           have c78b1 : ((wrap64 (x140001_2 + 1)) != ((rd_T49 l0 t143).f1)) = true := bne_iff_ne.mpr c78
           have H' := am_ H
           clear H
           try go_wp2
           have n0_ := am_ (Kd.R_drew HO_9.out)
           have n1_ := am_ (blk_drew BK139.out)
           have n2_ := am_ (blk_drew BK140.out)
           have n3_ := am_ (blk_drew BK145.out)
           have n4_ := am_ (below_drew1 HB.out)
           replace HO_9 := n0_
           replace BK139 := n1_
           replace BK140 := n2_
           replace BK145 := n3_
           replace HB := n4_
           clear n0_ n1_ n2_ n3_ n4_
           refine start_ (n := 11) (S := fun w' => w'.cell? ⟨gb139, 0, none⟩ = some (.string x140000_2) ∧ w'.cell? ⟨gb139, 1, none⟩ = some (.int .i64 x140001_2) ∧ w'.cell? ⟨gb139, 2, none⟩ = some (.string x140002_2)) (ds := []) (Array.replicate 11 false) (by kernel_rfl) rfl rfl ⟨cz_ BK139.out 0, cz_ BK139.out 1, cz_ BK139.out 2⟩ (fun hHeld => ?_); refine with_tabW spec_RunMusic.tab10 spec_RunMusic.bits10 (fun HT_ HW_ => ?_)
           generalize wc.drew = w87 at HO_9 BK139 BK140 BK145 HB hHeld ⊢
           refine pS_ 0 52 HT_ ?_
           refine pS_ 1 53 HT_ ?_
           refine pS_ 4 56 HT_ ?_
           refine tS_ 2 54 HT_ HW_ hHeld ?_
           refine pS_ 3 55 HT_ ?_
           refine tS_ 5 57 HT_ HW_ hHeld ?_
           refine oS_ 6 58 HT_ (fun K hK => ?_)
           refine goes_ Tryd.func24 (by kernel_rfl) rfl #[.int .i64 x140001_2] (by rfl) rfl rfl (by (try simp only [List.map_toArray, List.map_cons, List.map_nil]); first | done | rfl | (simp only [List.length_drop, List.length_take]; rfl)) ?_
           with_reducible refine (spec_l1Num.calls kj22 x140001_2 t153 _ A75.out).mono ?_
           rintro e w88 ⟨rfl, hb⟩
           refine ⟨_, rfl, ?_⟩
           have n0_ := am_ (Kd.R_below (ra_ HO_9.out) hb)
           have n1_ := am_ (blk_below (bk_ BK139.out) hb)
           have n2_ := am_ (blk_below (bk_ BK140.out) hb)
           have n3_ := am_ (blk_below (bk_ BK145.out) hb)
           have n4_ := am_ (below_step (bw_ HB.out) hb)
           replace HO_9 := n0_
           replace BK139 := n1_
           replace BK140 := n2_
           replace BK145 := n3_
           replace HB := n4_
           clear n0_ n1_ n2_ n3_ n4_
           (try clear hb)
           (try clear hb2)
           (try clear hk)
           (try clear hi)
           refine hK.out _ _ ⟨cz_ BK139.out 0, cz_ BK139.out 1, cz_ BK139.out 2⟩ (fun hHeld => ?_)
           clear hK K
           refine nS_ ?_
           refine pS_ 7 59 HT_ ?_
           refine oS_ 8 60 HT_ (fun K hK => ?_)
           refine value_ (w1 := ?_) (v := ?_) (by rfl) rfl ?_ ?_
           rotate_left 2
           ·go_simp
            constructor
            ·rfl
            ·rfl
           refine hK.out _ _ ⟨(blk_cell (blk_alloc BK139.out _) 0).trans rfl, (blk_cell (blk_alloc BK139.out _) 1).trans rfl, (blk_cell (blk_alloc BK139.out _) 2).trans rfl⟩ (fun hHeld => ?_)
           clear hK K
           refine nS_ ?_
           refine oS_ 9 61 HT_ (fun K hK => ?_)
           refine Kd.R_append_step Kd.string (w0 := w) w.heap.size (by rfl) (.tmp 52) (.tmp 60) 28 9 (.string ⟨#[]⟩) 16 rfl Tryd.underlying28 info9 rfl (by decide) (by omega) u9 x9_2 ((x140000_2 ++ (⟨#[58]⟩ : ByteArray)) ++ t153) [.string ((x140000_2 ++ (⟨#[58]⟩ : ByteArray)) ++ t153)] (fun _ => True) (fun _ => False) rfl rfl ?aP (fun _ hk => hk.elim) ?aF ?aO ?aB ?aS ?aL ?_
           (case aP => exact rfl)
           (case aB => exact (bw_ HB.out))
           (case aF => exact (fun _ _ => trivial))
           (case aO => exact (ra_ HO_9.out))
           (case aS => exact (below_size (bw_ HB.out)))
           (case aL => have := LMc77.out; omega)
           intro v155 w89 ho hb hg hat
           rw [← Ny154.out] at ho
           have n0_ := am_ (blk_grown (bk_ BK139.out) hg (Kd.R_ne HO_9.out BK139.out (by decide)))
           have n1_ := am_ (blk_grown (bk_ BK140.out) hg (Kd.R_ne HO_9.out BK140.out (by decide)))
           have n2_ := am_ (blk_grown (bk_ BK145.out) hg (Kd.R_ne HO_9.out BK145.out (by decide)))
           have n3_ := am_ (hb)
           have n4_ := am_ (ho)
           clear HO_9
           replace BK139 := n0_
           replace BK140 := n1_
           replace BK145 := n2_
           replace HB := n3_
           have HO156 := n4_
           clear n0_ n1_ n2_ n3_ n4_
           clear ho hb hg hat
           refine hK.out _ _ ⟨cz_ BK139.out 0, cz_ BK139.out 1, cz_ BK139.out 2⟩ (fun hHeld => ?_)
           clear hK K
           refine nS_ ?_
           refine pS_ 10 9 HT_ ?_
           refine done_ (done_of HT_.out (by kernel_rfl)) ?_
           have hnb90 := NB139_140.out
           have hnc90 := NB140_139.out
           have hnb91 := NB139_145.out
           have hnc91 := NB145_139.out
           have hcz92_0 := cz_ BK139.out 0
           have hcz92_1 := cz_ BK139.out 1
           have hcz92_2 := cz_ BK139.out 2
           have hfz92_0 := blk_frozen BK139.out 0
           have hfz92_1 := blk_frozen BK139.out 1
           have hfz92_2 := blk_frozen BK139.out 2
           have hnb93 := NB145_140.out
           have hnc93 := NB140_145.out
           have hcz94_0 := cz_ BK145.out 0
           have hcz94_1 := cz_ BK145.out 1
           have hcz94_2 := cz_ BK145.out 2
           have hcz94_3 := cz_ BK145.out 3
           have hfz94_0 := blk_frozen BK145.out 0
           have hfz94_1 := blk_frozen BK145.out 1
           have hfz94_2 := blk_frozen BK145.out 2
           have hfz94_3 := blk_frozen BK145.out 3
           try go_wp2
           go_roundg kj22
           case measure => have := HJ3.out; have := HK2.out; have := HJ22.out; omega
           case rel => exact ⟨(wrap64 (x2_2 - 1)), (y154), (x140000_2), (wrap64 (x140001_2 + 1)), (x140002_2), sq_, H', ⟨by have := HJ3.out; have := HK2.out; have := HJ22.out; omega⟩, ⟨ra_ (Kd.R_mono (Kd.R_far (p := ⟨gb139, 1, none⟩) (Kd.R_types HO156.out BK139.out (by decide)) (fun _ hk => hk.2) (.int .i64 (wrap64 (x140001_2 + 1)))) (fun _ hk => trivial))⟩, ⟨by (with_reducible repeat (first | refine blk_drewN ?_ _ | refine blk_drew ?_ | refine blk_alloc ?_ _)); refine blk_put (cs := #[.string x140000_2, .int .i64 x140001_2, .string x140002_2]) ?_ 1 _ rfl; (with_reducible repeat (first | refine blk_drewN ?_ _ | refine blk_drew ?_ | refine blk_alloc ?_ _)); exact BK139.out⟩, ⟨by (with_reducible repeat (first | refine blk_drewN ?_ _ | refine blk_drew ?_ | refine blk_alloc ?_ _)); refine blk_far ?_ NB140_139.out _; (with_reducible repeat (first | refine blk_drewN ?_ _ | refine blk_drew ?_ | refine blk_alloc ?_ _)); exact BK140.out⟩, ⟨bw_ HB.out⟩⟩
      ·rw [if_neg c19] at H
       have c19b0 : decide (0 < x2_2) = false := decide_eq_false c19
       clear c19
       simp only [Option.some.injEq, Prod.mk.injEq] at H
       obtain ⟨rfl, rfl, rfl, rfl, rfl⟩ := H
       have hnb95 := NB139_140.out
       have hnc95 := NB140_139.out
       have hcz96_0 := cz_ BK139.out 0
       have hcz96_1 := cz_ BK139.out 1
       have hcz96_2 := cz_ BK139.out 2
       have hfz96_0 := blk_frozen BK139.out 0
       have hfz96_1 := blk_frozen BK139.out 1
       have hfz96_2 := blk_frozen BK139.out 2
       have hcz97_0 := cz_ BK140.out 0
       have hcz97_1 := cz_ BK140.out 1
       have hcz97_2 := cz_ BK140.out 2
       have hfz97_0 := blk_frozen BK140.out 0
       have hfz97_1 := blk_frozen BK140.out 1
       have hfz97_2 := blk_frozen BK140.out 2
       go_wp2
       refine bodyPost_ret (results_ctt rfl _ _ gb140 27 #[.string x140000_2, .int .i64 x140001_2, .string x140002_2] (0, 0) _ rfl (by (with_reducible repeat (first | refine blk_drewN ?_ _ | refine blk_drew ?_ | refine blk_alloc ?_ _)); refine blk_put (cs := #[.string x140000_2, .int .i64 x140001_2, .string (⟨#[]⟩ : ByteArray)]) ?_ 2 _ rfl; (with_reducible repeat (first | refine blk_drewN ?_ _ | refine blk_drew ?_ | refine blk_alloc ?_ _)); refine blk_put (cs := #[.string x140000_2, .int .i64 0, .string (⟨#[]⟩ : ByteArray)]) ?_ 1 _ rfl; (with_reducible repeat (first | refine blk_drewN ?_ _ | refine blk_drew ?_ | refine blk_alloc ?_ _)); refine blk_put (cs := #[.string (⟨#[]⟩ : ByteArray), .int .i64 0, .string (⟨#[]⟩ : ByteArray)]) ?_ 0 _ rfl; (with_reducible repeat (first | refine blk_drewN ?_ _ | refine blk_drew ?_ | refine blk_alloc ?_ _)); exact BK140.out) Tryd.underlying27 rfl (by kernel_rfl)) rfl ?_
       exact ⟨_, by first | rfl | (simp [errW_none, errW_some] <;> rfl) | (simp [*, errW_none, errW_some] <;> rfl), ra_ (Kd.R_mono (Kd.R_far (p := ⟨gb140, 2, none⟩) (Kd.R_far (p := ⟨gb140, 1, none⟩) (Kd.R_far (p := ⟨gb140, 0, none⟩) (Kd.R_types HO_9.out BK140.out (by decide)) (fun _ hk => hk.2) (.string x140000_2)) (fun _ hk => hk.2) (.int .i64 x140001_2)) (fun _ hk => hk.2) (.string x140002_2)) (fun _ hk => trivial)), bw_ HB.out⟩

end Go.Proofs.YtcabbfphidjapaaDoor.XFnExactRunMusic
