/- What the Go functions that this law comes to compute, each walked; written by a program of this session. -/
import Derived.Test.YtcabbfphidjapaaDoorXShort
import Derived.Test.YtcabbfphidjapaaDoorXMark
import Derived.Test.YtcabbfphidjapaaDoorXFnExactRunMusicx0
import Derived.Test.YtcabbfphidjapaaDoorXFnExactRunMusicx6
import Derived.Test.YtcabbfphidjapaaDoorXFnExactRunMusicx8
import Derived.Test.YtcabbfphidjapaaDoorXFnExactRunMusicx9
namespace Go.Proofs.YtcabbfphidjapaaDoor.XFnExactRunMusic
open Go.RowKit Go.Proofs.YtcabbfphidjapaaDoorW.PrintWords Go.Proofs.YtcabbfphidjapaaDoorW.PrintLast Go.Proofs.YtcabbfphidjapaaDoorW.PrintMore
attribute [local go_sem] str_geq max2_int min2_int max_two min_two max_three min_three max_four min_four   -- for this text's walks alone
set_option linter.unusedVariables false
set_option linter.unusedSimpArgs false

/-! ### impl_RunMusic: function 10 -/
mutual
def impl_RunMusic.j0 : Nat → List (S49) → Int → Bool → ByteArray → Int → ByteArray → Option (ByteArray × Int × ByteArray × List ByteArray × Bool)
 | 0, _, _, _, _, _, _ => none
 | k + 1, x0, x2, x20, x231000, x231001, x231002 => if x20 = true then (some ((⟨#[]⟩ : ByteArray), 0, (⟨#[]⟩ : ByteArray), ([] : List ByteArray), false)) else (impl_RunMusic.l0 k x0 (([] : List ByteArray)) x2 0 x231000 x231001 x231002)
def impl_RunMusic.l0 : Nat → List (S49) → List ByteArray → Int → Int → ByteArray → Int → ByteArray → Option (ByteArray × Int × ByteArray × List ByteArray × Bool)
 | 0, _, _, _, _, _, _, _ => none
 | k + 1, x0, x9, x23, x24, x231000, x231001, x231002 => if x24 < x23 then ((impl_sectionAt.f k x0 x231000).bind fun t237 => (if 0 ≤ t237 then (if t237 < (x0.length : Int) then (if x231002.toList = ([] : List UInt8) then (impl_RunMusic.j2 k x0 x9 x23 x24 false x231000 x231001 x231002) else ((slices_Contains_int_int.f k ((rd_T49 x0 t237).f2) x231001).bind fun t240 => (impl_RunMusic.j2 k x0 x9 x23 x24 t240 x231000 x231001 x231002))) else (none)) else (none))) else (some (x231000, x231001, x231002, x9, true))
def impl_RunMusic.j2 : Nat → List (S49) → List ByteArray → Int → Int → Bool → ByteArray → Int → ByteArray → Option (ByteArray × Int × ByteArray × List ByteArray × Bool)
 | 0, _, _, _, _, _, _, _, _ => none
 | k + 1, x0, x9, x23, x24, x42, x231000, x231001, x231002 => if x42 = true then (impl_RunMusic.j3 k x0 x9 x23 x24 x231002 0 (⟨#[]⟩ : ByteArray)) else (impl_RunMusic.j3 k x0 x9 x23 x24 x231000 x231001 x231002)
def impl_RunMusic.j3 : Nat → List (S49) → List ByteArray → Int → Int → ByteArray → Int → ByteArray → Option (ByteArray × Int × ByteArray × List ByteArray × Bool)
 | 0, _, _, _, _, _, _, _ => none
 | k + 1, x0, x9, x23, x24, x231000, x231001, x231002 => if x231000.size + 1 ≤ 9223372036854775807 then ((impl_digits.f x231001).bind fun t241 => (if (x231000 ++ (⟨#[58]⟩ : ByteArray)).size + t241.size ≤ 9223372036854775807 then (if x9.length < 8796093022208 then ((some (x9 ++ [(x231000 ++ (⟨#[58]⟩ : ByteArray)) ++ t241] : List ByteArray)).bind fun y242 => ((impl_sectionAt.f k x0 x231000).bind fun t245 => (if 0 ≤ t245 then (if t245 < (x0.length : Int) then (if (wrap64 (x231001 + 1)) = ((rd_T49 x0 t245).f1) then (impl_RunMusic.l0 k x0 y242 x23 (wrap64 (x24 + 1)) ((rd_T49 x0 t245).f3) 0 x231002) else (impl_RunMusic.l0 k x0 y242 x23 (wrap64 (x24 + 1)) x231000 (wrap64 (x231001 + 1)) x231002)) else (none)) else (none)))) else (none)) else (none))) else (none)
end
def impl_RunMusic.f (k : Nat) (l0 : List (S49)) (a1_0 : ByteArray) (a1_1 : Int) (a1_2 : ByteArray) (a2 : Int) : Option (ByteArray × Int × ByteArray × List ByteArray × Bool) := (impl_GoodMusic.f k l0 a1_0 a1_1 a1_2).bind fun t232 => (if t232 = true then ((impl_inRange.f a2 0 1000).bind fun t233 => (impl_RunMusic.j0 k l0 a2 (!t233) a1_0 a1_1 a1_2)) else (impl_RunMusic.j0 k l0 a2 true a1_0 a1_1 a1_2))
theorem impl_RunMusic.mono_l : ∀ k, (∀ y0 y1 y2 y3 y4 y5, LeO (impl_RunMusic.j0 k y0 y1 y2 y3 y4 y5) (impl_RunMusic.j0 (k + 1) y0 y1 y2 y3 y4 y5)) ∧ (∀ y0 y1 y2 y3 y4 y5 y6, LeO (impl_RunMusic.l0 k y0 y1 y2 y3 y4 y5 y6) (impl_RunMusic.l0 (k + 1) y0 y1 y2 y3 y4 y5 y6)) ∧ (∀ y0 y1 y2 y3 y4 y5 y6 y7, LeO (impl_RunMusic.j2 k y0 y1 y2 y3 y4 y5 y6 y7) (impl_RunMusic.j2 (k + 1) y0 y1 y2 y3 y4 y5 y6 y7)) ∧ (∀ y0 y1 y2 y3 y4 y5 y6, LeO (impl_RunMusic.j3 k y0 y1 y2 y3 y4 y5 y6) (impl_RunMusic.j3 (k + 1) y0 y1 y2 y3 y4 y5 y6))
 | 0 => ⟨fun _ _ _ _ _ _ r h => by simp [impl_RunMusic.j0] at h, fun _ _ _ _ _ _ _ r h => by simp [impl_RunMusic.l0] at h, fun _ _ _ _ _ _ _ _ r h => by simp [impl_RunMusic.j2] at h, fun _ _ _ _ _ _ _ r h => by simp [impl_RunMusic.j3] at h⟩
 | k + 1 => by
  obtain ⟨ih0, ih1, ih2, ih3⟩ := impl_RunMusic.mono_l k
  refine ⟨?_, ?_, ?_, ?_⟩
  ·intro y0 y1 y2 y3 y4 y5
   unfold impl_RunMusic.j0
   repeat' first
   | (with_reducible exact ih0 _ _ _ _ _ _)
   | (with_reducible exact ih1 _ _ _ _ _ _ _)
   | (with_reducible exact ih2 _ _ _ _ _ _ _ _)
   | (with_reducible exact ih3 _ _ _ _ _ _ _)
   | (with_reducible exact impl_GoodMusic.mono _ _ _ _ _)
   | (with_reducible exact impl_sectionAt.mono _ _ _)
   | (with_reducible exact slices_Contains_int_int.mono _ _ _)
   | (with_reducible exact LeO.refl _)
   | (with_reducible exact LeO.none _)
   | (with_reducible refine LeO.ite ?_ ?_)
   | (with_reducible refine LeO.bind ?_ (fun _ => ?_))
   | exact ih0 _ _ _ _ _ _
   | exact ih1 _ _ _ _ _ _ _
   | exact ih2 _ _ _ _ _ _ _ _
   | exact ih3 _ _ _ _ _ _ _
   | exact impl_GoodMusic.mono _ _ _ _ _
   | exact impl_sectionAt.mono _ _ _
   | exact slices_Contains_int_int.mono _ _ _
   | exact LeO.none _
   | refine LeO.ite ?_ ?_
   | refine LeO.bind ?_ (fun _ => ?_)
  ·intro y0 y1 y2 y3 y4 y5 y6
   unfold impl_RunMusic.l0
   repeat' first
   | (with_reducible exact ih0 _ _ _ _ _ _)
   | (with_reducible exact ih1 _ _ _ _ _ _ _)
   | (with_reducible exact ih2 _ _ _ _ _ _ _ _)
   | (with_reducible exact ih3 _ _ _ _ _ _ _)
   | (with_reducible exact impl_GoodMusic.mono _ _ _ _ _)
   | (with_reducible exact impl_sectionAt.mono _ _ _)
   | (with_reducible exact slices_Contains_int_int.mono _ _ _)
   | (with_reducible exact LeO.refl _)
   | (with_reducible exact LeO.none _)
   | (with_reducible refine LeO.ite ?_ ?_)
   | (with_reducible refine LeO.bind ?_ (fun _ => ?_))
   | exact ih0 _ _ _ _ _ _
   | exact ih1 _ _ _ _ _ _ _
   | exact ih2 _ _ _ _ _ _ _ _
   | exact ih3 _ _ _ _ _ _ _
   | exact impl_GoodMusic.mono _ _ _ _ _
   | exact impl_sectionAt.mono _ _ _
   | exact slices_Contains_int_int.mono _ _ _
   | exact LeO.none _
   | refine LeO.ite ?_ ?_
   | refine LeO.bind ?_ (fun _ => ?_)
  ·intro y0 y1 y2 y3 y4 y5 y6 y7
   unfold impl_RunMusic.j2
   repeat' first
   | (with_reducible exact ih0 _ _ _ _ _ _)
   | (with_reducible exact ih1 _ _ _ _ _ _ _)
   | (with_reducible exact ih2 _ _ _ _ _ _ _ _)
   | (with_reducible exact ih3 _ _ _ _ _ _ _)
   | (with_reducible exact impl_GoodMusic.mono _ _ _ _ _)
   | (with_reducible exact impl_sectionAt.mono _ _ _)
   | (with_reducible exact slices_Contains_int_int.mono _ _ _)
   | (with_reducible exact LeO.refl _)
   | (with_reducible exact LeO.none _)
   | (with_reducible refine LeO.ite ?_ ?_)
   | (with_reducible refine LeO.bind ?_ (fun _ => ?_))
   | exact ih0 _ _ _ _ _ _
   | exact ih1 _ _ _ _ _ _ _
   | exact ih2 _ _ _ _ _ _ _ _
   | exact ih3 _ _ _ _ _ _ _
   | exact impl_GoodMusic.mono _ _ _ _ _
   | exact impl_sectionAt.mono _ _ _
   | exact slices_Contains_int_int.mono _ _ _
   | exact LeO.none _
   | refine LeO.ite ?_ ?_
   | refine LeO.bind ?_ (fun _ => ?_)
  ·intro y0 y1 y2 y3 y4 y5 y6
   unfold impl_RunMusic.j3
   repeat' first
   | (with_reducible exact ih0 _ _ _ _ _ _)
   | (with_reducible exact ih1 _ _ _ _ _ _ _)
   | (with_reducible exact ih2 _ _ _ _ _ _ _ _)
   | (with_reducible exact ih3 _ _ _ _ _ _ _)
   | (with_reducible exact impl_GoodMusic.mono _ _ _ _ _)
   | (with_reducible exact impl_sectionAt.mono _ _ _)
   | (with_reducible exact slices_Contains_int_int.mono _ _ _)
   | (with_reducible exact LeO.refl _)
   | (with_reducible exact LeO.none _)
   | (with_reducible refine LeO.ite ?_ ?_)
   | (with_reducible refine LeO.bind ?_ (fun _ => ?_))
   | exact ih0 _ _ _ _ _ _
   | exact ih1 _ _ _ _ _ _ _
   | exact ih2 _ _ _ _ _ _ _ _
   | exact ih3 _ _ _ _ _ _ _
   | exact impl_GoodMusic.mono _ _ _ _ _
   | exact impl_sectionAt.mono _ _ _
   | exact slices_Contains_int_int.mono _ _ _
   | exact LeO.none _
   | refine LeO.ite ?_ ?_
   | refine LeO.bind ?_ (fun _ => ?_)
theorem impl_RunMusic.mono : ∀ a0 a1 a2 a3 a4 k, LeO (impl_RunMusic.f k a0 a1 a2 a3 a4) (impl_RunMusic.f (k + 1) a0 a1 a2 a3 a4) := by
 intro a0 a1 a2 a3 a4 k
 obtain ⟨ih0, ih1, ih2, ih3⟩ := impl_RunMusic.mono_l k
 unfold impl_RunMusic.f
 repeat' first
   | (with_reducible exact ih0 _ _ _ _ _ _)
   | (with_reducible exact ih1 _ _ _ _ _ _ _)
   | (with_reducible exact ih2 _ _ _ _ _ _ _ _)
   | (with_reducible exact ih3 _ _ _ _ _ _ _)
   | (with_reducible exact impl_GoodMusic.mono _ _ _ _ _)
   | (with_reducible exact impl_sectionAt.mono _ _ _)
   | (with_reducible exact slices_Contains_int_int.mono _ _ _)
   | (with_reducible exact LeO.refl _)
   | (with_reducible exact LeO.none _)
   | (with_reducible refine LeO.ite ?_ ?_)
   | (with_reducible refine LeO.bind ?_ (fun _ => ?_))
   | exact ih0 _ _ _ _ _ _
   | exact ih1 _ _ _ _ _ _ _
   | exact ih2 _ _ _ _ _ _ _ _
   | exact ih3 _ _ _ _ _ _ _
   | exact impl_GoodMusic.mono _ _ _ _ _
   | exact impl_sectionAt.mono _ _ _
   | exact slices_Contains_int_int.mono _ _ _
   | exact LeO.none _
   | refine LeO.ite ?_ ?_
   | refine LeO.bind ?_ (fun _ => ?_)
def impl_RunMusic.T9 : Bool × List (List Nat × List Nat) := (true, [([], []), ([], []), ([1], [1]), ([2], [2]), ([], []), ([4], [4]), ([5], [5]), ([3, 6], [3, 6]), ([7], [7]), ([0, 8, 6], [0, 8]), ([9, 9, 0, 1, 2, 3, 4, 5, 6, 7, 8, 9], [0, 9])])
def impl_RunMusic.B9 : List Nat := [0, 0, 2, 6, 0, 16, 48, 126, 254, 511, 1023]
theorem impl_RunMusic.tab9 : rtab .any (opsOf Tryd.f10 9) = impl_RunMusic.T9 := by kernel_rfl
theorem impl_RunMusic.bits9 : waitsOk impl_RunMusic.T9.2 impl_RunMusic.B9 = true := by kernel_rfl
set_option maxHeartbeats 8000000 in
set_option maxRecDepth 100000 in
theorem impl_RunMusic.calls (k : Nat) (A0 : Option Addr) (c0 : Nat) (l0 : List (S49)) (a1_0 : ByteArray) (a1_1 : Int) (a1_2 : ByteArray) (a2 : Int) (r1 : ByteArray) (r2 : Int) (r3 : ByteArray) (r4 : List ByteArray) (r5 : Bool) (w : World) (hr0 : Kd.C k49 w A0 l0.length l0) (hc0 : l0.length ≤ c0) (h : impl_RunMusic.f k l0 a1_0 a1_1 a1_2 a2 = some (r1, r2, r3, r4, r5)) :
  Calls Tryd.prog 10 #[.slice A0 l0.length c0, .agg #[.string a1_0, .int .i64 a1_1, .string a1_2], .int .i64 a2] w fun e w' => ∃ v3_ : Value, e = .returned (.tuple #[.agg #[.string r1, .int .i64 r2, .string r3], v3_, .bool r5]) ∧ Kd.R Kd.string 9 w' w.heap.size (fun _ => True) v3_ r4 ∧ Below w.heap.size w w' := by
 have hu27 := Tryd.underlying27
 have hu49 := Tryd.underlying49
 have HR0 := am_ hr0
 have HC0 := am_ hc0
 clear hr0 hc0
 have HB := am_ (Below.refl w.heap.size w)
 have H : ((impl_GoodMusic.f k l0 a1_0 a1_1 a1_2).bind fun t232 => (if t232 = true then ((impl_inRange.f a2 0 1000).bind fun t233 => (impl_RunMusic.j0 k l0 a2 (!t233) a1_0 a1_1 a1_2)) else (impl_RunMusic.j0 k l0 a2 true a1_0 a1_1 a1_2))) = some (r1, r2, r3, r4, r5) := h
 clear h
 have HC4 := am_ H
 clear H
 go_enter Tryd.func10, Tryd.ntmps10
 go_upto_region 1 with (first | ((with_reducible refine gate_dst (N := 4) rfl ?_); refine bx_ 4 #[.string a1_0, .int .i64 a1_1, .string a1_2] 27 ?_; intro gb230 hg w5 hbox hb; have n0_ := am_ (below_step (bw_ HB.out) hb); have n1_ := am_ (hbox); have n2_ := am_ (gs_ hg (bw_ HB.out)); have n3_ := am_ (gs_ hg (bw_ HB.out)); replace HB := n0_; have BK230 := n1_; have GW230 := n2_; have GE230 := n3_; clear n0_ n1_ n2_ n3_; clear hb hbox hg) | ((with_reducible refine gate_dst (N := 6) rfl ?_); refine bx_ 6 #[.string (⟨#[]⟩ : ByteArray), .int .i64 0, .string (⟨#[]⟩ : ByteArray)] 27 ?_; intro gb231 hg w6 hbox hb; have n0_ := am_ (blk_below (bk_ BK230.out) hb); have n1_ := am_ (below_step (bw_ HB.out) hb); have n2_ := am_ (hbox); have n3_ := am_ (gs_ hg (bw_ HB.out)); have n4_ := am_ (gs_ hg (bw_ HB.out)); have n5_ := am_ (nl_ hg (bk_ BK230.out)); have n6_ := am_ (ng_ hg (bk_ BK230.out)); replace BK230 := n0_; replace HB := n1_; have BK231 := n2_; have GW231 := n3_; have GE231 := n4_; have NB230_231 := n5_; have NB231_230 := n6_; clear n0_ n1_ n2_ n3_ n4_ n5_ n6_; clear hb hbox hg))
 (try simp only [Act.put, List.setIfInBounds_toArray, List.set_cons_zero, List.set_cons_succ])
 go_cut [20] (fun v20 wc => ∃ (kq : Nat) (x20_3 : Bool), v20 = .bool x20_3 ∧ Aside0 (impl_RunMusic.j0 kq l0 a2 x20_3 a1_0 a1_1 a1_2 = some (r1, r2, r3, r4, r5)) ∧ Aside0 (kq ≤ k) ∧ Aside0 (wc.heap[gb230]? = some (.cells #[.string a1_0, .int .i64 a1_1, .string a1_2] 27 (0, 0))) ∧ Aside0 (wc.heap[gb231]? = some (.cells #[.string (⟨#[]⟩ : ByteArray), .int .i64 0, .string (⟨#[]⟩ : ByteArray)] 27 (0, 0))) ∧ Aside0 (Below w.heap.size w wc))
 case first =>
  have H := HC4.out
  clear HC4
  obtain ⟨t232, A70, H⟩ := bE_ H
  have A7 := am_ A70
  clear A70
  by_cases c8 : t232 = true
  ·subst c8
   replace H := it_ H rfl
   obtain ⟨t233, A90, H⟩ := bE_ H
   have A9 := am_ A90
   clear A90
   have H' := am_ H
   clear H
   have hnb10 := NB230_231.out
   have hnc10 := NB231_230.out
   have hcz11_0 := cz_ BK230.out 0
   have hcz11_1 := cz_ BK230.out 1
   have hcz11_2 := cz_ BK230.out 2
   have hfz11_0 := blk_frozen BK230.out 0
   have hfz11_1 := blk_frozen BK230.out 1
   have hfz11_2 := blk_frozen BK230.out 2
   go_wp2_with (first | ((with_reducible refine gate_callee (f := 26) rfl ?_); refine goesL_ (some 14) rfl rfl Tryd.func26 (by kernel_rfl) rfl #[.slice A0 l0.length c0, .agg #[.string a1_0, .int .i64 a1_1, .string a1_2]] rfl (by (try simp only [List.map_toArray, List.map_cons, List.map_nil]); first | done | rfl | (simp only [List.length_drop, List.length_take]; rfl)) ?_; (with_reducible refine (impl_GoodMusic.calls k _ _ l0 a1_0 a1_1 a1_2 true _ ?side1 ?side2 A7.out).mono ?_); (case side1 => repeat (first | exact (Kd.C_below HR0.out HB.out) | (with_reducible refine Kd.C_alloc ?_ _) | (with_reducible refine Kd.C_drewN ?_ _) | (with_reducible refine Kd.C_drew ?_))); (case side2 => exact HC0.out); rintro e w12 ⟨rfl, hb⟩; refine ⟨_, rfl, ?_⟩; have n0_ := am_ (blk_below (bk_ BK230.out) hb); have n1_ := am_ (blk_below (bk_ BK231.out) hb); have n2_ := am_ (below_step (bw_ HB.out) hb); replace BK230 := n0_; replace BK231 := n1_; replace HB := n2_; clear n0_ n1_ n2_; (try clear hb); (try clear hb2); (try clear hk); (try clear hi)) | (go_at_call 27; (with_reducible refine (impl_inRange.calls a2 0 1000 t233 _ A9.out).mono ?_); rintro e w' ⟨rfl, ⟨nd, rfl⟩⟩))
   go_meet
   case rel => exact ⟨_, (!t233), sq_, H', ⟨by first | omega | exact Nat.le_refl _⟩, ⟨bk_ BK230.out⟩, ⟨bk_ BK231.out⟩, ⟨bw_ HB.out⟩⟩
  ·replace c8 := Bool.eq_false_iff.mpr c8
   subst c8
   replace H := if_ H Bool.false_ne_true
   have H' := am_ H
   clear H
   have hnb13 := NB230_231.out
   have hnc13 := NB231_230.out
   have hcz14_0 := cz_ BK230.out 0
   have hcz14_1 := cz_ BK230.out 1
   have hcz14_2 := cz_ BK230.out 2
   have hfz14_0 := blk_frozen BK230.out 0
   have hfz14_1 := blk_frozen BK230.out 1
   have hfz14_2 := blk_frozen BK230.out 2
   go_wp2_with (first | ((with_reducible refine gate_callee (f := 26) rfl ?_); refine goesL_ (some 14) rfl rfl Tryd.func26 (by kernel_rfl) rfl #[.slice A0 l0.length c0, .agg #[.string a1_0, .int .i64 a1_1, .string a1_2]] rfl (by (try simp only [List.map_toArray, List.map_cons, List.map_nil]); first | done | rfl | (simp only [List.length_drop, List.length_take]; rfl)) ?_; (with_reducible refine (impl_GoodMusic.calls k _ _ l0 a1_0 a1_1 a1_2 false _ ?side1 ?side2 A7.out).mono ?_); (case side1 => repeat (first | exact (Kd.C_below HR0.out HB.out) | (with_reducible refine Kd.C_alloc ?_ _) | (with_reducible refine Kd.C_drewN ?_ _) | (with_reducible refine Kd.C_drew ?_))); (case side2 => exact HC0.out); rintro e w15 ⟨rfl, hb⟩; refine ⟨_, rfl, ?_⟩; have n0_ := am_ (blk_below (bk_ BK230.out) hb); have n1_ := am_ (blk_below (bk_ BK231.out) hb); have n2_ := am_ (below_step (bw_ HB.out) hb); replace BK230 := n0_; replace BK231 := n1_; replace HB := n2_; clear n0_ n1_ n2_; (try clear hb); (try clear hb2); (try clear hk); (try clear hi)))
   go_meet
   case rel => exact ⟨_, (true), sq_, H', ⟨by first | omega | exact Nat.le_refl _⟩, ⟨bk_ BK230.out⟩, ⟨bk_ BK231.out⟩, ⟨bw_ HB.out⟩⟩
 case rest =>
  clear HC4
  obtain ⟨kq, x20_3, rfl, HA, HJ3, BK230, BK231, HB⟩ := hcut
  cases kq with
  | zero => exact absurd HA.out (by simp [impl_RunMusic.j0])
  | succ kj3 =>
   have H := HA.out
   clear HA
   simp only [impl_RunMusic.j0] at H
   by_cases c16 : x20_3 = true
   ·subst c16
    replace H := it_ H rfl
    simp only [Option.some.injEq, Prod.mk.injEq] at H
    obtain ⟨rfl, rfl, rfl, rfl, rfl⟩ := H
    have hnb17 := NB231_230.out
    have hnc17 := NB230_231.out
    have hcz18_0 := cz_ BK231.out 0
    have hcz18_1 := cz_ BK231.out 1
    have hcz18_2 := cz_ BK231.out 2
    have hfz18_0 := blk_frozen BK231.out 0
    have hfz18_1 := blk_frozen BK231.out 1
    have hfz18_2 := blk_frozen BK231.out 2
    go_wp2
    refine bodyPost_ret (results_ctt rfl _ _ gb231 27 #[.string (⟨#[]⟩ : ByteArray), .int .i64 0, .string (⟨#[]⟩ : ByteArray)] (0, 0) _ rfl (by (with_reducible repeat (first | refine blk_drewN ?_ _ | refine blk_drew ?_ | refine blk_alloc ?_ _)); refine blk_put (cs := #[.string (⟨#[]⟩ : ByteArray), .int .i64 0, .string (⟨#[]⟩ : ByteArray)]) ?_ 2 _ rfl; (with_reducible repeat (first | refine blk_drewN ?_ _ | refine blk_drew ?_ | refine blk_alloc ?_ _)); refine blk_put (cs := #[.string (⟨#[]⟩ : ByteArray), .int .i64 0, .string (⟨#[]⟩ : ByteArray)]) ?_ 1 _ rfl; (with_reducible repeat (first | refine blk_drewN ?_ _ | refine blk_drew ?_ | refine blk_alloc ?_ _)); refine blk_put (cs := #[.string (⟨#[]⟩ : ByteArray), .int .i64 0, .string (⟨#[]⟩ : ByteArray)]) ?_ 0 _ rfl; (with_reducible repeat (first | refine blk_drewN ?_ _ | refine blk_drew ?_ | refine blk_alloc ?_ _)); exact BK231.out) Tryd.underlying27 rfl (by kernel_rfl)) rfl ?_
    exact ⟨_, by first | rfl | (simp [errW_none, errW_some] <;> rfl) | (simp [*, errW_none, errW_some] <;> rfl), by first | exact Kd.R_nil _ _ _ _ _ | exact Kd.N_nil _ _ _ _ _ | exact Kd.V_nil _ _ _ _ _ | exact Kd.Q_nil _ _ _ _ _ | exact Kd.S_nil _ _ _ _ _, bw_ HB.out⟩
   ·replace c16 := Bool.eq_false_iff.mpr c16
    subst c16
    replace H := if_ H Bool.false_ne_true
    obtain ⟨y234, hy234⟩ : ∃ y_ : List ByteArray, y_ = (([] : List ByteArray)) := ⟨_, rfl⟩
    replace H : (impl_RunMusic.l0 kj3 l0 y234 a2 0 a1_0 a1_1 a1_2) = some (r1, r2, r3, r4, r5) := by first | (rw [hy234]; with_reducible exact H) | (have H2_ := (Option.bind_some _ _).symm.trans H; rw [hy234]; with_reducible exact H2_) | (have H2_ := (Option.bind_some _ _).symm.trans H; with_reducible exact H2_) | with_reducible exact H | (rw [hy234]; exact H) | exact H
    have Ny234 := am_ hy234
    clear hy234
    have H' := am_ H
    clear H
    go_wp2_with (first | ((with_reducible refine gate_dst (N := 22) rfl ?_); refine Kd.R_lit Kd.string _ 9 ?hg (N := 22) ?hd (xs := ([] : List ByteArray)) (inner := []) (ok := fun _ => True) (okp := fun _ => True) ?hr ?hp (fun _ hk => hk) trivial (Below.refl _ _) (Nat.le_refl _) (by simp) ?_; (case hd => rfl); (case hg => rfl); (case hr => first | (go_simp; done) | (go_simp; rfl)); (case hp => exact (Reps.none _ _)); intro v235 w19 ho20 hb hg_ hnew_; clear hg_ hnew_; (first | rw [← Ny234.out] at ho20 | (simp only [Int.reduceToNat] at ho20; rw [← Ny234.out] at ho20)); have n0_ := am_ (Kd.R_lower ho20 (below_size (bw_ HB.out))); have n1_ := am_ (blk_below (bk_ BK230.out) hb); have n2_ := am_ (blk_below (bk_ BK231.out) hb); have n3_ := am_ (below_step (bw_ HB.out) hb); have HO236 := n0_; replace BK230 := n1_; replace BK231 := n2_; replace HB := n3_; clear n0_ n1_ n2_ n3_; clear hb ho20))
    go_loopg [9, 24] kj3 (fun kq v9 v24 w' => ∃ (x9_2 : List ByteArray) (x24_2 : Int) (x231000_2 : ByteArray) (x231001_2 : Int) (x231002_2 : ByteArray), v24 = .int .i64 x24_2 ∧ Aside0 (impl_RunMusic.l0 kq l0 x9_2 a2 x24_2 x231000_2 x231001_2 x231002_2 = some (r1, r2, r3, r4, r5)) ∧ Aside0 (kq ≤ kj3) ∧ Aside0 (Kd.R Kd.string 9 w' w.heap.size (fun _ => True) v9 x9_2) ∧ Aside0 (w'.heap[gb230]? = some (.cells #[.string x231000_2, .int .i64 x231001_2, .string x231002_2] 27 (0, 0))) ∧ Aside0 (w'.heap[gb231]? = some (.cells #[.string (⟨#[]⟩ : ByteArray), .int .i64 0, .string (⟨#[]⟩ : ByteArray)] 27 (0, 0))) ∧ Aside0 (Below w.heap.size w w'))
    case atStart => exact ⟨(y234), (0), (a1_0), (a1_1), (a1_2), sq_, H', ⟨Nat.le_refl _⟩, ⟨ra_ HO236.out⟩, ⟨bk_ BK230.out⟩, ⟨bk_ BK231.out⟩, ⟨bw_ HB.out⟩⟩
    case round =>
     clear H'
     try clear c16
     obtain ⟨x9_2, x24_2, x231000_2, x231001_2, x231002_2, rfl, HA, HK2, HO_9, BK230, BK231, HB⟩ := hrel
     cases gk with
     | zero => exact absurd HA.out (by simp [impl_RunMusic.l0])
     | succ k2 =>
      have H := HA.out
      clear HA
      simp only [impl_RunMusic.l0] at H
      by_cases c21 : x24_2 < a2
      ·rw [if_pos c21] at H
       have c21b0 : decide (x24_2 < a2) = true := decide_eq_true c21
       clear c21
       obtain ⟨t237, A220, H⟩ := bE_ H
       have A22 := am_ A220
       clear A220
       obtain ⟨c23, H⟩ := ifn_ H
       have c23b0 : decide (0 ≤ t237) = true := decide_eq_true c23
       clear c23
       obtain ⟨c24, H⟩ := ifn_ H
       have c24b0 : decide (t237 < (l0.length : Int)) = true := decide_eq_true c24
       clear c24
       have HC25 := am_ H
       clear H
       have hnb26 := NB230_231.out
       have hnc26 := NB231_230.out
       have hcz27_0 := cz_ BK230.out 0
       have hcz27_1 := cz_ BK230.out 1
       have hcz27_2 := cz_ BK230.out 2
       have hfz27_0 := blk_frozen BK230.out 0
       have hfz27_1 := blk_frozen BK230.out 1
       have hfz27_2 := blk_frozen BK230.out 2
       go_upto_region 7 with (first | ((with_reducible refine gate_callee (f := 28) rfl ?_); refine goesL_ (some 30) rfl rfl Tryd.func28 (by kernel_rfl) rfl #[.slice A0 l0.length c0, .string x231000_2] rfl (by (try simp only [List.map_toArray, List.map_cons, List.map_nil]); first | done | rfl | (simp only [List.length_drop, List.length_take]; rfl)) ?_; (with_reducible refine (impl_sectionAt.calls k2 _ _ l0 x231000_2 t237 _ ?side1 ?side2 A22.out).mono ?_); (case side1 => repeat (first | exact (Kd.C_below HR0.out HB.out) | (with_reducible refine Kd.C_alloc ?_ _) | (with_reducible refine Kd.C_drewN ?_ _) | (with_reducible refine Kd.C_drew ?_))); (case side2 => exact HC0.out); rintro e w28 ⟨rfl, hb⟩; refine ⟨_, rfl, ?_⟩; have n0_ := am_ (Kd.R_below (ra_ HO_9.out) hb); have n1_ := am_ (blk_below (bk_ BK230.out) hb); have n2_ := am_ (blk_below (bk_ BK231.out) hb); have n3_ := am_ (below_step (bw_ HB.out) hb); replace HO_9 := n0_; replace BK230 := n1_; replace BK231 := n2_; replace HB := n3_; clear n0_ n1_ n2_ n3_; (try clear hb); (try clear hb2); (try clear hk); (try clear hi); have p238 : 0 ≤ (t237 : Int) := od_; have q238 : t237 < (l0.length : Int) := od_; obtain ⟨ad238, A238_2, c238_2, e238, hx238_0, hx238_1, hx238_2, hx238_3, hl238_2, hi238_2⟩ := at_T49 HR0.out t237 p238 q238; cases e238; (try replace hx238_0 := hc_ HB.out hx238_0); (try replace hx238_1 := hc_ HB.out hx238_1); (try replace hx238_2 := hc_ HB.out hx238_2); (try replace hx238_3 := hc_ HB.out hx238_3); have HR238_2 := am_ hi238_2; have HC238_2 := am_ hl238_2; clear hi238_2 hl238_2; replace p238 := eq_true p238; replace q238 := eq_true q238) | ((with_reducible refine gate_dst (N := 10) rfl ?_); refine bx_ 10 #[.string (⟨#[]⟩ : ByteArray), .int .i64 0, .slice none 0 0, .string (⟨#[]⟩ : ByteArray)] 49 ?_; intro gb239 hg w29 hbox hb; have n0_ := am_ (Kd.R_below (ra_ HO_9.out) hb); have n1_ := am_ (blk_below (bk_ BK230.out) hb); have n2_ := am_ (blk_below (bk_ BK231.out) hb); have n3_ := am_ (below_step (bw_ HB.out) hb); have n4_ := am_ (hbox); have n5_ := am_ (gs_ hg (bw_ HB.out)); have n6_ := am_ (gs_ hg (bw_ HB.out)); have n7_ := am_ (nl_ hg (bk_ BK230.out)); have n8_ := am_ (ng_ hg (bk_ BK230.out)); have n9_ := am_ (nl_ hg (bk_ BK231.out)); have n10_ := am_ (ng_ hg (bk_ BK231.out)); replace HO_9 := n0_; replace BK230 := n1_; replace BK231 := n2_; replace HB := n3_; have BK239 := n4_; have GW239 := n5_; have GE239 := n6_; have NB230_239 := n7_; have NB239_230 := n8_; have NB231_239 := n9_; have NB239_231 := n10_; clear n0_ n1_ n2_ n3_ n4_ n5_ n6_ n7_ n8_ n9_ n10_; clear hb hbox hg; have hnb30 := NB239_230.out; have hnc30 := NB230_239.out; have hnb31 := NB239_231.out; have hnc31 := NB231_239.out; have hcz32_0 := cz_ BK239.out 0; have hcz32_1 := cz_ BK239.out 1; have hcz32_2 := cz_ BK239.out 2; have hcz32_3 := cz_ BK239.out 3; have hfz32_0 := blk_frozen BK239.out 0; have hfz32_1 := blk_frozen BK239.out 1; have hfz32_2 := blk_frozen BK239.out 2; have hfz32_3 := blk_frozen BK239.out 3))
       (try simp only [Act.put, List.setIfInBounds_toArray, List.set_cons_zero, List.set_cons_succ])
       go_cut [42] (fun v42 wc => ∃ (kq : Nat) (x42_24 : Bool), v42 = .bool x42_24 ∧ Aside0 (impl_RunMusic.j2 kq l0 x9_2 a2 x24_2 x42_24 x231000_2 x231001_2 x231002_2 = some (r1, r2, r3, r4, r5)) ∧ Aside0 (kq ≤ k2) ∧ Aside0 (Kd.R Kd.string 9 wc w.heap.size (fun _ => True) u9 x9_2) ∧ Aside0 (wc.heap[gb230]? = some (.cells #[.string x231000_2, .int .i64 x231001_2, .string x231002_2] 27 (0, 0))) ∧ Aside0 (wc.heap[gb231]? = some (.cells #[.string (⟨#[]⟩ : ByteArray), .int .i64 0, .string (⟨#[]⟩ : ByteArray)] 27 (0, 0))) ∧ Aside0 (wc.heap[gb239]? = some (.cells #[.string ((rd_T49 l0 t237).f0), .int .i64 ((rd_T49 l0 t237).f1), (.slice A238_2 ((rd_T49 l0 t237).f2).length c238_2), .string ((rd_T49 l0 t237).f3)] 49 (0, 0))) ∧ Aside0 (Below w.heap.size w wc))
       case first =>
        have H := HC25.out
        clear HC25
        by_cases c33 : x231002_2.toList = ([] : List UInt8)
        ·rw [if_pos c33] at H
         have c33b0 : (x231002_2.toList == ([] : List UInt8)) = true := beq_iff_eq.mpr c33
         have c33b1 : (x231002_2.toList != ([] : List UInt8)) = false := bne_eq_false_iff_eq.mpr c33
         clear c33
         (first | rw [c33b0] | (simp only [i64_w, i32_w]; rw [c33b0]) | skip)
         have H' := am_ H
         clear H
         have hnb34 := NB230_231.out
         have hnc34 := NB231_230.out
         have hnb35 := NB230_239.out
         have hnc35 := NB239_230.out
         have hcz36_0 := cz_ BK230.out 0
         have hcz36_1 := cz_ BK230.out 1
         have hcz36_2 := cz_ BK230.out 2
         have hfz36_0 := blk_frozen BK230.out 0
         have hfz36_1 := blk_frozen BK230.out 1
         have hfz36_2 := blk_frozen BK230.out 2
         go_wp2
         go_meet
         case rel => exact ⟨_, (false), sq_, H', ⟨by have := HJ3.out; have := HK2.out; first | omega | exact Nat.le_refl _⟩, ⟨ra_ (Kd.R_mono (Kd.R_far (p := ⟨gb239, 3, none⟩) (Kd.R_far (p := ⟨gb239, 2, none⟩) (Kd.R_far (p := ⟨gb239, 1, none⟩) (Kd.R_far (p := ⟨gb239, 0, none⟩) (Kd.R_types HO_9.out BK239.out (by decide)) (fun _ hk => hk.2) (.string ((rd_T49 l0 t237).f0))) (fun _ hk => hk.2) (.int .i64 ((rd_T49 l0 t237).f1))) (fun _ hk => hk.2) (.slice A238_2 ((rd_T49 l0 t237).f2).length c238_2)) (fun _ hk => hk.2) (.string ((rd_T49 l0 t237).f3))) (fun _ hk => trivial))⟩, ⟨by (with_reducible repeat (first | refine blk_drewN ?_ _ | refine blk_drew ?_ | refine blk_alloc ?_ _)); refine blk_far ?_ NB230_239.out _; (with_reducible repeat (first | refine blk_drewN ?_ _ | refine blk_drew ?_ | refine blk_alloc ?_ _)); refine blk_far ?_ NB230_239.out _; (with_reducible repeat (first | refine blk_drewN ?_ _ | refine blk_drew ?_ | refine blk_alloc ?_ _)); refine blk_far ?_ NB230_239.out _; (with_reducible repeat (first | refine blk_drewN ?_ _ | refine blk_drew ?_ | refine blk_alloc ?_ _)); refine blk_far ?_ NB230_239.out _; (with_reducible repeat (first | refine blk_drewN ?_ _ | refine blk_drew ?_ | refine blk_alloc ?_ _)); exact BK230.out⟩, ⟨by (with_reducible repeat (first | refine blk_drewN ?_ _ | refine blk_drew ?_ | refine blk_alloc ?_ _)); refine blk_far ?_ NB231_239.out _; (with_reducible repeat (first | refine blk_drewN ?_ _ | refine blk_drew ?_ | refine blk_alloc ?_ _)); refine blk_far ?_ NB231_239.out _; (with_reducible repeat (first | refine blk_drewN ?_ _ | refine blk_drew ?_ | refine blk_alloc ?_ _)); refine blk_far ?_ NB231_239.out _; (with_reducible repeat (first | refine blk_drewN ?_ _ | refine blk_drew ?_ | refine blk_alloc ?_ _)); refine blk_far ?_ NB231_239.out _; (with_reducible repeat (first | refine blk_drewN ?_ _ | refine blk_drew ?_ | refine blk_alloc ?_ _)); exact BK231.out⟩, ⟨by (with_reducible repeat (first | refine blk_drewN ?_ _ | refine blk_drew ?_ | refine blk_alloc ?_ _)); refine blk_put (cs := #[.string ((rd_T49 l0 t237).f0), .int .i64 ((rd_T49 l0 t237).f1), .slice A238_2 ((rd_T49 l0 t237).f2).length c238_2, .string (⟨#[]⟩ : ByteArray)]) ?_ 3 _ rfl; (with_reducible repeat (first | refine blk_drewN ?_ _ | refine blk_drew ?_ | refine blk_alloc ?_ _)); refine blk_put (cs := #[.string ((rd_T49 l0 t237).f0), .int .i64 ((rd_T49 l0 t237).f1), .slice none 0 0, .string (⟨#[]⟩ : ByteArray)]) ?_ 2 _ rfl; (with_reducible repeat (first | refine blk_drewN ?_ _ | refine blk_drew ?_ | refine blk_alloc ?_ _)); refine blk_put (cs := #[.string ((rd_T49 l0 t237).f0), .int .i64 0, .slice none 0 0, .string (⟨#[]⟩ : ByteArray)]) ?_ 1 _ rfl; (with_reducible repeat (first | refine blk_drewN ?_ _ | refine blk_drew ?_ | refine blk_alloc ?_ _)); refine blk_put (cs := #[.string (⟨#[]⟩ : ByteArray), .int .i64 0, .slice none 0 0, .string (⟨#[]⟩ : ByteArray)]) ?_ 0 _ rfl; (with_reducible repeat (first | refine blk_drewN ?_ _ | refine blk_drew ?_ | refine blk_alloc ?_ _)); exact BK239.out⟩, ⟨bw_ HB.out⟩⟩
        ·rw [if_neg c33] at H
         have c33b0 : (x231002_2.toList == ([] : List UInt8)) = false := beq_eq_false_iff_ne.mpr c33
         have c33b1 : (x231002_2.toList != ([] : List UInt8)) = true := bne_iff_ne.mpr c33
         (first | rw [c33b0] | (simp only [i64_w, i32_w]; rw [c33b0]) | skip)
         obtain ⟨t240, A370, H⟩ := bE_ H
         have A37 := am_ A370
         clear A370
         have H' := am_ H
         clear H
         have hnb38 := NB230_231.out
         have hnc38 := NB231_230.out
         have hnb39 := NB230_239.out
         have hnc39 := NB239_230.out
         have hcz40_0 := cz_ BK230.out 0
         have hcz40_1 := cz_ BK230.out 1
         have hcz40_2 := cz_ BK230.out 2
         have hfz40_0 := blk_frozen BK230.out 0
         have hfz40_1 := blk_frozen BK230.out 1
         have hfz40_2 := blk_frozen BK230.out 2
         have hnb41 := NB239_231.out
         have hnc41 := NB231_239.out
         have hcz42_0 := cz_ BK239.out 0
         have hcz42_1 := cz_ BK239.out 1
         have hcz42_2 := cz_ BK239.out 2
         have hcz42_3 := cz_ BK239.out 3
         have hfz42_0 := blk_frozen BK239.out 0
         have hfz42_1 := blk_frozen BK239.out 1
         have hfz42_2 := blk_frozen BK239.out 2
         have hfz42_3 := blk_frozen BK239.out 3
         go_wp2_with (first | (go_at_call 29; (with_reducible refine (slices_Contains_int_int.calls k2 _ _ ((rd_T49 l0 t237).f2) x231001_2 t240 _ ?side1 ?side2 A37.out).mono ?_); (case side1 => exact Kd.C_below HR238_2.out (bw_ HB.out)); (case side2 => exact HC238_2.out); rintro e w' ⟨rfl, ⟨nd, rfl⟩⟩))
         go_meet
         case rel => exact ⟨_, (t240), sq_, H', ⟨by have := HJ3.out; have := HK2.out; first | omega | exact Nat.le_refl _⟩, ⟨ra_ (Kd.R_mono (Kd.R_far (p := ⟨gb239, 3, none⟩) (Kd.R_far (p := ⟨gb239, 2, none⟩) (Kd.R_far (p := ⟨gb239, 1, none⟩) (Kd.R_far (p := ⟨gb239, 0, none⟩) (Kd.R_types HO_9.out BK239.out (by decide)) (fun _ hk => hk.2) (.string ((rd_T49 l0 t237).f0))) (fun _ hk => hk.2) (.int .i64 ((rd_T49 l0 t237).f1))) (fun _ hk => hk.2) (.slice A238_2 ((rd_T49 l0 t237).f2).length c238_2)) (fun _ hk => hk.2) (.string ((rd_T49 l0 t237).f3))) (fun _ hk => trivial))⟩, ⟨by (with_reducible repeat (first | refine blk_drewN ?_ _ | refine blk_drew ?_ | refine blk_alloc ?_ _)); refine blk_far ?_ NB230_239.out _; (with_reducible repeat (first | refine blk_drewN ?_ _ | refine blk_drew ?_ | refine blk_alloc ?_ _)); refine blk_far ?_ NB230_239.out _; (with_reducible repeat (first | refine blk_drewN ?_ _ | refine blk_drew ?_ | refine blk_alloc ?_ _)); refine blk_far ?_ NB230_239.out _; (with_reducible repeat (first | refine blk_drewN ?_ _ | refine blk_drew ?_ | refine blk_alloc ?_ _)); refine blk_far ?_ NB230_239.out _; (with_reducible repeat (first | refine blk_drewN ?_ _ | refine blk_drew ?_ | refine blk_alloc ?_ _)); exact BK230.out⟩, ⟨by (with_reducible repeat (first | refine blk_drewN ?_ _ | refine blk_drew ?_ | refine blk_alloc ?_ _)); refine blk_far ?_ NB231_239.out _; (with_reducible repeat (first | refine blk_drewN ?_ _ | refine blk_drew ?_ | refine blk_alloc ?_ _)); refine blk_far ?_ NB231_239.out _; (with_reducible repeat (first | refine blk_drewN ?_ _ | refine blk_drew ?_ | refine blk_alloc ?_ _)); refine blk_far ?_ NB231_239.out _; (with_reducible repeat (first | refine blk_drewN ?_ _ | refine blk_drew ?_ | refine blk_alloc ?_ _)); refine blk_far ?_ NB231_239.out _; (with_reducible repeat (first | refine blk_drewN ?_ _ | refine blk_drew ?_ | refine blk_alloc ?_ _)); exact BK231.out⟩, ⟨by (with_reducible repeat (first | refine blk_drewN ?_ _ | refine blk_drew ?_ | refine blk_alloc ?_ _)); refine blk_put (cs := #[.string ((rd_T49 l0 t237).f0), .int .i64 ((rd_T49 l0 t237).f1), .slice A238_2 ((rd_T49 l0 t237).f2).length c238_2, .string (⟨#[]⟩ : ByteArray)]) ?_ 3 _ rfl; (with_reducible repeat (first | refine blk_drewN ?_ _ | refine blk_drew ?_ | refine blk_alloc ?_ _)); refine blk_put (cs := #[.string ((rd_T49 l0 t237).f0), .int .i64 ((rd_T49 l0 t237).f1), .slice none 0 0, .string (⟨#[]⟩ : ByteArray)]) ?_ 2 _ rfl; (with_reducible repeat (first | refine blk_drewN ?_ _ | refine blk_drew ?_ | refine blk_alloc ?_ _)); refine blk_put (cs := #[.string ((rd_T49 l0 t237).f0), .int .i64 0, .slice none 0 0, .string (⟨#[]⟩ : ByteArray)]) ?_ 1 _ rfl; (with_reducible repeat (first | refine blk_drewN ?_ _ | refine blk_drew ?_ | refine blk_alloc ?_ _)); refine blk_put (cs := #[.string (⟨#[]⟩ : ByteArray), .int .i64 0, .slice none 0 0, .string (⟨#[]⟩ : ByteArray)]) ?_ 0 _ rfl; (with_reducible repeat (first | refine blk_drewN ?_ _ | refine blk_drew ?_ | refine blk_alloc ?_ _)); exact BK239.out⟩, ⟨bw_ HB.out⟩⟩
       case rest =>
        clear HC25
        try clear c16
        try clear c21
        try clear c21b0
        try clear c23
        try clear c23b0
        try clear c24
        try clear c24b0
        try clear hcz27_0
        try clear hcz27_1
        try clear hcz27_2
        try clear hcz32_0
        try clear hcz32_1
        try clear hcz32_2
        try clear hcz32_3
        try clear hfz27_0
        try clear hfz27_1
        try clear hfz27_2
        try clear hfz32_0
        try clear hfz32_1
        try clear hfz32_2
        try clear hfz32_3
        try clear hx238_0
        try clear hx238_1
        try clear hx238_2
        try clear hx238_3
        try clear p238
        try clear q238
        obtain ⟨kq, x42_24, rfl, HA, HJ24, HO_9, BK230, BK231, BK239, HB⟩ := hcut
        cases kq with
        | zero => exact absurd HA.out (by simp [impl_RunMusic.j2])
        | succ kj24 =>
         have H := HA.out
         clear HA
         simp only [impl_RunMusic.j2] at H
         have HC43 := am_ H
         clear H
         go_upto_if 42 with (fail)
         go_cut [] (fun wc => ∃ (kq : Nat) (x231000_42 : ByteArray) (x231001_42 : Int) (x231002_42 : ByteArray), Aside0 (impl_RunMusic.j3 kq l0 x9_2 a2 x24_2 x231000_42 x231001_42 x231002_42 = some (r1, r2, r3, r4, r5)) ∧ Aside0 (kq ≤ kj24) ∧ Aside0 (Kd.R Kd.string 9 wc w.heap.size (fun _ => True) u9 x9_2) ∧ Aside0 (wc.heap[gb230]? = some (.cells #[.string x231000_42, .int .i64 x231001_42, .string x231002_42] 27 (0, 0))) ∧ Aside0 (wc.heap[gb231]? = some (.cells #[.string (⟨#[]⟩ : ByteArray), .int .i64 0, .string (⟨#[]⟩ : ByteArray)] 27 (0, 0))) ∧ Aside0 (wc.heap[gb239]? = some (.cells #[.string ((rd_T49 l0 t237).f0), .int .i64 ((rd_T49 l0 t237).f1), (.slice A238_2 ((rd_T49 l0 t237).f2).length c238_2), .string ((rd_T49 l0 t237).f3)] 49 (0, 0))) ∧ Aside0 (Below w.heap.size w wc))
         case first =>
          have H := HC43.out
          clear HC43
          by_cases c44 : x42_24 = true
          ·subst c44
           replace H := it_ H rfl
           have H' := am_ H
           clear H
           have hnb45 := NB230_231.out
           have hnc45 := NB231_230.out
           have hnb46 := NB230_239.out
           have hnc46 := NB239_230.out
           have hcz47_0 := cz_ BK230.out 0
           have hcz47_1 := cz_ BK230.out 1
           have hcz47_2 := cz_ BK230.out 2
           have hfz47_0 := blk_frozen BK230.out 0
           have hfz47_1 := blk_frozen BK230.out 1
           have hfz47_2 := blk_frozen BK230.out 2
           go_wp2
           go_meet
           case rel => exact ⟨_, (x231002_2), (0), ((⟨#[]⟩ : ByteArray)), H', ⟨by have := HJ3.out; have := HK2.out; have := HJ24.out; first | omega | exact Nat.le_refl _⟩, ⟨ra_ (Kd.R_mono (Kd.R_far (p := ⟨gb230, 2, none⟩) (Kd.R_far (p := ⟨gb230, 1, none⟩) (Kd.R_far (p := ⟨gb230, 0, none⟩) (Kd.R_types HO_9.out BK230.out (by decide)) (fun _ hk => hk.2) (.string x231002_2)) (fun _ hk => hk.2) (.int .i64 0)) (fun _ hk => hk.2) (.string (⟨#[]⟩ : ByteArray))) (fun _ hk => trivial))⟩, ⟨by (with_reducible repeat (first | refine blk_drewN ?_ _ | refine blk_drew ?_ | refine blk_alloc ?_ _)); refine blk_put (cs := #[.string x231002_2, .int .i64 0, .string x231002_2]) ?_ 2 _ rfl; (with_reducible repeat (first | refine blk_drewN ?_ _ | refine blk_drew ?_ | refine blk_alloc ?_ _)); refine blk_put (cs := #[.string x231002_2, .int .i64 x231001_2, .string x231002_2]) ?_ 1 _ rfl; (with_reducible repeat (first | refine blk_drewN ?_ _ | refine blk_drew ?_ | refine blk_alloc ?_ _)); refine blk_put (cs := #[.string x231000_2, .int .i64 x231001_2, .string x231002_2]) ?_ 0 _ rfl; (with_reducible repeat (first | refine blk_drewN ?_ _ | refine blk_drew ?_ | refine blk_alloc ?_ _)); exact BK230.out⟩, ⟨by (with_reducible repeat (first | refine blk_drewN ?_ _ | refine blk_drew ?_ | refine blk_alloc ?_ _)); refine blk_far ?_ NB231_230.out _; (with_reducible repeat (first | refine blk_drewN ?_ _ | refine blk_drew ?_ | refine blk_alloc ?_ _)); refine blk_far ?_ NB231_230.out _; (with_reducible repeat (first | refine blk_drewN ?_ _ | refine blk_drew ?_ | refine blk_alloc ?_ _)); refine blk_far ?_ NB231_230.out _; (with_reducible repeat (first | refine blk_drewN ?_ _ | refine blk_drew ?_ | refine blk_alloc ?_ _)); exact BK231.out⟩, ⟨by (with_reducible repeat (first | refine blk_drewN ?_ _ | refine blk_drew ?_ | refine blk_alloc ?_ _)); refine blk_far ?_ NB239_230.out _; (with_reducible repeat (first | refine blk_drewN ?_ _ | refine blk_drew ?_ | refine blk_alloc ?_ _)); refine blk_far ?_ NB239_230.out _; (with_reducible repeat (first | refine blk_drewN ?_ _ | refine blk_drew ?_ | refine blk_alloc ?_ _)); refine blk_far ?_ NB239_230.out _; (with_reducible repeat (first | refine blk_drewN ?_ _ | refine blk_drew ?_ | refine blk_alloc ?_ _)); exact BK239.out⟩, ⟨bw_ HB.out⟩⟩
          ·replace c44 := Bool.eq_false_iff.mpr c44
           subst c44
           replace H := if_ H Bool.false_ne_true
           have H' := am_ H
           clear H
           go_wp2
           go_meet
           case rel => exact ⟨_, (x231000_2), (x231001_2), (x231002_2), H', ⟨by have := HJ3.out; have := HK2.out; have := HJ24.out; first | omega | exact Nat.le_refl _⟩, ⟨ra_ HO_9.out⟩, ⟨bk_ BK230.out⟩, ⟨bk_ BK231.out⟩, ⟨bk_ BK239.out⟩, ⟨bw_ HB.out⟩⟩
         case rest =>
          clear HC43
          try clear c16
          try clear c21
          try clear c21b0
          try clear c23
          try clear c23b0
          try clear c24
          try clear c24b0
          try clear hcz27_0
          try clear hcz27_1
          try clear hcz27_2
          try clear hcz32_0
          try clear hcz32_1
          try clear hcz32_2
          try clear hcz32_3
          try clear hfz27_0
          try clear hfz27_1
          try clear hfz27_2
          try clear hfz32_0
          try clear hfz32_1
          try clear hfz32_2
          try clear hfz32_3
          try clear hx238_0
          try clear hx238_1
          try clear hx238_2
          try clear hx238_3
          try clear p238
          try clear q238
          obtain ⟨kq, x231000_42, x231001_42, x231002_42, HA, HJ42, HO_9, BK230, BK231, BK239, HB⟩ := hcut
          cases kq with
          | zero => exact absurd HA.out (by simp [impl_RunMusic.j3])
          | succ kj42 =>
           have H := HA.out
           clear HA
           simp only [impl_RunMusic.j3] at H
           obtain ⟨c48, H⟩ := ifn_ H
           have c48b0 := eq_true c48
           have c48b1 : decide (x231000_42.size + 1 ≤ 9223372036854775807) = true := decide_eq_true c48
           try have c48b2 : (9223372036854775807 < x231000_42.size + 1) = False := eq_false (Nat.not_lt.2 c48)
           obtain ⟨t241, A490, H⟩ := bE_ H
           have A49 := am_ A490
           clear A490
           obtain ⟨c50, H⟩ := ifn_ H
           have c50b0 := eq_true c50
           have c50b1 : decide ((x231000_42 ++ (⟨#[58]⟩ : ByteArray)).size + t241.size ≤ 9223372036854775807) = true := decide_eq_true c50
           try have c50b2 : (9223372036854775807 < (x231000_42 ++ (⟨#[58]⟩ : ByteArray)).size + t241.size) = False := eq_false (Nat.not_lt.2 c50)
           try have c50b3 : (9223372036854775807 < x231000_42.size + 1 + t241.size) = False := eq_false (Nat.not_lt.2 (by have h_ := c50; rw [ByteArray.size_append] at h_; exact h_))
           obtain ⟨c51, H⟩ := ifn_ H
           have LMc51 := am_ c51
           clear c51
           obtain ⟨y242, hy242⟩ : ∃ y_ : List ByteArray, y_ = (x9_2 ++ [(x231000_42 ++ (⟨#[58]⟩ : ByteArray)) ++ t241]) := ⟨_, rfl⟩
           replace H : ((impl_sectionAt.f kj42 l0 x231000_42).bind fun t245 => (if 0 ≤ t245 then (if t245 < (l0.length : Int) then (if (wrap64 (x231001_42 + 1)) = ((rd_T49 l0 t245).f1) then (impl_RunMusic.l0 kj42 l0 y242 a2 (wrap64 (x24_2 + 1)) ((rd_T49 l0 t245).f3) 0 x231002_42) else (impl_RunMusic.l0 kj42 l0 y242 a2 (wrap64 (x24_2 + 1)) x231000_42 (wrap64 (x231001_42 + 1)) x231002_42)) else (none)) else (none))) = some (r1, r2, r3, r4, r5) := by first | (rw [hy242]; with_reducible exact H) | (have H2_ := (Option.bind_some _ _).symm.trans H; rw [hy242]; with_reducible exact H2_) | (have H2_ := (Option.bind_some _ _).symm.trans H; with_reducible exact H2_) | with_reducible exact H | (rw [hy242]; exact H) | exact H
           have Ny242 := am_ hy242
           clear hy242
           obtain ⟨t245, A520, H⟩ := bE_ H
           have A52 := am_ A520
           clear A520
           obtain ⟨c53, H⟩ := ifn_ H
           have c53b0 : decide (0 ≤ t245) = true := decide_eq_true c53
           clear c53
           obtain ⟨c54, H⟩ := ifn_ H
           have c54b0 : decide (t245 < (l0.length : Int)) = true := decide_eq_true c54
           clear c54
           by_cases c55 : (wrap64 (x231001_42 + 1)) = ((rd_T49 l0 t245).f1)
           ·rw [if_pos c55] at H
            have c55b0 : ((wrap64 (x231001_42 + 1)) == ((rd_T49 l0 t245).f1)) = true := beq_iff_eq.mpr c55
            have c55b1 : ((wrap64 (x231001_42 + 1)) != ((rd_T49 l0 t245).f1)) = false := bne_eq_false_iff_eq.mpr c55
            clear c55
            have H' := am_ H
            clear H
            try go_wp2
            have n0_ := am_ (Kd.R_drew HO_9.out)
            have n1_ := am_ (blk_drew BK230.out)
            have n2_ := am_ (blk_drew BK231.out)
            have n3_ := am_ (blk_drew BK239.out)
            have n4_ := am_ (below_drew1 HB.out)
            replace HO_9 := n0_
            replace BK230 := n1_
            replace BK231 := n2_
            replace BK239 := n3_
            replace HB := n4_
            clear n0_ n1_ n2_ n3_ n4_
            refine start_ (n := 11) (S := fun w' => w'.cell? ⟨gb230, 0, none⟩ = some (.string x231000_42) ∧ w'.cell? ⟨gb230, 1, none⟩ = some (.int .i64 x231001_42) ∧ w'.cell? ⟨gb230, 2, none⟩ = some (.string x231002_42)) (ds := []) (Array.replicate 11 false) (by kernel_rfl) rfl rfl ⟨cz_ BK230.out 0, cz_ BK230.out 1, cz_ BK230.out 2⟩ (fun hHeld => ?_); refine with_tabW impl_RunMusic.tab9 impl_RunMusic.bits9 (fun HT_ HW_ => ?_)
            generalize wc.drew = w56 at HO_9 BK230 BK231 BK239 HB hHeld ⊢
            refine pS_ 0 46 HT_ ?_
            refine pS_ 1 47 HT_ ?_
            refine pS_ 4 50 HT_ ?_
            refine tS_ 2 48 HT_ HW_ hHeld ?_
            refine pS_ 3 49 HT_ ?_
            refine tS_ 5 51 HT_ HW_ hHeld ?_
            refine oS_ 6 52 HT_ (fun K hK => ?_)
            refine goes_ Tryd.func30 (by kernel_rfl) rfl #[.int .i64 x231001_42] (by rfl) rfl rfl (by (try simp only [List.map_toArray, List.map_cons, List.map_nil]); first | done | rfl | (simp only [List.length_drop, List.length_take]; rfl)) ?_
            with_reducible refine (impl_digits.calls x231001_42 t241 _ A49.out).mono ?_
            rintro e w' ⟨rfl, ⟨nd, rfl⟩⟩
            refine ⟨_, rfl, ?_⟩
            refine hK.out _ _ ⟨cz_ BK230.out 0, cz_ BK230.out 1, cz_ BK230.out 2⟩ (fun hHeld => ?_)
            clear hK K
            refine nS_ ?_
            refine pS_ 7 53 HT_ ?_
            refine oS_ 8 54 HT_ (fun K hK => ?_)
            refine value_ (w1 := ?_) (v := ?_) (by rfl) rfl ?_ ?_
            rotate_left 2
            ·go_simp
             constructor
             ·rfl
             ·rfl
            refine hK.out _ _ ⟨(blk_cell (blk_alloc BK230.out _) 0).trans rfl, (blk_cell (blk_alloc BK230.out _) 1).trans rfl, (blk_cell (blk_alloc BK230.out _) 2).trans rfl⟩ (fun hHeld => ?_)
            clear hK K
            refine nS_ ?_
            refine oS_ 9 55 HT_ (fun K hK => ?_)
            refine Kd.R_append_step Kd.string (w0 := w) w.heap.size (by rfl) (.tmp 46) (.tmp 54) 28 9 (.string ⟨#[]⟩) 16 rfl Tryd.underlying28 info9 rfl (by decide) (by omega) u9 x9_2 ((x231000_42 ++ (⟨#[58]⟩ : ByteArray)) ++ t241) [.string ((x231000_42 ++ (⟨#[58]⟩ : ByteArray)) ++ t241)] (fun _ => True) (fun _ => False) rfl rfl ?aP (fun _ hk => hk.elim) ?aF ?aO ?aB ?aS ?aL ?_
            (case aP => exact rfl)
            (case aB => exact (bw_ HB.out))
            (case aF => exact (fun _ _ => trivial))
            (case aO => exact (ra_ HO_9.out))
            (case aS => exact (below_size (bw_ HB.out)))
            (case aL => have := LMc51.out; omega)
            intro v243 w57 ho hb hg hat
            rw [← Ny242.out] at ho
            have n0_ := am_ (blk_grown (bk_ BK230.out) hg (Kd.R_ne HO_9.out BK230.out (by decide)))
            have n1_ := am_ (blk_grown (bk_ BK231.out) hg (Kd.R_ne HO_9.out BK231.out (by decide)))
            have n2_ := am_ (blk_grown (bk_ BK239.out) hg (Kd.R_ne HO_9.out BK239.out (by decide)))
            have n3_ := am_ (hb)
            have n4_ := am_ (ho)
            clear HO_9
            replace BK230 := n0_
            replace BK231 := n1_
            replace BK239 := n2_
            replace HB := n3_
            have HO244 := n4_
            clear n0_ n1_ n2_ n3_ n4_
            clear ho hb hg hat
            refine hK.out _ _ ⟨cz_ BK230.out 0, cz_ BK230.out 1, cz_ BK230.out 2⟩ (fun hHeld => ?_)
            clear hK K
            refine nS_ ?_
            refine pS_ 10 9 HT_ ?_
            refine done_ (done_of HT_.out (by kernel_rfl)) ?_
            have hnb58 := NB230_231.out
            have hnc58 := NB231_230.out
            have hnb59 := NB230_239.out
            have hnc59 := NB239_230.out
            have hcz60_0 := cz_ BK230.out 0
            have hcz60_1 := cz_ BK230.out 1
            have hcz60_2 := cz_ BK230.out 2
            have hfz60_0 := blk_frozen BK230.out 0
            have hfz60_1 := blk_frozen BK230.out 1
            have hfz60_2 := blk_frozen BK230.out 2
            try go_wp2_with (first | ((with_reducible refine gate_callee (f := 28) rfl ?_); refine goesL_ (some 64) rfl rfl Tryd.func28 (by kernel_rfl) rfl #[.slice (some ad238) l0.length c0, .string x231000_42] rfl (by (try simp only [List.map_toArray, List.map_cons, List.map_nil]); first | done | rfl | (simp only [List.length_drop, List.length_take]; rfl)) ?_; (with_reducible refine (impl_sectionAt.calls kj42 _ _ l0 x231000_42 t245 _ ?side1 ?side2 A52.out).mono ?_); (case side1 => exact Kd.C_below HR0.out (bw_ HB.out)); (case side2 => exact HC0.out); rintro e w61 ⟨rfl, hb⟩; refine ⟨_, rfl, ?_⟩; have n0_ := am_ (Kd.R_below (ra_ ((Kd.R_mono (Kd.R_far (p := ⟨gb230, 1, none⟩) (Kd.R_types HO244.out BK230.out (by decide)) (fun _ hk => hk.2) (.int .i64 (wrap64 (x231001_42 + 1)))) (fun _ h_ => h_.1)))) hb); have n1_ := am_ (blk_below (g := gb230) (o := .cells #[.string x231000_42, .int .i64 (wrap64 (x231001_42 + 1)), .string x231002_42] 27 (0, 0)) (by (with_reducible repeat (first | refine blk_drewN ?_ _ | refine blk_drew ?_ | refine blk_alloc ?_ _)); refine blk_put (cs := #[.string x231000_42, .int .i64 x231001_42, .string x231002_42]) ?_ 1 _ rfl; (with_reducible repeat (first | refine blk_drewN ?_ _ | refine blk_drew ?_ | refine blk_alloc ?_ _)); exact BK230.out) hb); have n2_ := am_ (blk_below (g := gb231) (o := .cells #[.string (⟨#[]⟩ : ByteArray), .int .i64 0, .string (⟨#[]⟩ : ByteArray)] 27 (0, 0)) (by (with_reducible repeat (first | refine blk_drewN ?_ _ | refine blk_drew ?_ | refine blk_alloc ?_ _)); refine blk_far ?_ NB231_230.out _; (with_reducible repeat (first | refine blk_drewN ?_ _ | refine blk_drew ?_ | refine blk_alloc ?_ _)); exact BK231.out) hb); have n3_ := am_ (blk_below (g := gb239) (o := .cells #[.string ((rd_T49 l0 t237).f0), .int .i64 ((rd_T49 l0 t237).f1), .slice A238_2 ((rd_T49 l0 t237).f2).length c238_2, .string ((rd_T49 l0 t237).f3)] 49 (0, 0)) (by (with_reducible repeat (first | refine blk_drewN ?_ _ | refine blk_drew ?_ | refine blk_alloc ?_ _)); refine blk_far ?_ NB239_230.out _; (with_reducible repeat (first | refine blk_drewN ?_ _ | refine blk_drew ?_ | refine blk_alloc ?_ _)); exact BK239.out) hb); have n4_ := am_ (below_step (bw_ HB.out) hb); replace HO244 := n0_; replace BK230 := n1_; replace BK231 := n2_; replace BK239 := n3_; replace HB := n4_; clear n0_ n1_ n2_ n3_ n4_; (try clear hb); (try clear hb2); (try clear hk); (try clear hi); have p246 : 0 ≤ (t245 : Int) := od_; have q246 : t245 < (l0.length : Int) := od_; obtain ⟨ad246, A246_2, c246_2, e246, hx246_0, hx246_1, hx246_2, hx246_3, hl246_2, hi246_2⟩ := at_T49 HR0.out t245 p246 q246; obtain rfl : ad238 = ad246 := (by injection e246); (try replace hx246_0 := hc_ HB.out hx246_0); (try replace hx246_1 := hc_ HB.out hx246_1); (try replace hx246_2 := hc_ HB.out hx246_2); (try replace hx246_3 := hc_ HB.out hx246_3); have HR246_2 := am_ hi246_2; have HC246_2 := am_ hl246_2; clear hi246_2 hl246_2; replace p246 := eq_true p246; replace q246 := eq_true q246) | ((with_reducible refine gate_dst (N := 11) rfl ?_); refine bx_ 11 #[.string (⟨#[]⟩ : ByteArray), .int .i64 0, .slice none 0 0, .string (⟨#[]⟩ : ByteArray)] 49 ?_; intro gb247 hg w62 hbox hb; have n0_ := am_ (Kd.R_below (ra_ HO244.out) hb); have n1_ := am_ (blk_below (bk_ BK230.out) hb); have n2_ := am_ (blk_below (bk_ BK231.out) hb); have n3_ := am_ (blk_below (bk_ BK239.out) hb); have n4_ := am_ (below_step (bw_ HB.out) hb); have n5_ := am_ (hbox); have n6_ := am_ (gs_ hg (bw_ HB.out)); have n7_ := am_ (gs_ hg (bw_ HB.out)); have n8_ := am_ (nl_ hg (bk_ BK230.out)); have n9_ := am_ (ng_ hg (bk_ BK230.out)); have n10_ := am_ (nl_ hg (bk_ BK231.out)); have n11_ := am_ (ng_ hg (bk_ BK231.out)); have n12_ := am_ (nl_ hg (bk_ BK239.out)); have n13_ := am_ (ng_ hg (bk_ BK239.out)); replace HO244 := n0_; replace BK230 := n1_; replace BK231 := n2_; replace BK239 := n3_; replace HB := n4_; have BK247 := n5_; have GW247 := n6_; have GE247 := n7_; have NB230_247 := n8_; have NB247_230 := n9_; have NB231_247 := n10_; have NB247_231 := n11_; have NB239_247 := n12_; have NB247_239 := n13_; clear n0_ n1_ n2_ n3_ n4_ n5_ n6_ n7_ n8_ n9_ n10_ n11_ n12_ n13_; clear hb hbox hg; have hnb63 := NB247_230.out; have hnc63 := NB230_247.out; have hnb64 := NB247_231.out; have hnc64 := NB231_247.out; have hnb65 := NB247_239.out; have hnc65 := NB239_247.out; have hcz66_0 := cz_ BK247.out 0; have hcz66_1 := cz_ BK247.out 1; have hcz66_2 := cz_ BK247.out 2; have hcz66_3 := cz_ BK247.out 3; have hfz66_0 := blk_frozen BK247.out 0; have hfz66_1 := blk_frozen BK247.out 1; have hfz66_2 := blk_frozen BK247.out 2; have hfz66_3 := blk_frozen BK247.out 3; have hcz67_0 := cz_ BK230.out 0; have hcz67_1 := cz_ BK230.out 1; have hcz67_2 := cz_ BK230.out 2; have hfz67_0 := blk_frozen BK230.out 0; have hfz67_1 := blk_frozen BK230.out 1; have hfz67_2 := blk_frozen BK230.out 2))
            go_roundg kj42
            case measure => have := HJ3.out; have := HK2.out; have := HJ24.out; have := HJ42.out; omega
            case rel => exact ⟨(y242), (wrap64 (x24_2 + 1)), ((rd_T49 l0 t245).f3), (0), (x231002_42), sq_, H', ⟨by have := HJ3.out; have := HK2.out; have := HJ24.out; have := HJ42.out; omega⟩, ⟨ra_ (Kd.R_mono (Kd.R_far (p := ⟨gb230, 1, none⟩) (Kd.R_far (p := ⟨gb230, 0, none⟩) (Kd.R_far (p := ⟨gb247, 3, none⟩) (Kd.R_far (p := ⟨gb247, 2, none⟩) (Kd.R_far (p := ⟨gb247, 1, none⟩) (Kd.R_far (p := ⟨gb247, 0, none⟩) (Kd.R_types (Kd.R_types HO244.out BK247.out (by decide)) BK230.out (by decide)) (fun _ hk => hk.1.2) (.string ((rd_T49 l0 t245).f0))) (fun _ hk => hk.1.2) (.int .i64 ((rd_T49 l0 t245).f1))) (fun _ hk => hk.1.2) (.slice A246_2 ((rd_T49 l0 t245).f2).length c246_2)) (fun _ hk => hk.1.2) (.string ((rd_T49 l0 t245).f3))) (fun _ hk => hk.2) (.string ((rd_T49 l0 t245).f3))) (fun _ hk => hk.2) (.int .i64 0)) (fun _ hk => trivial))⟩, ⟨by (with_reducible repeat (first | refine blk_drewN ?_ _ | refine blk_drew ?_ | refine blk_alloc ?_ _)); refine blk_put (cs := #[.string ((rd_T49 l0 t245).f3), .int .i64 (wrap64 (x231001_42 + 1)), .string x231002_42]) ?_ 1 _ rfl; (with_reducible repeat (first | refine blk_drewN ?_ _ | refine blk_drew ?_ | refine blk_alloc ?_ _)); refine blk_put (cs := #[.string x231000_42, .int .i64 (wrap64 (x231001_42 + 1)), .string x231002_42]) ?_ 0 _ rfl; (with_reducible repeat (first | refine blk_drewN ?_ _ | refine blk_drew ?_ | refine blk_alloc ?_ _)); refine blk_far ?_ NB230_247.out _; (with_reducible repeat (first | refine blk_drewN ?_ _ | refine blk_drew ?_ | refine blk_alloc ?_ _)); refine blk_far ?_ NB230_247.out _; (with_reducible repeat (first | refine blk_drewN ?_ _ | refine blk_drew ?_ | refine blk_alloc ?_ _)); refine blk_far ?_ NB230_247.out _; (with_reducible repeat (first | refine blk_drewN ?_ _ | refine blk_drew ?_ | refine blk_alloc ?_ _)); refine blk_far ?_ NB230_247.out _; (with_reducible repeat (first | refine blk_drewN ?_ _ | refine blk_drew ?_ | refine blk_alloc ?_ _)); exact BK230.out⟩, ⟨by (with_reducible repeat (first | refine blk_drewN ?_ _ | refine blk_drew ?_ | refine blk_alloc ?_ _)); refine blk_far ?_ NB231_230.out _; (with_reducible repeat (first | refine blk_drewN ?_ _ | refine blk_drew ?_ | refine blk_alloc ?_ _)); refine blk_far ?_ NB231_230.out _; (with_reducible repeat (first | refine blk_drewN ?_ _ | refine blk_drew ?_ | refine blk_alloc ?_ _)); refine blk_far ?_ NB231_247.out _; (with_reducible repeat (first | refine blk_drewN ?_ _ | refine blk_drew ?_ | refine blk_alloc ?_ _)); refine blk_far ?_ NB231_247.out _; (with_reducible repeat (first | refine blk_drewN ?_ _ | refine blk_drew ?_ | refine blk_alloc ?_ _)); refine blk_far ?_ NB231_247.out _; (with_reducible repeat (first | refine blk_drewN ?_ _ | refine blk_drew ?_ | refine blk_alloc ?_ _)); refine blk_far ?_ NB231_247.out _; (with_reducible repeat (first | refine blk_drewN ?_ _ | refine blk_drew ?_ | refine blk_alloc ?_ _)); exact BK231.out⟩, ⟨bw_ HB.out⟩⟩
           ·rw [if_neg c55] at H
            have c55b0 : ((wrap64 (x231001_42 + 1)) == ((rd_T49 l0 t245).f1)) = false := beq_eq_false_iff_ne.mpr c55
            have c55b1 : ((wrap64 (x231001_42 + 1)) != ((rd_T49 l0 t245).f1)) = true := bne_iff_ne.mpr c55
            have H' := am_ H
            clear H
            try go_wp2
            have n0_ := am_ (Kd.R_drew HO_9.out)
            have n1_ := am_ (blk_drew BK230.out)
            have n2_ := am_ (blk_drew BK231.out)
            have n3_ := am_ (blk_drew BK239.out)
            have n4_ := am_ (below_drew1 HB.out)
            replace HO_9 := n0_
            replace BK230 := n1_
            replace BK231 := n2_
            replace BK239 := n3_
            replace HB := n4_
            clear n0_ n1_ n2_ n3_ n4_
            refine start_ (n := 11) (S := fun w' => w'.cell? ⟨gb230, 0, none⟩ = some (.string x231000_42) ∧ w'.cell? ⟨gb230, 1, none⟩ = some (.int .i64 x231001_42) ∧ w'.cell? ⟨gb230, 2, none⟩ = some (.string x231002_42)) (ds := []) (Array.replicate 11 false) (by kernel_rfl) rfl rfl ⟨cz_ BK230.out 0, cz_ BK230.out 1, cz_ BK230.out 2⟩ (fun hHeld => ?_); refine with_tabW impl_RunMusic.tab9 impl_RunMusic.bits9 (fun HT_ HW_ => ?_)
            generalize wc.drew = w68 at HO_9 BK230 BK231 BK239 HB hHeld ⊢
            refine pS_ 0 46 HT_ ?_
            refine pS_ 1 47 HT_ ?_
            refine pS_ 4 50 HT_ ?_
            refine tS_ 2 48 HT_ HW_ hHeld ?_
            refine pS_ 3 49 HT_ ?_
            refine tS_ 5 51 HT_ HW_ hHeld ?_
            refine oS_ 6 52 HT_ (fun K hK => ?_)
            refine goes_ Tryd.func30 (by kernel_rfl) rfl #[.int .i64 x231001_42] (by rfl) rfl rfl (by (try simp only [List.map_toArray, List.map_cons, List.map_nil]); first | done | rfl | (simp only [List.length_drop, List.length_take]; rfl)) ?_
            with_reducible refine (impl_digits.calls x231001_42 t241 _ A49.out).mono ?_
            rintro e w' ⟨rfl, ⟨nd, rfl⟩⟩
            refine ⟨_, rfl, ?_⟩
            refine hK.out _ _ ⟨cz_ BK230.out 0, cz_ BK230.out 1, cz_ BK230.out 2⟩ (fun hHeld => ?_)
            clear hK K
            refine nS_ ?_
            refine pS_ 7 53 HT_ ?_
            refine oS_ 8 54 HT_ (fun K hK => ?_)
            refine value_ (w1 := ?_) (v := ?_) (by rfl) rfl ?_ ?_
            rotate_left 2
            ·go_simp
             constructor
             ·rfl
             ·rfl
            refine hK.out _ _ ⟨(blk_cell (blk_alloc BK230.out _) 0).trans rfl, (blk_cell (blk_alloc BK230.out _) 1).trans rfl, (blk_cell (blk_alloc BK230.out _) 2).trans rfl⟩ (fun hHeld => ?_)
            clear hK K
            refine nS_ ?_
            refine oS_ 9 55 HT_ (fun K hK => ?_)
            refine Kd.R_append_step Kd.string (w0 := w) w.heap.size (by rfl) (.tmp 46) (.tmp 54) 28 9 (.string ⟨#[]⟩) 16 rfl Tryd.underlying28 info9 rfl (by decide) (by omega) u9 x9_2 ((x231000_42 ++ (⟨#[58]⟩ : ByteArray)) ++ t241) [.string ((x231000_42 ++ (⟨#[58]⟩ : ByteArray)) ++ t241)] (fun _ => True) (fun _ => False) rfl rfl ?aP (fun _ hk => hk.elim) ?aF ?aO ?aB ?aS ?aL ?_
            (case aP => exact rfl)
            (case aB => exact (bw_ HB.out))
            (case aF => exact (fun _ _ => trivial))
            (case aO => exact (ra_ HO_9.out))
            (case aS => exact (below_size (bw_ HB.out)))
            (case aL => have := LMc51.out; omega)
            intro v243 w69 ho hb hg hat
            rw [← Ny242.out] at ho
            have n0_ := am_ (blk_grown (bk_ BK230.out) hg (Kd.R_ne HO_9.out BK230.out (by decide)))
            have n1_ := am_ (blk_grown (bk_ BK231.out) hg (Kd.R_ne HO_9.out BK231.out (by decide)))
            have n2_ := am_ (blk_grown (bk_ BK239.out) hg (Kd.R_ne HO_9.out BK239.out (by decide)))
            have n3_ := am_ (hb)
            have n4_ := am_ (ho)
            clear HO_9
            replace BK230 := n0_
            replace BK231 := n1_
            replace BK239 := n2_
            replace HB := n3_
            have HO244 := n4_
            clear n0_ n1_ n2_ n3_ n4_
            clear ho hb hg hat
            refine hK.out _ _ ⟨cz_ BK230.out 0, cz_ BK230.out 1, cz_ BK230.out 2⟩ (fun hHeld => ?_)
            clear hK K
            refine nS_ ?_
            refine pS_ 10 9 HT_ ?_
            refine done_ (done_of HT_.out (by kernel_rfl)) ?_
            have hnb70 := NB230_231.out
            have hnc70 := NB231_230.out
            have hnb71 := NB230_239.out
            have hnc71 := NB239_230.out
            have hcz72_0 := cz_ BK230.out 0
            have hcz72_1 := cz_ BK230.out 1
            have hcz72_2 := cz_ BK230.out 2
            have hfz72_0 := blk_frozen BK230.out 0
            have hfz72_1 := blk_frozen BK230.out 1
            have hfz72_2 := blk_frozen BK230.out 2
            try go_wp2_with (first | ((with_reducible refine gate_callee (f := 28) rfl ?_); refine goesL_ (some 64) rfl rfl Tryd.func28 (by kernel_rfl) rfl #[.slice (some ad238) l0.length c0, .string x231000_42] rfl (by (try simp only [List.map_toArray, List.map_cons, List.map_nil]); first | done | rfl | (simp only [List.length_drop, List.length_take]; rfl)) ?_; (with_reducible refine (impl_sectionAt.calls kj42 _ _ l0 x231000_42 t245 _ ?side1 ?side2 A52.out).mono ?_); (case side1 => exact Kd.C_below HR0.out (bw_ HB.out)); (case side2 => exact HC0.out); rintro e w73 ⟨rfl, hb⟩; refine ⟨_, rfl, ?_⟩; have n0_ := am_ (Kd.R_below (ra_ ((Kd.R_mono (Kd.R_far (p := ⟨gb230, 1, none⟩) (Kd.R_types HO244.out BK230.out (by decide)) (fun _ hk => hk.2) (.int .i64 (wrap64 (x231001_42 + 1)))) (fun _ h_ => h_.1)))) hb); have n1_ := am_ (blk_below (g := gb230) (o := .cells #[.string x231000_42, .int .i64 (wrap64 (x231001_42 + 1)), .string x231002_42] 27 (0, 0)) (by (with_reducible repeat (first | refine blk_drewN ?_ _ | refine blk_drew ?_ | refine blk_alloc ?_ _)); refine blk_put (cs := #[.string x231000_42, .int .i64 x231001_42, .string x231002_42]) ?_ 1 _ rfl; (with_reducible repeat (first | refine blk_drewN ?_ _ | refine blk_drew ?_ | refine blk_alloc ?_ _)); exact BK230.out) hb); have n2_ := am_ (blk_below (g := gb231) (o := .cells #[.string (⟨#[]⟩ : ByteArray), .int .i64 0, .string (⟨#[]⟩ : ByteArray)] 27 (0, 0)) (by (with_reducible repeat (first | refine blk_drewN ?_ _ | refine blk_drew ?_ | refine blk_alloc ?_ _)); refine blk_far ?_ NB231_230.out _; (with_reducible repeat (first | refine blk_drewN ?_ _ | refine blk_drew ?_ | refine blk_alloc ?_ _)); exact BK231.out) hb); have n3_ := am_ (blk_below (g := gb239) (o := .cells #[.string ((rd_T49 l0 t237).f0), .int .i64 ((rd_T49 l0 t237).f1), .slice A238_2 ((rd_T49 l0 t237).f2).length c238_2, .string ((rd_T49 l0 t237).f3)] 49 (0, 0)) (by (with_reducible repeat (first | refine blk_drewN ?_ _ | refine blk_drew ?_ | refine blk_alloc ?_ _)); refine blk_far ?_ NB239_230.out _; (with_reducible repeat (first | refine blk_drewN ?_ _ | refine blk_drew ?_ | refine blk_alloc ?_ _)); exact BK239.out) hb); have n4_ := am_ (below_step (bw_ HB.out) hb); replace HO244 := n0_; replace BK230 := n1_; replace BK231 := n2_; replace BK239 := n3_; replace HB := n4_; clear n0_ n1_ n2_ n3_ n4_; (try clear hb); (try clear hb2); (try clear hk); (try clear hi); have p246 : 0 ≤ (t245 : Int) := od_; have q246 : t245 < (l0.length : Int) := od_; obtain ⟨ad246, A246_2, c246_2, e246, hx246_0, hx246_1, hx246_2, hx246_3, hl246_2, hi246_2⟩ := at_T49 HR0.out t245 p246 q246; obtain rfl : ad238 = ad246 := (by injection e246); (try replace hx246_0 := hc_ HB.out hx246_0); (try replace hx246_1 := hc_ HB.out hx246_1); (try replace hx246_2 := hc_ HB.out hx246_2); (try replace hx246_3 := hc_ HB.out hx246_3); have HR246_2 := am_ hi246_2; have HC246_2 := am_ hl246_2; clear hi246_2 hl246_2; replace p246 := eq_true p246; replace q246 := eq_true q246) | ((with_reducible refine gate_dst (N := 11) rfl ?_); refine bx_ 11 #[.string (⟨#[]⟩ : ByteArray), .int .i64 0, .slice none 0 0, .string (⟨#[]⟩ : ByteArray)] 49 ?_; intro gb247 hg w74 hbox hb; have n0_ := am_ (Kd.R_below (ra_ HO244.out) hb); have n1_ := am_ (blk_below (bk_ BK230.out) hb); have n2_ := am_ (blk_below (bk_ BK231.out) hb); have n3_ := am_ (blk_below (bk_ BK239.out) hb); have n4_ := am_ (below_step (bw_ HB.out) hb); have n5_ := am_ (hbox); have n6_ := am_ (gs_ hg (bw_ HB.out)); have n7_ := am_ (gs_ hg (bw_ HB.out)); have n8_ := am_ (nl_ hg (bk_ BK230.out)); have n9_ := am_ (ng_ hg (bk_ BK230.out)); have n10_ := am_ (nl_ hg (bk_ BK231.out)); have n11_ := am_ (ng_ hg (bk_ BK231.out)); have n12_ := am_ (nl_ hg (bk_ BK239.out)); have n13_ := am_ (ng_ hg (bk_ BK239.out)); replace HO244 := n0_; replace BK230 := n1_; replace BK231 := n2_; replace BK239 := n3_; replace HB := n4_; have BK247 := n5_; have GW247 := n6_; have GE247 := n7_; have NB230_247 := n8_; have NB247_230 := n9_; have NB231_247 := n10_; have NB247_231 := n11_; have NB239_247 := n12_; have NB247_239 := n13_; clear n0_ n1_ n2_ n3_ n4_ n5_ n6_ n7_ n8_ n9_ n10_ n11_ n12_ n13_; clear hb hbox hg; have hnb75 := NB247_230.out; have hnc75 := NB230_247.out; have hnb76 := NB247_231.out; have hnc76 := NB231_247.out; have hnb77 := NB247_239.out; have hnc77 := NB239_247.out; have hcz78_0 := cz_ BK247.out 0; have hcz78_1 := cz_ BK247.out 1; have hcz78_2 := cz_ BK247.out 2; have hcz78_3 := cz_ BK247.out 3; have hfz78_0 := blk_frozen BK247.out 0; have hfz78_1 := blk_frozen BK247.out 1; have hfz78_2 := blk_frozen BK247.out 2; have hfz78_3 := blk_frozen BK247.out 3; have hcz79_0 := cz_ BK230.out 0; have hcz79_1 := cz_ BK230.out 1; have hcz79_2 := cz_ BK230.out 2; have hfz79_0 := blk_frozen BK230.out 0; have hfz79_1 := blk_frozen BK230.out 1; have hfz79_2 := blk_frozen BK230.out 2))
            go_roundg kj42
            case measure => have := HJ3.out; have := HK2.out; have := HJ24.out; have := HJ42.out; omega
            case rel => exact ⟨(y242), (wrap64 (x24_2 + 1)), (x231000_42), (wrap64 (x231001_42 + 1)), (x231002_42), sq_, H', ⟨by have := HJ3.out; have := HK2.out; have := HJ24.out; have := HJ42.out; omega⟩, ⟨ra_ (Kd.R_mono (Kd.R_far (p := ⟨gb247, 3, none⟩) (Kd.R_far (p := ⟨gb247, 2, none⟩) (Kd.R_far (p := ⟨gb247, 1, none⟩) (Kd.R_far (p := ⟨gb247, 0, none⟩) (Kd.R_types HO244.out BK247.out (by decide)) (fun _ hk => hk.2) (.string ((rd_T49 l0 t245).f0))) (fun _ hk => hk.2) (.int .i64 ((rd_T49 l0 t245).f1))) (fun _ hk => hk.2) (.slice A246_2 ((rd_T49 l0 t245).f2).length c246_2)) (fun _ hk => hk.2) (.string ((rd_T49 l0 t245).f3))) (fun _ hk => trivial))⟩, ⟨by (with_reducible repeat (first | refine blk_drewN ?_ _ | refine blk_drew ?_ | refine blk_alloc ?_ _)); refine blk_far ?_ NB230_247.out _; (with_reducible repeat (first | refine blk_drewN ?_ _ | refine blk_drew ?_ | refine blk_alloc ?_ _)); refine blk_far ?_ NB230_247.out _; (with_reducible repeat (first | refine blk_drewN ?_ _ | refine blk_drew ?_ | refine blk_alloc ?_ _)); refine blk_far ?_ NB230_247.out _; (with_reducible repeat (first | refine blk_drewN ?_ _ | refine blk_drew ?_ | refine blk_alloc ?_ _)); refine blk_far ?_ NB230_247.out _; (with_reducible repeat (first | refine blk_drewN ?_ _ | refine blk_drew ?_ | refine blk_alloc ?_ _)); exact BK230.out⟩, ⟨by (with_reducible repeat (first | refine blk_drewN ?_ _ | refine blk_drew ?_ | refine blk_alloc ?_ _)); refine blk_far ?_ NB231_247.out _; (with_reducible repeat (first | refine blk_drewN ?_ _ | refine blk_drew ?_ | refine blk_alloc ?_ _)); refine blk_far ?_ NB231_247.out _; (with_reducible repeat (first | refine blk_drewN ?_ _ | refine blk_drew ?_ | refine blk_alloc ?_ _)); refine blk_far ?_ NB231_247.out _; (with_reducible repeat (first | refine blk_drewN ?_ _ | refine blk_drew ?_ | refine blk_alloc ?_ _)); refine blk_far ?_ NB231_247.out _; (with_reducible repeat (first | refine blk_drewN ?_ _ | refine blk_drew ?_ | refine blk_alloc ?_ _)); exact BK231.out⟩, ⟨bw_ HB.out⟩⟩
      ·rw [if_neg c21] at H
       have c21b0 : decide (x24_2 < a2) = false := decide_eq_false c21
       clear c21
       simp only [Option.some.injEq, Prod.mk.injEq] at H
       obtain ⟨rfl, rfl, rfl, rfl, rfl⟩ := H
       have hnb80 := NB230_231.out
       have hnc80 := NB231_230.out
       have hcz81_0 := cz_ BK230.out 0
       have hcz81_1 := cz_ BK230.out 1
       have hcz81_2 := cz_ BK230.out 2
       have hfz81_0 := blk_frozen BK230.out 0
       have hfz81_1 := blk_frozen BK230.out 1
       have hfz81_2 := blk_frozen BK230.out 2
       have hcz82_0 := cz_ BK231.out 0
       have hcz82_1 := cz_ BK231.out 1
       have hcz82_2 := cz_ BK231.out 2
       have hfz82_0 := blk_frozen BK231.out 0
       have hfz82_1 := blk_frozen BK231.out 1
       have hfz82_2 := blk_frozen BK231.out 2
       go_wp2
       refine bodyPost_ret (results_ctt rfl _ _ gb231 27 #[.string x231000_2, .int .i64 x231001_2, .string x231002_2] (0, 0) _ rfl (by (with_reducible repeat (first | refine blk_drewN ?_ _ | refine blk_drew ?_ | refine blk_alloc ?_ _)); refine blk_put (cs := #[.string x231000_2, .int .i64 x231001_2, .string (⟨#[]⟩ : ByteArray)]) ?_ 2 _ rfl; (with_reducible repeat (first | refine blk_drewN ?_ _ | refine blk_drew ?_ | refine blk_alloc ?_ _)); refine blk_put (cs := #[.string x231000_2, .int .i64 0, .string (⟨#[]⟩ : ByteArray)]) ?_ 1 _ rfl; (with_reducible repeat (first | refine blk_drewN ?_ _ | refine blk_drew ?_ | refine blk_alloc ?_ _)); refine blk_put (cs := #[.string (⟨#[]⟩ : ByteArray), .int .i64 0, .string (⟨#[]⟩ : ByteArray)]) ?_ 0 _ rfl; (with_reducible repeat (first | refine blk_drewN ?_ _ | refine blk_drew ?_ | refine blk_alloc ?_ _)); exact BK231.out) Tryd.underlying27 rfl (by kernel_rfl)) rfl ?_
       exact ⟨_, by first | rfl | (simp [errW_none, errW_some] <;> rfl) | (simp [*, errW_none, errW_some] <;> rfl), ra_ (Kd.R_mono (Kd.R_far (p := ⟨gb231, 2, none⟩) (Kd.R_far (p := ⟨gb231, 1, none⟩) (Kd.R_far (p := ⟨gb231, 0, none⟩) (Kd.R_types HO_9.out BK231.out (by decide)) (fun _ hk => hk.2) (.string x231000_2)) (fun _ hk => hk.2) (.int .i64 x231001_2)) (fun _ hk => hk.2) (.string x231002_2)) (fun _ hk => trivial)), bw_ HB.out⟩

end Go.Proofs.YtcabbfphidjapaaDoor.XFnExactRunMusic
