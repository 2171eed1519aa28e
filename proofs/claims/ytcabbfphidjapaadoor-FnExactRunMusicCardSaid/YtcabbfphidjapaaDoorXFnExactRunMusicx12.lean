/- What the Go functions that this law comes to compute, each walked; written by a program of this session. -/
import Derived.Test.YtcabbfphidjapaaDoorXShort
import Derived.Test.YtcabbfphidjapaaDoorXMark
import Derived.Test.YtcabbfphidjapaaDoorXFnExactRunMusicx0
namespace Go.Proofs.YtcabbfphidjapaaDoor.XFnExactRunMusic
open Go.RowKit Go.Proofs.YtcabbfphidjapaaDoorW.PrintWords Go.Proofs.YtcabbfphidjapaaDoorW.PrintLast Go.Proofs.YtcabbfphidjapaaDoorW.PrintMore
attribute [local go_sem] str_geq max2_int min2_int max_two min_two max_three min_three max_four min_four   -- for this text's walks alone
set_option linter.unusedVariables false
set_option linter.unusedSimpArgs false

/-! ### laws_markText: function 32 -/
def laws_markText.l0 : Nat → Int → ByteArray → Option (ByteArray)
 | 0, _, _ => none
 | k + 1, x0, x3 => if x0 > 0 then ((some (([(wrap64 (48 + (Int.tmod x0 10))) % 256] : List Int) : List Int)).bind fun y260 => (if (strOfNums y260).size + x3.size ≤ 9223372036854775807 then (laws_markText.l0 k (wrap64 (Int.tdiv x0 10)) ((strOfNums y260) ++ x3)) else (none))) else (if 1 + x3.size ≤ 9223372036854775807 then (some ((⟨#[109]⟩ : ByteArray) ++ x3)) else (none))
def laws_markText.f (k : Nat) (a0 : Int) : Option (ByteArray) := if a0 ≤ 0 then (some (⟨#[109, 48]⟩ : ByteArray)) else (laws_markText.l0 k a0 (⟨#[]⟩ : ByteArray))
theorem laws_markText.mono_l : ∀ k, (∀ y0 y1, LeO (laws_markText.l0 k y0 y1) (laws_markText.l0 (k + 1) y0 y1))
 | 0 => fun _ _ r h => by simp [laws_markText.l0] at h
 | k + 1 => by
  have ih0 := laws_markText.mono_l k
  ·intro y0 y1
   unfold laws_markText.l0
   repeat' first
   | (with_reducible exact ih0 _ _)
   | (with_reducible exact LeO.refl _)
   | (with_reducible exact LeO.none _)
   | (with_reducible refine LeO.ite ?_ ?_)
   | (with_reducible refine LeO.bind ?_ (fun _ => ?_))
   | exact ih0 _ _
   | exact LeO.none _
   | refine LeO.ite ?_ ?_
   | refine LeO.bind ?_ (fun _ => ?_)
theorem laws_markText.mono : ∀ a0 k, LeO (laws_markText.f k a0) (laws_markText.f (k + 1) a0) := by
 intro a0 k
 have ih0 := laws_markText.mono_l k
 unfold laws_markText.f
 repeat' first
   | (with_reducible exact ih0 _ _)
   | (with_reducible exact LeO.refl _)
   | (with_reducible exact LeO.none _)
   | (with_reducible refine LeO.ite ?_ ?_)
   | (with_reducible refine LeO.bind ?_ (fun _ => ?_))
   | exact ih0 _ _
   | exact LeO.none _
   | refine LeO.ite ?_ ?_
   | refine LeO.bind ?_ (fun _ => ?_)
set_option maxHeartbeats 8000000 in
set_option maxRecDepth 100000 in
theorem laws_markText.calls (k : Nat) (a0 : Int) (r : ByteArray) (w : World) (h : laws_markText.f k a0 = some r) :
  Calls Tryd.prog 32 #[.int .i64 a0] w fun e w' => e = .returned (.string r) ∧ Below w.heap.size w w' := by
 have HB := am_ (Below.refl w.heap.size w)
 have H : (if a0 ≤ 0 then (some (⟨#[109, 48]⟩ : ByteArray)) else (laws_markText.l0 k a0 (⟨#[]⟩ : ByteArray))) = some r := h
 clear h
 by_cases c2 : a0 ≤ 0
 ·rw [if_pos c2] at H
  have c2b0 : decide (a0 ≤ 0) = true := decide_eq_true c2
  clear c2
  obtain rfl := Option.some.inj H
  go_enter Tryd.func32, Tryd.ntmps32
  go_wp2
  go_ret
  exact ⟨by first | rfl | (simp [errW_none, errW_some] <;> rfl) | (simp [*, errW_none, errW_some] <;> rfl), bw_ HB.out⟩
 ·rw [if_neg c2] at H
  have c2b0 : decide (a0 ≤ 0) = false := decide_eq_false c2
  clear c2
  have H' := am_ H
  clear H
  go_enter Tryd.func32, Tryd.ntmps32
  go_wp2
  go_loopg [0, 3] k (fun kq v0 v3 w' => ∃ (x0_1 : Int) (x3_1 : ByteArray), v0 = .int .i64 x0_1 ∧ v3 = .string x3_1 ∧ Aside0 (laws_markText.l0 kq x0_1 x3_1 = some r) ∧ Aside0 (kq ≤ k) ∧ Aside0 (Below w.heap.size w w'))
  case atStart => exact ⟨(a0), ((⟨#[]⟩ : ByteArray)), sq_, sq_, H', ⟨Nat.le_refl _⟩, ⟨bw_ HB.out⟩⟩
  case round =>
   clear H'
   try clear c2
   try clear c2b0
   obtain ⟨x0_1, x3_1, rfl, rfl, HA, HK1, HB⟩ := hrel
   cases gk with
   | zero => exact absurd HA.out (by simp [laws_markText.l0])
   | succ k1 =>
    have H := HA.out
    clear HA
    simp only [laws_markText.l0] at H
    by_cases c3 : x0_1 > 0
    ·rw [if_pos c3] at H
     have c3b0 : decide (0 < x0_1) = true := decide_eq_true c3
     clear c3
     obtain ⟨y260, hy260⟩ : ∃ y_ : List Int, y_ = (([(wrap64 (48 + (Int.tmod x0_1 10))) % 256] : List Int)) := ⟨_, rfl⟩
     replace H : (if (strOfNums y260).size + x3_1.size ≤ 9223372036854775807 then (laws_markText.l0 k1 (wrap64 (Int.tdiv x0_1 10)) ((strOfNums y260) ++ x3_1)) else (none)) = some r := by first | (rw [hy260]; with_reducible exact H) | (have H2_ := (Option.bind_some _ _).symm.trans H; rw [hy260]; with_reducible exact H2_) | (have H2_ := (Option.bind_some _ _).symm.trans H; with_reducible exact H2_) | with_reducible exact H | (rw [hy260]; exact H) | exact H
     have Ny260 := am_ hy260
     clear hy260
     obtain ⟨c4, H⟩ := ifn_ H
     have c4b0 := eq_true c4
     have c4b1 : decide ((strOfNums y260).size + x3_1.size ≤ 9223372036854775807) = true := decide_eq_true c4
     try have c4b2 : (9223372036854775807 < (strOfNums y260).size + x3_1.size) = False := eq_false (Nat.not_lt.2 c4)
     have H' := am_ H
     clear H
     go_wp2_with (first | ((with_reducible refine gate_dst (N := 12) rfl ?_); refine Kd.R_lit (Kd.int .u8) _ 5 ?hg (N := 12) ?hd (xs := ([(wrap64 (48 + (Int.tmod x0_1 10))) % 256] : List Int)) (inner := [.int .u8 ((wrap64 (48 + (Int.tmod x0_1 10))) % 256)]) (ok := fun _ => True) (okp := fun _ => True) ?hr ?hp (fun _ hk => hk) trivial (Below.refl _ _) (Nat.le_refl _) (by simp) ?_; (case hd => rfl); (case hg => rfl); (case hr => first | (go_simp; done) | (go_simp; rfl)); (case hp => exact (Reps.one (show Kd.M (Kd.int .u8) _ _ _ ((wrap64 (48 + (Int.tmod x0_1 10))) % 256) [.int .u8 ((wrap64 (48 + (Int.tmod x0_1 10))) % 256)] from rfl) (Reps.none _ _))); intro v261 w5 ho6 hb hg_ hnew_; clear hg_ hnew_; (first | rw [← Ny260.out] at ho6 | (simp only [Int.reduceToNat] at ho6; rw [← Ny260.out] at ho6)); have n0_ := am_ (Kd.R_lower ho6 (below_size (bw_ HB.out))); have n1_ := am_ (below_step (bw_ HB.out) hb); have HO262 := n0_; replace HB := n1_; clear n0_ n1_; clear hb ho6; have hcv7 := own_string (P := Tryd.prog) Tryd.underlying63 Tryd.underlying5 Tryd.underlying9 (Kd.own_of_R HO262.out)))
     go_roundg k1
     case measure => have := HK1.out; omega
     case rel => exact ⟨(wrap64 (Int.tdiv x0_1 10)), ((strOfNums y260) ++ x3_1), sq_, sq_, H', ⟨by have := HK1.out; omega⟩, ⟨bw_ HB.out⟩⟩
    ·rw [if_neg c3] at H
     have c3b0 : decide (0 < x0_1) = false := decide_eq_false c3
     clear c3
     obtain ⟨c8, H⟩ := ifn_ H
     have c8b0 := eq_true c8
     have c8b1 : decide (1 + x3_1.size ≤ 9223372036854775807) = true := decide_eq_true c8
     try have c8b2 : (9223372036854775807 < 1 + x3_1.size) = False := eq_false (Nat.not_lt.2 c8)
     obtain rfl := Option.some.inj H
     go_wp2
     go_ret
     exact ⟨by first | rfl | (simp [errW_none, errW_some] <;> rfl) | (simp [*, errW_none, errW_some] <;> rfl), bw_ HB.out⟩
/-! ### laws_markIntS: function 33 -/
def laws_markIntS.l0 : Nat → List Int → Int → Int → Option (Int × List Int)
 | 0, _, _, _ => none
 | k + 1, x0, x1, x5 => if x5 < (x0.length : Int) then (if 0 ≤ x5 then (laws_markIntS.l0 k (x0.set (x5 : Int).toNat x1) (wrap64 (x1 + 1)) (wrap64 (x5 + 1))) else (none)) else (some (x1, x0))
def laws_markIntS.f (k : Nat) (l0 : List Int) (a1 : Int) : Option (Int × List Int) := laws_markIntS.l0 k l0 a1 0
theorem laws_markIntS.mono_l : ∀ k, (∀ y0 y1 y2, LeO (laws_markIntS.l0 k y0 y1 y2) (laws_markIntS.l0 (k + 1) y0 y1 y2))
 | 0 => fun _ _ _ r h => by simp [laws_markIntS.l0] at h
 | k + 1 => by
  have ih0 := laws_markIntS.mono_l k
  ·intro y0 y1 y2
   unfold laws_markIntS.l0
   repeat' first
   | (with_reducible exact ih0 _ _ _)
   | (with_reducible exact LeO.refl _)
   | (with_reducible exact LeO.none _)
   | (with_reducible refine LeO.ite ?_ ?_)
   | (with_reducible refine LeO.bind ?_ (fun _ => ?_))
   | exact ih0 _ _ _
   | exact LeO.none _
   | refine LeO.ite ?_ ?_
   | refine LeO.bind ?_ (fun _ => ?_)
theorem laws_markIntS.mono : ∀ a0 a1 k, LeO (laws_markIntS.f k a0 a1) (laws_markIntS.f (k + 1) a0 a1) := by
 intro a0 a1 k
 have ih0 := laws_markIntS.mono_l k
 unfold laws_markIntS.f
 repeat' first
   | (with_reducible exact ih0 _ _ _)
   | (with_reducible exact LeO.refl _)
   | (with_reducible exact LeO.none _)
   | (with_reducible refine LeO.ite ?_ ?_)
   | (with_reducible refine LeO.bind ?_ (fun _ => ?_))
   | exact ih0 _ _ _
   | exact LeO.none _
   | refine LeO.ite ?_ ?_
   | refine LeO.bind ?_ (fun _ => ?_)
set_option maxHeartbeats 8000000 in
set_option maxRecDepth 100000 in
theorem laws_markIntS.calls (k : Nat) (P0_ : Nat → Prop) (u9000_ : Value) (l0 : List Int) (a1 : Int) (r1 : Int) (r2 : List Int) (w0 w : World) (hB : Below w0.heap.size w0 w) (ho0 : Kd.R (Kd.int .i64) 3 w w0.heap.size P0_ u9000_ l0) (h : laws_markIntS.f k l0 a1 = some (r1, r2)) :
  Calls Tryd.prog 33 #[u9000_, .int .i64 a1] w fun e w' => e = .returned (.int .i64 r1) ∧ Kd.R (Kd.int .i64) 3 w' w0.heap.size (fun k_ => (P0_ k_ ∨ w.heap.size ≤ k_)) u9000_ r2 ∧ Below w0.heap.size w0 w' ∧ Kept w w' (fun k_ => P0_ k_) := by
 have HO0 := am_ (show Kd.R (Kd.int .i64) 3 w w0.heap.size (fun k_ => (P0_ k_ ∨ w.heap.size ≤ k_)) u9000_ l0 from Kd.R_mono ho0 (fun k_ hk => (.inl hk)))
 have HK := am_ (Kept.refl w (fun k_ => P0_ k_))
 have HW0 := am_ hB.size
 have HB := am_ hB
 clear hB
 have H : (laws_markIntS.l0 k l0 a1 0) = some (r1, r2) := h
 clear h
 have H' := am_ H
 clear H
 go_enter Tryd.func33, Tryd.ntmps33
 go_wp2
 go_loopg [1, 5] k (fun kq v1 v5 w' => ∃ (x0_1 : List Int) (x1_1 : Int) (x5_1 : Int), v1 = .int .i64 x1_1 ∧ v5 = .int .i64 x5_1 ∧ Aside0 (laws_markIntS.l0 kq x0_1 x1_1 x5_1 = some (r1, r2)) ∧ Aside0 (kq ≤ k) ∧ Aside0 (Kd.R (Kd.int .i64) 3 w' w0.heap.size (fun k_ => (P0_ k_ ∨ w.heap.size ≤ k_)) u9000_ x0_1) ∧ Aside0 (Kept w w' (fun k_ => P0_ k_)) ∧ Aside0 (Below w0.heap.size w0 w'))
 case atStart => exact ⟨(l0), (a1), (0), sq_, sq_, H', ⟨Nat.le_refl _⟩, ⟨ra_ HO0.out⟩, ⟨kk_ HK.out⟩, ⟨bw_ HB.out⟩⟩
 case round =>
  clear H'
  obtain ⟨x0_1, x1_1, x5_1, rfl, rfl, HA, HK1, HO_0, HK, HB⟩ := hrel
  cases gk with
  | zero => exact absurd HA.out (by simp [laws_markIntS.l0])
  | succ k1 =>
   have H := HA.out
   clear HA
   simp only [laws_markIntS.l0] at H
   by_cases c3 : x5_1 < (x0_1.length : Int)
   ·rw [if_pos c3] at H
    have c3b0 : decide (x5_1 < (x0_1.length : Int)) = true := decide_eq_true c3
    clear c3
    obtain ⟨c4, H⟩ := ifn_ H
    have c4b0 : decide (0 ≤ x5_1) = true := decide_eq_true c4
    clear c4
    obtain ⟨y263, hy263⟩ : ∃ y_ : List Int, y_ = (x0_1.set (x5_1 : Int).toNat x1_1) := ⟨_, rfl⟩
    replace H : (laws_markIntS.l0 k1 y263 (wrap64 (x1_1 + 1)) (wrap64 (x5_1 + 1))) = some (r1, r2) := by first | (rw [hy263]; with_reducible exact H) | (have H2_ := (Option.bind_some _ _).symm.trans H; rw [hy263]; with_reducible exact H2_) | (have H2_ := (Option.bind_some _ _).symm.trans H; with_reducible exact H2_) | with_reducible exact H | (rw [hy263]; exact H) | exact H
    have Ny263 := am_ hy263
    clear hy263
    have H' := am_ H
    clear H
    obtain ⟨Ao6, co6, eo6⟩ := Kd.R_slice HO_0.out
    subst eo6
    have p5 : 0 ≤ (x5_1 : Int) := od_
    have q5 : (x5_1 : Int) < ((x0_1.length : Int) : Int) := od_
    obtain ⟨go5, co5, eo5, gb5, gl5, cl5, HG5⟩ := Kd.R_form HO_0.out (by omega)
    (first | cases eo5 | (injection eo5 with ea_ en_ ec_; (first | subst ea_ | (injection ea_ with ea_; subst ea_)); subst ec_; clear en_))
    have GB5 := am_ gb5
    have GG5 := am_ HG5
    clear gb5 gl5 HG5
    have HMgo5 := am_ (show (P0_ go5 ∨ w.heap.size ≤ go5) from (HO_0.out.1 _ rfl))
    obtain ⟨hx5_0, hf5_0⟩ := Kd.R_celln 0 HO_0.out (x5_1 : Int) p5 q5
    replace p5 := eq_true p5
    replace q5 := eq_true q5
    have HP7 := Kd.R_putg HO_0.out (x5_1 : Int) x1_1
    go_wp2_with (first | ((with_reducible refine gate_store (t := 3) (p := 15) rfl ?_); refine se_ 3 15 (wr.setCell ⟨go5, (x5_1 : Int).toNat, none⟩ (.int .i64 x1_1)) ?_; intro w8 hw; have hg : wr.grownBy w8 (some go5) := (by rw [hw]; exact HP7.2); have hp_ : Kd.R (Kd.int .i64) 3 w8 w0.heap.size (fun k_ => (P0_ k_ ∨ w.heap.size ≤ k_)) (.slice (some ⟨go5, 0, none⟩) x0_1.length co6) y263 := (by rw [hw, Ny263.out]; exact HP7.1); clear HP7; have n0_ := am_ (hp_); have n1_ := am_ ((by rw [hw]; exact below_set (HB.out) GB5.out : Below w0.heap.size w0 w8)); have n2_ := am_ (Kept.of_grown (S := (fun k_ => P0_ k_)) hg (kk_ HK.out) (fun k_ e_ => (HO_0.out.1 k_ e_))); replace HO_0 := n0_; replace HB := n1_; replace HK := n2_; clear n0_ n1_ n2_; clear hg hw hp_))
    go_roundg k1
    case measure => have := HK1.out; omega
    case rel => exact ⟨(y263), (wrap64 (x1_1 + 1)), (wrap64 (x5_1 + 1)), sq_, sq_, H', ⟨by have := HK1.out; omega⟩, ⟨ra_ HO_0.out⟩, ⟨kk_ HK.out⟩, ⟨bw_ HB.out⟩⟩
   ·rw [if_neg c3] at H
    have c3b0 : decide (x5_1 < (x0_1.length : Int)) = false := decide_eq_false c3
    clear c3
    simp only [Option.some.injEq, Prod.mk.injEq] at H
    obtain ⟨rfl, rfl⟩ := H
    obtain ⟨Ao9, co9, eo9⟩ := Kd.R_slice HO_0.out
    subst eo9
    go_wp2
    go_ret
    exact ⟨by first | rfl | (simp [errW_none, errW_some] <;> rfl) | (simp [*, errW_none, errW_some] <;> rfl), ra_ HO_0.out, bw_ HB.out, kk_ HK.out⟩

/-! ### laws_markSectionS: function 14 -/
def laws_markSectionS.one (k : Nat) (e : S49) (x : Int) : Option (Int × (S49)) := (laws_markText.f k x).bind fun t0 => (laws_markIntS.f k e.f2 (wrap64 ((wrap64 (x + 1)) + 1))).bind fun t2 => (laws_markText.f k t2.1).bind fun t3 => some ((wrap64 (t2.1 + 1)), (⟨t0, (wrap64 (x + 1)), t2.2, t3⟩ : S49))
def laws_markSectionS.f (k : Nat) (l0 : List (S49)) (a1 : Int) : Option (Int × List (S49)) := mapK (laws_markSectionS.one k) l0 a1
theorem laws_markSectionS.mono : ∀ a0 a1 k, LeO (laws_markSectionS.f k a0 a1) (laws_markSectionS.f (k + 1) a0 a1) := by
  intro a0 a1 k
  refine mapK_mono (fun e x => ?_) a0 a1
  unfold laws_markSectionS.one
  repeat' first
  | (with_reducible exact laws_markText.mono _ _)
  | (with_reducible exact laws_markIntS.mono _ _ _)
  | (with_reducible exact LeO.refl _)
  | refine LeO.bind ?_ (fun _ => ?_)
set_option maxHeartbeats 8000000 in
set_option maxRecDepth 100000 in
theorem laws_markSectionS.callsP (k : Nat) (P0_ : Nat → Prop) (u9000_ : Value) (l0 : List (S49)) (a1 : Int) (r1 : Int) (r2 : List (S49)) (w0 w : World) (hB : Below w0.heap.size w0 w) (ho0 : Kd.S k49 49 w w0.heap.size P0_ u9000_ l0) (h : laws_markSectionS.f k l0 a1 = some (r1, r2)) :
    Calls Tryd.prog 14 #[u9000_, .int .i64 a1] w fun e w' => e = .returned (.int .i64 r1) ∧ Kd.S k49 49 w' w0.heap.size P0_ u9000_ r2 ∧ Below w0.heap.size w0 w' ∧ Kept w w' P0_ := by
  have HO := am_ ho0
  have HK := am_ (Kept.refl w P0_)
  have HB := am_ hB
  have HI := am_ (MInv.start (one := laws_markSectionS.one k) h)
  clear hB ho0 h
  go_enter Tryd.func14, Tryd.ntmps14
  go_wp2
  go_loopg [1, 5] l0.length (fun kq v1 v5 w' => ∃ (xs : List (S49)) (x x5 : Int) (i : Nat), v1 = .int .i64 x ∧ v5 = .int .i64 x5 ∧ Aside0 (x5 = (i : Int)) ∧ Aside0 (i + kq = l0.length) ∧ Aside0 (MInv (laws_markSectionS.one k) l0 r1 r2 xs x i) ∧ Aside0 (Kd.S k49 49 w' w0.heap.size P0_ u9000_ xs) ∧ Aside0 (Kept w w' P0_) ∧ Aside0 (Below w0.heap.size w0 w'))
  case atStart => exact ⟨l0, a1, 0, 0, rfl, rfl, ⟨rfl⟩, ⟨by omega⟩, HI, HO, HK, HB⟩
  case round =>
    clear HI HO HK HB
    obtain ⟨xs, x, x5, i, rfl, rfl, HX, HQ, HI, HO, HK, HB⟩ := hrel
    have hx := HX.out
    have hlen := HI.out.len
    have hsmall : xs.length ≤ 9223372036854775807 := by obtain ⟨A_, c_, e_, h1_, h2_⟩ := Kd.S_reads HO.out; have h3_ := Kd.C_max h2_; omega
    by_cases hj : i < l0.length
    · obtain ⟨k2, rfl⟩ : ∃ k2, gk = k2 + 1 := ⟨gk - 1, by have := HQ.out; omega⟩
      obtain ⟨t, ht, hI2⟩ := HI.out.step ((z49 : S49)) hj hx
      have HI2 := am_ hI2
      clear hI2
      unfold laws_markSectionS.one at ht
      obtain ⟨t0, hA0, ht⟩ := bE_ ht
      have A0 := am_ hA0
      clear hA0
      obtain ⟨⟨q2, y2⟩, hA2, ht⟩ := bE_ ht
      have A2 := am_ hA2
      clear hA2
      obtain ⟨t3, hA3, ht⟩ := bE_ ht
      have A3 := am_ hA3
      clear hA3
      obtain rfl := Option.some.inj ht
      clear ht
      have hwj : wrap64 (x5 + 1) = ((i + 1 : Nat) : Int) := by unfold wrap64; omega
      have hp5 : 0 ≤ x5 := by omega
      have hq5 : x5 < (xs.length : Int) := by omega
      obtain ⟨g, cap, ev, _, _, _⟩ := Kd.S_form HO.out (by omega)
      subst ev
      obtain ⟨oki, c, hL, hM⟩ := Hol.of HO.out HB.out HK.out (z49 : S49) hp5 hq5
      generalize xs.getD x5.toNat (z49 : S49) = el at hM A0 A2 A3
      obtain ⟨v2, rfl, hR2⟩ := k49_openM hM
      obtain ⟨A_2, c_2, e_2⟩ := Kd.R_slice hR2
      subst e_2
      have HL := am_ hL
      clear hL
      have HR2 := am_ hR2
      clear hR2
      have hx_0 : wr.cell? ⟨g, x5.toNat * 4, none⟩ = some (.string (el.f0)) := HL.out.cell (j := 0) rfl
      have hx_1 : wr.cell? ⟨g, x5.toNat * 4 + 1, none⟩ = some (.int .i64 (el.f1)) := HL.out.cell (j := 1) rfl
      have hx_2 : wr.cell? ⟨g, x5.toNat * 4 + 2, none⟩ = some (.slice A_2 (el.f2).length c_2) := HL.out.cell (j := 2) rfl
      have hx_3 : wr.cell? ⟨g, x5.toNat * 4 + 3, none⟩ = some (.string (el.f3)) := HL.out.cell (j := 3) rfl
      have hf_0 : wr.frozen? ⟨g, x5.toNat * 4, none⟩ = false := HL.out.frozen 0
      have hf_1 : wr.frozen? ⟨g, x5.toNat * 4 + 1, none⟩ = false := HL.out.frozen 1
      have hf_2 : wr.frozen? ⟨g, x5.toNat * 4 + 2, none⟩ = false := HL.out.frozen 2
      have hf_3 : wr.frozen? ⟨g, x5.toNat * 4 + 3, none⟩ = false := HL.out.frozen 3
      have c0b : decide (x5 < (xs.length : Int)) = true := decide_eq_true hq5
      replace hp5 := eq_true hp5
      replace hq5 := eq_true hq5
      have HW := am_ hwj
      clear hx hwj hlen hsmall hj HO HK HB HI
      go_wp2_with (first | (go_at_call 32; (with_reducible refine (laws_markText.calls k x t0 _ A0.out).mono ?_); rintro e w101 ⟨rfl, hb⟩; have n_ := am_ (HL.out.below hb); have n2_ := am_ (Kd.R_below HR2.out hb); clear HL HR2; clear hx_0 hf_0 hx_1 hf_1 hx_2 hf_2 hx_3 hf_3; have HL := n_; have HR2 := n2_; clear n_ n2_; have hx_0 : w101.cell? ⟨g, x5.toNat * 4, none⟩ = some (.string (el.f0)) := HL.out.cell (j := 0) rfl; have hx_1 : w101.cell? ⟨g, x5.toNat * 4 + 1, none⟩ = some (.int .i64 (el.f1)) := HL.out.cell (j := 1) rfl; have hx_2 : w101.cell? ⟨g, x5.toNat * 4 + 2, none⟩ = some (.slice A_2 (el.f2).length c_2) := HL.out.cell (j := 2) rfl; have hx_3 : w101.cell? ⟨g, x5.toNat * 4 + 3, none⟩ = some (.string (el.f3)) := HL.out.cell (j := 3) rfl; have hf_0 : w101.frozen? ⟨g, x5.toNat * 4, none⟩ = false := HL.out.frozen 0; have hf_1 : w101.frozen? ⟨g, x5.toNat * 4 + 1, none⟩ = false := HL.out.frozen 1; have hf_2 : w101.frozen? ⟨g, x5.toNat * 4 + 2, none⟩ = false := HL.out.frozen 2; have hf_3 : w101.frozen? ⟨g, x5.toNat * 4 + 3, none⟩ = false := HL.out.frozen 3; clear hb) | ((with_reducible refine gate_store (t := 9) (p := 17) rfl ?_); refine se_ 9 17 (w101.setCell ⟨g, x5.toNat * 4, none⟩ (.string t0)) ?_; intro w102 hw; have n_ := am_ (HL.out.put 0 (by decide) rfl hw); have n2_ := am_ (HL.out.far HR2.out hw); clear HL HR2; clear hx_0 hf_0 hx_1 hf_1 hx_2 hf_2 hx_3 hf_3; have HL := n_; have HR2 := n2_; clear n_ n2_; have hx_0 : w102.cell? ⟨g, x5.toNat * 4, none⟩ = some (.string t0) := HL.out.cell (j := 0) rfl; have hx_1 : w102.cell? ⟨g, x5.toNat * 4 + 1, none⟩ = some (.int .i64 (el.f1)) := HL.out.cell (j := 1) rfl; have hx_2 : w102.cell? ⟨g, x5.toNat * 4 + 2, none⟩ = some (.slice A_2 (el.f2).length c_2) := HL.out.cell (j := 2) rfl; have hx_3 : w102.cell? ⟨g, x5.toNat * 4 + 3, none⟩ = some (.string (el.f3)) := HL.out.cell (j := 3) rfl; have hf_0 : w102.frozen? ⟨g, x5.toNat * 4, none⟩ = false := HL.out.frozen 0; have hf_1 : w102.frozen? ⟨g, x5.toNat * 4 + 1, none⟩ = false := HL.out.frozen 1; have hf_2 : w102.frozen? ⟨g, x5.toNat * 4 + 2, none⟩ = false := HL.out.frozen 2; have hf_3 : w102.frozen? ⟨g, x5.toNat * 4 + 3, none⟩ = false := HL.out.frozen 3; clear hw) | ((with_reducible refine gate_store (t := 3) (p := 24) rfl ?_); refine se_ 3 24 (w102.setCell ⟨g, x5.toNat * 4 + 1, none⟩ (.int .i64 (wrap64 (x + 1)))) ?_; intro w103 hw; have n_ := am_ (HL.out.put 1 (by decide) rfl hw); have n2_ := am_ (HL.out.far HR2.out hw); clear HL HR2; clear hx_0 hf_0 hx_1 hf_1 hx_2 hf_2 hx_3 hf_3; have HL := n_; have HR2 := n2_; clear n_ n2_; have hx_0 : w103.cell? ⟨g, x5.toNat * 4, none⟩ = some (.string t0) := HL.out.cell (j := 0) rfl; have hx_1 : w103.cell? ⟨g, x5.toNat * 4 + 1, none⟩ = some (.int .i64 (wrap64 (x + 1))) := HL.out.cell (j := 1) rfl; have hx_2 : w103.cell? ⟨g, x5.toNat * 4 + 2, none⟩ = some (.slice A_2 (el.f2).length c_2) := HL.out.cell (j := 2) rfl; have hx_3 : w103.cell? ⟨g, x5.toNat * 4 + 3, none⟩ = some (.string (el.f3)) := HL.out.cell (j := 3) rfl; have hf_0 : w103.frozen? ⟨g, x5.toNat * 4, none⟩ = false := HL.out.frozen 0; have hf_1 : w103.frozen? ⟨g, x5.toNat * 4 + 1, none⟩ = false := HL.out.frozen 1; have hf_2 : w103.frozen? ⟨g, x5.toNat * 4 + 2, none⟩ = false := HL.out.frozen 2; have hf_3 : w103.frozen? ⟨g, x5.toNat * 4 + 3, none⟩ = false := HL.out.frozen 3; clear hw) | (go_at_call 33; (with_reducible refine (laws_markIntS.calls k oki _ (el.f2) (wrap64 ((wrap64 (x + 1)) + 1)) q2 y2 w0 _ ?b2 ?r2 A2.out).mono ?_); (case b2 => exact HL.out.hb); (case r2 => exact HR2.out); rintro e w104 ⟨rfl, hr, hb, hk⟩; have n_ := am_ (HL.out.row hb hk); have n2_ := am_ (Kd.R_reok rfl hr HR2.out.1); clear HL HR2; clear hx_0 hf_0 hx_1 hf_1 hx_2 hf_2 hx_3 hf_3; have HL := n_; have HR2 := n2_; clear n_ n2_; have hx_0 : w104.cell? ⟨g, x5.toNat * 4, none⟩ = some (.string t0) := HL.out.cell (j := 0) rfl; have hx_1 : w104.cell? ⟨g, x5.toNat * 4 + 1, none⟩ = some (.int .i64 (wrap64 (x + 1))) := HL.out.cell (j := 1) rfl; have hx_2 : w104.cell? ⟨g, x5.toNat * 4 + 2, none⟩ = some (.slice A_2 (el.f2).length c_2) := HL.out.cell (j := 2) rfl; have hx_3 : w104.cell? ⟨g, x5.toNat * 4 + 3, none⟩ = some (.string (el.f3)) := HL.out.cell (j := 3) rfl; have hf_0 : w104.frozen? ⟨g, x5.toNat * 4, none⟩ = false := HL.out.frozen 0; have hf_1 : w104.frozen? ⟨g, x5.toNat * 4 + 1, none⟩ = false := HL.out.frozen 1; have hf_2 : w104.frozen? ⟨g, x5.toNat * 4 + 2, none⟩ = false := HL.out.frozen 2; have hf_3 : w104.frozen? ⟨g, x5.toNat * 4 + 3, none⟩ = false := HL.out.frozen 3; clear hr hb hk) | (go_at_call 32; (with_reducible refine (laws_markText.calls k q2 t3 _ A3.out).mono ?_); rintro e w105 ⟨rfl, hb⟩; have n_ := am_ (HL.out.below hb); have n2_ := am_ (Kd.R_below HR2.out hb); clear HL HR2; clear hx_0 hf_0 hx_1 hf_1 hx_2 hf_2 hx_3 hf_3; have HL := n_; have HR2 := n2_; clear n_ n2_; have hx_0 : w105.cell? ⟨g, x5.toNat * 4, none⟩ = some (.string t0) := HL.out.cell (j := 0) rfl; have hx_1 : w105.cell? ⟨g, x5.toNat * 4 + 1, none⟩ = some (.int .i64 (wrap64 (x + 1))) := HL.out.cell (j := 1) rfl; have hx_2 : w105.cell? ⟨g, x5.toNat * 4 + 2, none⟩ = some (.slice A_2 (el.f2).length c_2) := HL.out.cell (j := 2) rfl; have hx_3 : w105.cell? ⟨g, x5.toNat * 4 + 3, none⟩ = some (.string (el.f3)) := HL.out.cell (j := 3) rfl; have hf_0 : w105.frozen? ⟨g, x5.toNat * 4, none⟩ = false := HL.out.frozen 0; have hf_1 : w105.frozen? ⟨g, x5.toNat * 4 + 1, none⟩ = false := HL.out.frozen 1; have hf_2 : w105.frozen? ⟨g, x5.toNat * 4 + 2, none⟩ = false := HL.out.frozen 2; have hf_3 : w105.frozen? ⟨g, x5.toNat * 4 + 3, none⟩ = false := HL.out.frozen 3; clear hb) | ((with_reducible refine gate_store (t := 9) (p := 39) rfl ?_); refine se_ 9 39 (w105.setCell ⟨g, x5.toNat * 4 + 3, none⟩ (.string t3)) ?_; intro w106 hw; have n_ := am_ (HL.out.put 3 (by decide) rfl hw); have n2_ := am_ (HL.out.far HR2.out hw); clear HL HR2; clear hx_0 hf_0 hx_1 hf_1 hx_2 hf_2 hx_3 hf_3; have HL := n_; have HR2 := n2_; clear n_ n2_; have hx_0 : w106.cell? ⟨g, x5.toNat * 4, none⟩ = some (.string t0) := HL.out.cell (j := 0) rfl; have hx_1 : w106.cell? ⟨g, x5.toNat * 4 + 1, none⟩ = some (.int .i64 (wrap64 (x + 1))) := HL.out.cell (j := 1) rfl; have hx_2 : w106.cell? ⟨g, x5.toNat * 4 + 2, none⟩ = some (.slice A_2 (el.f2).length c_2) := HL.out.cell (j := 2) rfl; have hx_3 : w106.cell? ⟨g, x5.toNat * 4 + 3, none⟩ = some (.string t3) := HL.out.cell (j := 3) rfl; have hf_0 : w106.frozen? ⟨g, x5.toNat * 4, none⟩ = false := HL.out.frozen 0; have hf_1 : w106.frozen? ⟨g, x5.toNat * 4 + 1, none⟩ = false := HL.out.frozen 1; have hf_2 : w106.frozen? ⟨g, x5.toNat * 4 + 2, none⟩ = false := HL.out.frozen 2; have hf_3 : w106.frozen? ⟨g, x5.toNat * 4 + 3, none⟩ = false := HL.out.frozen 3; clear hw))
      go_roundg k2
      case measure => omega
      case rel => exact ⟨xs.set x5.toNat (⟨t0, (wrap64 (x + 1)), y2, t3⟩ : S49), _, _, i + 1, rfl, rfl, ⟨HW.out⟩, ⟨by have := HQ.out; omega⟩, HI2, ⟨HL.out.back (k49_mkM _ _ _ (⟨t0, (wrap64 (x + 1)), y2, t3⟩ : S49) HR2.out)⟩, ⟨HL.out.hk⟩, ⟨HL.out.hb⟩⟩
    · have c0b : decide (x5 < (xs.length : Int)) = false := decide_eq_false (by omega)
      obtain ⟨rfl, rfl⟩ := HI.out.stop hj
      obtain ⟨Ao, co, eo⟩ := Kd.S_slice HO.out
      subst eo
      clear hx hlen hsmall hj
      go_wp2
      go_ret
      exact ⟨rfl, HO.out, HB.out, HK.out⟩
theorem laws_markSectionS.calls (k : Nat) (P0_ : Nat → Prop) (u9000_ : Value) (l0 : List (S49)) (a1 : Int) (r1 : Int) (r2 : List (S49)) (w0 w : World) (hB : Below w0.heap.size w0 w) (ho0 : Kd.S k49 49 w w0.heap.size P0_ u9000_ l0) (h : laws_markSectionS.f k l0 a1 = some (r1, r2)) :
    Calls Tryd.prog 14 #[u9000_, .int .i64 a1] w fun e w' => e = .returned (.int .i64 r1) ∧ Kd.S k49 49 w' w0.heap.size (fun k_ => (P0_ k_ ∨ w.heap.size ≤ k_)) u9000_ r2 ∧ Below w0.heap.size w0 w' ∧ Kept w w' (fun k_ => P0_ k_) :=
  (laws_markSectionS.callsP k P0_ u9000_ l0 a1 r1 r2 w0 w hB ho0 h).mono fun _ _ h_ => ⟨h_.1, Kd.S_mono h_.2.1 (fun _ hk => .inl hk), h_.2.2.1, h_.2.2.2⟩

/-! ### laws_markStringS: function 15 -/
def laws_markStringS.l0 : Nat → List ByteArray → Int → Int → Option (Int × List ByteArray)
 | 0, _, _, _ => none
 | k + 1, x0, x1, x5 => if x5 < (x0.length : Int) then ((laws_markText.f k x1).bind fun t264 => (if 0 ≤ x5 then (laws_markStringS.l0 k (x0.set (x5 : Int).toNat t264) (wrap64 (x1 + 1)) (wrap64 (x5 + 1))) else (none))) else (some (x1, x0))
def laws_markStringS.f (k : Nat) (l0 : List ByteArray) (a1 : Int) : Option (Int × List ByteArray) := laws_markStringS.l0 k l0 a1 0
theorem laws_markStringS.mono_l : ∀ k, (∀ y0 y1 y2, LeO (laws_markStringS.l0 k y0 y1 y2) (laws_markStringS.l0 (k + 1) y0 y1 y2))
 | 0 => fun _ _ _ r h => by simp [laws_markStringS.l0] at h
 | k + 1 => by
  have ih0 := laws_markStringS.mono_l k
  ·intro y0 y1 y2
   unfold laws_markStringS.l0
   repeat' first
   | (with_reducible exact ih0 _ _ _)
   | (with_reducible exact laws_markText.mono _ _)
   | (with_reducible exact LeO.refl _)
   | (with_reducible exact LeO.none _)
   | (with_reducible refine LeO.ite ?_ ?_)
   | (with_reducible refine LeO.bind ?_ (fun _ => ?_))
   | exact ih0 _ _ _
   | exact laws_markText.mono _ _
   | exact LeO.none _
   | refine LeO.ite ?_ ?_
   | refine LeO.bind ?_ (fun _ => ?_)
theorem laws_markStringS.mono : ∀ a0 a1 k, LeO (laws_markStringS.f k a0 a1) (laws_markStringS.f (k + 1) a0 a1) := by
 intro a0 a1 k
 have ih0 := laws_markStringS.mono_l k
 unfold laws_markStringS.f
 repeat' first
   | (with_reducible exact ih0 _ _ _)
   | (with_reducible exact laws_markText.mono _ _)
   | (with_reducible exact LeO.refl _)
   | (with_reducible exact LeO.none _)
   | (with_reducible refine LeO.ite ?_ ?_)
   | (with_reducible refine LeO.bind ?_ (fun _ => ?_))
   | exact ih0 _ _ _
   | exact laws_markText.mono _ _
   | exact LeO.none _
   | refine LeO.ite ?_ ?_
   | refine LeO.bind ?_ (fun _ => ?_)
set_option maxHeartbeats 8000000 in
set_option maxRecDepth 100000 in
theorem laws_markStringS.calls (k : Nat) (P0_ : Nat → Prop) (u9000_ : Value) (l0 : List ByteArray) (a1 : Int) (r1 : Int) (r2 : List ByteArray) (w0 w : World) (hB : Below w0.heap.size w0 w) (ho0 : Kd.R Kd.string 9 w w0.heap.size P0_ u9000_ l0) (h : laws_markStringS.f k l0 a1 = some (r1, r2)) :
  Calls Tryd.prog 15 #[u9000_, .int .i64 a1] w fun e w' => e = .returned (.int .i64 r1) ∧ Kd.R Kd.string 9 w' w0.heap.size (fun k_ => (P0_ k_ ∨ w.heap.size ≤ k_)) u9000_ r2 ∧ Below w0.heap.size w0 w' ∧ Kept w w' (fun k_ => P0_ k_) := by
 have HO0 := am_ (show Kd.R Kd.string 9 w w0.heap.size (fun k_ => (P0_ k_ ∨ w.heap.size ≤ k_)) u9000_ l0 from Kd.R_mono ho0 (fun k_ hk => (.inl hk)))
 have HK := am_ (Kept.refl w (fun k_ => P0_ k_))
 have HW0 := am_ hB.size
 have HB := am_ hB
 clear hB
 have H : (laws_markStringS.l0 k l0 a1 0) = some (r1, r2) := h
 clear h
 have H' := am_ H
 clear H
 go_enter Tryd.func15, Tryd.ntmps15
 go_wp2
 go_loopg [1, 5] k (fun kq v1 v5 w' => ∃ (x0_1 : List ByteArray) (x1_1 : Int) (x5_1 : Int), v1 = .int .i64 x1_1 ∧ v5 = .int .i64 x5_1 ∧ Aside0 (laws_markStringS.l0 kq x0_1 x1_1 x5_1 = some (r1, r2)) ∧ Aside0 (kq ≤ k) ∧ Aside0 (Kd.R Kd.string 9 w' w0.heap.size (fun k_ => (P0_ k_ ∨ w.heap.size ≤ k_)) u9000_ x0_1) ∧ Aside0 (Kept w w' (fun k_ => P0_ k_)) ∧ Aside0 (Below w0.heap.size w0 w'))
 case atStart => exact ⟨(l0), (a1), (0), sq_, sq_, H', ⟨Nat.le_refl _⟩, ⟨ra_ HO0.out⟩, ⟨kk_ HK.out⟩, ⟨bw_ HB.out⟩⟩
 case round =>
  clear H'
  obtain ⟨x0_1, x1_1, x5_1, rfl, rfl, HA, HK1, HO_0, HK, HB⟩ := hrel
  cases gk with
  | zero => exact absurd HA.out (by simp [laws_markStringS.l0])
  | succ k1 =>
   have H := HA.out
   clear HA
   simp only [laws_markStringS.l0] at H
   by_cases c3 : x5_1 < (x0_1.length : Int)
   ·rw [if_pos c3] at H
    have c3b0 : decide (x5_1 < (x0_1.length : Int)) = true := decide_eq_true c3
    clear c3
    obtain ⟨t264, A40, H⟩ := bE_ H
    have A4 := am_ A40
    clear A40
    obtain ⟨c5, H⟩ := ifn_ H
    have c5b0 : decide (0 ≤ x5_1) = true := decide_eq_true c5
    clear c5
    obtain ⟨y265, hy265⟩ : ∃ y_ : List ByteArray, y_ = (x0_1.set (x5_1 : Int).toNat t264) := ⟨_, rfl⟩
    replace H : (laws_markStringS.l0 k1 y265 (wrap64 (x1_1 + 1)) (wrap64 (x5_1 + 1))) = some (r1, r2) := by first | (rw [hy265]; with_reducible exact H) | (have H2_ := (Option.bind_some _ _).symm.trans H; rw [hy265]; with_reducible exact H2_) | (have H2_ := (Option.bind_some _ _).symm.trans H; with_reducible exact H2_) | with_reducible exact H | (rw [hy265]; exact H) | exact H
    have Ny265 := am_ hy265
    clear hy265
    have H' := am_ H
    clear H
    obtain ⟨Ao7, co7, eo7⟩ := Kd.R_slice HO_0.out
    subst eo7
    go_wp2_with (first | ((with_reducible refine gate_callee (f := 32) rfl ?_); refine goesL_ (some 15) rfl rfl Tryd.func32 (by kernel_rfl) rfl #[.int .i64 x1_1] rfl (by (try simp only [List.map_toArray, List.map_cons, List.map_nil]); first | done | rfl | (simp only [List.length_drop, List.length_take]; rfl)) ?_; (with_reducible refine (laws_markText.calls k1 x1_1 t264 _ A4.out).mono ?_); rintro e w8 ⟨rfl, hb⟩; refine ⟨_, rfl, ?_⟩; have n0_ := am_ (Kd.R_below (ra_ HO_0.out) hb); have n1_ := am_ (Kept.below (S := (fun k_ => P0_ k_)) (kk_ HK.out) hb); have n2_ := am_ (below_step (bw_ HB.out) hb); replace HO_0 := n0_; replace HK := n1_; replace HB := n2_; clear n0_ n1_ n2_; (try clear hb); (try clear hb2); (try clear hk); (try clear hi); have p6 : 0 ≤ (x5_1 : Int) := od_; have q6 : (x5_1 : Int) < ((x0_1.length : Int) : Int) := od_; obtain ⟨go6, co6, eo6, gb6, gl6, cl6, HG6⟩ := Kd.R_form HO_0.out (by omega); (first | cases eo6 | (injection eo6 with ea_ en_ ec_; (first | subst ea_ | (injection ea_ with ea_; subst ea_)); subst ec_; clear en_)); have GB6 := am_ gb6; have GG6 := am_ HG6; clear gb6 gl6 HG6; have HMgo6 := am_ (show (P0_ go6 ∨ w.heap.size ≤ go6) from (HO_0.out.1 _ rfl)); obtain ⟨hx6_0, hf6_0⟩ := Kd.R_celln (⟨#[]⟩ : ByteArray) HO_0.out (x5_1 : Int) p6 q6; replace p6 := eq_true p6; replace q6 := eq_true q6; obtain ⟨hy9_, hz9_⟩ := Kd.R_celln (⟨#[]⟩ : ByteArray) HO_0.out (x5_1 : Int) od_ od_; have HP9 := Kd.R_putg HO_0.out (x5_1 : Int) t264) | ((with_reducible refine gate_store (t := 9) (p := 16) rfl ?_); refine se_ 9 16 (w8.setCell ⟨go6, (x5_1 : Int).toNat, none⟩ (.string t264)) ?_; intro w10 hw; have hg : w8.grownBy w10 (some go6) := (by rw [hw]; exact HP9.2); have hp_ : Kd.R Kd.string 9 w10 w0.heap.size (fun k_ => (P0_ k_ ∨ w.heap.size ≤ k_)) (.slice (some ⟨go6, 0, none⟩) x0_1.length co7) y265 := (by rw [hw, Ny265.out]; exact HP9.1); clear HP9; have n0_ := am_ (hp_); have n1_ := am_ ((by rw [hw]; exact below_set (HB.out) GB6.out : Below w0.heap.size w0 w10)); have n2_ := am_ (Kept.of_grown (S := (fun k_ => P0_ k_)) hg (kk_ HK.out) (fun k_ e_ => (HO_0.out.1 k_ e_))); replace HO_0 := n0_; replace HB := n1_; replace HK := n2_; clear n0_ n1_ n2_; clear hg hw hp_))
    go_roundg k1
    case measure => have := HK1.out; omega
    case rel => exact ⟨(y265), (wrap64 (x1_1 + 1)), (wrap64 (x5_1 + 1)), sq_, sq_, H', ⟨by have := HK1.out; omega⟩, ⟨ra_ HO_0.out⟩, ⟨kk_ HK.out⟩, ⟨bw_ HB.out⟩⟩
   ·rw [if_neg c3] at H
    have c3b0 : decide (x5_1 < (x0_1.length : Int)) = false := decide_eq_false c3
    clear c3
    simp only [Option.some.injEq, Prod.mk.injEq] at H
    obtain ⟨rfl, rfl⟩ := H
    obtain ⟨Ao11, co11, eo11⟩ := Kd.R_slice HO_0.out
    subst eo11
    go_wp2
    go_ret
    exact ⟨by first | rfl | (simp [errW_none, errW_some] <;> rfl) | (simp [*, errW_none, errW_some] <;> rfl), ra_ HO_0.out, bw_ HB.out, kk_ HK.out⟩

/-! ### laws_heldStringS: function 16 -/
def laws_heldStringS.l0 : Nat → List ByteArray → Int → Int → Option (Int)
 | 0, _, _, _ => none
 | k + 1, x0, x1, x5 => if x5 < (x0.length : Int) then (if 0 ≤ x5 then ((laws_markText.f k x1).bind fun t267 => (if (rdOf ByteArray.empty x0 x5).toList = t267.toList then (laws_heldStringS.l0 k x0 (wrap64 (x1 + 1)) (wrap64 (x5 + 1))) else (some (-1)))) else (none)) else (some x1)
def laws_heldStringS.f (k : Nat) (l0 : List ByteArray) (a1 : Int) : Option (Int) := laws_heldStringS.l0 k l0 a1 0
theorem laws_heldStringS.mono_l : ∀ k, (∀ y0 y1 y2, LeO (laws_heldStringS.l0 k y0 y1 y2) (laws_heldStringS.l0 (k + 1) y0 y1 y2))
 | 0 => fun _ _ _ r h => by simp [laws_heldStringS.l0] at h
 | k + 1 => by
  have ih0 := laws_heldStringS.mono_l k
  ·intro y0 y1 y2
   unfold laws_heldStringS.l0
   repeat' first
   | (with_reducible exact ih0 _ _ _)
   | (with_reducible exact laws_markText.mono _ _)
   | (with_reducible exact LeO.refl _)
   | (with_reducible exact LeO.none _)
   | (with_reducible refine LeO.ite ?_ ?_)
   | (with_reducible refine LeO.bind ?_ (fun _ => ?_))
   | exact ih0 _ _ _
   | exact laws_markText.mono _ _
   | exact LeO.none _
   | refine LeO.ite ?_ ?_
   | refine LeO.bind ?_ (fun _ => ?_)
theorem laws_heldStringS.mono : ∀ a0 a1 k, LeO (laws_heldStringS.f k a0 a1) (laws_heldStringS.f (k + 1) a0 a1) := by
 intro a0 a1 k
 have ih0 := laws_heldStringS.mono_l k
 unfold laws_heldStringS.f
 repeat' first
   | (with_reducible exact ih0 _ _ _)
   | (with_reducible exact laws_markText.mono _ _)
   | (with_reducible exact LeO.refl _)
   | (with_reducible exact LeO.none _)
   | (with_reducible refine LeO.ite ?_ ?_)
   | (with_reducible refine LeO.bind ?_ (fun _ => ?_))
   | exact ih0 _ _ _
   | exact laws_markText.mono _ _
   | exact LeO.none _
   | refine LeO.ite ?_ ?_
   | refine LeO.bind ?_ (fun _ => ?_)
set_option maxHeartbeats 8000000 in
set_option maxRecDepth 100000 in
theorem laws_heldStringS.calls (k : Nat) (A0 : Option Addr) (c0 : Nat) (l0 : List ByteArray) (a1 : Int) (r : Int) (w : World) (hr0 : Kd.C Kd.string w A0 l0.length l0) (hc0 : l0.length ≤ c0) (h : laws_heldStringS.f k l0 a1 = some r) :
  Calls Tryd.prog 16 #[.slice A0 l0.length c0, .int .i64 a1] w fun e w' => e = .returned (.int .i64 r) ∧ Below w.heap.size w w' := by
 have HR0 := am_ hr0
 have HC0 := am_ hc0
 clear hr0 hc0
 have HB := am_ (Below.refl w.heap.size w)
 have H : (laws_heldStringS.l0 k l0 a1 0) = some r := h
 clear h
 have H' := am_ H
 clear H
 go_enter Tryd.func16, Tryd.ntmps16
 go_wp2
 go_loopg [1, 5] k (fun kq v1 v5 w' => ∃ (x1_1 : Int) (x5_1 : Int), v1 = .int .i64 x1_1 ∧ v5 = .int .i64 x5_1 ∧ Aside0 (laws_heldStringS.l0 kq l0 x1_1 x5_1 = some r) ∧ Aside0 (kq ≤ k) ∧ Aside0 (Below w.heap.size w w'))
 case atStart => exact ⟨(a1), (0), sq_, sq_, H', ⟨Nat.le_refl _⟩, ⟨bw_ HB.out⟩⟩
 case round =>
  clear H'
  obtain ⟨x1_1, x5_1, rfl, rfl, HA, HK1, HB⟩ := hrel
  cases gk with
  | zero => exact absurd HA.out (by simp [laws_heldStringS.l0])
  | succ k1 =>
   have H := HA.out
   clear HA
   simp only [laws_heldStringS.l0] at H
   by_cases c3 : x5_1 < (l0.length : Int)
   ·rw [if_pos c3] at H
    have c3b0 : decide (x5_1 < (l0.length : Int)) = true := decide_eq_true c3
    clear c3
    obtain ⟨c4, H⟩ := ifn_ H
    have c4b0 : decide (0 ≤ x5_1) = true := decide_eq_true c4
    clear c4
    obtain ⟨t267, A50, H⟩ := bE_ H
    have A5 := am_ A50
    clear A50
    by_cases c6 : (rdOf ByteArray.empty l0 x5_1).toList = t267.toList
    ·rw [if_pos c6] at H
     have c6b0 : ((rdOf ByteArray.empty l0 x5_1).toList == t267.toList) = true := beq_iff_eq.mpr c6
     have c6b1 : ((rdOf ByteArray.empty l0 x5_1).toList != t267.toList) = false := bne_eq_false_iff_eq.mpr c6
     clear c6
     have H' := am_ H
     clear H
     try go_wp2
     have n0_ := am_ (below_drew1 HB.out)
     replace HB := n0_
     clear n0_
     have p266 : 0 ≤ (x5_1 : Int) := od_
     have q266 : x5_1 < (l0.length : Int) := od_
     obtain ⟨ad266, e266, hx266_0⟩ := Kd.at_string HR0.out x5_1 p266 q266
     have hw266_0 := hx266_0
     cases e266
     (try replace hx266_0 := hc_ HB.out hx266_0)
     replace p266 := eq_true p266
     replace q266 := eq_true q266
     refine start_ (n := 7) (S := fun w' => w'.cell? (ad266.add (x5_1).toNat) = some (.string (rdOf ByteArray.empty l0 x5_1))) (ds := []) (Array.replicate 7 false) (by kernel_rfl) rfl rfl (((HB.out.cell (World.block_lt_of_cell? w _ hw266_0)).trans hw266_0)) (fun hHeld => ?_)
     generalize wr.drew = w7 at HB hx266_0 hHeld ⊢
     refine pure_ (i := 0) (N := some 12) (v := ?_) (a' := ?_) #[true, false, false, false, false, false, false] rfl rfl (by kernel_rfl) (fun _ _ _ h => h) (Or.inl ⟨by rfl, ?_⟩) ?_ ?_
     rotate_left
     ·intro w'
      go_simp
      with_reducible rfl
     rotate_left
     ·simp only [Act.put, List.setIfInBounds_toArray, List.set_cons_zero, List.set_cons_succ, i64_w, i32_w]
      rfl
     refine pure_ (i := 1) (N := some 13) (v := ?_) (a' := ?_) #[true, true, false, false, false, false, false] rfl rfl (by kernel_rfl) (fun _ _ _ h => h) (Or.inl ⟨by rfl, ?_⟩) ?_ ?_
     rotate_left
     ·intro w'
      go_simp
      with_reducible rfl
     rotate_left
     ·simp only [Act.put, List.setIfInBounds_toArray, List.set_cons_zero, List.set_cons_succ, i64_w, i32_w]
      rfl
     refine pure_ (i := 2) (N := some 14) (v := ?_) (a' := ?_) #[true, true, true, false, false, false, false] rfl rfl (by kernel_rfl) (fun _ _ _ h => h) (Or.inl ⟨by rfl, ?_⟩) ?_ ?_
     rotate_left
     ·intro w'
      go_simp
      with_reducible rfl
     rotate_left
     ·simp only [Act.put, List.setIfInBounds_toArray, List.set_cons_zero, List.set_cons_succ, i64_w, i32_w]
      rfl
     refine pure_ (i := 4) (N := some 16) (v := ?_) (a' := ?_) #[true, true, true, false, true, false, false] rfl rfl (by kernel_rfl) (fun _ _ _ h => h) (Or.inl ⟨by rfl, ?_⟩) ?_ ?_
     rotate_left
     ·intro w'
      go_simp
      with_reducible rfl
     rotate_left
     ·simp only [Act.put, List.setIfInBounds_toArray, List.set_cons_zero, List.set_cons_succ, i64_w, i32_w]
      rfl
     refine take_ (i := 3) (N := some 15) (v := ?_) (a' := ?_) #[true, true, true, true, true, false, false] rfl rfl (by kernel_rfl) (fun _ _ _ h => h) (Or.inl ⟨by rfl, ?_⟩) hHeld ?_ ?_
     rotate_left
     ·intro w' s0
      go_simp
      with_reducible rfl
     rotate_left
     ·simp only [Act.put, List.setIfInBounds_toArray, List.set_cons_zero, List.set_cons_succ, i64_w, i32_w]
      rfl
     refine one_ (i := 5) (N := some 17) #[true, true, true, true, true, true, false] rfl rfl (by kernel_rfl) (by decide) (fun K hK => ?_)
     refine goes_ Tryd.func32 (by kernel_rfl) rfl #[.int .i64 x1_1] (by rfl) rfl rfl (by (try simp only [List.map_toArray, List.map_cons, List.map_nil]); first | done | rfl | (simp only [List.length_drop, List.length_take]; rfl)) ?_
     with_reducible refine (laws_markText.calls k1 x1_1 t267 _ A5.out).mono ?_
     rintro e w8 ⟨rfl, hb⟩
     refine ⟨_, rfl, ?_⟩
     have n0_ := am_ (below_step (bw_ HB.out) hb)
     replace HB := n0_
     clear n0_
     (try clear hb)
     (try clear hb2)
     (try clear hk)
     (try clear hi)
     refine hK.out _ _ (((HB.out.cell (World.block_lt_of_cell? w _ hw266_0)).trans hw266_0)) (fun hHeld => ?_)
     clear hK K
     refine nS_ ?_
     refine pure_ (i := 6) (N := some 18) (v := ?_) (a' := ?_) #[true, true, true, true, true, true, true] rfl rfl (by kernel_rfl) (fun _ _ _ h => h) (Or.inl ⟨by rfl, ?_⟩) ?_ ?_
     rotate_left
     ·intro w'
      go_simp
      with_reducible rfl
     rotate_left
     ·simp only [Act.put, List.setIfInBounds_toArray, List.set_cons_zero, List.set_cons_succ, i64_w, i32_w]
      rfl
     refine done_ (by kernel_rfl) ?_
     try go_wp2
     go_roundg k1
     case measure => have := HK1.out; omega
     case rel => exact ⟨(wrap64 (x1_1 + 1)), (wrap64 (x5_1 + 1)), sq_, sq_, H', ⟨by have := HK1.out; omega⟩, ⟨bw_ HB.out⟩⟩
    ·rw [if_neg c6] at H
     have c6b0 : ((rdOf ByteArray.empty l0 x5_1).toList == t267.toList) = false := beq_eq_false_iff_ne.mpr c6
     have c6b1 : ((rdOf ByteArray.empty l0 x5_1).toList != t267.toList) = true := bne_iff_ne.mpr c6
     obtain rfl := Option.some.inj H
     try go_wp2
     have n0_ := am_ (below_drew1 HB.out)
     replace HB := n0_
     clear n0_
     have p266 : 0 ≤ (x5_1 : Int) := od_
     have q266 : x5_1 < (l0.length : Int) := od_
     obtain ⟨ad266, e266, hx266_0⟩ := Kd.at_string HR0.out x5_1 p266 q266
     have hw266_0 := hx266_0
     cases e266
     (try replace hx266_0 := hc_ HB.out hx266_0)
     replace p266 := eq_true p266
     replace q266 := eq_true q266
     refine start_ (n := 7) (S := fun w' => w'.cell? (ad266.add (x5_1).toNat) = some (.string (rdOf ByteArray.empty l0 x5_1))) (ds := []) (Array.replicate 7 false) (by kernel_rfl) rfl rfl (((HB.out.cell (World.block_lt_of_cell? w _ hw266_0)).trans hw266_0)) (fun hHeld => ?_)
     generalize wr.drew = w9 at HB hx266_0 hHeld ⊢
     refine pure_ (i := 0) (N := some 12) (v := ?_) (a' := ?_) #[true, false, false, false, false, false, false] rfl rfl (by kernel_rfl) (fun _ _ _ h => h) (Or.inl ⟨by rfl, ?_⟩) ?_ ?_
     rotate_left
     ·intro w'
      go_simp
      with_reducible rfl
     rotate_left
     ·simp only [Act.put, List.setIfInBounds_toArray, List.set_cons_zero, List.set_cons_succ, i64_w, i32_w]
      rfl
     refine pure_ (i := 1) (N := some 13) (v := ?_) (a' := ?_) #[true, true, false, false, false, false, false] rfl rfl (by kernel_rfl) (fun _ _ _ h => h) (Or.inl ⟨by rfl, ?_⟩) ?_ ?_
     rotate_left
     ·intro w'
      go_simp
      with_reducible rfl
     rotate_left
     ·simp only [Act.put, List.setIfInBounds_toArray, List.set_cons_zero, List.set_cons_succ, i64_w, i32_w]
      rfl
     refine pure_ (i := 2) (N := some 14) (v := ?_) (a' := ?_) #[true, true, true, false, false, false, false] rfl rfl (by kernel_rfl) (fun _ _ _ h => h) (Or.inl ⟨by rfl, ?_⟩) ?_ ?_
     rotate_left
     ·intro w'
      go_simp
      with_reducible rfl
     rotate_left
     ·simp only [Act.put, List.setIfInBounds_toArray, List.set_cons_zero, List.set_cons_succ, i64_w, i32_w]
      rfl
     refine pure_ (i := 4) (N := some 16) (v := ?_) (a' := ?_) #[true, true, true, false, true, false, false] rfl rfl (by kernel_rfl) (fun _ _ _ h => h) (Or.inl ⟨by rfl, ?_⟩) ?_ ?_
     rotate_left
     ·intro w'
      go_simp
      with_reducible rfl
     rotate_left
     ·simp only [Act.put, List.setIfInBounds_toArray, List.set_cons_zero, List.set_cons_succ, i64_w, i32_w]
      rfl
     refine take_ (i := 3) (N := some 15) (v := ?_) (a' := ?_) #[true, true, true, true, true, false, false] rfl rfl (by kernel_rfl) (fun _ _ _ h => h) (Or.inl ⟨by rfl, ?_⟩) hHeld ?_ ?_
     rotate_left
     ·intro w' s0
      go_simp
      with_reducible rfl
     rotate_left
     ·simp only [Act.put, List.setIfInBounds_toArray, List.set_cons_zero, List.set_cons_succ, i64_w, i32_w]
      rfl
     refine one_ (i := 5) (N := some 17) #[true, true, true, true, true, true, false] rfl rfl (by kernel_rfl) (by decide) (fun K hK => ?_)
     refine goes_ Tryd.func32 (by kernel_rfl) rfl #[.int .i64 x1_1] (by rfl) rfl rfl (by (try simp only [List.map_toArray, List.map_cons, List.map_nil]); first | done | rfl | (simp only [List.length_drop, List.length_take]; rfl)) ?_
     with_reducible refine (laws_markText.calls k1 x1_1 t267 _ A5.out).mono ?_
     rintro e w10 ⟨rfl, hb⟩
     refine ⟨_, rfl, ?_⟩
     have n0_ := am_ (below_step (bw_ HB.out) hb)
     replace HB := n0_
     clear n0_
     (try clear hb)
     (try clear hb2)
     (try clear hk)
     (try clear hi)
     refine hK.out _ _ (((HB.out.cell (World.block_lt_of_cell? w _ hw266_0)).trans hw266_0)) (fun hHeld => ?_)
     clear hK K
     refine nS_ ?_
     refine pure_ (i := 6) (N := some 18) (v := ?_) (a' := ?_) #[true, true, true, true, true, true, true] rfl rfl (by kernel_rfl) (fun _ _ _ h => h) (Or.inl ⟨by rfl, ?_⟩) ?_ ?_
     rotate_left
     ·intro w'
      go_simp
      with_reducible rfl
     rotate_left
     ·simp only [Act.put, List.setIfInBounds_toArray, List.set_cons_zero, List.set_cons_succ, i64_w, i32_w]
      rfl
     refine done_ (by kernel_rfl) ?_
     try go_wp2
     go_ret
     exact ⟨by first | rfl | (simp [errW_none, errW_some] <;> rfl) | (simp [*, errW_none, errW_some] <;> rfl), bw_ HB.out⟩
   ·rw [if_neg c3] at H
    have c3b0 : decide (x5_1 < (l0.length : Int)) = false := decide_eq_false c3
    clear c3
    obtain rfl := Option.some.inj H
    go_wp2
    go_ret
    exact ⟨by first | rfl | (simp [errW_none, errW_some] <;> rfl) | (simp [*, errW_none, errW_some] <;> rfl), bw_ HB.out⟩

end Go.Proofs.YtcabbfphidjapaaDoor.XFnExactRunMusic
