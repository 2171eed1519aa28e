/- What the Go functions that this law comes to compute, each walked; written by a program of this session. -/
import Derived.Test.YtbnbgmpkemlfbaaXShort
import Derived.Test.YtbnbgmpkemlfbaaXMark
import Derived.Test.YtbnbgmpkemlfbaaXFnExactMixVoicesx0
import Derived.Test.YtbnbgmpkemlfbaaXFnExactMixVoicesx2
namespace Go.Proofs.Ytbnbgmpkemlfbaa.XFnExactMixVoices
open Go.RowKit Go.Proofs.YtbnbgmpkemlfbaaW.PrintWords Go.Proofs.YtbnbgmpkemlfbaaW.PrintLast Go.Proofs.YtbnbgmpkemlfbaaW.PrintMore
attribute [local go_sem] str_geq max2_int min2_int max_two min_two max_three min_three max_four min_four   -- for this text's walks alone
set_option linter.unusedVariables false
set_option linter.unusedSimpArgs false

/-! ### laws_heldVoiceS: function 15 -/
def laws_heldVoiceS.l0 : Nat → List (S32) → Int → Int → Option (Int)
 | 0, _, _, _ => none
 | k + 1, x0, x1, x5 => if x5 < (x0.length : Int) then (if 0 ≤ x5 then ((laws_heldIntS.f k ((rd_T32 x0 x5).f0) x1).bind fun t140 => (if t140 < 0 then (some (-1)) else (if ((rd_T32 x0 x5).f1) = t140 then (if (((rd_T32 x0 x5).f2) != ((Int.tmod (wrap64 (t140 + 1)) 3) == 0)) = true then (some (-1)) else (if ((rd_T32 x0 x5).f3) = (wrap64 ((wrap64 (t140 + 1)) + 1)) then (if ((rd_T32 x0 x5).f4) = (wrap64 ((wrap64 ((wrap64 (t140 + 1)) + 1)) + 1)) then (if ((rd_T32 x0 x5).f5) = (wrap64 ((wrap64 ((wrap64 ((wrap64 (t140 + 1)) + 1)) + 1)) + 1)) then (laws_heldVoiceS.l0 k x0 (wrap64 ((wrap64 ((wrap64 ((wrap64 ((wrap64 (t140 + 1)) + 1)) + 1)) + 1)) + 1)) (wrap64 (x5 + 1))) else (some (-1))) else (some (-1))) else (some (-1)))) else (some (-1))))) else (none)) else (some x1)
def laws_heldVoiceS.f (k : Nat) (l0 : List (S32)) (a1 : Int) : Option (Int) := laws_heldVoiceS.l0 k l0 a1 0
theorem laws_heldVoiceS.mono_l : ∀ k, (∀ y0 y1 y2, LeO (laws_heldVoiceS.l0 k y0 y1 y2) (laws_heldVoiceS.l0 (k + 1) y0 y1 y2))
 | 0 => fun _ _ _ r h => by simp [laws_heldVoiceS.l0] at h
 | k + 1 => by
  have ih0 := laws_heldVoiceS.mono_l k
  ·intro y0 y1 y2
   unfold laws_heldVoiceS.l0
   repeat' first
   | (with_reducible exact ih0 _ _ _)
   | (with_reducible exact laws_heldIntS.mono _ _ _)
   | (with_reducible exact LeO.refl _)
   | (with_reducible exact LeO.none _)
   | (with_reducible refine LeO.ite ?_ ?_)
   | (with_reducible refine LeO.bind ?_ (fun _ => ?_))
   | exact ih0 _ _ _
   | exact laws_heldIntS.mono _ _ _
   | exact LeO.none _
   | refine LeO.ite ?_ ?_
   | refine LeO.bind ?_ (fun _ => ?_)
theorem laws_heldVoiceS.mono : ∀ a0 a1 k, LeO (laws_heldVoiceS.f k a0 a1) (laws_heldVoiceS.f (k + 1) a0 a1) := by
 intro a0 a1 k
 have ih0 := laws_heldVoiceS.mono_l k
 unfold laws_heldVoiceS.f
 repeat' first
   | (with_reducible exact ih0 _ _ _)
   | (with_reducible exact laws_heldIntS.mono _ _ _)
   | (with_reducible exact LeO.refl _)
   | (with_reducible exact LeO.none _)
   | (with_reducible refine LeO.ite ?_ ?_)
   | (with_reducible refine LeO.bind ?_ (fun _ => ?_))
   | exact ih0 _ _ _
   | exact laws_heldIntS.mono _ _ _
   | exact LeO.none _
   | refine LeO.ite ?_ ?_
   | refine LeO.bind ?_ (fun _ => ?_)
set_option maxHeartbeats 8000000 in
set_option maxRecDepth 100000 in
theorem laws_heldVoiceS.calls (k : Nat) (A0 : Option Addr) (c0 : Nat) (l0 : List (S32)) (a1 : Int) (r : Int) (w : World) (hr0 : Kd.C k32 w A0 l0.length l0) (hc0 : l0.length ≤ c0) (h : laws_heldVoiceS.f k l0 a1 = some r) :
  Calls Try.prog 15 #[.slice A0 l0.length c0, .int .i64 a1] w fun e w' => e = .returned (.int .i64 r) ∧ Drawn0 w w' := by
 have HR0 := am_ hr0
 have HC0 := am_ hc0
 clear hr0 hc0
 have H : (laws_heldVoiceS.l0 k l0 a1 0) = some r := h
 clear h
 have H' := am_ H
 clear H
 go_enter Try.func15, Try.ntmps15
 go_wp2
 go_loopg [1, 5] k (fun kq v1 v5 w' => ∃ (x1_1 : Int) (x5_1 : Int), v1 = .int .i64 x1_1 ∧ v5 = .int .i64 x5_1 ∧ Aside0 (laws_heldVoiceS.l0 kq l0 x1_1 x5_1 = some r) ∧ Aside0 (kq ≤ k) ∧ Drawn0 w w')
 case atStart => exact ⟨(a1), (0), sq_, sq_, H', ⟨Nat.le_refl _⟩, by repeat (first | exact Drawn0.refl _ | apply Drawn0.step)⟩
 case round =>
  clear H'
  obtain ⟨x1_1, x5_1, rfl, rfl, HA, HK1, ⟨m1, rfl⟩⟩ := hrel
  cases gk with
  | zero => exact absurd HA.out (by simp [laws_heldVoiceS.l0])
  | succ k1 =>
   have H := HA.out
   clear HA
   simp only [laws_heldVoiceS.l0] at H
   by_cases c3 : x5_1 < (l0.length : Int)
   ·rw [if_pos c3] at H
    have c3b0 : decide (x5_1 < (l0.length : Int)) = true := decide_eq_true c3
    clear c3
    obtain ⟨c4, H⟩ := ifn_ H
    have c4b0 : decide (0 ≤ x5_1) = true := decide_eq_true c4
    clear c4
    obtain ⟨t140, A50, H⟩ := bE_ H
    have A5 := am_ A50
    clear A50
    by_cases c6 : t140 < 0
    ·rw [if_pos c6] at H
     have c6b0 : decide (t140 < 0) = true := decide_eq_true c6
     clear c6
     obtain rfl := Option.some.inj H
     have p139 : 0 ≤ (x5_1 : Int) := od_
     have q139 : x5_1 < (l0.length : Int) := od_
     obtain ⟨ad139, A139_0, c139_0, e139, hx139_0, hx139_1, hx139_2, hx139_3, hx139_4, hx139_5, hl139_0, hi139_0⟩ := at_T32 HR0.out x5_1 p139 q139
     cases e139
     have HR139_0 := am_ hi139_0
     have HC139_0 := am_ hl139_0
     clear hi139_0 hl139_0
     replace p139 := eq_true p139
     replace q139 := eq_true q139
     go_wp2_with (first | ((with_reducible refine gate_callee (f := 32) rfl ?_); refine goesL_ (some 18) rfl rfl Try.func32 (by kernel_rfl) rfl #[.slice A139_0 ((rd_T32 l0 x5_1).f0).length c139_0, .int .i64 x1_1] rfl (by (try simp only [List.map_toArray, List.map_cons, List.map_nil]); first | done | rfl | (simp only [List.length_drop, List.length_take]; rfl)) ?_; (with_reducible refine (laws_heldIntS.calls k1 _ _ ((rd_T32 l0 x5_1).f0) x1_1 t140 _ ?side1 ?side2 A5.out).mono ?_); (case side1 => repeat (first | exact HR139_0.out | (with_reducible refine Kd.C_alloc ?_ _) | (with_reducible refine Kd.C_drewN ?_ _) | (with_reducible refine Kd.C_drew ?_))); (case side2 => exact HC139_0.out); rintro e w' ⟨rfl, ⟨nd, rfl⟩⟩; refine ⟨_, rfl, ?_⟩))
     go_ret
     exact ⟨by first | rfl | (simp; done) | (simp [*]; done), by repeat (first | exact Drawn0.refl _ | apply Drawn0.step)⟩
    ·rw [if_neg c6] at H
     have c6b0 : decide (t140 < 0) = false := decide_eq_false c6
     clear c6
     by_cases c7 : ((rd_T32 l0 x5_1).f1) = t140
     ·rw [if_pos c7] at H
      have c7b0 : (((rd_T32 l0 x5_1).f1) == t140) = true := beq_iff_eq.mpr c7
      have c7b1 : (((rd_T32 l0 x5_1).f1) != t140) = false := bne_eq_false_iff_eq.mpr c7
      clear c7
      by_cases c8 : (((rd_T32 l0 x5_1).f2) != ((Int.tmod (wrap64 (t140 + 1)) 3) == 0)) = true
      ·rw [if_pos c8] at H
       have c8b0 : (((rd_T32 l0 x5_1).f2) != ((Int.tmod (wrap64 (t140 + 1)) 3) == 0)) = true := c8
       (try (have c8b1 : decide (((rd_T32 l0 x5_1).f2) = ((Int.tmod (wrap64 (t140 + 1)) 3) == 0)) = false := by simpa using c8))
       (try (have c8b2 : (((rd_T32 l0 x5_1).f2) == ((Int.tmod (wrap64 (t140 + 1)) 3) == 0)) = false := by simpa using c8))
       (try (have c8b3 : ¬ (((rd_T32 l0 x5_1).f2) = ((Int.tmod (wrap64 (t140 + 1)) 3) == 0)) := by simpa using c8))
       clear c8
       obtain rfl := Option.some.inj H
       have p139 : 0 ≤ (x5_1 : Int) := od_
       have q139 : x5_1 < (l0.length : Int) := od_
       obtain ⟨ad139, A139_0, c139_0, e139, hx139_0, hx139_1, hx139_2, hx139_3, hx139_4, hx139_5, hl139_0, hi139_0⟩ := at_T32 HR0.out x5_1 p139 q139
       cases e139
       have HR139_0 := am_ hi139_0
       have HC139_0 := am_ hl139_0
       clear hi139_0 hl139_0
       replace p139 := eq_true p139
       replace q139 := eq_true q139
       go_wp2_with (first | ((with_reducible refine gate_callee (f := 32) rfl ?_); refine goesL_ (some 18) rfl rfl Try.func32 (by kernel_rfl) rfl #[.slice A139_0 ((rd_T32 l0 x5_1).f0).length c139_0, .int .i64 x1_1] rfl (by (try simp only [List.map_toArray, List.map_cons, List.map_nil]); first | done | rfl | (simp only [List.length_drop, List.length_take]; rfl)) ?_; (with_reducible refine (laws_heldIntS.calls k1 _ _ ((rd_T32 l0 x5_1).f0) x1_1 t140 _ ?side1 ?side2 A5.out).mono ?_); (case side1 => repeat (first | exact HR139_0.out | (with_reducible refine Kd.C_alloc ?_ _) | (with_reducible refine Kd.C_drewN ?_ _) | (with_reducible refine Kd.C_drew ?_))); (case side2 => exact HC139_0.out); rintro e w' ⟨rfl, ⟨nd, rfl⟩⟩; refine ⟨_, rfl, ?_⟩; have p141 : 0 ≤ (x5_1 : Int) := od_; have q141 : x5_1 < (l0.length : Int) := od_; obtain ⟨ad141, A141_0, c141_0, e141, hx141_0, hx141_1, hx141_2, hx141_3, hx141_4, hx141_5, hl141_0, hi141_0⟩ := at_T32 HR0.out x5_1 p141 q141; obtain rfl : ad139 = ad141 := (by injection e141); have HR141_0 := am_ hi141_0; have HC141_0 := am_ hl141_0; clear hi141_0 hl141_0; replace p141 := eq_true p141; replace q141 := eq_true q141; have ea_ := Option.some.inj (hx139_0.symm.trans hx141_0); injection ea_ with ea_ en_ ec_; subst ea_; subst ec_; clear en_; have p142 : 0 ≤ (x5_1 : Int) := od_; have q142 : x5_1 < (l0.length : Int) := od_; obtain ⟨ad142, A142_0, c142_0, e142, hx142_0, hx142_1, hx142_2, hx142_3, hx142_4, hx142_5, hl142_0, hi142_0⟩ := at_T32 HR0.out x5_1 p142 q142; obtain rfl : ad139 = ad142 := (by injection e142); have HR142_0 := am_ hi142_0; have HC142_0 := am_ hl142_0; clear hi142_0 hl142_0; replace p142 := eq_true p142; replace q142 := eq_true q142; have ea_ := Option.some.inj (hx139_0.symm.trans hx142_0); injection ea_ with ea_ en_ ec_; subst ea_; subst ec_; clear en_))
       go_ret
       exact ⟨by first | rfl | (simp; done) | (simp [*]; done), by repeat (first | exact Drawn0.refl _ | apply Drawn0.step)⟩
      ·rw [if_neg c8] at H
       have c8b0 : (((rd_T32 l0 x5_1).f2) != ((Int.tmod (wrap64 (t140 + 1)) 3) == 0)) = false := by simpa using c8
       (try (have c8b1 : decide (((rd_T32 l0 x5_1).f2) = ((Int.tmod (wrap64 (t140 + 1)) 3) == 0)) = true := by simpa using c8))
       (try (have c8b2 : (((rd_T32 l0 x5_1).f2) == ((Int.tmod (wrap64 (t140 + 1)) 3) == 0)) = true := by simpa using c8))
       clear c8
       by_cases c9 : ((rd_T32 l0 x5_1).f3) = (wrap64 ((wrap64 (t140 + 1)) + 1))
       ·rw [if_pos c9] at H
        have c9b0 : (((rd_T32 l0 x5_1).f3) == (wrap64 ((wrap64 (t140 + 1)) + 1))) = true := beq_iff_eq.mpr c9
        have c9b1 : (((rd_T32 l0 x5_1).f3) != (wrap64 ((wrap64 (t140 + 1)) + 1))) = false := bne_eq_false_iff_eq.mpr c9
        clear c9
        by_cases c10 : ((rd_T32 l0 x5_1).f4) = (wrap64 ((wrap64 ((wrap64 (t140 + 1)) + 1)) + 1))
        ·rw [if_pos c10] at H
         have c10b0 : (((rd_T32 l0 x5_1).f4) == (wrap64 ((wrap64 ((wrap64 (t140 + 1)) + 1)) + 1))) = true := beq_iff_eq.mpr c10
         have c10b1 : (((rd_T32 l0 x5_1).f4) != (wrap64 ((wrap64 ((wrap64 (t140 + 1)) + 1)) + 1))) = false := bne_eq_false_iff_eq.mpr c10
         clear c10
         by_cases c11 : ((rd_T32 l0 x5_1).f5) = (wrap64 ((wrap64 ((wrap64 ((wrap64 (t140 + 1)) + 1)) + 1)) + 1))
         ·rw [if_pos c11] at H
          have c11b0 : (((rd_T32 l0 x5_1).f5) == (wrap64 ((wrap64 ((wrap64 ((wrap64 (t140 + 1)) + 1)) + 1)) + 1))) = true := beq_iff_eq.mpr c11
          have c11b1 : (((rd_T32 l0 x5_1).f5) != (wrap64 ((wrap64 ((wrap64 ((wrap64 (t140 + 1)) + 1)) + 1)) + 1))) = false := bne_eq_false_iff_eq.mpr c11
          clear c11
          have H' := am_ H
          clear H
          have p139 : 0 ≤ (x5_1 : Int) := od_
          have q139 : x5_1 < (l0.length : Int) := od_
          obtain ⟨ad139, A139_0, c139_0, e139, hx139_0, hx139_1, hx139_2, hx139_3, hx139_4, hx139_5, hl139_0, hi139_0⟩ := at_T32 HR0.out x5_1 p139 q139
          cases e139
          have HR139_0 := am_ hi139_0
          have HC139_0 := am_ hl139_0
          clear hi139_0 hl139_0
          replace p139 := eq_true p139
          replace q139 := eq_true q139
          go_wp2_with (first | ((with_reducible refine gate_callee (f := 32) rfl ?_); refine goesL_ (some 18) rfl rfl Try.func32 (by kernel_rfl) rfl #[.slice A139_0 ((rd_T32 l0 x5_1).f0).length c139_0, .int .i64 x1_1] rfl (by (try simp only [List.map_toArray, List.map_cons, List.map_nil]); first | done | rfl | (simp only [List.length_drop, List.length_take]; rfl)) ?_; (with_reducible refine (laws_heldIntS.calls k1 _ _ ((rd_T32 l0 x5_1).f0) x1_1 t140 _ ?side1 ?side2 A5.out).mono ?_); (case side1 => repeat (first | exact HR139_0.out | (with_reducible refine Kd.C_alloc ?_ _) | (with_reducible refine Kd.C_drewN ?_ _) | (with_reducible refine Kd.C_drew ?_))); (case side2 => exact HC139_0.out); rintro e w' ⟨rfl, ⟨nd, rfl⟩⟩; refine ⟨_, rfl, ?_⟩; have p141 : 0 ≤ (x5_1 : Int) := od_; have q141 : x5_1 < (l0.length : Int) := od_; obtain ⟨ad141, A141_0, c141_0, e141, hx141_0, hx141_1, hx141_2, hx141_3, hx141_4, hx141_5, hl141_0, hi141_0⟩ := at_T32 HR0.out x5_1 p141 q141; obtain rfl : ad139 = ad141 := (by injection e141); have HR141_0 := am_ hi141_0; have HC141_0 := am_ hl141_0; clear hi141_0 hl141_0; replace p141 := eq_true p141; replace q141 := eq_true q141; have ea_ := Option.some.inj (hx139_0.symm.trans hx141_0); injection ea_ with ea_ en_ ec_; subst ea_; subst ec_; clear en_; have p142 : 0 ≤ (x5_1 : Int) := od_; have q142 : x5_1 < (l0.length : Int) := od_; obtain ⟨ad142, A142_0, c142_0, e142, hx142_0, hx142_1, hx142_2, hx142_3, hx142_4, hx142_5, hl142_0, hi142_0⟩ := at_T32 HR0.out x5_1 p142 q142; obtain rfl : ad139 = ad142 := (by injection e142); have HR142_0 := am_ hi142_0; have HC142_0 := am_ hl142_0; clear hi142_0 hl142_0; replace p142 := eq_true p142; replace q142 := eq_true q142; have ea_ := Option.some.inj (hx139_0.symm.trans hx142_0); injection ea_ with ea_ en_ ec_; subst ea_; subst ec_; clear en_; have p143 : 0 ≤ (x5_1 : Int) := od_; have q143 : x5_1 < (l0.length : Int) := od_; obtain ⟨ad143, A143_0, c143_0, e143, hx143_0, hx143_1, hx143_2, hx143_3, hx143_4, hx143_5, hl143_0, hi143_0⟩ := at_T32 HR0.out x5_1 p143 q143; obtain rfl : ad139 = ad143 := (by injection e143); have HR143_0 := am_ hi143_0; have HC143_0 := am_ hl143_0; clear hi143_0 hl143_0; replace p143 := eq_true p143; replace q143 := eq_true q143; have ea_ := Option.some.inj (hx139_0.symm.trans hx143_0); injection ea_ with ea_ en_ ec_; subst ea_; subst ec_; clear en_; have p144 : 0 ≤ (x5_1 : Int) := od_; have q144 : x5_1 < (l0.length : Int) := od_; obtain ⟨ad144, A144_0, c144_0, e144, hx144_0, hx144_1, hx144_2, hx144_3, hx144_4, hx144_5, hl144_0, hi144_0⟩ := at_T32 HR0.out x5_1 p144 q144; obtain rfl : ad139 = ad144 := (by injection e144); have HR144_0 := am_ hi144_0; have HC144_0 := am_ hl144_0; clear hi144_0 hl144_0; replace p144 := eq_true p144; replace q144 := eq_true q144; have ea_ := Option.some.inj (hx139_0.symm.trans hx144_0); injection ea_ with ea_ en_ ec_; subst ea_; subst ec_; clear en_; have p145 : 0 ≤ (x5_1 : Int) := od_; have q145 : x5_1 < (l0.length : Int) := od_; obtain ⟨ad145, A145_0, c145_0, e145, hx145_0, hx145_1, hx145_2, hx145_3, hx145_4, hx145_5, hl145_0, hi145_0⟩ := at_T32 HR0.out x5_1 p145 q145; obtain rfl : ad139 = ad145 := (by injection e145); have HR145_0 := am_ hi145_0; have HC145_0 := am_ hl145_0; clear hi145_0 hl145_0; replace p145 := eq_true p145; replace q145 := eq_true q145; have ea_ := Option.some.inj (hx139_0.symm.trans hx145_0); injection ea_ with ea_ en_ ec_; subst ea_; subst ec_; clear en_))
          go_roundg k1
          case measure => have := HK1.out; omega
          case rel => exact ⟨(wrap64 ((wrap64 ((wrap64 ((wrap64 ((wrap64 (t140 + 1)) + 1)) + 1)) + 1)) + 1)), (wrap64 (x5_1 + 1)), sq_, sq_, H', ⟨by have := HK1.out; omega⟩, by repeat (first | exact Drawn0.refl _ | apply Drawn0.step)⟩
         ·rw [if_neg c11] at H
          have c11b0 : (((rd_T32 l0 x5_1).f5) == (wrap64 ((wrap64 ((wrap64 ((wrap64 (t140 + 1)) + 1)) + 1)) + 1))) = false := beq_eq_false_iff_ne.mpr c11
          have c11b1 : (((rd_T32 l0 x5_1).f5) != (wrap64 ((wrap64 ((wrap64 ((wrap64 (t140 + 1)) + 1)) + 1)) + 1))) = true := bne_iff_ne.mpr c11
          obtain rfl := Option.some.inj H
          have p139 : 0 ≤ (x5_1 : Int) := od_
          have q139 : x5_1 < (l0.length : Int) := od_
          obtain ⟨ad139, A139_0, c139_0, e139, hx139_0, hx139_1, hx139_2, hx139_3, hx139_4, hx139_5, hl139_0, hi139_0⟩ := at_T32 HR0.out x5_1 p139 q139
          cases e139
          have HR139_0 := am_ hi139_0
          have HC139_0 := am_ hl139_0
          clear hi139_0 hl139_0
          replace p139 := eq_true p139
          replace q139 := eq_true q139
          go_wp2_with (first | ((with_reducible refine gate_callee (f := 32) rfl ?_); refine goesL_ (some 18) rfl rfl Try.func32 (by kernel_rfl) rfl #[.slice A139_0 ((rd_T32 l0 x5_1).f0).length c139_0, .int .i64 x1_1] rfl (by (try simp only [List.map_toArray, List.map_cons, List.map_nil]); first | done | rfl | (simp only [List.length_drop, List.length_take]; rfl)) ?_; (with_reducible refine (laws_heldIntS.calls k1 _ _ ((rd_T32 l0 x5_1).f0) x1_1 t140 _ ?side1 ?side2 A5.out).mono ?_); (case side1 => repeat (first | exact HR139_0.out | (with_reducible refine Kd.C_alloc ?_ _) | (with_reducible refine Kd.C_drewN ?_ _) | (with_reducible refine Kd.C_drew ?_))); (case side2 => exact HC139_0.out); rintro e w' ⟨rfl, ⟨nd, rfl⟩⟩; refine ⟨_, rfl, ?_⟩; have p141 : 0 ≤ (x5_1 : Int) := od_; have q141 : x5_1 < (l0.length : Int) := od_; obtain ⟨ad141, A141_0, c141_0, e141, hx141_0, hx141_1, hx141_2, hx141_3, hx141_4, hx141_5, hl141_0, hi141_0⟩ := at_T32 HR0.out x5_1 p141 q141; obtain rfl : ad139 = ad141 := (by injection e141); have HR141_0 := am_ hi141_0; have HC141_0 := am_ hl141_0; clear hi141_0 hl141_0; replace p141 := eq_true p141; replace q141 := eq_true q141; have ea_ := Option.some.inj (hx139_0.symm.trans hx141_0); injection ea_ with ea_ en_ ec_; subst ea_; subst ec_; clear en_; have p142 : 0 ≤ (x5_1 : Int) := od_; have q142 : x5_1 < (l0.length : Int) := od_; obtain ⟨ad142, A142_0, c142_0, e142, hx142_0, hx142_1, hx142_2, hx142_3, hx142_4, hx142_5, hl142_0, hi142_0⟩ := at_T32 HR0.out x5_1 p142 q142; obtain rfl : ad139 = ad142 := (by injection e142); have HR142_0 := am_ hi142_0; have HC142_0 := am_ hl142_0; clear hi142_0 hl142_0; replace p142 := eq_true p142; replace q142 := eq_true q142; have ea_ := Option.some.inj (hx139_0.symm.trans hx142_0); injection ea_ with ea_ en_ ec_; subst ea_; subst ec_; clear en_; have p143 : 0 ≤ (x5_1 : Int) := od_; have q143 : x5_1 < (l0.length : Int) := od_; obtain ⟨ad143, A143_0, c143_0, e143, hx143_0, hx143_1, hx143_2, hx143_3, hx143_4, hx143_5, hl143_0, hi143_0⟩ := at_T32 HR0.out x5_1 p143 q143; obtain rfl : ad139 = ad143 := (by injection e143); have HR143_0 := am_ hi143_0; have HC143_0 := am_ hl143_0; clear hi143_0 hl143_0; replace p143 := eq_true p143; replace q143 := eq_true q143; have ea_ := Option.some.inj (hx139_0.symm.trans hx143_0); injection ea_ with ea_ en_ ec_; subst ea_; subst ec_; clear en_; have p144 : 0 ≤ (x5_1 : Int) := od_; have q144 : x5_1 < (l0.length : Int) := od_; obtain ⟨ad144, A144_0, c144_0, e144, hx144_0, hx144_1, hx144_2, hx144_3, hx144_4, hx144_5, hl144_0, hi144_0⟩ := at_T32 HR0.out x5_1 p144 q144; obtain rfl : ad139 = ad144 := (by injection e144); have HR144_0 := am_ hi144_0; have HC144_0 := am_ hl144_0; clear hi144_0 hl144_0; replace p144 := eq_true p144; replace q144 := eq_true q144; have ea_ := Option.some.inj (hx139_0.symm.trans hx144_0); injection ea_ with ea_ en_ ec_; subst ea_; subst ec_; clear en_; have p145 : 0 ≤ (x5_1 : Int) := od_; have q145 : x5_1 < (l0.length : Int) := od_; obtain ⟨ad145, A145_0, c145_0, e145, hx145_0, hx145_1, hx145_2, hx145_3, hx145_4, hx145_5, hl145_0, hi145_0⟩ := at_T32 HR0.out x5_1 p145 q145; obtain rfl : ad139 = ad145 := (by injection e145); have HR145_0 := am_ hi145_0; have HC145_0 := am_ hl145_0; clear hi145_0 hl145_0; replace p145 := eq_true p145; replace q145 := eq_true q145; have ea_ := Option.some.inj (hx139_0.symm.trans hx145_0); injection ea_ with ea_ en_ ec_; subst ea_; subst ec_; clear en_))
          go_ret
          exact ⟨by first | rfl | (simp; done) | (simp [*]; done), by repeat (first | exact Drawn0.refl _ | apply Drawn0.step)⟩
        ·rw [if_neg c10] at H
         have c10b0 : (((rd_T32 l0 x5_1).f4) == (wrap64 ((wrap64 ((wrap64 (t140 + 1)) + 1)) + 1))) = false := beq_eq_false_iff_ne.mpr c10
         have c10b1 : (((rd_T32 l0 x5_1).f4) != (wrap64 ((wrap64 ((wrap64 (t140 + 1)) + 1)) + 1))) = true := bne_iff_ne.mpr c10
         obtain rfl := Option.some.inj H
         have p139 : 0 ≤ (x5_1 : Int) := od_
         have q139 : x5_1 < (l0.length : Int) := od_
         obtain ⟨ad139, A139_0, c139_0, e139, hx139_0, hx139_1, hx139_2, hx139_3, hx139_4, hx139_5, hl139_0, hi139_0⟩ := at_T32 HR0.out x5_1 p139 q139
         cases e139
         have HR139_0 := am_ hi139_0
         have HC139_0 := am_ hl139_0
         clear hi139_0 hl139_0
         replace p139 := eq_true p139
         replace q139 := eq_true q139
         go_wp2_with (first | ((with_reducible refine gate_callee (f := 32) rfl ?_); refine goesL_ (some 18) rfl rfl Try.func32 (by kernel_rfl) rfl #[.slice A139_0 ((rd_T32 l0 x5_1).f0).length c139_0, .int .i64 x1_1] rfl (by (try simp only [List.map_toArray, List.map_cons, List.map_nil]); first | done | rfl | (simp only [List.length_drop, List.length_take]; rfl)) ?_; (with_reducible refine (laws_heldIntS.calls k1 _ _ ((rd_T32 l0 x5_1).f0) x1_1 t140 _ ?side1 ?side2 A5.out).mono ?_); (case side1 => repeat (first | exact HR139_0.out | (with_reducible refine Kd.C_alloc ?_ _) | (with_reducible refine Kd.C_drewN ?_ _) | (with_reducible refine Kd.C_drew ?_))); (case side2 => exact HC139_0.out); rintro e w' ⟨rfl, ⟨nd, rfl⟩⟩; refine ⟨_, rfl, ?_⟩; have p141 : 0 ≤ (x5_1 : Int) := od_; have q141 : x5_1 < (l0.length : Int) := od_; obtain ⟨ad141, A141_0, c141_0, e141, hx141_0, hx141_1, hx141_2, hx141_3, hx141_4, hx141_5, hl141_0, hi141_0⟩ := at_T32 HR0.out x5_1 p141 q141; obtain rfl : ad139 = ad141 := (by injection e141); have HR141_0 := am_ hi141_0; have HC141_0 := am_ hl141_0; clear hi141_0 hl141_0; replace p141 := eq_true p141; replace q141 := eq_true q141; have ea_ := Option.some.inj (hx139_0.symm.trans hx141_0); injection ea_ with ea_ en_ ec_; subst ea_; subst ec_; clear en_; have p142 : 0 ≤ (x5_1 : Int) := od_; have q142 : x5_1 < (l0.length : Int) := od_; obtain ⟨ad142, A142_0, c142_0, e142, hx142_0, hx142_1, hx142_2, hx142_3, hx142_4, hx142_5, hl142_0, hi142_0⟩ := at_T32 HR0.out x5_1 p142 q142; obtain rfl : ad139 = ad142 := (by injection e142); have HR142_0 := am_ hi142_0; have HC142_0 := am_ hl142_0; clear hi142_0 hl142_0; replace p142 := eq_true p142; replace q142 := eq_true q142; have ea_ := Option.some.inj (hx139_0.symm.trans hx142_0); injection ea_ with ea_ en_ ec_; subst ea_; subst ec_; clear en_; have p143 : 0 ≤ (x5_1 : Int) := od_; have q143 : x5_1 < (l0.length : Int) := od_; obtain ⟨ad143, A143_0, c143_0, e143, hx143_0, hx143_1, hx143_2, hx143_3, hx143_4, hx143_5, hl143_0, hi143_0⟩ := at_T32 HR0.out x5_1 p143 q143; obtain rfl : ad139 = ad143 := (by injection e143); have HR143_0 := am_ hi143_0; have HC143_0 := am_ hl143_0; clear hi143_0 hl143_0; replace p143 := eq_true p143; replace q143 := eq_true q143; have ea_ := Option.some.inj (hx139_0.symm.trans hx143_0); injection ea_ with ea_ en_ ec_; subst ea_; subst ec_; clear en_; have p144 : 0 ≤ (x5_1 : Int) := od_; have q144 : x5_1 < (l0.length : Int) := od_; obtain ⟨ad144, A144_0, c144_0, e144, hx144_0, hx144_1, hx144_2, hx144_3, hx144_4, hx144_5, hl144_0, hi144_0⟩ := at_T32 HR0.out x5_1 p144 q144; obtain rfl : ad139 = ad144 := (by injection e144); have HR144_0 := am_ hi144_0; have HC144_0 := am_ hl144_0; clear hi144_0 hl144_0; replace p144 := eq_true p144; replace q144 := eq_true q144; have ea_ := Option.some.inj (hx139_0.symm.trans hx144_0); injection ea_ with ea_ en_ ec_; subst ea_; subst ec_; clear en_))
         go_ret
         exact ⟨by first | rfl | (simp; done) | (simp [*]; done), by repeat (first | exact Drawn0.refl _ | apply Drawn0.step)⟩
       ·rw [if_neg c9] at H
        have c9b0 : (((rd_T32 l0 x5_1).f3) == (wrap64 ((wrap64 (t140 + 1)) + 1))) = false := beq_eq_false_iff_ne.mpr c9
        have c9b1 : (((rd_T32 l0 x5_1).f3) != (wrap64 ((wrap64 (t140 + 1)) + 1))) = true := bne_iff_ne.mpr c9
        obtain rfl := Option.some.inj H
        have p139 : 0 ≤ (x5_1 : Int) := od_
        have q139 : x5_1 < (l0.length : Int) := od_
        obtain ⟨ad139, A139_0, c139_0, e139, hx139_0, hx139_1, hx139_2, hx139_3, hx139_4, hx139_5, hl139_0, hi139_0⟩ := at_T32 HR0.out x5_1 p139 q139
        cases e139
        have HR139_0 := am_ hi139_0
        have HC139_0 := am_ hl139_0
        clear hi139_0 hl139_0
        replace p139 := eq_true p139
        replace q139 := eq_true q139
        go_wp2_with (first | ((with_reducible refine gate_callee (f := 32) rfl ?_); refine goesL_ (some 18) rfl rfl Try.func32 (by kernel_rfl) rfl #[.slice A139_0 ((rd_T32 l0 x5_1).f0).length c139_0, .int .i64 x1_1] rfl (by (try simp only [List.map_toArray, List.map_cons, List.map_nil]); first | done | rfl | (simp only [List.length_drop, List.length_take]; rfl)) ?_; (with_reducible refine (laws_heldIntS.calls k1 _ _ ((rd_T32 l0 x5_1).f0) x1_1 t140 _ ?side1 ?side2 A5.out).mono ?_); (case side1 => repeat (first | exact HR139_0.out | (with_reducible refine Kd.C_alloc ?_ _) | (with_reducible refine Kd.C_drewN ?_ _) | (with_reducible refine Kd.C_drew ?_))); (case side2 => exact HC139_0.out); rintro e w' ⟨rfl, ⟨nd, rfl⟩⟩; refine ⟨_, rfl, ?_⟩; have p141 : 0 ≤ (x5_1 : Int) := od_; have q141 : x5_1 < (l0.length : Int) := od_; obtain ⟨ad141, A141_0, c141_0, e141, hx141_0, hx141_1, hx141_2, hx141_3, hx141_4, hx141_5, hl141_0, hi141_0⟩ := at_T32 HR0.out x5_1 p141 q141; obtain rfl : ad139 = ad141 := (by injection e141); have HR141_0 := am_ hi141_0; have HC141_0 := am_ hl141_0; clear hi141_0 hl141_0; replace p141 := eq_true p141; replace q141 := eq_true q141; have ea_ := Option.some.inj (hx139_0.symm.trans hx141_0); injection ea_ with ea_ en_ ec_; subst ea_; subst ec_; clear en_; have p142 : 0 ≤ (x5_1 : Int) := od_; have q142 : x5_1 < (l0.length : Int) := od_; obtain ⟨ad142, A142_0, c142_0, e142, hx142_0, hx142_1, hx142_2, hx142_3, hx142_4, hx142_5, hl142_0, hi142_0⟩ := at_T32 HR0.out x5_1 p142 q142; obtain rfl : ad139 = ad142 := (by injection e142); have HR142_0 := am_ hi142_0; have HC142_0 := am_ hl142_0; clear hi142_0 hl142_0; replace p142 := eq_true p142; replace q142 := eq_true q142; have ea_ := Option.some.inj (hx139_0.symm.trans hx142_0); injection ea_ with ea_ en_ ec_; subst ea_; subst ec_; clear en_; have p143 : 0 ≤ (x5_1 : Int) := od_; have q143 : x5_1 < (l0.length : Int) := od_; obtain ⟨ad143, A143_0, c143_0, e143, hx143_0, hx143_1, hx143_2, hx143_3, hx143_4, hx143_5, hl143_0, hi143_0⟩ := at_T32 HR0.out x5_1 p143 q143; obtain rfl : ad139 = ad143 := (by injection e143); have HR143_0 := am_ hi143_0; have HC143_0 := am_ hl143_0; clear hi143_0 hl143_0; replace p143 := eq_true p143; replace q143 := eq_true q143; have ea_ := Option.some.inj (hx139_0.symm.trans hx143_0); injection ea_ with ea_ en_ ec_; subst ea_; subst ec_; clear en_))
        go_ret
        exact ⟨by first | rfl | (simp; done) | (simp [*]; done), by repeat (first | exact Drawn0.refl _ | apply Drawn0.step)⟩
     ·rw [if_neg c7] at H
      have c7b0 : (((rd_T32 l0 x5_1).f1) == t140) = false := beq_eq_false_iff_ne.mpr c7
      have c7b1 : (((rd_T32 l0 x5_1).f1) != t140) = true := bne_iff_ne.mpr c7
      obtain rfl := Option.some.inj H
      have p139 : 0 ≤ (x5_1 : Int) := od_
      have q139 : x5_1 < (l0.length : Int) := od_
      obtain ⟨ad139, A139_0, c139_0, e139, hx139_0, hx139_1, hx139_2, hx139_3, hx139_4, hx139_5, hl139_0, hi139_0⟩ := at_T32 HR0.out x5_1 p139 q139
      cases e139
      have HR139_0 := am_ hi139_0
      have HC139_0 := am_ hl139_0
      clear hi139_0 hl139_0
      replace p139 := eq_true p139
      replace q139 := eq_true q139
      go_wp2_with (first | ((with_reducible refine gate_callee (f := 32) rfl ?_); refine goesL_ (some 18) rfl rfl Try.func32 (by kernel_rfl) rfl #[.slice A139_0 ((rd_T32 l0 x5_1).f0).length c139_0, .int .i64 x1_1] rfl (by (try simp only [List.map_toArray, List.map_cons, List.map_nil]); first | done | rfl | (simp only [List.length_drop, List.length_take]; rfl)) ?_; (with_reducible refine (laws_heldIntS.calls k1 _ _ ((rd_T32 l0 x5_1).f0) x1_1 t140 _ ?side1 ?side2 A5.out).mono ?_); (case side1 => repeat (first | exact HR139_0.out | (with_reducible refine Kd.C_alloc ?_ _) | (with_reducible refine Kd.C_drewN ?_ _) | (with_reducible refine Kd.C_drew ?_))); (case side2 => exact HC139_0.out); rintro e w' ⟨rfl, ⟨nd, rfl⟩⟩; refine ⟨_, rfl, ?_⟩; have p141 : 0 ≤ (x5_1 : Int) := od_; have q141 : x5_1 < (l0.length : Int) := od_; obtain ⟨ad141, A141_0, c141_0, e141, hx141_0, hx141_1, hx141_2, hx141_3, hx141_4, hx141_5, hl141_0, hi141_0⟩ := at_T32 HR0.out x5_1 p141 q141; obtain rfl : ad139 = ad141 := (by injection e141); have HR141_0 := am_ hi141_0; have HC141_0 := am_ hl141_0; clear hi141_0 hl141_0; replace p141 := eq_true p141; replace q141 := eq_true q141; have ea_ := Option.some.inj (hx139_0.symm.trans hx141_0); injection ea_ with ea_ en_ ec_; subst ea_; subst ec_; clear en_))
      go_ret
      exact ⟨by first | rfl | (simp; done) | (simp [*]; done), by repeat (first | exact Drawn0.refl _ | apply Drawn0.step)⟩
   ·rw [if_neg c3] at H
    have c3b0 : decide (x5_1 < (l0.length : Int)) = false := decide_eq_false c3
    clear c3
    obtain rfl := Option.some.inj H
    go_wp2
    go_ret
    exact ⟨by first | rfl | (simp; done) | (simp [*]; done), by repeat (first | exact Drawn0.refl _ | apply Drawn0.step)⟩

/-! ### spec_l1In: function 33 -/
def spec_l1In.f (a0 : Int) (a1 : Int) (a2 : Int) : Option (Bool) := if a0 ≥ a1 then (some (decide (a0 ≤ a2))) else (some false)
set_option maxHeartbeats 8000000 in
set_option maxRecDepth 100000 in
theorem spec_l1In.calls (a0 : Int) (a1 : Int) (a2 : Int) (r : Bool) (w : World) (h : spec_l1In.f a0 a1 a2 = some r) :
  Calls Try.prog 33 #[.int .i64 a0, .int .i64 a1, .int .i64 a2] w fun e w' => e = .returned (.bool r) ∧ Drawn0 w w' := by
 have H : (if a0 ≥ a1 then (some (decide (a0 ≤ a2))) else (some false)) = some r := h
 clear h
 by_cases c4 : a0 ≥ a1
 ·rw [if_pos c4] at H
  have c4b0 : decide (a1 ≤ a0) = true := decide_eq_true c4
  clear c4
  obtain rfl := Option.some.inj H
  go_enter Try.func33, Try.ntmps33
  go_wp2
  go_ret
  exact ⟨by first | rfl | (simp; done) | (simp [*]; done), by repeat (first | exact Drawn0.refl _ | apply Drawn0.step)⟩
 ·rw [if_neg c4] at H
  have c4b0 : decide (a1 ≤ a0) = false := decide_eq_false c4
  clear c4
  obtain rfl := Option.some.inj H
  go_enter Try.func33, Try.ntmps33
  go_wp2
  go_ret
  exact ⟨by first | rfl | (simp; done) | (simp [*]; done), by repeat (first | exact Drawn0.refl _ | apply Drawn0.step)⟩

/-! ### spec_GoodVoice: function 23 -/
mutual
def spec_GoodVoice.j0 : Nat → Bool → List Int → Int → Bool → Int → Int → Int → Option (Bool)
 | 0, _, _, _, _, _, _, _ => none
 | k + 1, x42, x147000, x147001, x147002, x147003, x147004, x147005 => if x42 = true then (some false) else (spec_GoodVoice.l0 k x147000 (x147000.length : Int) 0)
def spec_GoodVoice.l0 : Nat → List Int → Int → Int → Option (Bool)
 | 0, _, _, _ => none
 | k + 1, x44, x45, x46 => if x46 < x45 then (if 0 ≤ x46 then (if x46 < (x44.length : Int) then ((spec_l1In.f (rd x44 x46) (-32767) 32767).bind fun t152 => (if t152 = true then (spec_GoodVoice.l0 k x44 x45 (wrap64 (x46 + 1))) else (some false))) else (none)) else (none)) else (some true)
end
def spec_GoodVoice.f (k : Nat) (l0_0 : List Int) (a0_1 : Int) (a0_2 : Bool) (a0_3 : Int) (a0_4 : Int) (a0_5 : Int) : Option (Bool) := if (l0_0.length : Int) < 1 then (spec_GoodVoice.j0 k true l0_0 a0_1 a0_2 a0_3 a0_4 a0_5) else (if (l0_0.length : Int) > 200 then (spec_GoodVoice.j0 k true l0_0 a0_1 a0_2 a0_3 a0_4 a0_5) else ((spec_l1In.f a0_1 0 (wrap64 ((l0_0.length : Int) - 1))).bind fun t147 => (if t147 = true then ((spec_l1In.f a0_3 0 65536).bind fun t148 => (if t148 = true then ((spec_l1In.f a0_4 0 65536).bind fun t149 => (if t149 = true then ((spec_l1In.f a0_5 0 100).bind fun t150 => (spec_GoodVoice.j0 k (!t150) l0_0 a0_1 a0_2 a0_3 a0_4 a0_5)) else (spec_GoodVoice.j0 k true l0_0 a0_1 a0_2 a0_3 a0_4 a0_5))) else (spec_GoodVoice.j0 k true l0_0 a0_1 a0_2 a0_3 a0_4 a0_5))) else (spec_GoodVoice.j0 k true l0_0 a0_1 a0_2 a0_3 a0_4 a0_5))))
theorem spec_GoodVoice.mono_l : ∀ k, (∀ y0 y1 y2 y3 y4 y5 y6, LeO (spec_GoodVoice.j0 k y0 y1 y2 y3 y4 y5 y6) (spec_GoodVoice.j0 (k + 1) y0 y1 y2 y3 y4 y5 y6)) ∧ (∀ y0 y1 y2, LeO (spec_GoodVoice.l0 k y0 y1 y2) (spec_GoodVoice.l0 (k + 1) y0 y1 y2))
 | 0 => ⟨fun _ _ _ _ _ _ _ r h => by simp [spec_GoodVoice.j0] at h, fun _ _ _ r h => by simp [spec_GoodVoice.l0] at h⟩
 | k + 1 => by
  obtain ⟨ih0, ih1⟩ := spec_GoodVoice.mono_l k
  refine ⟨?_, ?_⟩
  ·intro y0 y1 y2 y3 y4 y5 y6
   unfold spec_GoodVoice.j0
   repeat' first
   | (with_reducible exact ih0 _ _ _ _ _ _ _)
   | (with_reducible exact ih1 _ _ _)
   | (with_reducible exact LeO.refl _)
   | (with_reducible exact LeO.none _)
   | (with_reducible refine LeO.ite ?_ ?_)
   | (with_reducible refine LeO.bind ?_ (fun _ => ?_))
   | exact ih0 _ _ _ _ _ _ _
   | exact ih1 _ _ _
   | exact LeO.none _
   | refine LeO.ite ?_ ?_
   | refine LeO.bind ?_ (fun _ => ?_)
  ·intro y0 y1 y2
   unfold spec_GoodVoice.l0
   repeat' first
   | (with_reducible exact ih0 _ _ _ _ _ _ _)
   | (with_reducible exact ih1 _ _ _)
   | (with_reducible exact LeO.refl _)
   | (with_reducible exact LeO.none _)
   | (with_reducible refine LeO.ite ?_ ?_)
   | (with_reducible refine LeO.bind ?_ (fun _ => ?_))
   | exact ih0 _ _ _ _ _ _ _
   | exact ih1 _ _ _
   | exact LeO.none _
   | refine LeO.ite ?_ ?_
   | refine LeO.bind ?_ (fun _ => ?_)
theorem spec_GoodVoice.mono : ∀ a0 a1 a2 a3 a4 a5 k, LeO (spec_GoodVoice.f k a0 a1 a2 a3 a4 a5) (spec_GoodVoice.f (k + 1) a0 a1 a2 a3 a4 a5) := by
 intro a0 a1 a2 a3 a4 a5 k
 obtain ⟨ih0, ih1⟩ := spec_GoodVoice.mono_l k
 unfold spec_GoodVoice.f
 repeat' first
   | (with_reducible exact ih0 _ _ _ _ _ _ _)
   | (with_reducible exact ih1 _ _ _)
   | (with_reducible exact LeO.refl _)
   | (with_reducible exact LeO.none _)
   | (with_reducible refine LeO.ite ?_ ?_)
   | (with_reducible refine LeO.bind ?_ (fun _ => ?_))
   | exact ih0 _ _ _ _ _ _ _
   | exact ih1 _ _ _
   | exact LeO.none _
   | refine LeO.ite ?_ ?_
   | refine LeO.bind ?_ (fun _ => ?_)
set_option maxHeartbeats 8000000 in
set_option maxRecDepth 100000 in
theorem spec_GoodVoice.calls (k : Nat) (A0_0 : Option Addr) (c0_0 : Nat) (l0_0 : List Int) (a0_1 : Int) (a0_2 : Bool) (a0_3 : Int) (a0_4 : Int) (a0_5 : Int) (r : Bool) (w : World) (hr0_0 : Kd.C (Kd.int .i64) w A0_0 l0_0.length l0_0) (hc0_0 : l0_0.length ≤ c0_0) (h : spec_GoodVoice.f k l0_0 a0_1 a0_2 a0_3 a0_4 a0_5 = some r) :
  Calls Try.prog 23 #[.agg #[.slice A0_0 l0_0.length c0_0, .int .i64 a0_1, .bool a0_2, .int .i64 a0_3, .int .i64 a0_4, .int .i64 a0_5]] w fun e w' => e = .returned (.bool r) ∧ Below w.heap.size w w' := by
 have hu32 := Try.underlying32
 have HR0_0 := am_ hr0_0
 have HC0_0 := am_ hc0_0
 clear hr0_0 hc0_0
 have HB := am_ (Below.refl w.heap.size w)
 have H : (if (l0_0.length : Int) < 1 then (spec_GoodVoice.j0 k true l0_0 a0_1 a0_2 a0_3 a0_4 a0_5) else (if (l0_0.length : Int) > 200 then (spec_GoodVoice.j0 k true l0_0 a0_1 a0_2 a0_3 a0_4 a0_5) else ((spec_l1In.f a0_1 0 (wrap64 ((l0_0.length : Int) - 1))).bind fun t147 => (if t147 = true then ((spec_l1In.f a0_3 0 65536).bind fun t148 => (if t148 = true then ((spec_l1In.f a0_4 0 65536).bind fun t149 => (if t149 = true then ((spec_l1In.f a0_5 0 100).bind fun t150 => (spec_GoodVoice.j0 k (!t150) l0_0 a0_1 a0_2 a0_3 a0_4 a0_5)) else (spec_GoodVoice.j0 k true l0_0 a0_1 a0_2 a0_3 a0_4 a0_5))) else (spec_GoodVoice.j0 k true l0_0 a0_1 a0_2 a0_3 a0_4 a0_5))) else (spec_GoodVoice.j0 k true l0_0 a0_1 a0_2 a0_3 a0_4 a0_5))))) = some r := h
 clear h
 have HC2 := am_ H
 clear H
 go_enter Try.func23, Try.ntmps23
 go_upto_region 1 with (first | ((with_reducible refine gate_dst (N := 1) rfl ?_); (try (refine gate_guard (by rfl) ?_; dsimp only)); refine bx_ 1 #[.slice A0_0 l0_0.length c0_0, .int .i64 a0_1, .bool a0_2, .int .i64 a0_3, .int .i64 a0_4, .int .i64 a0_5] 32 ?_; intro gb146 hg w3 hbox hb; have n0_ := am_ (below_step (bw_ HB.out) hb); have n1_ := am_ (hbox); have n2_ := am_ (gs_ hg (bw_ HB.out)); have n3_ := am_ (gs_ hg (bw_ HB.out)); replace HB := n0_; have BK146 := n1_; have GW146 := n2_; have GE146 := n3_; clear n0_ n1_ n2_ n3_; clear hb hbox hg))
 (try simp only [Act.put, List.setIfInBounds_toArray, List.set_cons_zero, List.set_cons_succ])
 go_cut [42] (fun v42 wc => ∃ (kq : Nat) (x42_1 : Bool), v42 = .bool x42_1 ∧ Aside0 (spec_GoodVoice.j0 kq x42_1 l0_0 a0_1 a0_2 a0_3 a0_4 a0_5 = some r) ∧ Aside0 (kq ≤ k) ∧ Aside0 (wc.heap[gb146]? = some (.cells #[(.slice A0_0 l0_0.length c0_0), .int .i64 a0_1, .bool a0_2, .int .i64 a0_3, .int .i64 a0_4, .int .i64 a0_5] 32 (0, 0))) ∧ Aside0 (Below w.heap.size w wc))
 case first =>
  have H := HC2.out
  clear HC2
  by_cases c4 : (l0_0.length : Int) < 1
  ·rw [if_pos c4] at H
   have c4b0 : decide ((l0_0.length : Int) < 1) = true := decide_eq_true c4
   have c4b1 : decide (l0_0.length < 1) = true := decide_eq_true (by omega)
   clear c4
   (first | rw [c4b0] | (simp only [i64_w, i32_w]; rw [c4b0]) | skip)
   have H' := am_ H
   clear H
   have hcz5_0 := cz_ BK146.out 0
   have hcz5_1 := cz_ BK146.out 1
   have hcz5_2 := cz_ BK146.out 2
   have hcz5_3 := cz_ BK146.out 3
   have hcz5_4 := cz_ BK146.out 4
   have hcz5_5 := cz_ BK146.out 5
   have hfz5_0 := blk_frozen BK146.out 0
   have hfz5_1 := blk_frozen BK146.out 1
   have hfz5_2 := blk_frozen BK146.out 2
   have hfz5_3 := blk_frozen BK146.out 3
   have hfz5_4 := blk_frozen BK146.out 4
   have hfz5_5 := blk_frozen BK146.out 5
   go_wp2
   go_meet
   case rel => exact ⟨_, (true), sq_, H', ⟨by first | omega | exact Nat.le_refl _⟩, ⟨bk_ BK146.out⟩, ⟨bw_ HB.out⟩⟩
  ·rw [if_neg c4] at H
   have c4b0 : decide ((l0_0.length : Int) < 1) = false := decide_eq_false c4
   have c4b1 : decide (l0_0.length < 1) = false := decide_eq_false (by omega)
   clear c4
   (first | rw [c4b0] | (simp only [i64_w, i32_w]; rw [c4b0]) | skip)
   by_cases c6 : (l0_0.length : Int) > 200
   ·rw [if_pos c6] at H
    have c6b0 : decide (200 < (l0_0.length : Int)) = true := decide_eq_true c6
    have c6b1 : decide (200 < l0_0.length) = true := decide_eq_true (by omega)
    clear c6
    have H' := am_ H
    clear H
    have hcz7_0 := cz_ BK146.out 0
    have hcz7_1 := cz_ BK146.out 1
    have hcz7_2 := cz_ BK146.out 2
    have hcz7_3 := cz_ BK146.out 3
    have hcz7_4 := cz_ BK146.out 4
    have hcz7_5 := cz_ BK146.out 5
    have hfz7_0 := blk_frozen BK146.out 0
    have hfz7_1 := blk_frozen BK146.out 1
    have hfz7_2 := blk_frozen BK146.out 2
    have hfz7_3 := blk_frozen BK146.out 3
    have hfz7_4 := blk_frozen BK146.out 4
    have hfz7_5 := blk_frozen BK146.out 5
    go_wp2
    go_meet
    case rel => exact ⟨_, (true), sq_, H', ⟨by first | omega | exact Nat.le_refl _⟩, ⟨bk_ BK146.out⟩, ⟨bw_ HB.out⟩⟩
   ·rw [if_neg c6] at H
    have c6b0 : decide (200 < (l0_0.length : Int)) = false := decide_eq_false c6
    have c6b1 : decide (200 < l0_0.length) = false := decide_eq_false (by omega)
    clear c6
    obtain ⟨t147, A80, H⟩ := bE_ H
    have A8 := am_ A80
    clear A80
    by_cases c9 : t147 = true
    ·subst c9
     replace H := it_ H rfl
     obtain ⟨t148, A100, H⟩ := bE_ H
     have A10 := am_ A100
     clear A100
     by_cases c11 : t148 = true
     ·subst c11
      replace H := it_ H rfl
      obtain ⟨t149, A120, H⟩ := bE_ H
      have A12 := am_ A120
      clear A120
      by_cases c13 : t149 = true
      ·subst c13
       replace H := it_ H rfl
       obtain ⟨t150, A140, H⟩ := bE_ H
       have A14 := am_ A140
       clear A140
       have H' := am_ H
       clear H
       have hcz15_0 := cz_ BK146.out 0
       have hcz15_1 := cz_ BK146.out 1
       have hcz15_2 := cz_ BK146.out 2
       have hcz15_3 := cz_ BK146.out 3
       have hcz15_4 := cz_ BK146.out 4
       have hcz15_5 := cz_ BK146.out 5
       have hfz15_0 := blk_frozen BK146.out 0
       have hfz15_1 := blk_frozen BK146.out 1
       have hfz15_2 := blk_frozen BK146.out 2
       have hfz15_3 := blk_frozen BK146.out 3
       have hfz15_4 := blk_frozen BK146.out 4
       have hfz15_5 := blk_frozen BK146.out 5
       go_wp2_with (first | (go_at_call 33; (try simp only [i64_w]); (with_reducible refine (spec_l1In.calls a0_1 0 (wrap64 ((l0_0.length : Int) - 1)) true _ A8.out).mono ?_); rintro e w' ⟨rfl, ⟨nd, rfl⟩⟩) | (go_at_call 33; (with_reducible refine (spec_l1In.calls a0_3 0 65536 true _ A10.out).mono ?_); rintro e w' ⟨rfl, ⟨nd, rfl⟩⟩) | (go_at_call 33; (with_reducible refine (spec_l1In.calls a0_4 0 65536 true _ A12.out).mono ?_); rintro e w' ⟨rfl, ⟨nd, rfl⟩⟩) | (go_at_call 33; (with_reducible refine (spec_l1In.calls a0_5 0 100 t150 _ A14.out).mono ?_); rintro e w' ⟨rfl, ⟨nd, rfl⟩⟩))
       go_meet
       case rel => exact ⟨_, (!t150), sq_, H', ⟨by first | omega | exact Nat.le_refl _⟩, ⟨bk_ BK146.out⟩, ⟨bw_ HB.out⟩⟩
      ·replace c13 := Bool.eq_false_iff.mpr c13
       subst c13
       replace H := if_ H Bool.false_ne_true
       have H' := am_ H
       clear H
       have hcz16_0 := cz_ BK146.out 0
       have hcz16_1 := cz_ BK146.out 1
       have hcz16_2 := cz_ BK146.out 2
       have hcz16_3 := cz_ BK146.out 3
       have hcz16_4 := cz_ BK146.out 4
       have hcz16_5 := cz_ BK146.out 5
       have hfz16_0 := blk_frozen BK146.out 0
       have hfz16_1 := blk_frozen BK146.out 1
       have hfz16_2 := blk_frozen BK146.out 2
       have hfz16_3 := blk_frozen BK146.out 3
       have hfz16_4 := blk_frozen BK146.out 4
       have hfz16_5 := blk_frozen BK146.out 5
       go_wp2_with (first | (go_at_call 33; (try simp only [i64_w]); (with_reducible refine (spec_l1In.calls a0_1 0 (wrap64 ((l0_0.length : Int) - 1)) true _ A8.out).mono ?_); rintro e w' ⟨rfl, ⟨nd, rfl⟩⟩) | (go_at_call 33; (with_reducible refine (spec_l1In.calls a0_3 0 65536 true _ A10.out).mono ?_); rintro e w' ⟨rfl, ⟨nd, rfl⟩⟩) | (go_at_call 33; (with_reducible refine (spec_l1In.calls a0_4 0 65536 false _ A12.out).mono ?_); rintro e w' ⟨rfl, ⟨nd, rfl⟩⟩))
       go_meet
       case rel => exact ⟨_, (true), sq_, H', ⟨by first | omega | exact Nat.le_refl _⟩, ⟨bk_ BK146.out⟩, ⟨bw_ HB.out⟩⟩
     ·replace c11 := Bool.eq_false_iff.mpr c11
      subst c11
      replace H := if_ H Bool.false_ne_true
      have H' := am_ H
      clear H
      have hcz17_0 := cz_ BK146.out 0
      have hcz17_1 := cz_ BK146.out 1
      have hcz17_2 := cz_ BK146.out 2
      have hcz17_3 := cz_ BK146.out 3
      have hcz17_4 := cz_ BK146.out 4
      have hcz17_5 := cz_ BK146.out 5
      have hfz17_0 := blk_frozen BK146.out 0
      have hfz17_1 := blk_frozen BK146.out 1
      have hfz17_2 := blk_frozen BK146.out 2
      have hfz17_3 := blk_frozen BK146.out 3
      have hfz17_4 := blk_frozen BK146.out 4
      have hfz17_5 := blk_frozen BK146.out 5
      go_wp2_with (first | (go_at_call 33; (try simp only [i64_w]); (with_reducible refine (spec_l1In.calls a0_1 0 (wrap64 ((l0_0.length : Int) - 1)) true _ A8.out).mono ?_); rintro e w' ⟨rfl, ⟨nd, rfl⟩⟩) | (go_at_call 33; (with_reducible refine (spec_l1In.calls a0_3 0 65536 false _ A10.out).mono ?_); rintro e w' ⟨rfl, ⟨nd, rfl⟩⟩))
      go_meet
      case rel => exact ⟨_, (true), sq_, H', ⟨by first | omega | exact Nat.le_refl _⟩, ⟨bk_ BK146.out⟩, ⟨bw_ HB.out⟩⟩
    ·replace c9 := Bool.eq_false_iff.mpr c9
     subst c9
     replace H := if_ H Bool.false_ne_true
     have H' := am_ H
     clear H
     have hcz18_0 := cz_ BK146.out 0
     have hcz18_1 := cz_ BK146.out 1
     have hcz18_2 := cz_ BK146.out 2
     have hcz18_3 := cz_ BK146.out 3
     have hcz18_4 := cz_ BK146.out 4
     have hcz18_5 := cz_ BK146.out 5
     have hfz18_0 := blk_frozen BK146.out 0
     have hfz18_1 := blk_frozen BK146.out 1
     have hfz18_2 := blk_frozen BK146.out 2
     have hfz18_3 := blk_frozen BK146.out 3
     have hfz18_4 := blk_frozen BK146.out 4
     have hfz18_5 := blk_frozen BK146.out 5
     go_wp2_with (first | (go_at_call 33; (try simp only [i64_w]); (with_reducible refine (spec_l1In.calls a0_1 0 (wrap64 ((l0_0.length : Int) - 1)) false _ A8.out).mono ?_); rintro e w' ⟨rfl, ⟨nd, rfl⟩⟩))
     go_meet
     case rel => exact ⟨_, (true), sq_, H', ⟨by first | omega | exact Nat.le_refl _⟩, ⟨bk_ BK146.out⟩, ⟨bw_ HB.out⟩⟩
 case rest =>
  clear HC2
  obtain ⟨kq, x42_1, rfl, HA, HJ1, BK146, HB⟩ := hcut
  cases kq with
  | zero => exact absurd HA.out (by simp [spec_GoodVoice.j0])
  | succ kj1 =>
   have H := HA.out
   clear HA
   simp only [spec_GoodVoice.j0] at H
   by_cases c19 : x42_1 = true
   ·subst c19
    replace H := it_ H rfl
    obtain rfl := Option.some.inj H
    go_wp2
    go_ret
    exact ⟨by first | rfl | (simp [errW_none, errW_some] <;> rfl) | (simp [*, errW_none, errW_some] <;> rfl), bw_ HB.out⟩
   ·replace c19 := Bool.eq_false_iff.mpr c19
    subst c19
    replace H := if_ H Bool.false_ne_true
    have H' := am_ H
    clear H
    have hcz20_0 := cz_ BK146.out 0
    have hcz20_1 := cz_ BK146.out 1
    have hcz20_2 := cz_ BK146.out 2
    have hcz20_3 := cz_ BK146.out 3
    have hcz20_4 := cz_ BK146.out 4
    have hcz20_5 := cz_ BK146.out 5
    have hfz20_0 := blk_frozen BK146.out 0
    have hfz20_1 := blk_frozen BK146.out 1
    have hfz20_2 := blk_frozen BK146.out 2
    have hfz20_3 := blk_frozen BK146.out 3
    have hfz20_4 := blk_frozen BK146.out 4
    have hfz20_5 := blk_frozen BK146.out 5
    go_wp2
    go_loopg [46] kj1 (fun kq v46 w' => ∃ (x46_2 : Int), v46 = .int .i64 x46_2 ∧ Aside0 (spec_GoodVoice.l0 kq l0_0 (l0_0.length : Int) x46_2 = some r) ∧ Aside0 (kq ≤ kj1) ∧ Aside0 (w'.heap[gb146]? = some (.cells #[(.slice A0_0 l0_0.length c0_0), .int .i64 a0_1, .bool a0_2, .int .i64 a0_3, .int .i64 a0_4, .int .i64 a0_5] 32 (0, 0))) ∧ Aside0 (Below w.heap.size w w'))
    case atStart => exact ⟨(0), sq_, H', ⟨Nat.le_refl _⟩, ⟨bk_ BK146.out⟩, ⟨bw_ HB.out⟩⟩
    case round =>
     clear H'
     try clear c19
     try clear hcz20_0
     try clear hcz20_1
     try clear hcz20_2
     try clear hcz20_3
     try clear hcz20_4
     try clear hcz20_5
     try clear hfz20_0
     try clear hfz20_1
     try clear hfz20_2
     try clear hfz20_3
     try clear hfz20_4
     try clear hfz20_5
     obtain ⟨x46_2, rfl, HA, HK2, BK146, HB⟩ := hrel
     cases gk with
     | zero => exact absurd HA.out (by simp [spec_GoodVoice.l0])
     | succ k2 =>
      have H := HA.out
      clear HA
      simp only [spec_GoodVoice.l0] at H
      by_cases c21 : x46_2 < (l0_0.length : Int)
      ·rw [if_pos c21] at H
       have c21b0 : decide (x46_2 < (l0_0.length : Int)) = true := decide_eq_true c21
       clear c21
       obtain ⟨c22, H⟩ := ifn_ H
       have c22b0 : decide (0 ≤ x46_2) = true := decide_eq_true c22
       clear c22
       obtain ⟨c23, H⟩ := ifn_ H
       have c23b0 : decide (x46_2 < (l0_0.length : Int)) = true := decide_eq_true c23
       clear c23
       obtain ⟨t152, A240, H⟩ := bE_ H
       have A24 := am_ A240
       clear A240
       by_cases c25 : t152 = true
       ·subst c25
        replace H := it_ H rfl
        have H' := am_ H
        clear H
        have p151 : 0 ≤ (x46_2 : Int) := od_
        have q151 : x46_2 < (l0_0.length : Int) := od_
        obtain ⟨ad151, e151, hx151_0⟩ := Kd.at_int HR0_0.out x46_2 p151 q151
        cases e151
        (try replace hx151_0 := hc_ HB.out hx151_0)
        replace p151 := eq_true p151
        replace q151 := eq_true q151
        go_wp2_with (first | ((with_reducible refine gate_callee (f := 33) rfl ?_); refine goesL_ (some 51) rfl rfl Try.func33 (by kernel_rfl) rfl #[.int .i64 (rd l0_0 x46_2), .int .i64 (-32767), .int .i64 32767] rfl (by (try simp only [List.map_toArray, List.map_cons, List.map_nil]); first | done | rfl | (simp only [List.length_drop, List.length_take]; rfl)) ?_; (with_reducible refine (spec_l1In.calls (rd l0_0 x46_2) (-32767) 32767 true _ A24.out).mono ?_); rintro e w' ⟨rfl, ⟨nd, rfl⟩⟩; refine ⟨_, rfl, ?_⟩))
        go_roundg k2
        case measure => have := HJ1.out; have := HK2.out; omega
        case rel => exact ⟨(wrap64 (x46_2 + 1)), sq_, H', ⟨by have := HJ1.out; have := HK2.out; omega⟩, ⟨bk_ BK146.out⟩, ⟨bw_ HB.out⟩⟩
       ·replace c25 := Bool.eq_false_iff.mpr c25
        subst c25
        replace H := if_ H Bool.false_ne_true
        obtain rfl := Option.some.inj H
        have p151 : 0 ≤ (x46_2 : Int) := od_
        have q151 : x46_2 < (l0_0.length : Int) := od_
        obtain ⟨ad151, e151, hx151_0⟩ := Kd.at_int HR0_0.out x46_2 p151 q151
        cases e151
        (try replace hx151_0 := hc_ HB.out hx151_0)
        replace p151 := eq_true p151
        replace q151 := eq_true q151
        go_wp2_with (first | ((with_reducible refine gate_callee (f := 33) rfl ?_); refine goesL_ (some 51) rfl rfl Try.func33 (by kernel_rfl) rfl #[.int .i64 (rd l0_0 x46_2), .int .i64 (-32767), .int .i64 32767] rfl (by (try simp only [List.map_toArray, List.map_cons, List.map_nil]); first | done | rfl | (simp only [List.length_drop, List.length_take]; rfl)) ?_; (with_reducible refine (spec_l1In.calls (rd l0_0 x46_2) (-32767) 32767 false _ A24.out).mono ?_); rintro e w' ⟨rfl, ⟨nd, rfl⟩⟩; refine ⟨_, rfl, ?_⟩))
        go_ret
        exact ⟨by first | rfl | (simp [errW_none, errW_some] <;> rfl) | (simp [*, errW_none, errW_some] <;> rfl), bw_ HB.out⟩
      ·rw [if_neg c21] at H
       have c21b0 : decide (x46_2 < (l0_0.length : Int)) = false := decide_eq_false c21
       clear c21
       obtain rfl := Option.some.inj H
       go_wp2
       go_ret
       exact ⟨by first | rfl | (simp [errW_none, errW_some] <;> rfl) | (simp [*, errW_none, errW_some] <;> rfl), bw_ HB.out⟩

end Go.Proofs.Ytbnbgmpkemlfbaa.XFnExactMixVoices
