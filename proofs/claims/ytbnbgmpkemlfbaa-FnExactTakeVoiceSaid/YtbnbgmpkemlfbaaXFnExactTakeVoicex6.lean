/- What the Go functions that this law comes to compute, each walked; written by a program of this session. -/
import Derived.Test.YtbnbgmpkemlfbaaXMark
import Derived.Test.YtbnbgmpkemlfbaaXFnExactTakeVoicex0
import Derived.Test.YtbnbgmpkemlfbaaXFnExactTakeVoicex5
namespace Go.Proofs.Ytbnbgmpkemlfbaa.XFnExactTakeVoice
open Go.RowKit Go.Proofs.YtbnbgmpkemlfbaaW.PrintWords Go.Proofs.YtbnbgmpkemlfbaaW.PrintLast Go.Proofs.YtbnbgmpkemlfbaaW.PrintMore
attribute [local go_sem] str_geq max2_int min2_int max_two min_two max_three min_three max_four min_four   -- for this text's walks alone
set_option linter.unusedVariables false
set_option linter.unusedSimpArgs false

/-! ### laws_markVoiceS: function 13 -/
def laws_markVoiceS.one (k : Nat) (e : S32) (x : Int) : Option (Int × (S32)) := (laws_markIntS.f k e.f0 x).bind fun t0 => some ((wrap64 ((wrap64 ((wrap64 ((wrap64 ((wrap64 (t0.1 + 1)) + 1)) + 1)) + 1)) + 1)), (⟨t0.2, t0.1, (Int.tmod (wrap64 (t0.1 + 1)) 3 == 0), (wrap64 ((wrap64 (t0.1 + 1)) + 1)), (wrap64 ((wrap64 ((wrap64 (t0.1 + 1)) + 1)) + 1)), (wrap64 ((wrap64 ((wrap64 ((wrap64 (t0.1 + 1)) + 1)) + 1)) + 1))⟩ : S32))
def laws_markVoiceS.f (k : Nat) (l0 : List (S32)) (a1 : Int) : Option (Int × List (S32)) := mapK (laws_markVoiceS.one k) l0 a1
theorem laws_markVoiceS.mono : ∀ a0 a1 k, LeO (laws_markVoiceS.f k a0 a1) (laws_markVoiceS.f (k + 1) a0 a1) := by
  intro a0 a1 k
  refine mapK_mono (fun e x => ?_) a0 a1
  unfold laws_markVoiceS.one
  repeat' first
  | (with_reducible exact laws_markIntS.mono _ _ _)
  | (with_reducible exact LeO.refl _)
  | refine LeO.bind ?_ (fun _ => ?_)
set_option maxHeartbeats 8000000 in
set_option maxRecDepth 100000 in
theorem laws_markVoiceS.callsP (k : Nat) (P0_ : Nat → Prop) (u9000_ : Value) (l0 : List (S32)) (a1 : Int) (r1 : Int) (r2 : List (S32)) (w0 w : World) (hB : Below w0.heap.size w0 w) (ho0 : Kd.S k32 32 w w0.heap.size P0_ u9000_ l0) (h : laws_markVoiceS.f k l0 a1 = some (r1, r2)) :
    Calls Try.prog 13 #[u9000_, .int .i64 a1] w fun e w' => e = .returned (.int .i64 r1) ∧ Kd.S k32 32 w' w0.heap.size P0_ u9000_ r2 ∧ Below w0.heap.size w0 w' ∧ Kept w w' P0_ := by
  have HO := Aside0.mk ho0
  have HK := Aside0.mk (Kept.refl w P0_)
  have HB := Aside0.mk hB
  have HI := Aside0.mk (MInv.start (one := laws_markVoiceS.one k) h)
  clear hB ho0 h
  go_enter Try.func13, Try.ntmps13
  go_wp2
  go_loopg [1, 5] l0.length (fun kq v1 v5 w' => ∃ (xs : List (S32)) (x x5 : Int) (i : Nat), v1 = .int .i64 x ∧ v5 = .int .i64 x5 ∧ Aside0 (x5 = (i : Int)) ∧ Aside0 (i + kq = l0.length) ∧ Aside0 (MInv (laws_markVoiceS.one k) l0 r1 r2 xs x i) ∧ Aside0 (Kd.S k32 32 w' w0.heap.size P0_ u9000_ xs) ∧ Aside0 (Kept w w' P0_) ∧ Aside0 (Below w0.heap.size w0 w'))
  case atStart => exact ⟨l0, a1, 0, 0, rfl, rfl, ⟨rfl⟩, ⟨by omega⟩, HI, HO, HK, HB⟩
  case round =>
    clear HI HO HK HB
    obtain ⟨xs, x, x5, i, rfl, rfl, HX, HQ, HI, HO, HK, HB⟩ := hrel
    have hx := HX.out
    have hlen := HI.out.len
    have hsmall : xs.length ≤ 9223372036854775807 := by obtain ⟨A_, c_, e_, h1_, h2_⟩ := Kd.S_reads HO.out; have h3_ := Kd.C_max h2_; omega
    by_cases hj : i < l0.length
    · obtain ⟨k2, rfl⟩ : ∃ k2, gk = k2 + 1 := ⟨gk - 1, by have := HQ.out; omega⟩
      obtain ⟨t, ht, hI2⟩ := HI.out.step ((z32 : S32)) hj hx
      have HI2 := Aside0.mk hI2
      clear hI2
      unfold laws_markVoiceS.one at ht
      obtain ⟨⟨q0, y0⟩, hA0, ht⟩ := bE_ ht
      have A0 := Aside0.mk hA0
      clear hA0
      obtain rfl := Option.some.inj ht
      clear ht
      have hwj : wrap64 (x5 + 1) = ((i + 1 : Nat) : Int) := by unfold wrap64; omega
      have hp5 : 0 ≤ x5 := by omega
      have hq5 : x5 < (xs.length : Int) := by omega
      obtain ⟨g, cap, ev, _, _, _⟩ := Kd.S_form HO.out (by omega)
      subst ev
      obtain ⟨oki, c, hL, hM⟩ := Hol.of HO.out HB.out HK.out (z32 : S32) hp5 hq5
      generalize xs.getD x5.toNat (z32 : S32) = el at hM A0
      obtain ⟨v0, rfl, hR0⟩ := k32_openM hM
      obtain ⟨A_0, c_0, e_0⟩ := Kd.R_slice hR0
      subst e_0
      have HL := Aside0.mk hL
      clear hL
      have HR0 := Aside0.mk hR0
      clear hR0
      have hx_0 : wr.cell? ⟨g, x5.toNat * 6, none⟩ = some (.slice A_0 (el.f0).length c_0) := HL.out.cell (j := 0) rfl
      have hx_1 : wr.cell? ⟨g, x5.toNat * 6 + 1, none⟩ = some (.int .i64 (el.f1)) := HL.out.cell (j := 1) rfl
      have hx_2 : wr.cell? ⟨g, x5.toNat * 6 + 2, none⟩ = some (.bool (el.f2)) := HL.out.cell (j := 2) rfl
      have hx_3 : wr.cell? ⟨g, x5.toNat * 6 + 3, none⟩ = some (.int .i64 (el.f3)) := HL.out.cell (j := 3) rfl
      have hx_4 : wr.cell? ⟨g, x5.toNat * 6 + 4, none⟩ = some (.int .i64 (el.f4)) := HL.out.cell (j := 4) rfl
      have hx_5 : wr.cell? ⟨g, x5.toNat * 6 + 5, none⟩ = some (.int .i64 (el.f5)) := HL.out.cell (j := 5) rfl
      have hf_0 : wr.frozen? ⟨g, x5.toNat * 6, none⟩ = false := HL.out.frozen 0
      have hf_1 : wr.frozen? ⟨g, x5.toNat * 6 + 1, none⟩ = false := HL.out.frozen 1
      have hf_2 : wr.frozen? ⟨g, x5.toNat * 6 + 2, none⟩ = false := HL.out.frozen 2
      have hf_3 : wr.frozen? ⟨g, x5.toNat * 6 + 3, none⟩ = false := HL.out.frozen 3
      have hf_4 : wr.frozen? ⟨g, x5.toNat * 6 + 4, none⟩ = false := HL.out.frozen 4
      have hf_5 : wr.frozen? ⟨g, x5.toNat * 6 + 5, none⟩ = false := HL.out.frozen 5
      have c0b : decide (x5 < (xs.length : Int)) = true := decide_eq_true hq5
      replace hp5 := eq_true hp5
      replace hq5 := eq_true hq5
      have HW := Aside0.mk hwj
      clear hx hwj hlen hsmall hj HO HK HB HI
      go_wp2_with (first | (go_at_call 31; (with_reducible refine (laws_markIntS.calls k oki _ (el.f0) x q0 y0 w0 _ ?b0 ?r0 A0.out).mono ?_); (case b0 => exact HL.out.hb); (case r0 => exact HR0.out); rintro e w101 ⟨rfl, hr, hb, hk⟩; have n_ := Aside0.mk (HL.out.row hb hk); have n0_ := Aside0.mk (Kd.R_reok rfl hr HR0.out.1); clear HL HR0; clear hx_0 hf_0 hx_1 hf_1 hx_2 hf_2 hx_3 hf_3 hx_4 hf_4 hx_5 hf_5; have HL := n_; have HR0 := n0_; clear n_ n0_; have hx_0 : w101.cell? ⟨g, x5.toNat * 6, none⟩ = some (.slice A_0 (el.f0).length c_0) := HL.out.cell (j := 0) rfl; have hx_1 : w101.cell? ⟨g, x5.toNat * 6 + 1, none⟩ = some (.int .i64 (el.f1)) := HL.out.cell (j := 1) rfl; have hx_2 : w101.cell? ⟨g, x5.toNat * 6 + 2, none⟩ = some (.bool (el.f2)) := HL.out.cell (j := 2) rfl; have hx_3 : w101.cell? ⟨g, x5.toNat * 6 + 3, none⟩ = some (.int .i64 (el.f3)) := HL.out.cell (j := 3) rfl; have hx_4 : w101.cell? ⟨g, x5.toNat * 6 + 4, none⟩ = some (.int .i64 (el.f4)) := HL.out.cell (j := 4) rfl; have hx_5 : w101.cell? ⟨g, x5.toNat * 6 + 5, none⟩ = some (.int .i64 (el.f5)) := HL.out.cell (j := 5) rfl; have hf_0 : w101.frozen? ⟨g, x5.toNat * 6, none⟩ = false := HL.out.frozen 0; have hf_1 : w101.frozen? ⟨g, x5.toNat * 6 + 1, none⟩ = false := HL.out.frozen 1; have hf_2 : w101.frozen? ⟨g, x5.toNat * 6 + 2, none⟩ = false := HL.out.frozen 2; have hf_3 : w101.frozen? ⟨g, x5.toNat * 6 + 3, none⟩ = false := HL.out.frozen 3; have hf_4 : w101.frozen? ⟨g, x5.toNat * 6 + 4, none⟩ = false := HL.out.frozen 4; have hf_5 : w101.frozen? ⟨g, x5.toNat * 6 + 5, none⟩ = false := HL.out.frozen 5; clear hr hb hk) | ((with_reducible refine gate_store (t := 3) (p := 23) rfl ?_); refine se_ 3 23 (w101.setCell ⟨g, x5.toNat * 6 + 1, none⟩ (.int .i64 q0)) ?_; intro w102 hw; have n_ := Aside0.mk (HL.out.put 1 (by decide) rfl hw); have n0_ := Aside0.mk (HL.out.far HR0.out hw); clear HL HR0; clear hx_0 hf_0 hx_1 hf_1 hx_2 hf_2 hx_3 hf_3 hx_4 hf_4 hx_5 hf_5; have HL := n_; have HR0 := n0_; clear n_ n0_; have hx_0 : w102.cell? ⟨g, x5.toNat * 6, none⟩ = some (.slice A_0 (el.f0).length c_0) := HL.out.cell (j := 0) rfl; have hx_1 : w102.cell? ⟨g, x5.toNat * 6 + 1, none⟩ = some (.int .i64 q0) := HL.out.cell (j := 1) rfl; have hx_2 : w102.cell? ⟨g, x5.toNat * 6 + 2, none⟩ = some (.bool (el.f2)) := HL.out.cell (j := 2) rfl; have hx_3 : w102.cell? ⟨g, x5.toNat * 6 + 3, none⟩ = some (.int .i64 (el.f3)) := HL.out.cell (j := 3) rfl; have hx_4 : w102.cell? ⟨g, x5.toNat * 6 + 4, none⟩ = some (.int .i64 (el.f4)) := HL.out.cell (j := 4) rfl; have hx_5 : w102.cell? ⟨g, x5.toNat * 6 + 5, none⟩ = some (.int .i64 (el.f5)) := HL.out.cell (j := 5) rfl; have hf_0 : w102.frozen? ⟨g, x5.toNat * 6, none⟩ = false := HL.out.frozen 0; have hf_1 : w102.frozen? ⟨g, x5.toNat * 6 + 1, none⟩ = false := HL.out.frozen 1; have hf_2 : w102.frozen? ⟨g, x5.toNat * 6 + 2, none⟩ = false := HL.out.frozen 2; have hf_3 : w102.frozen? ⟨g, x5.toNat * 6 + 3, none⟩ = false := HL.out.frozen 3; have hf_4 : w102.frozen? ⟨g, x5.toNat * 6 + 4, none⟩ = false := HL.out.frozen 4; have hf_5 : w102.frozen? ⟨g, x5.toNat * 6 + 5, none⟩ = false := HL.out.frozen 5; clear hw) | ((with_reducible refine gate_store (t := 4) (p := 32) rfl ?_); refine se_ 4 32 (w102.setCell ⟨g, x5.toNat * 6 + 2, none⟩ (.bool (Int.tmod (wrap64 (q0 + 1)) 3 == 0))) ?_; intro w103 hw; have n_ := Aside0.mk (HL.out.put 2 (by decide) rfl hw); have n0_ := Aside0.mk (HL.out.far HR0.out hw); clear HL HR0; clear hx_0 hf_0 hx_1 hf_1 hx_2 hf_2 hx_3 hf_3 hx_4 hf_4 hx_5 hf_5; have HL := n_; have HR0 := n0_; clear n_ n0_; have hx_0 : w103.cell? ⟨g, x5.toNat * 6, none⟩ = some (.slice A_0 (el.f0).length c_0) := HL.out.cell (j := 0) rfl; have hx_1 : w103.cell? ⟨g, x5.toNat * 6 + 1, none⟩ = some (.int .i64 q0) := HL.out.cell (j := 1) rfl; have hx_2 : w103.cell? ⟨g, x5.toNat * 6 + 2, none⟩ = some (.bool (Int.tmod (wrap64 (q0 + 1)) 3 == 0)) := HL.out.cell (j := 2) rfl; have hx_3 : w103.cell? ⟨g, x5.toNat * 6 + 3, none⟩ = some (.int .i64 (el.f3)) := HL.out.cell (j := 3) rfl; have hx_4 : w103.cell? ⟨g, x5.toNat * 6 + 4, none⟩ = some (.int .i64 (el.f4)) := HL.out.cell (j := 4) rfl; have hx_5 : w103.cell? ⟨g, x5.toNat * 6 + 5, none⟩ = some (.int .i64 (el.f5)) := HL.out.cell (j := 5) rfl; have hf_0 : w103.frozen? ⟨g, x5.toNat * 6, none⟩ = false := HL.out.frozen 0; have hf_1 : w103.frozen? ⟨g, x5.toNat * 6 + 1, none⟩ = false := HL.out.frozen 1; have hf_2 : w103.frozen? ⟨g, x5.toNat * 6 + 2, none⟩ = false := HL.out.frozen 2; have hf_3 : w103.frozen? ⟨g, x5.toNat * 6 + 3, none⟩ = false := HL.out.frozen 3; have hf_4 : w103.frozen? ⟨g, x5.toNat * 6 + 4, none⟩ = false := HL.out.frozen 4; have hf_5 : w103.frozen? ⟨g, x5.toNat * 6 + 5, none⟩ = false := HL.out.frozen 5; clear hw) | ((with_reducible refine gate_store (t := 3) (p := 39) rfl ?_); refine se_ 3 39 (w103.setCell ⟨g, x5.toNat * 6 + 3, none⟩ (.int .i64 (wrap64 ((wrap64 (q0 + 1)) + 1)))) ?_; intro w104 hw; have n_ := Aside0.mk (HL.out.put 3 (by decide) rfl hw); have n0_ := Aside0.mk (HL.out.far HR0.out hw); clear HL HR0; clear hx_0 hf_0 hx_1 hf_1 hx_2 hf_2 hx_3 hf_3 hx_4 hf_4 hx_5 hf_5; have HL := n_; have HR0 := n0_; clear n_ n0_; have hx_0 : w104.cell? ⟨g, x5.toNat * 6, none⟩ = some (.slice A_0 (el.f0).length c_0) := HL.out.cell (j := 0) rfl; have hx_1 : w104.cell? ⟨g, x5.toNat * 6 + 1, none⟩ = some (.int .i64 q0) := HL.out.cell (j := 1) rfl; have hx_2 : w104.cell? ⟨g, x5.toNat * 6 + 2, none⟩ = some (.bool (Int.tmod (wrap64 (q0 + 1)) 3 == 0)) := HL.out.cell (j := 2) rfl; have hx_3 : w104.cell? ⟨g, x5.toNat * 6 + 3, none⟩ = some (.int .i64 (wrap64 ((wrap64 (q0 + 1)) + 1))) := HL.out.cell (j := 3) rfl; have hx_4 : w104.cell? ⟨g, x5.toNat * 6 + 4, none⟩ = some (.int .i64 (el.f4)) := HL.out.cell (j := 4) rfl; have hx_5 : w104.cell? ⟨g, x5.toNat * 6 + 5, none⟩ = some (.int .i64 (el.f5)) := HL.out.cell (j := 5) rfl; have hf_0 : w104.frozen? ⟨g, x5.toNat * 6, none⟩ = false := HL.out.frozen 0; have hf_1 : w104.frozen? ⟨g, x5.toNat * 6 + 1, none⟩ = false := HL.out.frozen 1; have hf_2 : w104.frozen? ⟨g, x5.toNat * 6 + 2, none⟩ = false := HL.out.frozen 2; have hf_3 : w104.frozen? ⟨g, x5.toNat * 6 + 3, none⟩ = false := HL.out.frozen 3; have hf_4 : w104.frozen? ⟨g, x5.toNat * 6 + 4, none⟩ = false := HL.out.frozen 4; have hf_5 : w104.frozen? ⟨g, x5.toNat * 6 + 5, none⟩ = false := HL.out.frozen 5; clear hw) | ((with_reducible refine gate_store (t := 3) (p := 46) rfl ?_); refine se_ 3 46 (w104.setCell ⟨g, x5.toNat * 6 + 4, none⟩ (.int .i64 (wrap64 ((wrap64 ((wrap64 (q0 + 1)) + 1)) + 1)))) ?_; intro w105 hw; have n_ := Aside0.mk (HL.out.put 4 (by decide) rfl hw); have n0_ := Aside0.mk (HL.out.far HR0.out hw); clear HL HR0; clear hx_0 hf_0 hx_1 hf_1 hx_2 hf_2 hx_3 hf_3 hx_4 hf_4 hx_5 hf_5; have HL := n_; have HR0 := n0_; clear n_ n0_; have hx_0 : w105.cell? ⟨g, x5.toNat * 6, none⟩ = some (.slice A_0 (el.f0).length c_0) := HL.out.cell (j := 0) rfl; have hx_1 : w105.cell? ⟨g, x5.toNat * 6 + 1, none⟩ = some (.int .i64 q0) := HL.out.cell (j := 1) rfl; have hx_2 : w105.cell? ⟨g, x5.toNat * 6 + 2, none⟩ = some (.bool (Int.tmod (wrap64 (q0 + 1)) 3 == 0)) := HL.out.cell (j := 2) rfl; have hx_3 : w105.cell? ⟨g, x5.toNat * 6 + 3, none⟩ = some (.int .i64 (wrap64 ((wrap64 (q0 + 1)) + 1))) := HL.out.cell (j := 3) rfl; have hx_4 : w105.cell? ⟨g, x5.toNat * 6 + 4, none⟩ = some (.int .i64 (wrap64 ((wrap64 ((wrap64 (q0 + 1)) + 1)) + 1))) := HL.out.cell (j := 4) rfl; have hx_5 : w105.cell? ⟨g, x5.toNat * 6 + 5, none⟩ = some (.int .i64 (el.f5)) := HL.out.cell (j := 5) rfl; have hf_0 : w105.frozen? ⟨g, x5.toNat * 6, none⟩ = false := HL.out.frozen 0; have hf_1 : w105.frozen? ⟨g, x5.toNat * 6 + 1, none⟩ = false := HL.out.frozen 1; have hf_2 : w105.frozen? ⟨g, x5.toNat * 6 + 2, none⟩ = false := HL.out.frozen 2; have hf_3 : w105.frozen? ⟨g, x5.toNat * 6 + 3, none⟩ = false := HL.out.frozen 3; have hf_4 : w105.frozen? ⟨g, x5.toNat * 6 + 4, none⟩ = false := HL.out.frozen 4; have hf_5 : w105.frozen? ⟨g, x5.toNat * 6 + 5, none⟩ = false := HL.out.frozen 5; clear hw) | ((with_reducible refine gate_store (t := 3) (p := 53) rfl ?_); refine se_ 3 53 (w105.setCell ⟨g, x5.toNat * 6 + 5, none⟩ (.int .i64 (wrap64 ((wrap64 ((wrap64 ((wrap64 (q0 + 1)) + 1)) + 1)) + 1)))) ?_; intro w106 hw; have n_ := Aside0.mk (HL.out.put 5 (by decide) rfl hw); have n0_ := Aside0.mk (HL.out.far HR0.out hw); clear HL HR0; clear hx_0 hf_0 hx_1 hf_1 hx_2 hf_2 hx_3 hf_3 hx_4 hf_4 hx_5 hf_5; have HL := n_; have HR0 := n0_; clear n_ n0_; have hx_0 : w106.cell? ⟨g, x5.toNat * 6, none⟩ = some (.slice A_0 (el.f0).length c_0) := HL.out.cell (j := 0) rfl; have hx_1 : w106.cell? ⟨g, x5.toNat * 6 + 1, none⟩ = some (.int .i64 q0) := HL.out.cell (j := 1) rfl; have hx_2 : w106.cell? ⟨g, x5.toNat * 6 + 2, none⟩ = some (.bool (Int.tmod (wrap64 (q0 + 1)) 3 == 0)) := HL.out.cell (j := 2) rfl; have hx_3 : w106.cell? ⟨g, x5.toNat * 6 + 3, none⟩ = some (.int .i64 (wrap64 ((wrap64 (q0 + 1)) + 1))) := HL.out.cell (j := 3) rfl; have hx_4 : w106.cell? ⟨g, x5.toNat * 6 + 4, none⟩ = some (.int .i64 (wrap64 ((wrap64 ((wrap64 (q0 + 1)) + 1)) + 1))) := HL.out.cell (j := 4) rfl; have hx_5 : w106.cell? ⟨g, x5.toNat * 6 + 5, none⟩ = some (.int .i64 (wrap64 ((wrap64 ((wrap64 ((wrap64 (q0 + 1)) + 1)) + 1)) + 1))) := HL.out.cell (j := 5) rfl; have hf_0 : w106.frozen? ⟨g, x5.toNat * 6, none⟩ = false := HL.out.frozen 0; have hf_1 : w106.frozen? ⟨g, x5.toNat * 6 + 1, none⟩ = false := HL.out.frozen 1; have hf_2 : w106.frozen? ⟨g, x5.toNat * 6 + 2, none⟩ = false := HL.out.frozen 2; have hf_3 : w106.frozen? ⟨g, x5.toNat * 6 + 3, none⟩ = false := HL.out.frozen 3; have hf_4 : w106.frozen? ⟨g, x5.toNat * 6 + 4, none⟩ = false := HL.out.frozen 4; have hf_5 : w106.frozen? ⟨g, x5.toNat * 6 + 5, none⟩ = false := HL.out.frozen 5; clear hw))
      go_roundg k2
      case measure => omega
      case rel => exact ⟨xs.set x5.toNat (⟨y0, q0, (Int.tmod (wrap64 (q0 + 1)) 3 == 0), (wrap64 ((wrap64 (q0 + 1)) + 1)), (wrap64 ((wrap64 ((wrap64 (q0 + 1)) + 1)) + 1)), (wrap64 ((wrap64 ((wrap64 ((wrap64 (q0 + 1)) + 1)) + 1)) + 1))⟩ : S32), _, _, i + 1, rfl, rfl, ⟨HW.out⟩, ⟨by have := HQ.out; omega⟩, HI2, ⟨HL.out.back (k32_mkM _ _ _ (⟨y0, q0, (Int.tmod (wrap64 (q0 + 1)) 3 == 0), (wrap64 ((wrap64 (q0 + 1)) + 1)), (wrap64 ((wrap64 ((wrap64 (q0 + 1)) + 1)) + 1)), (wrap64 ((wrap64 ((wrap64 ((wrap64 (q0 + 1)) + 1)) + 1)) + 1))⟩ : S32) HR0.out)⟩, ⟨HL.out.hk⟩, ⟨HL.out.hb⟩⟩
    · have c0b : decide (x5 < (xs.length : Int)) = false := decide_eq_false (by omega)
      obtain ⟨rfl, rfl⟩ := HI.out.stop hj
      obtain ⟨Ao, co, eo⟩ := Kd.S_slice HO.out
      subst eo
      clear hx hlen hsmall hj
      go_wp2
      go_ret
      exact ⟨rfl, HO.out, HB.out, HK.out⟩
theorem laws_markVoiceS.calls (k : Nat) (P0_ : Nat → Prop) (u9000_ : Value) (l0 : List (S32)) (a1 : Int) (r1 : Int) (r2 : List (S32)) (w0 w : World) (hB : Below w0.heap.size w0 w) (ho0 : Kd.S k32 32 w w0.heap.size P0_ u9000_ l0) (h : laws_markVoiceS.f k l0 a1 = some (r1, r2)) :
    Calls Try.prog 13 #[u9000_, .int .i64 a1] w fun e w' => e = .returned (.int .i64 r1) ∧ Kd.S k32 32 w' w0.heap.size (fun k_ => (P0_ k_ ∨ w.heap.size ≤ k_)) u9000_ r2 ∧ Below w0.heap.size w0 w' ∧ Kept w w' (fun k_ => P0_ k_) :=
  (laws_markVoiceS.callsP k P0_ u9000_ l0 a1 r1 r2 w0 w hB ho0 h).mono fun _ _ h_ => ⟨h_.1, Kd.S_mono h_.2.1 (fun _ hk => .inl hk), h_.2.2.1, h_.2.2.2⟩

/-! ### laws_markVoice: function 14 -/
def laws_markVoice.f (k : Nat) (l0_0 : List Int) (a0_1 : Int) (a0_2 : Bool) (a0_3 : Int) (a0_4 : Int) (a0_5 : Int) (a1 : Int) : Option (Int × List Int) := (laws_markIntS.f k l0_0 a1).bind fun bt247 => (some (bt247.1, bt247.2))
theorem laws_markVoice.mono : ∀ a0 a1 a2 a3 a4 a5 a6 k, LeO (laws_markVoice.f k a0 a1 a2 a3 a4 a5 a6) (laws_markVoice.f (k + 1) a0 a1 a2 a3 a4 a5 a6) := by
 intro a0 a1 a2 a3 a4 a5 a6 k
 unfold laws_markVoice.f
 repeat' first
   | (with_reducible exact laws_markIntS.mono _ _ _)
   | (with_reducible exact LeO.refl _)
   | (with_reducible exact LeO.none _)
   | (with_reducible refine LeO.ite ?_ ?_)
   | (with_reducible refine LeO.bind ?_ (fun _ => ?_))
   | exact laws_markIntS.mono _ _ _
   | exact LeO.none _
   | refine LeO.ite ?_ ?_
   | refine LeO.bind ?_ (fun _ => ?_)
set_option maxHeartbeats 8000000 in
set_option maxRecDepth 100000 in
theorem laws_markVoice.calls (k : Nat) (P0_0_ : Nat → Prop) (u9000_ : Value) (l0_0 : List Int) (a0_1 : Int) (a0_2 : Bool) (a0_3 : Int) (a0_4 : Int) (a0_5 : Int) (a1 : Int) (r1 : Int) (r2 : List Int) (w0 w : World) (hB : Below w0.heap.size w0 w) (ho0_0 : Kd.R (Kd.int .i64) 3 w w0.heap.size P0_0_ u9000_ l0_0) (h : laws_markVoice.f k l0_0 a0_1 a0_2 a0_3 a0_4 a0_5 a1 = some (r1, r2)) :
  Calls Try.prog 14 #[.agg #[u9000_, .int .i64 a0_1, .bool a0_2, .int .i64 a0_3, .int .i64 a0_4, .int .i64 a0_5], .int .i64 a1] w fun e w' => e = .returned (.int .i64 r1) ∧ Kd.R (Kd.int .i64) 3 w' w0.heap.size (fun k_ => (P0_0_ k_ ∨ w.heap.size ≤ k_)) u9000_ r2 ∧ Below w0.heap.size w0 w' ∧ Kept w w' (fun k_ => P0_0_ k_) := by
 have hu32 := Try.underlying32
 have HO0_0 := Aside0.mk (show Kd.R (Kd.int .i64) 3 w w0.heap.size (fun k_ => (P0_0_ k_ ∨ w.heap.size ≤ k_)) u9000_ l0_0 from Kd.R_mono ho0_0 (fun k_ hk => (.inl hk)))
 have HK := Aside0.mk (Kept.refl w (fun k_ => P0_0_ k_))
 have HW0 := Aside0.mk hB.size
 have HB := Aside0.mk hB
 clear hB
 have H : ((laws_markIntS.f k l0_0 a1).bind fun bt247 => (some (bt247.1, bt247.2))) = some (r1, r2) := h
 clear h
 replace H := Option.bind_eq_some_iff.mp H
 obtain ⟨⟨t247, t248⟩, A30, H⟩ := H
 replace H : (some (t247, t248)) = some (r1, r2) := H
 have A3 := Aside0.mk A30
 clear A30
 simp only [Option.some.injEq, Prod.mk.injEq] at H
 obtain ⟨rfl, rfl⟩ := H
 obtain ⟨Ao4, co4, eo4⟩ := Kd.R_slice HO0_0.out
 subst eo4
 go_enter Try.func14, Try.ntmps14
 go_wp2_with (first | ((with_reducible refine gate_dst (N := 2) rfl ?_); refine bx_ 2 #[.slice Ao4 l0_0.length co4, .int .i64 a0_1, .bool a0_2, .int .i64 a0_3, .int .i64 a0_4, .int .i64 a0_5] 32 ?_; intro gb246 hg w5 hbox hb; have n0_ := Aside0.mk (Kd.R_below (by (with_reducible repeat (first | apply Kd.R_alloc | apply Kd.R_drewN | apply Kd.R_drew)); exact HO0_0.out) hb); have n1_ := Aside0.mk (Kept.below (S := (fun k_ => P0_0_ k_)) (by repeat (first | (with_reducible first | exact HK.out | apply Kept.alloc | apply Kept.drewN | apply Kept.drew) | exact HK.out)) hb); have n2_ := Aside0.mk (below_step (bw_ HB.out) hb); have n3_ := Aside0.mk (hbox); have n4_ := Aside0.mk ((by rw [hg]; exact (by first | exact HK.out.1 | exact (show Kept w _ (fun k_ => P0_0_ k_) from by repeat (first | (with_reducible first | exact HK.out | apply Kept.alloc | apply Kept.drewN | apply Kept.drew) | exact HK.out)).1) : w.heap.size ≤ gb246)); have n5_ := Aside0.mk ((by rw [hg]; exact (below_size (bw_ HB.out)) : w0.heap.size ≤ gb246)); clear HO0_0; clear HK; clear HB; have HO0_0 := n0_; have HK := n1_; have HB := n2_; have BK246 := n3_; have GW246 := n4_; have GE246 := n5_; clear n0_ n1_ n2_ n3_ n4_ n5_; clear hb hbox hg; have hcz6_0 := cz_ BK246.out 0; have hcz6_1 := cz_ BK246.out 1; have hcz6_2 := cz_ BK246.out 2; have hcz6_3 := cz_ BK246.out 3; have hcz6_4 := cz_ BK246.out 4; have hcz6_5 := cz_ BK246.out 5; have hfz6_0 := blk_frozen BK246.out 0; have hfz6_1 := blk_frozen BK246.out 1; have hfz6_2 := blk_frozen BK246.out 2; have hfz6_3 := blk_frozen BK246.out 3; have hfz6_4 := blk_frozen BK246.out 4; have hfz6_5 := blk_frozen BK246.out 5) | ((with_reducible refine gate_callee (f := 31) rfl ?_); refine goesL_ (some 8) rfl rfl Try.func31 (by kernel_rfl) rfl #[.slice Ao4 l0_0.length co4, .int .i64 a1] rfl (by (try simp only [List.map_toArray, List.map_cons, List.map_nil]); first | done | rfl | (simp only [List.length_drop, List.length_take]; rfl)) ?_; (with_reducible refine (laws_markIntS.calls k (fun k_ => some k_ = (.slice Ao4 l0_0.length co4 : Value).ownBlock) (.slice Ao4 l0_0.length co4) l0_0 a1 t247 t248 w0 _ ?side1 ?side2 A3.out).mono ?_); (case side1 => repeat (first | (with_reducible first | exact HB.out | apply below_alloc | apply pw_below_drewN | apply below_drew1 | refine below_set ?_ GE246.out) | exact HB.out)); (case side2 => exact Kd.R_tight rfl HO0_0.out); rintro e w7 ⟨rfl, hy0, hb, hkp⟩; refine ⟨_, rfl, ?_⟩; have n0_ := Aside0.mk (Kd.R_reok rfl hy0 (fun k_ e_ => HO0_0.out.1 k_ e_)); (first | have n1_ := Aside0.mk (blk_kept BK246.out hkp (Kd.R_ne HO0_0.out BK246.out (by decide))) | have n1_ := Aside0.mk (blk_kept (blk_drewN BK246.out _) hkp (Kd.R_ne HO0_0.out BK246.out (by decide)))); have n2_ := Aside0.mk (Kept.then_ (S := (fun k_ => P0_0_ k_)) (by repeat (first | (with_reducible first | exact HK.out | apply Kept.alloc | apply Kept.drewN | apply Kept.drew | refine Kept.setCell ?_ (.inr GW246.out) _) | exact HK.out)) hkp (fun k_ hs_ => (fun e_ => (HO0_0.out.1 k_ e_.symm)) hs_)); have n3_ := Aside0.mk (hb); clear HO0_0; clear BK246; clear HK; clear HB; have HO0_0 := n0_; have BK246 := n1_; have HK := n2_; have HB := n3_; clear n0_ n1_ n2_ n3_; (try clear hb); (try clear hkp); (try clear hy0)))
 go_ret
 exact ⟨by first | rfl | (simp [errW_none, errW_some] <;> rfl) | (simp [*, errW_none, errW_some] <;> rfl), by (with_reducible repeat (first | apply Kd.R_alloc | apply Kd.R_drewN | apply Kd.R_drew)); exact HO0_0.out, bw_ HB.out, by repeat (first | (with_reducible first | exact HK.out | apply Kept.alloc | apply Kept.drewN | apply Kept.drew | refine Kept.setCell ?_ (.inr GW246.out) _) | exact HK.out)⟩

/-! ### laws_heldIntS: function 32 -/
def laws_heldIntS.l0 : Nat → List Int → Int → Int → Option (Int)
 | 0, _, _, _ => none
 | k + 1, x0, x1, x5 => if x5 < (x0.length : Int) then (if 0 ≤ x5 then (if (rd x0 x5) = x1 then (laws_heldIntS.l0 k x0 (wrap64 (x1 + 1)) (wrap64 (x5 + 1))) else (some (-1))) else (none)) else (some x1)
def laws_heldIntS.f (k : Nat) (l0 : List Int) (a1 : Int) : Option (Int) := laws_heldIntS.l0 k l0 a1 0
theorem laws_heldIntS.mono_l : ∀ k, (∀ y0 y1 y2, LeO (laws_heldIntS.l0 k y0 y1 y2) (laws_heldIntS.l0 (k + 1) y0 y1 y2))
 | 0 => fun _ _ _ r h => by simp [laws_heldIntS.l0] at h
 | k + 1 => by
  have ih0 := laws_heldIntS.mono_l k
  ·intro y0 y1 y2
   unfold laws_heldIntS.l0
   repeat' first
   | (with_reducible exact ih0 _ _ _)
   | (with_reducible exact LeO.refl _)
   | (with_reducible exact LeO.none _)
   | (with_reducible refine LeO.ite ?_ ?_)
   | (with_reducible refine LeO.bind ?_ (fun _ => ?_))
   | exact ih0 _ _ _
   | exact LeO.none _
   | refine LeO.ite ?_ ?_
   | refine LeO.bind ?_ (fun _ => ?_)
theorem laws_heldIntS.mono : ∀ a0 a1 k, LeO (laws_heldIntS.f k a0 a1) (laws_heldIntS.f (k + 1) a0 a1) := by
 intro a0 a1 k
 have ih0 := laws_heldIntS.mono_l k
 unfold laws_heldIntS.f
 repeat' first
   | (with_reducible exact ih0 _ _ _)
   | (with_reducible exact LeO.refl _)
   | (with_reducible exact LeO.none _)
   | (with_reducible refine LeO.ite ?_ ?_)
   | (with_reducible refine LeO.bind ?_ (fun _ => ?_))
   | exact ih0 _ _ _
   | exact LeO.none _
   | refine LeO.ite ?_ ?_
   | refine LeO.bind ?_ (fun _ => ?_)
set_option maxHeartbeats 8000000 in
set_option maxRecDepth 100000 in
theorem laws_heldIntS.calls (k : Nat) (A0 : Option Addr) (c0 : Nat) (l0 : List Int) (a1 : Int) (r : Int) (w : World) (hr0 : Kd.C (Kd.int .i64) w A0 l0.length l0) (hc0 : l0.length ≤ c0) (h : laws_heldIntS.f k l0 a1 = some r) :
  Calls Try.prog 32 #[.slice A0 l0.length c0, .int .i64 a1] w fun e w' => e = .returned (.int .i64 r) ∧ Drawn0 w w' := by
 have HR0 := Aside0.mk hr0
 have HC0 := Aside0.mk hc0
 clear hr0 hc0
 have H : (laws_heldIntS.l0 k l0 a1 0) = some r := h
 clear h
 have H' := Aside0.mk H
 clear H
 go_enter Try.func32, Try.ntmps32
 go_wp2
 go_loopg [1, 5] k (fun kq v1 v5 w' => ∃ (x1_1 : Int) (x5_1 : Int), v1 = .int .i64 x1_1 ∧ v5 = .int .i64 x5_1 ∧ Aside0 (laws_heldIntS.l0 kq l0 x1_1 x5_1 = some r) ∧ Aside0 (kq ≤ k) ∧ Drawn0 w w')
 case atStart => exact ⟨(a1), (0), (by first | rfl | (simp; done) | (simp [*]; done) | (simp [wrap64]; done)), (by first | rfl | (simp; done) | (simp [*]; done) | (simp [wrap64]; done)), H', ⟨Nat.le_refl _⟩, by repeat (first | exact Drawn0.refl _ | apply Drawn0.step)⟩
 case round =>
  clear H'
  try clear p2
  obtain ⟨x1_1, x5_1, rfl, rfl, HA, HK1, ⟨m1, rfl⟩⟩ := hrel
  cases gk with
  | zero => exact absurd HA.out (by simp [laws_heldIntS.l0])
  | succ k1 =>
   have H := HA.out
   clear HA
   simp only [laws_heldIntS.l0] at H
   by_cases c3 : x5_1 < (l0.length : Int)
   ·rw [if_pos c3] at H
    have c3b0 : decide (x5_1 < (l0.length : Int)) = true := decide_eq_true c3
    clear c3
    by_cases c4 : 0 ≤ x5_1
    ·rw [if_pos c4] at H
     have c4b0 : decide (0 ≤ x5_1) = true := decide_eq_true c4
     clear c4
     by_cases c5 : (rd l0 x5_1) = x1_1
     ·rw [if_pos c5] at H
      have c5b0 : ((rd l0 x5_1) == x1_1) = true := beq_iff_eq.mpr c5
      have c5b1 : ((rd l0 x5_1) != x1_1) = false := bne_eq_false_iff_eq.mpr c5
      clear c5
      have H' := Aside0.mk H
      clear H
      have p249 : 0 ≤ (x5_1 : Int) := of_decide_eq_true (by first | (with_reducible assumption) | assumption)
      have q249 : x5_1 < (l0.length : Int) := of_decide_eq_true (by first | (with_reducible assumption) | assumption)
      obtain ⟨ad249, e249, hx249_0⟩ := Kd.at_int HR0.out x5_1 p249 q249
      cases e249
      replace p249 := eq_true p249
      replace q249 := eq_true q249
      go_wp2
      go_roundg k1
      case measure => have := HK1.out; omega
      case rel => exact ⟨(wrap64 (x1_1 + 1)), (wrap64 (x5_1 + 1)), (by first | rfl | (simp; done) | (simp [*]; done) | (simp [wrap64]; done)), (by first | rfl | (simp; done) | (simp [*]; done) | (simp [wrap64]; done)), H', ⟨by have := HK1.out; omega⟩, by repeat (first | exact Drawn0.refl _ | apply Drawn0.step)⟩
     ·rw [if_neg c5] at H
      have c5b0 : ((rd l0 x5_1) == x1_1) = false := beq_eq_false_iff_ne.mpr c5
      have c5b1 : ((rd l0 x5_1) != x1_1) = true := bne_iff_ne.mpr c5
      obtain rfl := Option.some.inj H
      have p249 : 0 ≤ (x5_1 : Int) := of_decide_eq_true (by first | (with_reducible assumption) | assumption)
      have q249 : x5_1 < (l0.length : Int) := of_decide_eq_true (by first | (with_reducible assumption) | assumption)
      obtain ⟨ad249, e249, hx249_0⟩ := Kd.at_int HR0.out x5_1 p249 q249
      cases e249
      replace p249 := eq_true p249
      replace q249 := eq_true q249
      go_wp2
      go_ret
      exact ⟨by first | rfl | (simp; done) | (simp [*]; done), by repeat (first | exact Drawn0.refl _ | apply Drawn0.step)⟩
    ·rw [if_neg c4] at H
     exact absurd H (by simp)
   ·rw [if_neg c3] at H
    have c3b0 : decide (x5_1 < (l0.length : Int)) = false := decide_eq_false c3
    clear c3
    obtain rfl := Option.some.inj H
    go_wp2
    go_ret
    exact ⟨by first | rfl | (simp; done) | (simp [*]; done), by repeat (first | exact Drawn0.refl _ | apply Drawn0.step)⟩

/-! ### laws_heldVoiceS: function 15 -/
def laws_heldVoiceS.l0 : Nat → List (S32) → Int → Int → Option (Int)
 | 0, _, _, _ => none
 | k + 1, x0, x1, x5 => if x5 < (x0.length : Int) then (if 0 ≤ x5 then ((laws_heldIntS.f k ((rd_T32 x0 x5).f0) x1).bind fun t251 => (if t251 < 0 then (some (-1)) else (if ((rd_T32 x0 x5).f1) = t251 then (if (((rd_T32 x0 x5).f2) != ((Int.tmod (wrap64 (t251 + 1)) 3) == 0)) = true then (some (-1)) else (if ((rd_T32 x0 x5).f3) = (wrap64 ((wrap64 (t251 + 1)) + 1)) then (if ((rd_T32 x0 x5).f4) = (wrap64 ((wrap64 ((wrap64 (t251 + 1)) + 1)) + 1)) then (if ((rd_T32 x0 x5).f5) = (wrap64 ((wrap64 ((wrap64 ((wrap64 (t251 + 1)) + 1)) + 1)) + 1)) then (laws_heldVoiceS.l0 k x0 (wrap64 ((wrap64 ((wrap64 ((wrap64 ((wrap64 (t251 + 1)) + 1)) + 1)) + 1)) + 1)) (wrap64 (x5 + 1))) else (some (-1))) else (some (-1))) else (some (-1)))) else (some (-1))))) else (none)) else (some x1)
def laws_heldVoiceS.f (k : Nat) (l0 : List (S32)) (a1 : Int) : Option (Int) := laws_heldVoiceS.l0 k l0 a1 0
theorem laws_heldVoiceS.mono_l : ∀ k, (∀ y0 y1 y2, LeO (laws_heldVoiceS.l0 k y0 y1 y2) (laws_heldVoiceS.l0 (k + 1) y0 y1 y2))
 | 0 => fun _ _ _ r h => by simp [laws_heldVoiceS.l0] at h
 | k + 1 => by
  have ih0 := laws_heldVoiceS.mono_l k
  ·intro y0 y1 y2
   unfold laws_heldVoiceS.l0
   repeat' first
   | (with_reducible exact ih0 _ _ _)
   | (with_reducible exact laws_heldIntS.mono _ _ _)
   | (with_reducible exact LeO.refl _)
   | (with_reducible exact LeO.none _)
   | (with_reducible refine LeO.ite ?_ ?_)
   | (with_reducible refine LeO.bind ?_ (fun _ => ?_))
   | exact ih0 _ _ _
   | exact laws_heldIntS.mono _ _ _
   | exact LeO.none _
   | refine LeO.ite ?_ ?_
   | refine LeO.bind ?_ (fun _ => ?_)
theorem laws_heldVoiceS.mono : ∀ a0 a1 k, LeO (laws_heldVoiceS.f k a0 a1) (laws_heldVoiceS.f (k + 1) a0 a1) := by
 intro a0 a1 k
 have ih0 := laws_heldVoiceS.mono_l k
 unfold laws_heldVoiceS.f
 repeat' first
   | (with_reducible exact ih0 _ _ _)
   | (with_reducible exact laws_heldIntS.mono _ _ _)
   | (with_reducible exact LeO.refl _)
   | (with_reducible exact LeO.none _)
   | (with_reducible refine LeO.ite ?_ ?_)
   | (with_reducible refine LeO.bind ?_ (fun _ => ?_))
   | exact ih0 _ _ _
   | exact laws_heldIntS.mono _ _ _
   | exact LeO.none _
   | refine LeO.ite ?_ ?_
   | refine LeO.bind ?_ (fun _ => ?_)
set_option maxHeartbeats 8000000 in
set_option maxRecDepth 100000 in
theorem laws_heldVoiceS.calls (k : Nat) (A0 : Option Addr) (c0 : Nat) (l0 : List (S32)) (a1 : Int) (r : Int) (w : World) (hr0 : Kd.C k32 w A0 l0.length l0) (hc0 : l0.length ≤ c0) (h : laws_heldVoiceS.f k l0 a1 = some r) :
  Calls Try.prog 15 #[.slice A0 l0.length c0, .int .i64 a1] w fun e w' => e = .returned (.int .i64 r) ∧ Drawn0 w w' := by
 have HR0 := Aside0.mk hr0
 have HC0 := Aside0.mk hc0
 clear hr0 hc0
 have H : (laws_heldVoiceS.l0 k l0 a1 0) = some r := h
 clear h
 have H' := Aside0.mk H
 clear H
 go_enter Try.func15, Try.ntmps15
 go_wp2
 go_loopg [1, 5] k (fun kq v1 v5 w' => ∃ (x1_1 : Int) (x5_1 : Int), v1 = .int .i64 x1_1 ∧ v5 = .int .i64 x5_1 ∧ Aside0 (laws_heldVoiceS.l0 kq l0 x1_1 x5_1 = some r) ∧ Aside0 (kq ≤ k) ∧ Drawn0 w w')
 case atStart => exact ⟨(a1), (0), (by first | rfl | (simp; done) | (simp [*]; done) | (simp [wrap64]; done)), (by first | rfl | (simp; done) | (simp [*]; done) | (simp [wrap64]; done)), H', ⟨Nat.le_refl _⟩, by repeat (first | exact Drawn0.refl _ | apply Drawn0.step)⟩
 case round =>
  clear H'
  try clear c1
  try clear p2
  obtain ⟨x1_1, x5_1, rfl, rfl, HA, HK1, ⟨m1, rfl⟩⟩ := hrel
  cases gk with
  | zero => exact absurd HA.out (by simp [laws_heldVoiceS.l0])
  | succ k1 =>
   have H := HA.out
   clear HA
   simp only [laws_heldVoiceS.l0] at H
   by_cases c3 : x5_1 < (l0.length : Int)
   ·rw [if_pos c3] at H
    have c3b0 : decide (x5_1 < (l0.length : Int)) = true := decide_eq_true c3
    clear c3
    by_cases c4 : 0 ≤ x5_1
    ·rw [if_pos c4] at H
     have c4b0 : decide (0 ≤ x5_1) = true := decide_eq_true c4
     clear c4
     obtain ⟨t251, A50, H⟩ := bE_ H
     have A5 := Aside0.mk A50
     clear A50
     by_cases c6 : t251 < 0
     ·rw [if_pos c6] at H
      have c6b0 : decide (t251 < 0) = true := decide_eq_true c6
      clear c6
      obtain rfl := Option.some.inj H
      have p250 : 0 ≤ (x5_1 : Int) := of_decide_eq_true (by first | (with_reducible assumption) | assumption)
      have q250 : x5_1 < (l0.length : Int) := of_decide_eq_true (by first | (with_reducible assumption) | assumption)
      obtain ⟨ad250, A250_0, c250_0, e250, hx250_0, hx250_1, hx250_2, hx250_3, hx250_4, hx250_5, hl250_0, hi250_0⟩ := at_T32 HR0.out x5_1 p250 q250
      cases e250
      have HR250_0 := Aside0.mk hi250_0
      have HC250_0 := Aside0.mk hl250_0
      clear hi250_0 hl250_0
      replace p250 := eq_true p250
      replace q250 := eq_true q250
      go_wp2_with (first | ((with_reducible refine gate_callee (f := 32) rfl ?_); refine goesL_ (some 18) rfl rfl Try.func32 (by kernel_rfl) rfl #[.slice A250_0 ((rd_T32 l0 x5_1).f0).length c250_0, .int .i64 x1_1] rfl (by (try simp only [List.map_toArray, List.map_cons, List.map_nil]); first | done | rfl | (simp only [List.length_drop, List.length_take]; rfl)) ?_; (with_reducible refine (laws_heldIntS.calls k1 _ _ ((rd_T32 l0 x5_1).f0) x1_1 t251 _ ?side1 ?side2 A5.out).mono ?_); (case side1 => repeat (first | exact HR250_0.out | (with_reducible refine Kd.C_alloc ?_ _) | (with_reducible refine Kd.C_drewN ?_ _) | (with_reducible refine Kd.C_drew ?_))); (case side2 => exact HC250_0.out); rintro e w' ⟨rfl, ⟨nd, rfl⟩⟩; refine ⟨_, rfl, ?_⟩))
      go_ret
      exact ⟨by first | rfl | (simp; done) | (simp [*]; done), by repeat (first | exact Drawn0.refl _ | apply Drawn0.step)⟩
     ·rw [if_neg c6] at H
      have c6b0 : decide (t251 < 0) = false := decide_eq_false c6
      clear c6
      by_cases c7 : ((rd_T32 l0 x5_1).f1) = t251
      ·rw [if_pos c7] at H
       have c7b0 : (((rd_T32 l0 x5_1).f1) == t251) = true := beq_iff_eq.mpr c7
       have c7b1 : (((rd_T32 l0 x5_1).f1) != t251) = false := bne_eq_false_iff_eq.mpr c7
       clear c7
       by_cases c8 : (((rd_T32 l0 x5_1).f2) != ((Int.tmod (wrap64 (t251 + 1)) 3) == 0)) = true
       ·rw [if_pos c8] at H
        have c8b0 : (((rd_T32 l0 x5_1).f2) != ((Int.tmod (wrap64 (t251 + 1)) 3) == 0)) = true := c8
        (try (have c8b1 : decide (((rd_T32 l0 x5_1).f2) = ((Int.tmod (wrap64 (t251 + 1)) 3) == 0)) = false := by simpa using c8))
        (try (have c8b2 : (((rd_T32 l0 x5_1).f2) == ((Int.tmod (wrap64 (t251 + 1)) 3) == 0)) = false := by simpa using c8))
        (try (have c8b3 : ¬ (((rd_T32 l0 x5_1).f2) = ((Int.tmod (wrap64 (t251 + 1)) 3) == 0)) := by simpa using c8))
        clear c8
        obtain rfl := Option.some.inj H
        have p250 : 0 ≤ (x5_1 : Int) := of_decide_eq_true (by first | (with_reducible assumption) | assumption)
        have q250 : x5_1 < (l0.length : Int) := of_decide_eq_true (by first | (with_reducible assumption) | assumption)
        obtain ⟨ad250, A250_0, c250_0, e250, hx250_0, hx250_1, hx250_2, hx250_3, hx250_4, hx250_5, hl250_0, hi250_0⟩ := at_T32 HR0.out x5_1 p250 q250
        cases e250
        have HR250_0 := Aside0.mk hi250_0
        have HC250_0 := Aside0.mk hl250_0
        clear hi250_0 hl250_0
        replace p250 := eq_true p250
        replace q250 := eq_true q250
        go_wp2_with (first | ((with_reducible refine gate_callee (f := 32) rfl ?_); refine goesL_ (some 18) rfl rfl Try.func32 (by kernel_rfl) rfl #[.slice A250_0 ((rd_T32 l0 x5_1).f0).length c250_0, .int .i64 x1_1] rfl (by (try simp only [List.map_toArray, List.map_cons, List.map_nil]); first | done | rfl | (simp only [List.length_drop, List.length_take]; rfl)) ?_; (with_reducible refine (laws_heldIntS.calls k1 _ _ ((rd_T32 l0 x5_1).f0) x1_1 t251 _ ?side1 ?side2 A5.out).mono ?_); (case side1 => repeat (first | exact HR250_0.out | (with_reducible refine Kd.C_alloc ?_ _) | (with_reducible refine Kd.C_drewN ?_ _) | (with_reducible refine Kd.C_drew ?_))); (case side2 => exact HC250_0.out); rintro e w' ⟨rfl, ⟨nd, rfl⟩⟩; refine ⟨_, rfl, ?_⟩; have p252 : 0 ≤ (x5_1 : Int) := of_decide_eq_true (by first | (with_reducible assumption) | assumption); have q252 : x5_1 < (l0.length : Int) := of_decide_eq_true (by first | (with_reducible assumption) | assumption); obtain ⟨ad252, A252_0, c252_0, e252, hx252_0, hx252_1, hx252_2, hx252_3, hx252_4, hx252_5, hl252_0, hi252_0⟩ := at_T32 HR0.out x5_1 p252 q252; obtain rfl : ad250 = ad252 := (by injection e252); have HR252_0 := Aside0.mk hi252_0; have HC252_0 := Aside0.mk hl252_0; clear hi252_0 hl252_0; replace p252 := eq_true p252; replace q252 := eq_true q252; have ea_ := Option.some.inj (hx250_0.symm.trans hx252_0); injection ea_ with ea_ en_ ec_; subst ea_; subst ec_; clear en_; have p253 : 0 ≤ (x5_1 : Int) := of_decide_eq_true (by first | (with_reducible assumption) | assumption); have q253 : x5_1 < (l0.length : Int) := of_decide_eq_true (by first | (with_reducible assumption) | assumption); obtain ⟨ad253, A253_0, c253_0, e253, hx253_0, hx253_1, hx253_2, hx253_3, hx253_4, hx253_5, hl253_0, hi253_0⟩ := at_T32 HR0.out x5_1 p253 q253; obtain rfl : ad250 = ad253 := (by injection e253); have HR253_0 := Aside0.mk hi253_0; have HC253_0 := Aside0.mk hl253_0; clear hi253_0 hl253_0; replace p253 := eq_true p253; replace q253 := eq_true q253; have ea_ := Option.some.inj (hx250_0.symm.trans hx253_0); injection ea_ with ea_ en_ ec_; subst ea_; subst ec_; clear en_))
        go_ret
        exact ⟨by first | rfl | (simp; done) | (simp [*]; done), by repeat (first | exact Drawn0.refl _ | apply Drawn0.step)⟩
       ·rw [if_neg c8] at H
        have c8b0 : (((rd_T32 l0 x5_1).f2) != ((Int.tmod (wrap64 (t251 + 1)) 3) == 0)) = false := by simpa using c8
        (try (have c8b1 : decide (((rd_T32 l0 x5_1).f2) = ((Int.tmod (wrap64 (t251 + 1)) 3) == 0)) = true := by simpa using c8))
        (try (have c8b2 : (((rd_T32 l0 x5_1).f2) == ((Int.tmod (wrap64 (t251 + 1)) 3) == 0)) = true := by simpa using c8))
        clear c8
        by_cases c9 : ((rd_T32 l0 x5_1).f3) = (wrap64 ((wrap64 (t251 + 1)) + 1))
        ·rw [if_pos c9] at H
         have c9b0 : (((rd_T32 l0 x5_1).f3) == (wrap64 ((wrap64 (t251 + 1)) + 1))) = true := beq_iff_eq.mpr c9
         have c9b1 : (((rd_T32 l0 x5_1).f3) != (wrap64 ((wrap64 (t251 + 1)) + 1))) = false := bne_eq_false_iff_eq.mpr c9
         clear c9
         by_cases c10 : ((rd_T32 l0 x5_1).f4) = (wrap64 ((wrap64 ((wrap64 (t251 + 1)) + 1)) + 1))
         ·rw [if_pos c10] at H
          have c10b0 : (((rd_T32 l0 x5_1).f4) == (wrap64 ((wrap64 ((wrap64 (t251 + 1)) + 1)) + 1))) = true := beq_iff_eq.mpr c10
          have c10b1 : (((rd_T32 l0 x5_1).f4) != (wrap64 ((wrap64 ((wrap64 (t251 + 1)) + 1)) + 1))) = false := bne_eq_false_iff_eq.mpr c10
          clear c10
          by_cases c11 : ((rd_T32 l0 x5_1).f5) = (wrap64 ((wrap64 ((wrap64 ((wrap64 (t251 + 1)) + 1)) + 1)) + 1))
          ·rw [if_pos c11] at H
           have c11b0 : (((rd_T32 l0 x5_1).f5) == (wrap64 ((wrap64 ((wrap64 ((wrap64 (t251 + 1)) + 1)) + 1)) + 1))) = true := beq_iff_eq.mpr c11
           have c11b1 : (((rd_T32 l0 x5_1).f5) != (wrap64 ((wrap64 ((wrap64 ((wrap64 (t251 + 1)) + 1)) + 1)) + 1))) = false := bne_eq_false_iff_eq.mpr c11
           clear c11
           have H' := Aside0.mk H
           clear H
           have p250 : 0 ≤ (x5_1 : Int) := of_decide_eq_true (by first | (with_reducible assumption) | assumption)
           have q250 : x5_1 < (l0.length : Int) := of_decide_eq_true (by first | (with_reducible assumption) | assumption)
           obtain ⟨ad250, A250_0, c250_0, e250, hx250_0, hx250_1, hx250_2, hx250_3, hx250_4, hx250_5, hl250_0, hi250_0⟩ := at_T32 HR0.out x5_1 p250 q250
           cases e250
           have HR250_0 := Aside0.mk hi250_0
           have HC250_0 := Aside0.mk hl250_0
           clear hi250_0 hl250_0
           replace p250 := eq_true p250
           replace q250 := eq_true q250
           go_wp2_with (first | ((with_reducible refine gate_callee (f := 32) rfl ?_); refine goesL_ (some 18) rfl rfl Try.func32 (by kernel_rfl) rfl #[.slice A250_0 ((rd_T32 l0 x5_1).f0).length c250_0, .int .i64 x1_1] rfl (by (try simp only [List.map_toArray, List.map_cons, List.map_nil]); first | done | rfl | (simp only [List.length_drop, List.length_take]; rfl)) ?_; (with_reducible refine (laws_heldIntS.calls k1 _ _ ((rd_T32 l0 x5_1).f0) x1_1 t251 _ ?side1 ?side2 A5.out).mono ?_); (case side1 => repeat (first | exact HR250_0.out | (with_reducible refine Kd.C_alloc ?_ _) | (with_reducible refine Kd.C_drewN ?_ _) | (with_reducible refine Kd.C_drew ?_))); (case side2 => exact HC250_0.out); rintro e w' ⟨rfl, ⟨nd, rfl⟩⟩; refine ⟨_, rfl, ?_⟩; have p252 : 0 ≤ (x5_1 : Int) := of_decide_eq_true (by first | (with_reducible assumption) | assumption); have q252 : x5_1 < (l0.length : Int) := of_decide_eq_true (by first | (with_reducible assumption) | assumption); obtain ⟨ad252, A252_0, c252_0, e252, hx252_0, hx252_1, hx252_2, hx252_3, hx252_4, hx252_5, hl252_0, hi252_0⟩ := at_T32 HR0.out x5_1 p252 q252; obtain rfl : ad250 = ad252 := (by injection e252); have HR252_0 := Aside0.mk hi252_0; have HC252_0 := Aside0.mk hl252_0; clear hi252_0 hl252_0; replace p252 := eq_true p252; replace q252 := eq_true q252; have ea_ := Option.some.inj (hx250_0.symm.trans hx252_0); injection ea_ with ea_ en_ ec_; subst ea_; subst ec_; clear en_; have p253 : 0 ≤ (x5_1 : Int) := of_decide_eq_true (by first | (with_reducible assumption) | assumption); have q253 : x5_1 < (l0.length : Int) := of_decide_eq_true (by first | (with_reducible assumption) | assumption); obtain ⟨ad253, A253_0, c253_0, e253, hx253_0, hx253_1, hx253_2, hx253_3, hx253_4, hx253_5, hl253_0, hi253_0⟩ := at_T32 HR0.out x5_1 p253 q253; obtain rfl : ad250 = ad253 := (by injection e253); have HR253_0 := Aside0.mk hi253_0; have HC253_0 := Aside0.mk hl253_0; clear hi253_0 hl253_0; replace p253 := eq_true p253; replace q253 := eq_true q253; have ea_ := Option.some.inj (hx250_0.symm.trans hx253_0); injection ea_ with ea_ en_ ec_; subst ea_; subst ec_; clear en_; have p254 : 0 ≤ (x5_1 : Int) := of_decide_eq_true (by first | (with_reducible assumption) | assumption); have q254 : x5_1 < (l0.length : Int) := of_decide_eq_true (by first | (with_reducible assumption) | assumption); obtain ⟨ad254, A254_0, c254_0, e254, hx254_0, hx254_1, hx254_2, hx254_3, hx254_4, hx254_5, hl254_0, hi254_0⟩ := at_T32 HR0.out x5_1 p254 q254; obtain rfl : ad250 = ad254 := (by injection e254); have HR254_0 := Aside0.mk hi254_0; have HC254_0 := Aside0.mk hl254_0; clear hi254_0 hl254_0; replace p254 := eq_true p254; replace q254 := eq_true q254; have ea_ := Option.some.inj (hx250_0.symm.trans hx254_0); injection ea_ with ea_ en_ ec_; subst ea_; subst ec_; clear en_; have p255 : 0 ≤ (x5_1 : Int) := of_decide_eq_true (by first | (with_reducible assumption) | assumption); have q255 : x5_1 < (l0.length : Int) := of_decide_eq_true (by first | (with_reducible assumption) | assumption); obtain ⟨ad255, A255_0, c255_0, e255, hx255_0, hx255_1, hx255_2, hx255_3, hx255_4, hx255_5, hl255_0, hi255_0⟩ := at_T32 HR0.out x5_1 p255 q255; obtain rfl : ad250 = ad255 := (by injection e255); have HR255_0 := Aside0.mk hi255_0; have HC255_0 := Aside0.mk hl255_0; clear hi255_0 hl255_0; replace p255 := eq_true p255; replace q255 := eq_true q255; have ea_ := Option.some.inj (hx250_0.symm.trans hx255_0); injection ea_ with ea_ en_ ec_; subst ea_; subst ec_; clear en_; have p256 : 0 ≤ (x5_1 : Int) := of_decide_eq_true (by first | (with_reducible assumption) | assumption); have q256 : x5_1 < (l0.length : Int) := of_decide_eq_true (by first | (with_reducible assumption) | assumption); obtain ⟨ad256, A256_0, c256_0, e256, hx256_0, hx256_1, hx256_2, hx256_3, hx256_4, hx256_5, hl256_0, hi256_0⟩ := at_T32 HR0.out x5_1 p256 q256; obtain rfl : ad250 = ad256 := (by injection e256); have HR256_0 := Aside0.mk hi256_0; have HC256_0 := Aside0.mk hl256_0; clear hi256_0 hl256_0; replace p256 := eq_true p256; replace q256 := eq_true q256; have ea_ := Option.some.inj (hx250_0.symm.trans hx256_0); injection ea_ with ea_ en_ ec_; subst ea_; subst ec_; clear en_))
           go_roundg k1
           case measure => have := HK1.out; omega
           case rel => exact ⟨(wrap64 ((wrap64 ((wrap64 ((wrap64 ((wrap64 (t251 + 1)) + 1)) + 1)) + 1)) + 1)), (wrap64 (x5_1 + 1)), (by first | rfl | (simp; done) | (simp [*]; done) | (simp [wrap64]; done)), (by first | rfl | (simp; done) | (simp [*]; done) | (simp [wrap64]; done)), H', ⟨by have := HK1.out; omega⟩, by repeat (first | exact Drawn0.refl _ | apply Drawn0.step)⟩
          ·rw [if_neg c11] at H
           have c11b0 : (((rd_T32 l0 x5_1).f5) == (wrap64 ((wrap64 ((wrap64 ((wrap64 (t251 + 1)) + 1)) + 1)) + 1))) = false := beq_eq_false_iff_ne.mpr c11
           have c11b1 : (((rd_T32 l0 x5_1).f5) != (wrap64 ((wrap64 ((wrap64 ((wrap64 (t251 + 1)) + 1)) + 1)) + 1))) = true := bne_iff_ne.mpr c11
           obtain rfl := Option.some.inj H
           have p250 : 0 ≤ (x5_1 : Int) := of_decide_eq_true (by first | (with_reducible assumption) | assumption)
           have q250 : x5_1 < (l0.length : Int) := of_decide_eq_true (by first | (with_reducible assumption) | assumption)
           obtain ⟨ad250, A250_0, c250_0, e250, hx250_0, hx250_1, hx250_2, hx250_3, hx250_4, hx250_5, hl250_0, hi250_0⟩ := at_T32 HR0.out x5_1 p250 q250
           cases e250
           have HR250_0 := Aside0.mk hi250_0
           have HC250_0 := Aside0.mk hl250_0
           clear hi250_0 hl250_0
           replace p250 := eq_true p250
           replace q250 := eq_true q250
           go_wp2_with (first | ((with_reducible refine gate_callee (f := 32) rfl ?_); refine goesL_ (some 18) rfl rfl Try.func32 (by kernel_rfl) rfl #[.slice A250_0 ((rd_T32 l0 x5_1).f0).length c250_0, .int .i64 x1_1] rfl (by (try simp only [List.map_toArray, List.map_cons, List.map_nil]); first | done | rfl | (simp only [List.length_drop, List.length_take]; rfl)) ?_; (with_reducible refine (laws_heldIntS.calls k1 _ _ ((rd_T32 l0 x5_1).f0) x1_1 t251 _ ?side1 ?side2 A5.out).mono ?_); (case side1 => repeat (first | exact HR250_0.out | (with_reducible refine Kd.C_alloc ?_ _) | (with_reducible refine Kd.C_drewN ?_ _) | (with_reducible refine Kd.C_drew ?_))); (case side2 => exact HC250_0.out); rintro e w' ⟨rfl, ⟨nd, rfl⟩⟩; refine ⟨_, rfl, ?_⟩; have p252 : 0 ≤ (x5_1 : Int) := of_decide_eq_true (by first | (with_reducible assumption) | assumption); have q252 : x5_1 < (l0.length : Int) := of_decide_eq_true (by first | (with_reducible assumption) | assumption); obtain ⟨ad252, A252_0, c252_0, e252, hx252_0, hx252_1, hx252_2, hx252_3, hx252_4, hx252_5, hl252_0, hi252_0⟩ := at_T32 HR0.out x5_1 p252 q252; obtain rfl : ad250 = ad252 := (by injection e252); have HR252_0 := Aside0.mk hi252_0; have HC252_0 := Aside0.mk hl252_0; clear hi252_0 hl252_0; replace p252 := eq_true p252; replace q252 := eq_true q252; have ea_ := Option.some.inj (hx250_0.symm.trans hx252_0); injection ea_ with ea_ en_ ec_; subst ea_; subst ec_; clear en_; have p253 : 0 ≤ (x5_1 : Int) := of_decide_eq_true (by first | (with_reducible assumption) | assumption); have q253 : x5_1 < (l0.length : Int) := of_decide_eq_true (by first | (with_reducible assumption) | assumption); obtain ⟨ad253, A253_0, c253_0, e253, hx253_0, hx253_1, hx253_2, hx253_3, hx253_4, hx253_5, hl253_0, hi253_0⟩ := at_T32 HR0.out x5_1 p253 q253; obtain rfl : ad250 = ad253 := (by injection e253); have HR253_0 := Aside0.mk hi253_0; have HC253_0 := Aside0.mk hl253_0; clear hi253_0 hl253_0; replace p253 := eq_true p253; replace q253 := eq_true q253; have ea_ := Option.some.inj (hx250_0.symm.trans hx253_0); injection ea_ with ea_ en_ ec_; subst ea_; subst ec_; clear en_; have p254 : 0 ≤ (x5_1 : Int) := of_decide_eq_true (by first | (with_reducible assumption) | assumption); have q254 : x5_1 < (l0.length : Int) := of_decide_eq_true (by first | (with_reducible assumption) | assumption); obtain ⟨ad254, A254_0, c254_0, e254, hx254_0, hx254_1, hx254_2, hx254_3, hx254_4, hx254_5, hl254_0, hi254_0⟩ := at_T32 HR0.out x5_1 p254 q254; obtain rfl : ad250 = ad254 := (by injection e254); have HR254_0 := Aside0.mk hi254_0; have HC254_0 := Aside0.mk hl254_0; clear hi254_0 hl254_0; replace p254 := eq_true p254; replace q254 := eq_true q254; have ea_ := Option.some.inj (hx250_0.symm.trans hx254_0); injection ea_ with ea_ en_ ec_; subst ea_; subst ec_; clear en_; have p255 : 0 ≤ (x5_1 : Int) := of_decide_eq_true (by first | (with_reducible assumption) | assumption); have q255 : x5_1 < (l0.length : Int) := of_decide_eq_true (by first | (with_reducible assumption) | assumption); obtain ⟨ad255, A255_0, c255_0, e255, hx255_0, hx255_1, hx255_2, hx255_3, hx255_4, hx255_5, hl255_0, hi255_0⟩ := at_T32 HR0.out x5_1 p255 q255; obtain rfl : ad250 = ad255 := (by injection e255); have HR255_0 := Aside0.mk hi255_0; have HC255_0 := Aside0.mk hl255_0; clear hi255_0 hl255_0; replace p255 := eq_true p255; replace q255 := eq_true q255; have ea_ := Option.some.inj (hx250_0.symm.trans hx255_0); injection ea_ with ea_ en_ ec_; subst ea_; subst ec_; clear en_; have p256 : 0 ≤ (x5_1 : Int) := of_decide_eq_true (by first | (with_reducible assumption) | assumption); have q256 : x5_1 < (l0.length : Int) := of_decide_eq_true (by first | (with_reducible assumption) | assumption); obtain ⟨ad256, A256_0, c256_0, e256, hx256_0, hx256_1, hx256_2, hx256_3, hx256_4, hx256_5, hl256_0, hi256_0⟩ := at_T32 HR0.out x5_1 p256 q256; obtain rfl : ad250 = ad256 := (by injection e256); have HR256_0 := Aside0.mk hi256_0; have HC256_0 := Aside0.mk hl256_0; clear hi256_0 hl256_0; replace p256 := eq_true p256; replace q256 := eq_true q256; have ea_ := Option.some.inj (hx250_0.symm.trans hx256_0); injection ea_ with ea_ en_ ec_; subst ea_; subst ec_; clear en_))
           go_ret
           exact ⟨by first | rfl | (simp; done) | (simp [*]; done), by repeat (first | exact Drawn0.refl _ | apply Drawn0.step)⟩
         ·rw [if_neg c10] at H
          have c10b0 : (((rd_T32 l0 x5_1).f4) == (wrap64 ((wrap64 ((wrap64 (t251 + 1)) + 1)) + 1))) = false := beq_eq_false_iff_ne.mpr c10
          have c10b1 : (((rd_T32 l0 x5_1).f4) != (wrap64 ((wrap64 ((wrap64 (t251 + 1)) + 1)) + 1))) = true := bne_iff_ne.mpr c10
          obtain rfl := Option.some.inj H
          have p250 : 0 ≤ (x5_1 : Int) := of_decide_eq_true (by first | (with_reducible assumption) | assumption)
          have q250 : x5_1 < (l0.length : Int) := of_decide_eq_true (by first | (with_reducible assumption) | assumption)
          obtain ⟨ad250, A250_0, c250_0, e250, hx250_0, hx250_1, hx250_2, hx250_3, hx250_4, hx250_5, hl250_0, hi250_0⟩ := at_T32 HR0.out x5_1 p250 q250
          cases e250
          have HR250_0 := Aside0.mk hi250_0
          have HC250_0 := Aside0.mk hl250_0
          clear hi250_0 hl250_0
          replace p250 := eq_true p250
          replace q250 := eq_true q250
          go_wp2_with (first | ((with_reducible refine gate_callee (f := 32) rfl ?_); refine goesL_ (some 18) rfl rfl Try.func32 (by kernel_rfl) rfl #[.slice A250_0 ((rd_T32 l0 x5_1).f0).length c250_0, .int .i64 x1_1] rfl (by (try simp only [List.map_toArray, List.map_cons, List.map_nil]); first | done | rfl | (simp only [List.length_drop, List.length_take]; rfl)) ?_; (with_reducible refine (laws_heldIntS.calls k1 _ _ ((rd_T32 l0 x5_1).f0) x1_1 t251 _ ?side1 ?side2 A5.out).mono ?_); (case side1 => repeat (first | exact HR250_0.out | (with_reducible refine Kd.C_alloc ?_ _) | (with_reducible refine Kd.C_drewN ?_ _) | (with_reducible refine Kd.C_drew ?_))); (case side2 => exact HC250_0.out); rintro e w' ⟨rfl, ⟨nd, rfl⟩⟩; refine ⟨_, rfl, ?_⟩; have p252 : 0 ≤ (x5_1 : Int) := of_decide_eq_true (by first | (with_reducible assumption) | assumption); have q252 : x5_1 < (l0.length : Int) := of_decide_eq_true (by first | (with_reducible assumption) | assumption); obtain ⟨ad252, A252_0, c252_0, e252, hx252_0, hx252_1, hx252_2, hx252_3, hx252_4, hx252_5, hl252_0, hi252_0⟩ := at_T32 HR0.out x5_1 p252 q252; obtain rfl : ad250 = ad252 := (by injection e252); have HR252_0 := Aside0.mk hi252_0; have HC252_0 := Aside0.mk hl252_0; clear hi252_0 hl252_0; replace p252 := eq_true p252; replace q252 := eq_true q252; have ea_ := Option.some.inj (hx250_0.symm.trans hx252_0); injection ea_ with ea_ en_ ec_; subst ea_; subst ec_; clear en_; have p253 : 0 ≤ (x5_1 : Int) := of_decide_eq_true (by first | (with_reducible assumption) | assumption); have q253 : x5_1 < (l0.length : Int) := of_decide_eq_true (by first | (with_reducible assumption) | assumption); obtain ⟨ad253, A253_0, c253_0, e253, hx253_0, hx253_1, hx253_2, hx253_3, hx253_4, hx253_5, hl253_0, hi253_0⟩ := at_T32 HR0.out x5_1 p253 q253; obtain rfl : ad250 = ad253 := (by injection e253); have HR253_0 := Aside0.mk hi253_0; have HC253_0 := Aside0.mk hl253_0; clear hi253_0 hl253_0; replace p253 := eq_true p253; replace q253 := eq_true q253; have ea_ := Option.some.inj (hx250_0.symm.trans hx253_0); injection ea_ with ea_ en_ ec_; subst ea_; subst ec_; clear en_; have p254 : 0 ≤ (x5_1 : Int) := of_decide_eq_true (by first | (with_reducible assumption) | assumption); have q254 : x5_1 < (l0.length : Int) := of_decide_eq_true (by first | (with_reducible assumption) | assumption); obtain ⟨ad254, A254_0, c254_0, e254, hx254_0, hx254_1, hx254_2, hx254_3, hx254_4, hx254_5, hl254_0, hi254_0⟩ := at_T32 HR0.out x5_1 p254 q254; obtain rfl : ad250 = ad254 := (by injection e254); have HR254_0 := Aside0.mk hi254_0; have HC254_0 := Aside0.mk hl254_0; clear hi254_0 hl254_0; replace p254 := eq_true p254; replace q254 := eq_true q254; have ea_ := Option.some.inj (hx250_0.symm.trans hx254_0); injection ea_ with ea_ en_ ec_; subst ea_; subst ec_; clear en_; have p255 : 0 ≤ (x5_1 : Int) := of_decide_eq_true (by first | (with_reducible assumption) | assumption); have q255 : x5_1 < (l0.length : Int) := of_decide_eq_true (by first | (with_reducible assumption) | assumption); obtain ⟨ad255, A255_0, c255_0, e255, hx255_0, hx255_1, hx255_2, hx255_3, hx255_4, hx255_5, hl255_0, hi255_0⟩ := at_T32 HR0.out x5_1 p255 q255; obtain rfl : ad250 = ad255 := (by injection e255); have HR255_0 := Aside0.mk hi255_0; have HC255_0 := Aside0.mk hl255_0; clear hi255_0 hl255_0; replace p255 := eq_true p255; replace q255 := eq_true q255; have ea_ := Option.some.inj (hx250_0.symm.trans hx255_0); injection ea_ with ea_ en_ ec_; subst ea_; subst ec_; clear en_))
          go_ret
          exact ⟨by first | rfl | (simp; done) | (simp [*]; done), by repeat (first | exact Drawn0.refl _ | apply Drawn0.step)⟩
        ·rw [if_neg c9] at H
         have c9b0 : (((rd_T32 l0 x5_1).f3) == (wrap64 ((wrap64 (t251 + 1)) + 1))) = false := beq_eq_false_iff_ne.mpr c9
         have c9b1 : (((rd_T32 l0 x5_1).f3) != (wrap64 ((wrap64 (t251 + 1)) + 1))) = true := bne_iff_ne.mpr c9
         obtain rfl := Option.some.inj H
         have p250 : 0 ≤ (x5_1 : Int) := of_decide_eq_true (by first | (with_reducible assumption) | assumption)
         have q250 : x5_1 < (l0.length : Int) := of_decide_eq_true (by first | (with_reducible assumption) | assumption)
         obtain ⟨ad250, A250_0, c250_0, e250, hx250_0, hx250_1, hx250_2, hx250_3, hx250_4, hx250_5, hl250_0, hi250_0⟩ := at_T32 HR0.out x5_1 p250 q250
         cases e250
         have HR250_0 := Aside0.mk hi250_0
         have HC250_0 := Aside0.mk hl250_0
         clear hi250_0 hl250_0
         replace p250 := eq_true p250
         replace q250 := eq_true q250
         go_wp2_with (first | ((with_reducible refine gate_callee (f := 32) rfl ?_); refine goesL_ (some 18) rfl rfl Try.func32 (by kernel_rfl) rfl #[.slice A250_0 ((rd_T32 l0 x5_1).f0).length c250_0, .int .i64 x1_1] rfl (by (try simp only [List.map_toArray, List.map_cons, List.map_nil]); first | done | rfl | (simp only [List.length_drop, List.length_take]; rfl)) ?_; (with_reducible refine (laws_heldIntS.calls k1 _ _ ((rd_T32 l0 x5_1).f0) x1_1 t251 _ ?side1 ?side2 A5.out).mono ?_); (case side1 => repeat (first | exact HR250_0.out | (with_reducible refine Kd.C_alloc ?_ _) | (with_reducible refine Kd.C_drewN ?_ _) | (with_reducible refine Kd.C_drew ?_))); (case side2 => exact HC250_0.out); rintro e w' ⟨rfl, ⟨nd, rfl⟩⟩; refine ⟨_, rfl, ?_⟩; have p252 : 0 ≤ (x5_1 : Int) := of_decide_eq_true (by first | (with_reducible assumption) | assumption); have q252 : x5_1 < (l0.length : Int) := of_decide_eq_true (by first | (with_reducible assumption) | assumption); obtain ⟨ad252, A252_0, c252_0, e252, hx252_0, hx252_1, hx252_2, hx252_3, hx252_4, hx252_5, hl252_0, hi252_0⟩ := at_T32 HR0.out x5_1 p252 q252; obtain rfl : ad250 = ad252 := (by injection e252); have HR252_0 := Aside0.mk hi252_0; have HC252_0 := Aside0.mk hl252_0; clear hi252_0 hl252_0; replace p252 := eq_true p252; replace q252 := eq_true q252; have ea_ := Option.some.inj (hx250_0.symm.trans hx252_0); injection ea_ with ea_ en_ ec_; subst ea_; subst ec_; clear en_; have p253 : 0 ≤ (x5_1 : Int) := of_decide_eq_true (by first | (with_reducible assumption) | assumption); have q253 : x5_1 < (l0.length : Int) := of_decide_eq_true (by first | (with_reducible assumption) | assumption); obtain ⟨ad253, A253_0, c253_0, e253, hx253_0, hx253_1, hx253_2, hx253_3, hx253_4, hx253_5, hl253_0, hi253_0⟩ := at_T32 HR0.out x5_1 p253 q253; obtain rfl : ad250 = ad253 := (by injection e253); have HR253_0 := Aside0.mk hi253_0; have HC253_0 := Aside0.mk hl253_0; clear hi253_0 hl253_0; replace p253 := eq_true p253; replace q253 := eq_true q253; have ea_ := Option.some.inj (hx250_0.symm.trans hx253_0); injection ea_ with ea_ en_ ec_; subst ea_; subst ec_; clear en_; have p254 : 0 ≤ (x5_1 : Int) := of_decide_eq_true (by first | (with_reducible assumption) | assumption); have q254 : x5_1 < (l0.length : Int) := of_decide_eq_true (by first | (with_reducible assumption) | assumption); obtain ⟨ad254, A254_0, c254_0, e254, hx254_0, hx254_1, hx254_2, hx254_3, hx254_4, hx254_5, hl254_0, hi254_0⟩ := at_T32 HR0.out x5_1 p254 q254; obtain rfl : ad250 = ad254 := (by injection e254); have HR254_0 := Aside0.mk hi254_0; have HC254_0 := Aside0.mk hl254_0; clear hi254_0 hl254_0; replace p254 := eq_true p254; replace q254 := eq_true q254; have ea_ := Option.some.inj (hx250_0.symm.trans hx254_0); injection ea_ with ea_ en_ ec_; subst ea_; subst ec_; clear en_))
         go_ret
         exact ⟨by first | rfl | (simp; done) | (simp [*]; done), by repeat (first | exact Drawn0.refl _ | apply Drawn0.step)⟩
      ·rw [if_neg c7] at H
       have c7b0 : (((rd_T32 l0 x5_1).f1) == t251) = false := beq_eq_false_iff_ne.mpr c7
       have c7b1 : (((rd_T32 l0 x5_1).f1) != t251) = true := bne_iff_ne.mpr c7
       obtain rfl := Option.some.inj H
       have p250 : 0 ≤ (x5_1 : Int) := of_decide_eq_true (by first | (with_reducible assumption) | assumption)
       have q250 : x5_1 < (l0.length : Int) := of_decide_eq_true (by first | (with_reducible assumption) | assumption)
       obtain ⟨ad250, A250_0, c250_0, e250, hx250_0, hx250_1, hx250_2, hx250_3, hx250_4, hx250_5, hl250_0, hi250_0⟩ := at_T32 HR0.out x5_1 p250 q250
       cases e250
       have HR250_0 := Aside0.mk hi250_0
       have HC250_0 := Aside0.mk hl250_0
       clear hi250_0 hl250_0
       replace p250 := eq_true p250
       replace q250 := eq_true q250
       go_wp2_with (first | ((with_reducible refine gate_callee (f := 32) rfl ?_); refine goesL_ (some 18) rfl rfl Try.func32 (by kernel_rfl) rfl #[.slice A250_0 ((rd_T32 l0 x5_1).f0).length c250_0, .int .i64 x1_1] rfl (by (try simp only [List.map_toArray, List.map_cons, List.map_nil]); first | done | rfl | (simp only [List.length_drop, List.length_take]; rfl)) ?_; (with_reducible refine (laws_heldIntS.calls k1 _ _ ((rd_T32 l0 x5_1).f0) x1_1 t251 _ ?side1 ?side2 A5.out).mono ?_); (case side1 => repeat (first | exact HR250_0.out | (with_reducible refine Kd.C_alloc ?_ _) | (with_reducible refine Kd.C_drewN ?_ _) | (with_reducible refine Kd.C_drew ?_))); (case side2 => exact HC250_0.out); rintro e w' ⟨rfl, ⟨nd, rfl⟩⟩; refine ⟨_, rfl, ?_⟩; have p252 : 0 ≤ (x5_1 : Int) := of_decide_eq_true (by first | (with_reducible assumption) | assumption); have q252 : x5_1 < (l0.length : Int) := of_decide_eq_true (by first | (with_reducible assumption) | assumption); obtain ⟨ad252, A252_0, c252_0, e252, hx252_0, hx252_1, hx252_2, hx252_3, hx252_4, hx252_5, hl252_0, hi252_0⟩ := at_T32 HR0.out x5_1 p252 q252; obtain rfl : ad250 = ad252 := (by injection e252); have HR252_0 := Aside0.mk hi252_0; have HC252_0 := Aside0.mk hl252_0; clear hi252_0 hl252_0; replace p252 := eq_true p252; replace q252 := eq_true q252; have ea_ := Option.some.inj (hx250_0.symm.trans hx252_0); injection ea_ with ea_ en_ ec_; subst ea_; subst ec_; clear en_))
       go_ret
       exact ⟨by first | rfl | (simp; done) | (simp [*]; done), by repeat (first | exact Drawn0.refl _ | apply Drawn0.step)⟩
    ·rw [if_neg c4] at H
     exact absurd H (by simp)
   ·rw [if_neg c3] at H
    have c3b0 : decide (x5_1 < (l0.length : Int)) = false := decide_eq_false c3
    clear c3
    obtain rfl := Option.some.inj H
    go_wp2
    go_ret
    exact ⟨by first | rfl | (simp; done) | (simp [*]; done), by repeat (first | exact Drawn0.refl _ | apply Drawn0.step)⟩

end Go.Proofs.Ytbnbgmpkemlfbaa.XFnExactTakeVoice
