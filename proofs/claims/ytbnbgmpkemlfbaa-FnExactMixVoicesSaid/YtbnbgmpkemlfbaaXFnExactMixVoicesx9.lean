/- What the Go functions that this law comes to compute, each walked; written by a program of this session. -/
import Derived.Test.YtbnbgmpkemlfbaaXMark
import Derived.Test.YtbnbgmpkemlfbaaXFnExactMixVoicesx0
import Derived.Test.YtbnbgmpkemlfbaaXFnExactMixVoicesx7
import Derived.Test.YtbnbgmpkemlfbaaXFnExactMixVoicesx8
namespace Go.Proofs.Ytbnbgmpkemlfbaa.XFnExactMixVoices
open Go.RowKit Go.Proofs.YtbnbgmpkemlfbaaW.PrintWords Go.Proofs.YtbnbgmpkemlfbaaW.PrintLast Go.Proofs.YtbnbgmpkemlfbaaW.PrintMore
attribute [local go_sem] str_geq max2_int min2_int max_two min_two max_three min_three max_four min_four   -- for this text's walks alone
set_option linter.unusedVariables false
set_option linter.unusedSimpArgs false

/-! ### impl_MixVoices: function 17 -/
/-- a voice with the number of the copy that it holds: the same row of samples is handed on, so that who holds which is told by number -/
structure G32 where
  f0 : List Int
  f1 : Int
  f2 : Bool
  f3 : Int
  f4 : Int
  f5 : Int
  g : Nat
def G32.s (x : G32) : S32 := ⟨x.f0, x.f1, x.f2, x.f3, x.f4, x.f5⟩
def zG : G32 := ⟨[], 0, false, 0, 0, 0, 0⟩
def rd_G (xs : List G32) (i : Int) : G32 := xs.getD i.toNat zG
def tagL (xs : List S32) : List G32 := xs.zipIdx.map fun p => ⟨p.1.f0, p.1.f1, p.1.f2, p.1.f3, p.1.f4, p.1.f5, p.2⟩
theorem tagL_len (xs : List S32) : (tagL xs).length = xs.length := by simp [tagL]
def kg (φ : Nat → Nat) (b : Nat) : Kd G32 where
  sz := 6
  E := []
  K := fun w x cs => k32.M w b (fun k => φ k = x.g) x.s cs
  M := fun _ _ _ _ _ => False
  K_len := fun h => k32.K_len (k32.K_of_M h)
  K_one := fun h => k32.K_one (k32.K_of_M h)
  K_below := fun hb h => Kd.M_below h hb
  K_of_M := fun h => h.elim
  M_mono := fun _ h => h.elim
  M_bound := fun h => h.elim
  M_move := fun _ h => h.elim
  M_lower := fun _ h => h.elim
def VO (φ : Nat → Nat) (b t : Nat) (W : World) (_base : Nat) (ok : Nat → Prop) (v : Value) (xs : List Int) : Prop := Foot (fun W' => (Kd.int .i64).R 3 W' b (fun k => φ k = t) v xs) W ok
section
variable {φ : Nat → Nat} {b t base n c : Nat} {W w1 : World} {ok ok' : Nat → Prop} {A : Option Addr} {u v v1 : Value} {xs : List Int}
theorem VO_mk (_hl : xs.length ≤ c) (h : Foot (fun W' => (Kd.int .i64).R 3 W' b (fun k => φ k = t) (.slice A xs.length c) xs) W ok) : VO φ b t W base ok (.slice A xs.length c) xs := h
theorem VO_reads' (h : VO φ b t W base ok (.slice A n c) xs) : n = xs.length ∧ n ≤ c ∧ (Kd.int .i64).C W A xs.length xs := Kd.R_reads' (Foot.now h)
theorem VO_F (h : VO φ b t W base ok v xs) : VO φ b t W base ok v xs := h
theorem VO_mono (h : VO φ b t W base ok v xs) (hok : ∀ k, ok k → ok' k) : VO φ b t W base ok' v xs := Foot.mono h hok
theorem VO_below (h : VO φ b t W base ok v xs) (hb : Below W.heap.size W w1) : VO φ b t w1 base ok v xs := Foot.step h (fun k _ hlt => hb.block k hlt)
theorem VO_alloc (h : VO φ b t W base ok v xs) (o : Obj) : VO φ b t (W.alloc o) base ok v xs := VO_below h (below_alloc (Below.refl _ _) o)
theorem VO_drew (h : VO φ b t W base ok v xs) : VO φ b t W.drew base ok v xs := VO_below h (below_drew (Below.refl _ _))
theorem VO_drewN (h : VO φ b t W base ok v xs) (m : Nat) : VO φ b t (W.drewN m) base ok v xs := VO_below h (pw_below_drewN (Below.refl _ _) m)
theorem VO_far (h : VO φ b t W base ok v xs) {p : Addr} (hok : ∀ k, ok k → k ≠ p.block) (u : Value) : VO φ b t (W.setCell p u) base ok v xs := Foot.step h (fun k hk _ => Below.heap_setCell W p u k (hok k hk))
theorem VO_elderB (h : VO φ b t W base ok v xs) (a : Nat) (ha : W.heap.size ≤ a) : VO φ b t W base (fun k => ok k ∧ k ≠ a) v xs := Foot.mono (Foot.bound h) (fun k hk => ⟨hk.1, by have := hk.2; omega⟩)
theorem VO_afterv (h : VO φ b t W base (fun k => ok k ∧ some k ≠ v.ownBlock) u xs) (hg : W.grownBy w1 v.ownBlock) (hat : v1.ownBlock = v.ownBlock ∨ ∃ b, v1.ownBlock = some b ∧ W.heap.size ≤ b) : VO φ b t w1 base (fun k => ok k ∧ some k ≠ v1.ownBlock) u xs := by
  refine Foot.mono (Foot.step (Foot.bound h) (fun k hk hlt => hg.block k hlt hk.1.2)) (fun k hk => ⟨hk.1.1, ?_⟩)
  rcases hat with hat | ⟨b, hb, hle⟩
  · rw [hat]; exact hk.1.2
  · rw [hb]
    intro he
    injection he with he
    have := hk.2
    omega
end
section
variable {φ : Nat → Nat} {b base : Nat} {W w : World} {ok : Nat → Prop} {x : G32} {cs : List Value}
theorem kg_openF (h : Kd.FK (kg φ b) W ok x cs) : ∃ A0 c0, cs = [.slice A0 x.f0.length c0, .int .i64 x.f1, .bool x.f2, .int .i64 x.f3, .int .i64 x.f4, .int .i64 x.f5] ∧ x.f0.length ≤ c0 ∧ Foot (fun W' => (Kd.int .i64).R 3 W' b (fun k => φ k = x.g) (.slice A0 x.f0.length c0) x.f0) W ok := by
  obtain ⟨v0, rfl, hR⟩ := k32_openM (Kd.FK_now h)
  obtain ⟨A, c, rfl, hl, _⟩ := Kd.R_reads hR
  refine ⟨A, c, rfl, hl, fun W' hW => ?_⟩
  obtain ⟨v1, he, hR1⟩ := k32_openM (h W' hW)
  injection he with he _
  rw [← he] at hR1
  exact hR1
theorem kg_mkF (W : World) (ok : Nat → Prop) (x : G32) {A0 : Option Addr} {c0 : Nat} (_l0 : x.f0.length ≤ c0) (g0 : VO φ b x.g W base ok (.slice A0 x.f0.length c0) x.f0) : Kd.FK (kg φ b) W ok x [.slice A0 x.f0.length c0, .int .i64 x.f1, .bool x.f2, .int .i64 x.f3, .int .i64 x.f4, .int .i64 x.f5] := fun W2 hW => k32_mkM W2 b _ x.s (g0 W2 hW)
theorem at_G {A : Option Addr} {n : Nat} {xs : List G32} (h : Kd.C (kg φ b) w A n xs) (i : Int) (h0 : 0 ≤ i) (h1 : i < n) : ∃ ad A0 c0, A = some ad ∧ w.cell? (ad.add (i.toNat * 6)) = some (.slice A0 (rd_G xs i).f0.length c0) ∧ w.cell? ⟨(ad.add (i.toNat * 6)).block, (ad.add (i.toNat * 6)).off + 1, none⟩ = some (.int .i64 (rd_G xs i).f1) ∧ w.cell? ⟨(ad.add (i.toNat * 6)).block, (ad.add (i.toNat * 6)).off + 2, none⟩ = some (.bool (rd_G xs i).f2) ∧ w.cell? ⟨(ad.add (i.toNat * 6)).block, (ad.add (i.toNat * 6)).off + 3, none⟩ = some (.int .i64 (rd_G xs i).f3) ∧ w.cell? ⟨(ad.add (i.toNat * 6)).block, (ad.add (i.toNat * 6)).off + 4, none⟩ = some (.int .i64 (rd_G xs i).f4) ∧ w.cell? ⟨(ad.add (i.toNat * 6)).block, (ad.add (i.toNat * 6)).off + 5, none⟩ = some (.int .i64 (rd_G xs i).f5) ∧ (rd_G xs i).f0.length ≤ c0 ∧ (Kd.int .i64).C w A0 (rd_G xs i).f0.length (rd_G xs i).f0 := by
  obtain ⟨ad, c, e, _, hK, hc0⟩ := Kd.C_get h zG i h0 h1
  have hc : ∀ j u, c[j]? = some u → w.cell? (ad.add (i.toNat * 6 + j)) = some u := hc0
  obtain ⟨A0, c0, rfl, l0, g0⟩ := k32_open (k32.K_of_M hK)
  exact ⟨ad, A0, c0, e, hc 0 _ rfl, by rw [← add_field _ _ 1 (by omega)]; exact hc 1 _ rfl, by rw [← add_field _ _ 2 (by omega)]; exact hc 2 _ rfl, by rw [← add_field _ _ 3 (by omega)]; exact hc 3 _ rfl, by rw [← add_field _ _ 4 (by omega)]; exact hc 4 _ rfl, by rw [← add_field _ _ 5 (by omega)]; exact hc 5 _ rfl, l0, g0⟩
theorem S_tag {v : Value} {xs : List S32} (h : Kd.S k32 32 w base ok v xs) (hb : b ≤ base) : ∃ φ, Kd.N (kg φ b) 32 w base (fun k => ok k ∧ base ≤ k ∧ k < w.heap.size ∧ ∃ q, q ∈ 32 :: k32.E ∧ ∃ cells, w.heap[k]? = some (.cells cells q (0, 0))) v (tagL xs) := by
  obtain ⟨φ, h0, inner, ho, hr⟩ := Kd.S_bound h
  have hl : xs.zipIdx.length = (tagL xs).length := by simp [tagL]
  refine ⟨φ, h0, Kd.chunks 6 (tagL xs).length inner, Kd.chunks_length _ _ _, ⟨fun k hk => hk.symm, inner, by rw [Kd.chunks_length, ← hl]; exact ho, ?_⟩, fun j x c hx hc => ?_⟩
  · rw [← hl]
    exact Kd.reps_raw hr (fun x c hp => ⟨k32.K_len (k32.K_of_M hp), k32.K_one (k32.K_of_M hp)⟩)
  · rw [Kd.chunks_get hc]
    unfold tagL at hx
    rw [List.getElem?_map] at hx
    obtain ⟨p, hp, rfl⟩ := Option.map_eq_some_iff.1 hx
    have hM := hr.2 j p hp
    have hM2 : k32.M w base (fun k => ((ok k ∧ base ≤ k ∧ k < w.heap.size ∧ ∃ q, q ∈ 32 :: k32.E ∧ ∃ cells, w.heap[k]? = some (.cells cells q (0, 0))) ∧ some k ≠ v.ownBlock) ∧ φ k = p.2) p.1 ((inner.drop (j * 6)).take 6) := hM
    exact fun W' hW => k32.M_lower hb (k32.M_mono (fun k hk => hk.2) (Kd.M_step hM2 (fun k hk hlt => hW k hk.1 hlt)))
theorem N_untag {v : Value} {zs : List G32} (h : Kd.N (kg φ b) 32 w base ok v zs) (hb : base ≤ b) (hnd : (zs.map G32.g).Pairwise (· < ·)) : Kd.S k32 32 w base ok v (zs.map G32.s) := by
  obtain ⟨h0, rows, hl, hR, hf⟩ := h
  obtain ⟨_, inner, ho, hr⟩ := hR
  have hinj : ∀ (i j : Nat) (x y : G32), zs[i]? = some x → zs[j]? = some y → x.g = y.g → i = j := by
    intro i j x y hx hy he
    rw [List.pairwise_iff_getElem] at hnd
    obtain ⟨hi, hxi⟩ := List.getElem?_eq_some_iff.1 hx
    obtain ⟨hj, hyj⟩ := List.getElem?_eq_some_iff.1 hy
    rcases Nat.lt_trichotomy i j with g | g | g
    · have := hnd i j (by simpa using hi) (by simpa using hj) g
      simp only [List.getElem_map, hxi, hyj] at this
      omega
    · exact g
    · have := hnd j i (by simpa using hj) (by simpa using hi) g
      simp only [List.getElem_map, hxi, hyj] at this
      omega
  obtain ⟨f, hfs⟩ : ∃ f : Nat → Nat, ∀ (j : Nat) (z : G32) (k : Nat), zs[j]? = some z → φ k = z.g → f k = j := by
    classical
    refine ⟨fun k => if h : ∃ (j : Nat) (z : G32), zs[j]? = some z ∧ φ k = z.g then h.choose else 0, fun j z k hz hk => ?_⟩
    have hex : ∃ (j : Nat) (z : G32), zs[j]? = some z ∧ φ k = z.g := ⟨j, z, hz, hk⟩
    simp only [dif_pos hex]
    obtain ⟨z', hz', hk'⟩ := hex.choose_spec
    exact hinj _ _ _ _ hz' hz (by omega)
  have hll : (zs.map G32.s).zipIdx.length = rows.length := by simp [hl]
  refine ⟨f, h0, inner, by rw [hll]; exact ho, by rw [hll]; exact hr.1, fun j p hp => ?_⟩
  rw [List.getElem?_zipIdx, Nat.zero_add, List.getElem?_map] at hp
  obtain ⟨y, hy, rfl⟩ := Option.map_eq_some_iff.1 hp
  obtain ⟨z, hz, rfl⟩ := Option.map_eq_some_iff.1 hy
  have hjr : j < rows.length := by have := (List.getElem?_eq_some_iff.1 hz).1; omega
  have hc := hr.2 j _ (List.getElem?_eq_getElem hjr)
  have hF := hf j z _ hz (List.getElem?_eq_getElem hjr)
  have hce : (inner.drop (j * 6)).take 6 = rows[j] := hc.1
  show k32.M w base _ z.s ((inner.drop (j * 6)).take 6)
  rw [hce]
  obtain ⟨v0, he, hR0⟩ := k32_openM (Kd.FK_now hF)
  have hin : ∀ k, some k = v0.ownBlock → ok k ∧ some k ≠ v.ownBlock := by
    intro k hk
    classical
    by_cases hn : ok k ∧ some k ≠ v.ownBlock
    · exact hn
    · have hlt := Kd.R_lt hR0 k hk.symm
      have hM := hF { w with heap := w.heap.setIfInBounds k (.cells #[] 0) } (fun q hq _ => by
        have : k ≠ q := fun e => hn (e ▸ hq)
        simp [this])
      obtain ⟨v1, he1, hR1⟩ := k32_openM hM
      rw [he] at he1
      injection he1 with he1 _
      subst he1
      obtain ⟨cells, hcl⟩ := Kd.R_typed hR1 k hk.symm
      have hself : (w.heap.setIfInBounds k (.cells #[] 0))[k]? = some (.cells #[] 0) := by simp [hlt]
      have h2 : (some (Obj.cells #[] 0) : Option Obj) = some (.cells cells 3 (0, 0)) := hself.symm.trans hcl
      injection h2 with h2
      injection h2 with _ h3
      cases h3
  have hres : (Kd.int .i64).R 3 w base (fun k => (ok k ∧ some k ≠ v.ownBlock) ∧ f k = j) v0 z.f0 := by
    refine Kd.R_mono (Kd.R_tight rfl (Kd.R_lower hR0 hb)) (fun k hk => ⟨hin k hk, hfs j z k hz (hR0.1 k hk.symm)⟩)
  rw [he]
  exact k32_mkM w base _ z.s hres
end

mutual
def impl_MixVoices.j0 : Nat → List (S32) → Int → Bool → Option (List Int × List Int × (List (G32)) × Bool)
 | 0, _, _, _ => none
 | k + 1, x0, x1, x21 => if x21 = true then (some (([] : List Int), ([] : List Int), ([] : List (G32)), false)) else ((impl_copyVoices.f k x0).bind fun t272 => (impl_MixVoices.l0 k (tagL t272) x1 0 ([] : List Int) ([] : List Int)))
def impl_MixVoices.l0 : Nat → List (G32) → Int → Int → List Int → List Int → Option (List Int × List Int × (List (G32)) × Bool)
 | 0, _, _, _, _, _ => none
 | k + 1, x8, x26, x27, x276000, x276001 => if x27 < x26 then (impl_MixVoices.l1 k 0 0 (([] : List (G32))) x26 x27 x8 (x8.length : Int) 0 x276000 x276001) else (some (x276000, x276001, x8, true))
def impl_MixVoices.l1 : Nat → Int → Int → List (G32) → Int → Int → List (G32) → Int → Int → List Int → List Int → Option (List Int × List Int × (List (G32)) × Bool)
 | 0, _, _, _, _, _, _, _, _, _, _ => none
 | k + 1, x9, x10, x11, x26, x27, x30, x31, x32, x276000, x276001 => if x32 < x31 then (if 0 ≤ x32 then (if x32 < (x30.length : Int) then (if 0 ≤ ((rd_G x30 x32).f1) then (if ((rd_G x30 x32).f1) < (((rd_G x30 x32).f0).length : Int) then ((impl_FixMul.f (rd ((rd_G x30 x32).f0) ((rd_G x30 x32).f1)) ((rd_G x30 x32).f3)).bind fun t290 => ((impl_FixMul.f (rd ((rd_G x30 x32).f0) ((rd_G x30 x32).f1)) ((rd_G x30 x32).f4)).bind fun t292 => (if (wrap64 (((rd_G x30 x32).f1) + 1)) = (((rd_G x30 x32).f0).length : Int) then (if (rd_G x30 x32).f2 = true then (if 0 < (((rd_G x30 x32).f0).length : Int) then (if x11.length < 2199023255552 then (impl_MixVoices.l1 k (wrap64 (x9 + t290)) (wrap64 (x10 + t292)) (x11 ++ [(⟨(rd_G x30 x32).f0, 0, (rd_G x30 x32).f2, (rd_G x30 x32).f3, (rd_G x30 x32).f4, (rd_G x30 x32).f5, (rd_G x30 x32).g⟩ : G32)]) x26 x27 x30 x31 (wrap64 (x32 + 1)) x276000 x276001) else (none)) else (impl_MixVoices.l1 k (wrap64 (x9 + t290)) (wrap64 (x10 + t292)) x11 x26 x27 x30 x31 (wrap64 (x32 + 1)) x276000 x276001)) else (if (wrap64 (((rd_G x30 x32).f1) + 1)) < (((rd_G x30 x32).f0).length : Int) then (if x11.length < 2199023255552 then (impl_MixVoices.l1 k (wrap64 (x9 + t290)) (wrap64 (x10 + t292)) (x11 ++ [(⟨(rd_G x30 x32).f0, wrap64 (((rd_G x30 x32).f1) + 1), (rd_G x30 x32).f2, (rd_G x30 x32).f3, (rd_G x30 x32).f4, (rd_G x30 x32).f5, (rd_G x30 x32).g⟩ : G32)]) x26 x27 x30 x31 (wrap64 (x32 + 1)) x276000 x276001) else (none)) else (impl_MixVoices.l1 k (wrap64 (x9 + t290)) (wrap64 (x10 + t292)) x11 x26 x27 x30 x31 (wrap64 (x32 + 1)) x276000 x276001))) else (if (wrap64 (((rd_G x30 x32).f1) + 1)) < (((rd_G x30 x32).f0).length : Int) then (if x11.length < 2199023255552 then (impl_MixVoices.l1 k (wrap64 (x9 + t290)) (wrap64 (x10 + t292)) (x11 ++ [(⟨(rd_G x30 x32).f0, wrap64 (((rd_G x30 x32).f1) + 1), (rd_G x30 x32).f2, (rd_G x30 x32).f3, (rd_G x30 x32).f4, (rd_G x30 x32).f5, (rd_G x30 x32).g⟩ : G32)]) x26 x27 x30 x31 (wrap64 (x32 + 1)) x276000 x276001) else (none)) else (impl_MixVoices.l1 k (wrap64 (x9 + t290)) (wrap64 (x10 + t292)) x11 x26 x27 x30 x31 (wrap64 (x32 + 1)) x276000 x276001))))) else (none)) else (none)) else (none)) else (none)) else ((impl_clamp.f x9 (-32767) 32767).bind fun t279 => (if x276000.length < 17592186044416 then ((impl_clamp.f x10 (-32767) 32767).bind fun t283 => (if x276001.length < 17592186044416 then (impl_MixVoices.l0 k x11 x26 (wrap64 (x27 + 1)) (x276000 ++ [t279]) (x276001 ++ [t283])) else (none))) else (none)))
end
def impl_MixVoices.fg (k : Nat) (l0 : List (S32)) (a1 : Int) : Option (List Int × List Int × (List (G32)) × Bool) := (impl_areVoices.f k l0).bind fun t270 => (if t270 = true then ((impl_inRange.f a1 0 200).bind fun t271 => (impl_MixVoices.j0 k l0 a1 (!t271))) else (impl_MixVoices.j0 k l0 a1 true))
theorem impl_MixVoices.mono_l : ∀ k, (∀ y0 y1 y2, LeO (impl_MixVoices.j0 k y0 y1 y2) (impl_MixVoices.j0 (k + 1) y0 y1 y2)) ∧ (∀ y0 y1 y2 y3 y4, LeO (impl_MixVoices.l0 k y0 y1 y2 y3 y4) (impl_MixVoices.l0 (k + 1) y0 y1 y2 y3 y4)) ∧ (∀ y0 y1 y2 y3 y4 y5 y6 y7 y8 y9, LeO (impl_MixVoices.l1 k y0 y1 y2 y3 y4 y5 y6 y7 y8 y9) (impl_MixVoices.l1 (k + 1) y0 y1 y2 y3 y4 y5 y6 y7 y8 y9))
 | 0 => ⟨fun _ _ _ r h => by simp [impl_MixVoices.j0] at h, fun _ _ _ _ _ r h => by simp [impl_MixVoices.l0] at h, fun _ _ _ _ _ _ _ _ _ _ r h => by simp [impl_MixVoices.l1] at h⟩
 | k + 1 => by
  obtain ⟨ih0, ih1, ih2⟩ := impl_MixVoices.mono_l k
  refine ⟨?_, ?_, ?_⟩
  ·intro y0 y1 y2
   unfold impl_MixVoices.j0
   repeat' first
   | (with_reducible exact ih0 _ _ _)
   | (with_reducible exact ih1 _ _ _ _ _)
   | (with_reducible exact ih2 _ _ _ _ _ _ _ _ _ _)
   | (with_reducible exact impl_areVoices.mono _ _)
   | (with_reducible exact impl_copyVoices.mono _ _)
   | (with_reducible exact LeO.refl _)
   | (with_reducible exact LeO.none _)
   | (with_reducible refine LeO.ite ?_ ?_)
   | (with_reducible refine LeO.bind ?_ (fun _ => ?_))
   | exact ih0 _ _ _
   | exact ih1 _ _ _ _ _
   | exact ih2 _ _ _ _ _ _ _ _ _ _
   | exact impl_areVoices.mono _ _
   | exact impl_copyVoices.mono _ _
   | exact LeO.none _
   | refine LeO.ite ?_ ?_
   | refine LeO.bind ?_ (fun _ => ?_)
  ·intro y0 y1 y2 y3 y4
   unfold impl_MixVoices.l0
   repeat' first
   | (with_reducible exact ih0 _ _ _)
   | (with_reducible exact ih1 _ _ _ _ _)
   | (with_reducible exact ih2 _ _ _ _ _ _ _ _ _ _)
   | (with_reducible exact impl_areVoices.mono _ _)
   | (with_reducible exact impl_copyVoices.mono _ _)
   | (with_reducible exact LeO.refl _)
   | (with_reducible exact LeO.none _)
   | (with_reducible refine LeO.ite ?_ ?_)
   | (with_reducible refine LeO.bind ?_ (fun _ => ?_))
   | exact ih0 _ _ _
   | exact ih1 _ _ _ _ _
   | exact ih2 _ _ _ _ _ _ _ _ _ _
   | exact impl_areVoices.mono _ _
   | exact impl_copyVoices.mono _ _
   | exact LeO.none _
   | refine LeO.ite ?_ ?_
   | refine LeO.bind ?_ (fun _ => ?_)
  ·intro y0 y1 y2 y3 y4 y5 y6 y7 y8 y9
   unfold impl_MixVoices.l1
   repeat' first
   | (with_reducible exact ih0 _ _ _)
   | (with_reducible exact ih1 _ _ _ _ _)
   | (with_reducible exact ih2 _ _ _ _ _ _ _ _ _ _)
   | (with_reducible exact impl_areVoices.mono _ _)
   | (with_reducible exact impl_copyVoices.mono _ _)
   | (with_reducible exact LeO.refl _)
   | (with_reducible exact LeO.none _)
   | (with_reducible refine LeO.ite ?_ ?_)
   | (with_reducible refine LeO.bind ?_ (fun _ => ?_))
   | exact ih0 _ _ _
   | exact ih1 _ _ _ _ _
   | exact ih2 _ _ _ _ _ _ _ _ _ _
   | exact impl_areVoices.mono _ _
   | exact impl_copyVoices.mono _ _
   | exact LeO.none _
   | refine LeO.ite ?_ ?_
   | refine LeO.bind ?_ (fun _ => ?_)
theorem impl_MixVoices.monog : ∀ a0 a1 k, LeO (impl_MixVoices.fg k a0 a1) (impl_MixVoices.fg (k + 1) a0 a1) := by
 intro a0 a1 k
 obtain ⟨ih0, ih1, ih2⟩ := impl_MixVoices.mono_l k
 unfold impl_MixVoices.fg
 repeat' first
   | (with_reducible exact ih0 _ _ _)
   | (with_reducible exact ih1 _ _ _ _ _)
   | (with_reducible exact ih2 _ _ _ _ _ _ _ _ _ _)
   | (with_reducible exact impl_areVoices.mono _ _)
   | (with_reducible exact impl_copyVoices.mono _ _)
   | (with_reducible exact LeO.refl _)
   | (with_reducible exact LeO.none _)
   | (with_reducible refine LeO.ite ?_ ?_)
   | (with_reducible refine LeO.bind ?_ (fun _ => ?_))
   | exact ih0 _ _ _
   | exact ih1 _ _ _ _ _
   | exact ih2 _ _ _ _ _ _ _ _ _ _
   | exact impl_areVoices.mono _ _
   | exact impl_copyVoices.mono _ _
   | exact LeO.none _
   | refine LeO.ite ?_ ?_
   | refine LeO.bind ?_ (fun _ => ?_)
def impl_MixVoices.T10 : Bool × List (List Nat × List Nat) := (true, [([], []), ([], []), ([1], [1]), ([], []), ([3], [3]), ([2, 4], [2, 4]), ([5], [5]), ([], []), ([7], [7]), ([6, 8], [6, 8]), ([0, 9], [0, 9]), ([10, 9, 0, 1, 2, 3, 4, 5, 6, 7, 8, 9, 10], [0, 10])])
def impl_MixVoices.B10 : List Nat := [0, 0, 2, 0, 8, 30, 62, 0, 128, 510, 1023, 2047]
theorem impl_MixVoices.tab10 : rtab .any (opsOf Try.f17 10) = impl_MixVoices.T10 := by kernel_rfl
theorem impl_MixVoices.bits10 : waitsOk impl_MixVoices.T10.2 impl_MixVoices.B10 = true := by kernel_rfl
def impl_MixVoices.T11 : Bool × List (List Nat × List Nat) := (true, [([], []), ([], []), ([1], [1]), ([], []), ([3], [3]), ([2, 4], [2, 4]), ([5], [5]), ([], []), ([7], [7]), ([6, 8], [6, 8]), ([0, 9], [0, 9]), ([10, 9, 0, 1, 2, 3, 4, 5, 6, 7, 8, 9, 10], [0, 10])])
def impl_MixVoices.B11 : List Nat := [0, 0, 2, 0, 8, 30, 62, 0, 128, 510, 1023, 2047]
theorem impl_MixVoices.tab11 : rtab .any (opsOf Try.f17 11) = impl_MixVoices.T11 := by kernel_rfl
theorem impl_MixVoices.bits11 : waitsOk impl_MixVoices.T11.2 impl_MixVoices.B11 = true := by kernel_rfl
def impl_MixVoices.T19 : Bool × List (List Nat × List Nat) := (true, [([], []), ([0], [0]), ([], []), ([2], [2]), ([3], [3]), ([1, 4, 3], [1, 4]), ([0, 1, 2, 3, 4, 5], []), ([6, 5, 5, 0, 1, 2, 3, 4, 5], [5, 6])])
def impl_MixVoices.B19 : List Nat := [0, 1, 0, 4, 12, 31, 63, 127]
theorem impl_MixVoices.tab19 : rtab .any (opsOf Try.f17 19) = impl_MixVoices.T19 := by kernel_rfl
theorem impl_MixVoices.bits19 : waitsOk impl_MixVoices.T19.2 impl_MixVoices.B19 = true := by kernel_rfl
def impl_MixVoices.T20 : Bool × List (List Nat × List Nat) := (true, [([], []), ([0], [0]), ([], []), ([2], [2]), ([3], [3]), ([1, 4, 3], [1, 4]), ([0, 1, 2, 3, 4, 5], []), ([6, 5, 5, 0, 1, 2, 3, 4, 5], [5, 6])])
def impl_MixVoices.B20 : List Nat := [0, 1, 0, 4, 12, 31, 63, 127]
theorem impl_MixVoices.tab20 : rtab .any (opsOf Try.f17 20) = impl_MixVoices.T20 := by kernel_rfl
theorem impl_MixVoices.bits20 : waitsOk impl_MixVoices.T20.2 impl_MixVoices.B20 = true := by kernel_rfl
set_option maxHeartbeats 80000000 in
set_option maxRecDepth 100000 in
theorem impl_MixVoices.callsg (k : Nat) (A0 : Option Addr) (c0 : Nat) (l0 : List (S32)) (a1 : Int) (r1 : List Int) (r2 : List Int) (r3 : List (G32)) (r4 : Bool) (w : World) (hr0 : Kd.C k32 w A0 l0.length l0) (hc0 : l0.length ≤ c0) (h : impl_MixVoices.fg k l0 a1 = some (r1, r2, r3, r4)) :
  Calls Try.prog 17 #[.slice A0 l0.length c0, .int .i64 a1] w fun e w' => ∃ (v0_ v1_ v2_ : Value) (ph_ : Nat → Nat), e = .returned (.tuple #[.agg #[v0_, v1_], v2_, .bool r4]) ∧ Kd.R (Kd.int .i64) 3 w' w.heap.size (fun k_ => (w.heap.size ≤ k_) ∧ nb k_ v1_) v0_ r1 ∧ Kd.R (Kd.int .i64) 3 w' w.heap.size (fun k_ => (w.heap.size ≤ k_) ∧ nb k_ v0_) v1_ r2 ∧ Kd.N (kg ph_ w.heap.size) 32 w' w.heap.size (fun k_ => (w.heap.size ≤ k_) ∧ nb k_ v0_ ∧ nb k_ v1_) v2_ r3 ∧ Below w.heap.size w w' := by
 have hu40 := Try.underlying40
 have hu32 := Try.underlying32
 have HR0 := am_ hr0
 have HC0 := am_ hc0
 clear hr0 hc0
 have HB := am_ (Below.refl w.heap.size w)
 have H : ((impl_areVoices.f k l0).bind fun t270 => (if t270 = true then ((impl_inRange.f a1 0 200).bind fun t271 => (impl_MixVoices.j0 k l0 a1 (!t271))) else (impl_MixVoices.j0 k l0 a1 true))) = some (r1, r2, r3, r4) := h
 clear h
 have HC3 := am_ H
 clear H
 go_enter Try.func17, Try.ntmps17
 go_upto_region 1 with (first | ((with_reducible refine gate_dst (N := 4) rfl ?_); refine bx_ 4 #[.slice none 0 0, .slice none 0 0] 40 ?_; intro gb269 hg w4 hbox hb; have n0_ := am_ (below_step (bw_ HB.out) hb); have n1_ := am_ (hbox); have n2_ := am_ (gs_ hg (bw_ HB.out)); have n3_ := am_ (gs_ hg (bw_ HB.out)); replace HB := n0_; have BK269 := n1_; have GW269 := n2_; have GE269 := n3_; clear n0_ n1_ n2_ n3_; clear hb hbox hg))
 (try simp only [Act.put, List.setIfInBounds_toArray, List.set_cons_zero, List.set_cons_succ])
 go_cut [21] (fun v21 wc => ∃ (kq : Nat) (x21_2 : Bool), v21 = .bool x21_2 ∧ Aside0 (impl_MixVoices.j0 kq l0 a1 x21_2 = some (r1, r2, r3, r4)) ∧ Aside0 (kq ≤ k) ∧ Aside0 (wc.heap[gb269]? = some (.cells #[(.slice none 0 0), (.slice none 0 0)] 40 (0, 0))) ∧ Aside0 (Below w.heap.size w wc))
 case first =>
  have H := HC3.out
  clear HC3
  obtain ⟨t270, A50, H⟩ := bE_ H
  have A5 := am_ A50
  clear A50
  by_cases c6 : t270 = true
  ·subst c6
   replace H := it_ H rfl
   obtain ⟨t271, A70, H⟩ := bE_ H
   have A7 := am_ A70
   clear A70
   have H' := am_ H
   clear H
   go_wp2_with (first | ((with_reducible refine gate_callee (f := 26) rfl ?_); refine goesL_ (some 15) rfl rfl Try.func26 (by kernel_rfl) rfl #[.slice A0 l0.length c0] rfl (by (try simp only [List.map_toArray, List.map_cons, List.map_nil]); first | done | rfl | (simp only [List.length_drop, List.length_take]; rfl)) ?_; (with_reducible refine (impl_areVoices.calls k _ _ l0 true _ ?side1 ?side2 A5.out).mono ?_); (case side1 => repeat (first | exact (Kd.C_below HR0.out HB.out) | (with_reducible refine Kd.C_alloc ?_ _) | (with_reducible refine Kd.C_drewN ?_ _) | (with_reducible refine Kd.C_drew ?_))); (case side2 => exact HC0.out); rintro e w8 ⟨rfl, hb⟩; refine ⟨_, rfl, ?_⟩; have n0_ := am_ (blk_below (bk_ BK269.out) hb); have n1_ := am_ (below_step (bw_ HB.out) hb); replace BK269 := n0_; replace HB := n1_; clear n0_ n1_; (try clear hb); (try clear hb2); (try clear hk); (try clear hi)) | (go_at_call 36; (with_reducible refine (impl_inRange.calls a1 0 200 t271 _ A7.out).mono ?_); rintro e w' ⟨rfl, ⟨nd, rfl⟩⟩))
   go_meet
   case rel => exact ⟨_, (!t271), sq_, H', ⟨by first | omega | exact Nat.le_refl _⟩, ⟨bk_ BK269.out⟩, ⟨bw_ HB.out⟩⟩
  ·replace c6 := Bool.eq_false_iff.mpr c6
   subst c6
   replace H := if_ H Bool.false_ne_true
   have H' := am_ H
   clear H
   go_wp2_with (first | ((with_reducible refine gate_callee (f := 26) rfl ?_); refine goesL_ (some 15) rfl rfl Try.func26 (by kernel_rfl) rfl #[.slice A0 l0.length c0] rfl (by (try simp only [List.map_toArray, List.map_cons, List.map_nil]); first | done | rfl | (simp only [List.length_drop, List.length_take]; rfl)) ?_; (with_reducible refine (impl_areVoices.calls k _ _ l0 false _ ?side1 ?side2 A5.out).mono ?_); (case side1 => repeat (first | exact (Kd.C_below HR0.out HB.out) | (with_reducible refine Kd.C_alloc ?_ _) | (with_reducible refine Kd.C_drewN ?_ _) | (with_reducible refine Kd.C_drew ?_))); (case side2 => exact HC0.out); rintro e w9 ⟨rfl, hb⟩; refine ⟨_, rfl, ?_⟩; have n0_ := am_ (blk_below (bk_ BK269.out) hb); have n1_ := am_ (below_step (bw_ HB.out) hb); replace BK269 := n0_; replace HB := n1_; clear n0_ n1_; (try clear hb); (try clear hb2); (try clear hk); (try clear hi)))
   go_meet
   case rel => exact ⟨_, (true), sq_, H', ⟨by first | omega | exact Nat.le_refl _⟩, ⟨bk_ BK269.out⟩, ⟨bw_ HB.out⟩⟩
 case rest => as_aux_lemma =>
  clear HC3
  obtain ⟨kq, x21_2, rfl, HA, HJ2, BK269, HB⟩ := hcut
  cases kq with
  | zero => exact absurd HA.out (by simp [impl_MixVoices.j0])
  | succ kj2 =>
   have H := HA.out
   clear HA
   simp only [impl_MixVoices.j0] at H
   by_cases c10 : x21_2 = true
   ·subst c10
    replace H := it_ H rfl
    simp only [Option.some.injEq, Prod.mk.injEq] at H
    obtain ⟨rfl, rfl, rfl, rfl⟩ := H
    have hcz11_0 := cz_ BK269.out 0
    have hcz11_1 := cz_ BK269.out 1
    have hfz11_0 := blk_frozen BK269.out 0
    have hfz11_1 := blk_frozen BK269.out 1
    go_wp2
    refine bodyPost_ret (results_ctt rfl _ _ gb269 40 #[.slice none 0 0, .slice none 0 0] (0, 0) _ rfl (by (with_reducible repeat (first | refine blk_drewN ?_ _ | refine blk_drew ?_ | refine blk_alloc ?_ _)); refine blk_put (cs := #[.slice none 0 0, .slice none 0 0]) ?_ 1 _ rfl; (with_reducible repeat (first | refine blk_drewN ?_ _ | refine blk_drew ?_ | refine blk_alloc ?_ _)); refine blk_put (cs := #[.slice none 0 0, .slice none 0 0]) ?_ 0 _ rfl; (with_reducible repeat (first | refine blk_drewN ?_ _ | refine blk_drew ?_ | refine blk_alloc ?_ _)); exact BK269.out) Try.underlying40 rfl (by kernel_rfl)) rfl ?_
    exact ⟨_, _, _, fun _ => 0, by first | rfl | (simp [errW_none, errW_some] <;> rfl) | (simp [*, errW_none, errW_some] <;> rfl), by first | exact Kd.R_nil _ _ _ _ _ | exact Kd.N_nil _ _ _ _ _ | exact Kd.V_nil _ _ _ _ _ | exact Kd.Q_nil _ _ _ _ _ | exact Kd.S_nil _ _ _ _ _, by first | exact Kd.R_nil _ _ _ _ _ | exact Kd.N_nil _ _ _ _ _ | exact Kd.V_nil _ _ _ _ _ | exact Kd.Q_nil _ _ _ _ _ | exact Kd.S_nil _ _ _ _ _, by first | exact Kd.S_nil _ _ _ _ _ | exact Kd.N_nil _ _ _ _ _ | exact Kd.V_nil _ _ _ _ _ | exact Kd.Q_nil _ _ _ _ _ | exact Kd.R_nil _ _ _ _ _, bw_ HB.out⟩
   ·replace c10 := Bool.eq_false_iff.mpr c10
    subst c10
    replace H := if_ H Bool.false_ne_true
    obtain ⟨t272, A120, H⟩ := bE_ H
    have A12 := am_ A120
    clear A120
    have H' := am_ H
    clear H
    go_wp2_with (first | ((with_reducible refine gate_callee (f := 28) rfl ?_); refine goesL_ (some 25) rfl rfl Try.func28 (by kernel_rfl) rfl #[.slice A0 l0.length c0] rfl (by (try simp only [List.map_toArray, List.map_cons, List.map_nil]); first | done | rfl | (simp only [List.length_drop, List.length_take]; rfl)) ?_; (with_reducible refine (impl_copyVoices.calls kj2 _ _ l0 t272 _ ?side1 ?side2 A12.out).mono ?_); (case side1 => repeat (first | exact (Kd.C_below HR0.out HB.out) | (with_reducible refine Kd.C_alloc ?_ _) | (with_reducible refine Kd.C_drewN ?_ _) | (with_reducible refine Kd.C_drew ?_))); (case side2 => exact HC0.out); rintro e w13 ⟨v273, rfl, ho0, hb⟩; obtain ⟨ph_, ht0⟩ := S_tag (b := w.heap.size) ho0 (below_size (bw_ HB.out)); refine ⟨_, rfl, ?_⟩; have n0_ := am_ (Kd.N_lower (Kd.N_mono (ok' := fun k_ => (w.heap.size ≤ k_) ∧ k_ ≠ gb269) ht0 (fun k_ hk_ => ⟨(Nat.le_trans (below_size (bw_ HB.out)) hk_.2.1), (Kd.freshB (bk_ BK269.out) k_ hk_.2.1)⟩)) (below_size (bw_ HB.out))); have n1_ := am_ (blk_below (bk_ BK269.out) hb); have n2_ := am_ (below_step (bw_ HB.out) hb); have HO274 := n0_; replace BK269 := n1_; replace HB := n2_; clear n0_ n1_ n2_; (try clear hb); (try clear hb2); (try clear hk); (try clear hi); (try clear ho0)) | ((with_reducible refine gate_dst (N := 7) rfl ?_); refine bx_ 7 #[.slice none 0 0, .slice none 0 0] 40 ?_; intro gb275 hg w14 hbox hb; have n0_ := am_ (Kd.N_below (Kd.N_elderB (by (with_reducible repeat (first | apply Kd.N_alloc | apply Kd.N_drewN | apply Kd.N_drew)); exact HO274.out) gb275 (Nat.le_of_eq hg.symm)) hb); have n1_ := am_ (blk_below (bk_ BK269.out) hb); have n2_ := am_ (below_step (bw_ HB.out) hb); have n3_ := am_ (hbox); have n4_ := am_ (gs_ hg (bw_ HB.out)); have n5_ := am_ (gs_ hg (bw_ HB.out)); have n6_ := am_ (nl_ hg (bk_ BK269.out)); have n7_ := am_ (ng_ hg (bk_ BK269.out)); replace HO274 := n0_; replace BK269 := n1_; replace HB := n2_; have BK275 := n3_; have GW275 := n4_; have GE275 := n5_; have NB269_275 := n6_; have NB275_269 := n7_; clear n0_ n1_ n2_ n3_ n4_ n5_ n6_ n7_; clear hb hbox hg; have hnb15 := NB275_269.out; have hnc15 := NB269_275.out; have hcz16_0 := cz_ BK275.out 0; have hcz16_1 := cz_ BK275.out 1; have hfz16_0 := blk_frozen BK275.out 0; have hfz16_1 := blk_frozen BK275.out 1))
    go_loopg [8, 27] kj2 (fun kq v8 v27 w' => ∃ (x8_2 : List (G32)) (x27_2 : Int) (x276000_2 : List Int) (x276001_2 : List Int) (u276000 : Value) (u276001 : Value), v27 = .int .i64 x27_2 ∧ Aside0 (impl_MixVoices.l0 kq x8_2 a1 x27_2 x276000_2 x276001_2 = some (r1, r2, r3, r4)) ∧ Aside0 (kq ≤ kj2) ∧ Aside0 (Kd.N (kg ph_ w.heap.size) 32 w' w.heap.size (fun k_ => (w.heap.size ≤ k_) ∧ nb k_ u276000 ∧ nb k_ u276001 ∧ k_ ≠ gb269 ∧ k_ ≠ gb275) v8 x8_2) ∧ Aside0 (Kd.R (Kd.int .i64) 3 w' w.heap.size (fun k_ => (w.heap.size ≤ k_) ∧ nb k_ u276001) u276000 x276000_2) ∧ Aside0 (Kd.R (Kd.int .i64) 3 w' w.heap.size (fun k_ => (w.heap.size ≤ k_) ∧ nb k_ u276000) u276001 x276001_2) ∧ Aside0 (w'.heap[gb269]? = some (.cells #[(.slice none 0 0), (.slice none 0 0)] 40 (0, 0))) ∧ Aside0 (w'.heap[gb275]? = some (.cells #[u276000, u276001] 40 (0, 0))) ∧ Aside0 (Below w.heap.size w w'))
    case atStart => exact ⟨(tagL t272), (0), (([] : List Int)), (([] : List Int)), (.slice none 0 0), (.slice none 0 0), sq_, H', ⟨Nat.le_refl _⟩, ⟨by (with_reducible repeat (first | apply Kd.N_alloc | apply Kd.N_drewN | apply Kd.N_drew)); exact Kd.N_mono (Kd.N_far (p := ⟨gb275, 1, none⟩) (Kd.N_far (p := ⟨gb275, 0, none⟩) (Kd.N_mono HO274.out (fun k_ hk => (⟨hk, hk.2⟩ : _ ∧ k_ ≠ gb275))) (fun _ hk => hk.2) (.slice none 0 0)) (fun _ hk => hk.2) (.slice none 0 0)) (fun _ hk => ⟨hk.1.1.1, ⟨(by simp [Value.ownBlock]), ⟨(by simp [Value.ownBlock]), ⟨hk.1.1.2, hk.1.2⟩⟩⟩⟩)⟩, ⟨by first | exact Kd.R_nil _ _ _ _ _ | exact Kd.N_nil _ _ _ _ _ | exact Kd.V_nil _ _ _ _ _ | exact Kd.Q_nil _ _ _ _ _ | exact Kd.S_nil _ _ _ _ _⟩, ⟨by first | exact Kd.R_nil _ _ _ _ _ | exact Kd.N_nil _ _ _ _ _ | exact Kd.V_nil _ _ _ _ _ | exact Kd.Q_nil _ _ _ _ _ | exact Kd.S_nil _ _ _ _ _⟩, ⟨by (with_reducible repeat (first | refine blk_drewN ?_ _ | refine blk_drew ?_ | refine blk_alloc ?_ _)); refine blk_far ?_ NB269_275.out _; (with_reducible repeat (first | refine blk_drewN ?_ _ | refine blk_drew ?_ | refine blk_alloc ?_ _)); refine blk_far ?_ NB269_275.out _; (with_reducible repeat (first | refine blk_drewN ?_ _ | refine blk_drew ?_ | refine blk_alloc ?_ _)); exact BK269.out⟩, ⟨by (with_reducible repeat (first | refine blk_drewN ?_ _ | refine blk_drew ?_ | refine blk_alloc ?_ _)); refine blk_put (cs := #[.slice none 0 0, .slice none 0 0]) ?_ 1 _ rfl; (with_reducible repeat (first | refine blk_drewN ?_ _ | refine blk_drew ?_ | refine blk_alloc ?_ _)); refine blk_put (cs := #[.slice none 0 0, .slice none 0 0]) ?_ 0 _ rfl; (with_reducible repeat (first | refine blk_drewN ?_ _ | refine blk_drew ?_ | refine blk_alloc ?_ _)); exact BK275.out⟩, ⟨bw_ HB.out⟩⟩
    case round => as_aux_lemma =>
     clear H'
     try clear c10
     try clear hcz16_0
     try clear hcz16_1
     try clear hfz16_0
     try clear hfz16_1
     obtain ⟨x8_2, x27_2, x276000_2, x276001_2, u276000, u276001, rfl, HA, HK2, HO_8, HO_276000, HO_276001, BK269, BK275, HB⟩ := hrel
     cases gk with
     | zero => exact absurd HA.out (by simp [impl_MixVoices.l0])
     | succ k2 =>
      have H := HA.out
      clear HA
      simp only [impl_MixVoices.l0] at H
      by_cases c17 : x27_2 < a1
      ·as_aux_lemma =>
       rw [if_pos c17] at H
       have c17b0 : decide (x27_2 < a1) = true := decide_eq_true c17
       clear c17
       obtain ⟨y276, hy276⟩ : ∃ y_ : List (G32), y_ = (([] : List (G32))) := ⟨_, rfl⟩
       replace H : (impl_MixVoices.l1 k2 0 0 y276 a1 x27_2 x8_2 (x8_2.length : Int) 0 x276000_2 x276001_2) = some (r1, r2, r3, r4) := by first | (rw [hy276]; with_reducible exact H) | (have H2_ := (Option.bind_some _ _).symm.trans H; rw [hy276]; with_reducible exact H2_) | (have H2_ := (Option.bind_some _ _).symm.trans H; with_reducible exact H2_) | with_reducible exact H | (rw [hy276]; exact H) | exact H
       have Ny276 := am_ hy276
       clear hy276
       have H' := am_ H
       clear H
       go_wp2_with (first | ((with_reducible refine gate_dst (N := 29) rfl ?_); refine Kd.N_lit (kg ph_ w.heap.size) _ 32 ?hg (N' := 29) ?hd (xs := ([] : List (G32))) (inner := []) (ok := (fun k_ => (w.heap.size ≤ k_) ∧ nb k_ u8 ∧ nb k_ u276000 ∧ nb k_ u276001 ∧ k_ ≠ gb269 ∧ k_ ≠ gb275)) (okp := (fun k_ => (w.heap.size ≤ k_) ∧ nb k_ u8 ∧ nb k_ u276000 ∧ nb k_ u276001 ∧ k_ ≠ gb269 ∧ k_ ≠ gb275)) ?hr ?hp (fun _ hk => hk) ((show ∀ k_, wr.heap.size ≤ k_ → (fun k_ => (w.heap.size ≤ k_) ∧ nb k_ u8 ∧ nb k_ u276000 ∧ nb k_ u276001 ∧ k_ ≠ gb269 ∧ k_ ≠ gb275) k_ from fun k_ hk => ⟨(Nat.le_trans (below_size (bw_ HB.out)) hk), Kd.fresh' (Kd.N_lt (by (with_reducible repeat (first | apply Kd.N_alloc | apply Kd.N_drewN | apply Kd.N_drew)); exact HO_8.out)) k_ hk, Kd.fresh' (Kd.R_lt (ra_ HO_276000.out)) k_ hk, Kd.fresh' (Kd.R_lt (ra_ HO_276001.out)) k_ hk, Kd.freshB (bk_ BK269.out) k_ hk, Kd.freshB (bk_ BK275.out) k_ hk⟩) _ (Nat.le_refl _)) (Below.refl _ _) (Nat.le_refl _) (by simp) ?_; (case hd => rfl); (case hg => rfl); (case hr => first | (go_simp; done) | (go_simp; rfl)); (case hp => exact (Reps.none _ _)); intro v277 w18 ho19 hb hg_ hnew_; clear hg_ hnew_; (first | rw [← Ny276.out] at ho19 | (simp only [Int.reduceToNat] at ho19; rw [← Ny276.out] at ho19)); have n0_ := am_ (Kd.N_elder' (by (with_reducible repeat (first | apply Kd.N_alloc | apply Kd.N_drewN | apply Kd.N_drew)); exact HO_8.out) (Kd.N_base ho19) hb); have n1_ := am_ (Kd.R_below (ra_ HO_276000.out) hb); have n2_ := am_ (Kd.R_below (ra_ HO_276001.out) hb); have n3_ := am_ (Kd.N_lower ho19 (below_size (bw_ HB.out))); have n4_ := am_ (blk_below (bk_ BK269.out) hb); have n5_ := am_ (blk_below (bk_ BK275.out) hb); have n6_ := am_ (below_step (bw_ HB.out) hb); replace HO_8 := n0_; replace HO_276000 := n1_; replace HO_276001 := n2_; have HO278 := n3_; replace BK269 := n4_; replace BK275 := n5_; replace HB := n6_; clear n0_ n1_ n2_ n3_ n4_ n5_ n6_; clear hb ho19; obtain ⟨Ao20, co20, eo20⟩ := Kd.N_slice HO_8.out; subst eo20))
       go_loopg [9, 10, 11, 32] k2 (fun kq v9 v10 v11 v32 w' => ∃ (x9_3 : Int) (x10_3 : Int) (x11_3 : List (G32)) (x32_3 : Int), v9 = .int .i64 x9_3 ∧ v10 = .int .i64 x10_3 ∧ v32 = .int .i64 x32_3 ∧ Aside0 (impl_MixVoices.l1 kq x9_3 x10_3 x11_3 a1 x27_2 x8_2 (x8_2.length : Int) x32_3 x276000_2 x276001_2 = some (r1, r2, r3, r4)) ∧ Aside0 (kq ≤ k2) ∧ Aside0 (Kd.N (kg ph_ w.heap.size) 32 w' w.heap.size (fun k_ => (w.heap.size ≤ k_) ∧ nb k_ (.slice Ao20 x8_2.length co20) ∧ nb k_ u276000 ∧ nb k_ u276001 ∧ k_ ≠ gb269 ∧ k_ ≠ gb275) v11 x11_3) ∧ Aside0 (Kd.N (kg ph_ w.heap.size) 32 w' w.heap.size (fun k_ => (w.heap.size ≤ k_) ∧ nb k_ v11 ∧ nb k_ u276000 ∧ nb k_ u276001 ∧ k_ ≠ gb269 ∧ k_ ≠ gb275) (.slice Ao20 x8_2.length co20) x8_2) ∧ Aside0 (Kd.R (Kd.int .i64) 3 w' w.heap.size (fun k_ => (w.heap.size ≤ k_) ∧ nb k_ u276001) u276000 x276000_2) ∧ Aside0 (Kd.R (Kd.int .i64) 3 w' w.heap.size (fun k_ => (w.heap.size ≤ k_) ∧ nb k_ u276000) u276001 x276001_2) ∧ Aside0 (w'.heap[gb269]? = some (.cells #[(.slice none 0 0), (.slice none 0 0)] 40 (0, 0))) ∧ Aside0 (w'.heap[gb275]? = some (.cells #[u276000, u276001] 40 (0, 0))) ∧ Aside0 (Below w.heap.size w w'))
       case atStart => exact ⟨(0), (0), (y276), (0), sq_, sq_, sq_, H', ⟨Nat.le_refl _⟩, ⟨by (with_reducible repeat (first | apply Kd.N_alloc | apply Kd.N_drewN | apply Kd.N_drew)); exact HO278.out⟩, ⟨by (with_reducible repeat (first | apply Kd.N_alloc | apply Kd.N_drewN | apply Kd.N_drew)); exact Kd.N_mono HO_8.out (fun _ hk => ⟨hk.1.1, ⟨hk.2, ⟨hk.1.2.1, ⟨hk.1.2.2.1, ⟨hk.1.2.2.2.1, hk.1.2.2.2.2⟩⟩⟩⟩⟩)⟩, ⟨ra_ HO_276000.out⟩, ⟨ra_ HO_276001.out⟩, ⟨bk_ BK269.out⟩, ⟨bk_ BK275.out⟩, ⟨bw_ HB.out⟩⟩
       case round => as_aux_lemma =>
        clear H'
        try clear c10
        try clear c17
        try clear c17b0
        try clear hcz16_0
        try clear hcz16_1
        try clear hfz16_0
        try clear hfz16_1
        obtain ⟨x9_3, x10_3, x11_3, x32_3, rfl, rfl, rfl, HA, HK3, HO_11, HO_30, HO_276000, HO_276001, BK269, BK275, HB⟩ := hrel
        cases gk with
        | zero => exact absurd HA.out (by simp [impl_MixVoices.l1])
        | succ k3 =>
         have H := HA.out
         clear HA
         simp only [impl_MixVoices.l1] at H
         by_cases c21 : x32_3 < (x8_2.length : Int)
         ·as_aux_lemma =>
          rw [if_pos c21] at H
          have c21b0 : decide (x32_3 < (x8_2.length : Int)) = true := decide_eq_true c21
          clear c21
          obtain ⟨c22, H⟩ := ifn_ H
          have c22b0 : decide (0 ≤ x32_3) = true := decide_eq_true c22
          clear c22
          obtain ⟨c23, H⟩ := ifn_ H
          have c23b0 : decide (x32_3 < (x8_2.length : Int)) = true := decide_eq_true c23
          clear c23
          obtain ⟨c24, H⟩ := ifn_ H
          have c24b0 : decide (0 ≤ ((rd_G x8_2 x32_3).f1)) = true := decide_eq_true c24
          clear c24
          obtain ⟨c25, H⟩ := ifn_ H
          have c25b0 : decide (((rd_G x8_2 x32_3).f1) < (((rd_G x8_2 x32_3).f0).length : Int)) = true := decide_eq_true c25
          clear c25
          obtain ⟨t290, A260, H⟩ := bE_ H
          have A26 := am_ A260
          clear A260
          obtain ⟨t292, A270, H⟩ := bE_ H
          have A27 := am_ A270
          clear A270
          by_cases c28 : (wrap64 (((rd_G x8_2 x32_3).f1) + 1)) = (((rd_G x8_2 x32_3).f0).length : Int)
          ·as_aux_lemma =>
           rw [if_pos c28] at H
           have c28b0 : ((wrap64 (((rd_G x8_2 x32_3).f1) + 1)) == (((rd_G x8_2 x32_3).f0).length : Int)) = true := beq_iff_eq.mpr c28
           have c28b1 : ((wrap64 (((rd_G x8_2 x32_3).f1) + 1)) != (((rd_G x8_2 x32_3).f0).length : Int)) = false := bne_eq_false_iff_eq.mpr c28
           clear c28
           obtain ⟨bq29, hbq29⟩ : ∃ b_ : Bool, b_ = ((rd_G x8_2 x32_3).f2) := ⟨_, rfl⟩
           replace H : (if bq29 = true then (if 0 < (((rd_G x8_2 x32_3).f0).length : Int) then (if x11_3.length < 2199023255552 then (impl_MixVoices.l1 k3 (wrap64 (x9_3 + t290)) (wrap64 (x10_3 + t292)) (x11_3 ++ [(⟨(rd_G x8_2 x32_3).f0, 0, bq29, (rd_G x8_2 x32_3).f3, (rd_G x8_2 x32_3).f4, (rd_G x8_2 x32_3).f5, (rd_G x8_2 x32_3).g⟩ : G32)]) a1 x27_2 x8_2 (x8_2.length : Int) (wrap64 (x32_3 + 1)) x276000_2 x276001_2) else (none)) else (impl_MixVoices.l1 k3 (wrap64 (x9_3 + t290)) (wrap64 (x10_3 + t292)) x11_3 a1 x27_2 x8_2 (x8_2.length : Int) (wrap64 (x32_3 + 1)) x276000_2 x276001_2)) else (if (wrap64 (((rd_G x8_2 x32_3).f1) + 1)) < (((rd_G x8_2 x32_3).f0).length : Int) then (if x11_3.length < 2199023255552 then (impl_MixVoices.l1 k3 (wrap64 (x9_3 + t290)) (wrap64 (x10_3 + t292)) (x11_3 ++ [(⟨(rd_G x8_2 x32_3).f0, wrap64 (((rd_G x8_2 x32_3).f1) + 1), bq29, (rd_G x8_2 x32_3).f3, (rd_G x8_2 x32_3).f4, (rd_G x8_2 x32_3).f5, (rd_G x8_2 x32_3).g⟩ : G32)]) a1 x27_2 x8_2 (x8_2.length : Int) (wrap64 (x32_3 + 1)) x276000_2 x276001_2) else (none)) else (impl_MixVoices.l1 k3 (wrap64 (x9_3 + t290)) (wrap64 (x10_3 + t292)) x11_3 a1 x27_2 x8_2 (x8_2.length : Int) (wrap64 (x32_3 + 1)) x276000_2 x276001_2))) = some (r1, r2, r3, r4) := by rw [← hbq29] at H; exact H
           have Nbq29 := am_ hbq29
           clear hbq29
           by_cases c30 : bq29 = true
           ·as_aux_lemma =>
            subst c30
            replace H := it_ H rfl
            by_cases c31 : 0 < (((rd_G x8_2 x32_3).f0).length : Int)
            ·as_aux_lemma =>
             rw [if_pos c31] at H
             have c31b0 : decide (0 < (((rd_G x8_2 x32_3).f0).length : Int)) = true := decide_eq_true c31
             have c31b1 : decide (0 < ((rd_G x8_2 x32_3).f0).length) = true := decide_eq_true (by omega)
             clear c31
             obtain ⟨c32, H⟩ := ifn_ H
             have LMc32 := am_ c32
             clear c32
             obtain ⟨y293, hy293⟩ : ∃ y_ : List (G32), y_ = (x11_3 ++ [(⟨(rd_G x8_2 x32_3).f0, 0, true, (rd_G x8_2 x32_3).f3, (rd_G x8_2 x32_3).f4, (rd_G x8_2 x32_3).f5, (rd_G x8_2 x32_3).g⟩ : G32)]) := ⟨_, rfl⟩
             replace H : (impl_MixVoices.l1 k3 (wrap64 (x9_3 + t290)) (wrap64 (x10_3 + t292)) y293 a1 x27_2 x8_2 (x8_2.length : Int) (wrap64 (x32_3 + 1)) x276000_2 x276001_2) = some (r1, r2, r3, r4) := by first | (rw [hy293]; with_reducible exact H) | (have H2_ := (Option.bind_some _ _).symm.trans H; rw [hy293]; with_reducible exact H2_) | (have H2_ := (Option.bind_some _ _).symm.trans H; with_reducible exact H2_) | with_reducible exact H | (rw [hy293]; exact H) | exact H
             have Ny293 := am_ hy293
             clear hy293
             have H' := am_ H
             clear H
             have p287 : 0 ≤ (x32_3 : Int) := od_
             have q287 : x32_3 < (x8_2.length : Int) := od_
             obtain ⟨ad287, A287_0, c287_0, e287, hx287_0, hx287_1, hx287_2, hx287_3, hx287_4, hx287_5, hl287_0, hi287_0⟩ := at_G (Kd.N_reads' HO_30.out).2.2 x32_3 p287 q287
             (try rw [← Nbq29.out] at hx287_2)
             cases e287
             obtain ⟨ce287, hce287, hMe287, hcc287⟩ := Kd.N_get HO_30.out zG x32_3 p287 (by first | exact q287 | exact od_ | (have e_ := (Kd.N_reads' HO_30.out).1; omega))
             obtain ⟨ua287_0, uc287_0, rfl, ul287_0, ge287_0⟩ := kg_openF hMe287
             have hv287_0 := hcc287 0 _ rfl
             rw [Nat.add_zero] at hv287_0
             replace hv287_0 := Option.some.inj (hv287_0.symm.trans hx287_0)
             injection hv287_0 with hva_ hvn_ hvc_
             rw [hva_, hvc_] at ge287_0
             rw [hvc_] at ul287_0
             have HL287_0 := am_ (show VO ph_ w.heap.size (rd_G x8_2 x32_3).g _ w.heap.size _ _ ((rd_G x8_2 x32_3).f0) from VO_mk ul287_0 ge287_0)
             clear hva_ hvn_ hvc_ ge287_0 ul287_0
             clear hcc287 hce287
             have HR287_0 := am_ hi287_0
             have HC287_0 := am_ hl287_0
             clear hi287_0 hl287_0
             replace p287 := eq_true p287
             replace q287 := eq_true q287
             try go_wp2_with (first | ((with_reducible refine gate_dst (N := 13) rfl ?_); refine bx_ 13 #[.slice none 0 0, .int .i64 0, .bool false, .int .i64 0, .int .i64 0, .int .i64 0] 32 ?_; intro gb288 hg w33 hbox hb; have n0_ := am_ (Kd.N_below (Kd.N_elderB (by (with_reducible repeat (first | apply Kd.N_alloc | apply Kd.N_drewN | apply Kd.N_drew)); exact HO_11.out) gb288 (Nat.le_of_eq hg.symm)) hb); have n1_ := am_ (Kd.N_below (Kd.N_elderB (by (with_reducible repeat (first | apply Kd.N_alloc | apply Kd.N_drewN | apply Kd.N_drew)); exact HO_30.out) gb288 (Nat.le_of_eq hg.symm)) hb); have n2_ := am_ (Kd.R_below (ra_ HO_276000.out) hb); have n3_ := am_ (Kd.R_below (ra_ HO_276001.out) hb); have n4_ := am_ (VO_below (VO_elderB (by (with_reducible repeat (first | apply VO_alloc | apply VO_drewN | apply VO_drew)); exact HL287_0.out) gb288 (Nat.le_of_eq hg.symm)) hb); have n5_ := am_ (blk_below (bk_ BK269.out) hb); have n6_ := am_ (blk_below (bk_ BK275.out) hb); have n7_ := am_ (Kd.C_below (by repeat (first | (with_reducible exact HR287_0.out) | (with_reducible refine Kd.C_alloc ?_ _) | (with_reducible refine Kd.C_drewN ?_ _) | (with_reducible refine Kd.C_drew ?_) | exact HR287_0.out)) hb); have n8_ := am_ (below_step (bw_ HB.out) hb); have n9_ := am_ (hbox); have n10_ := am_ (gs_ hg (bw_ HB.out)); have n11_ := am_ (gs_ hg (bw_ HB.out)); have n12_ := am_ (nl_ hg (bk_ BK269.out)); have n13_ := am_ (ng_ hg (bk_ BK269.out)); have n14_ := am_ (nl_ hg (bk_ BK275.out)); have n15_ := am_ (ng_ hg (bk_ BK275.out)); replace HO_11 := n0_; replace HO_30 := n1_; replace HO_276000 := n2_; replace HO_276001 := n3_; replace HL287_0 := n4_; replace BK269 := n5_; replace BK275 := n6_; replace HR287_0 := n7_; replace HB := n8_; have BK288 := n9_; have GW288 := n10_; have GE288 := n11_; have NB269_288 := n12_; have NB288_269 := n13_; have NB275_288 := n14_; have NB288_275 := n15_; clear n0_ n1_ n2_ n3_ n4_ n5_ n6_ n7_ n8_ n9_ n10_ n11_ n12_ n13_ n14_ n15_; clear hb hbox hg; have hnb34 := NB288_269.out; have hnc34 := NB269_288.out; have hnb35 := NB288_275.out; have hnc35 := NB275_288.out; have hcz36_0 := cz_ BK288.out 0; have hcz36_1 := cz_ BK288.out 1; have hcz36_2 := cz_ BK288.out 2; have hcz36_3 := cz_ BK288.out 3; have hcz36_4 := cz_ BK288.out 4; have hcz36_5 := cz_ BK288.out 5; have hfz36_0 := blk_frozen BK288.out 0; have hfz36_1 := blk_frozen BK288.out 1; have hfz36_2 := blk_frozen BK288.out 2; have hfz36_3 := blk_frozen BK288.out 3; have hfz36_4 := blk_frozen BK288.out 4; have hfz36_5 := blk_frozen BK288.out 5))
             have n0_ : Aside0 (Kd.N (kg ph_ w.heap.size) 32 ((((((w33.setCell ⟨gb288, 0, none⟩ (.slice A287_0 ((rd_G x8_2 x32_3).f0).length c287_0)).setCell ⟨gb288, 1, none⟩ (.int .i64 ((rd_G x8_2 x32_3).f1))).setCell ⟨gb288, 2, none⟩ (.bool true)).setCell ⟨gb288, 3, none⟩ (.int .i64 ((rd_G x8_2 x32_3).f3))).setCell ⟨gb288, 4, none⟩ (.int .i64 ((rd_G x8_2 x32_3).f4))).setCell ⟨gb288, 5, none⟩ (.int .i64 ((rd_G x8_2 x32_3).f5))) w.heap.size (fun k_ => (w.heap.size ≤ k_) ∧ nb k_ (.slice (some ad287) x8_2.length co20) ∧ nb k_ u276000 ∧ nb k_ u276001 ∧ k_ ≠ gb269 ∧ k_ ≠ gb275 ∧ k_ ≠ gb288) u11 x11_3) := ⟨by (with_reducible repeat (first | apply Kd.N_alloc | apply Kd.N_drewN | apply Kd.N_drew)); exact Kd.N_mono (Kd.N_far (p := ⟨gb288, 5, none⟩) (Kd.N_far (p := ⟨gb288, 4, none⟩) (Kd.N_far (p := ⟨gb288, 3, none⟩) (Kd.N_far (p := ⟨gb288, 2, none⟩) (Kd.N_far (p := ⟨gb288, 1, none⟩) (Kd.N_far (p := ⟨gb288, 0, none⟩) (Kd.N_mono HO_11.out (fun k_ hk => (⟨hk, hk.2⟩ : _ ∧ k_ ≠ gb288))) (fun _ hk => hk.2) (.slice A287_0 ((rd_G x8_2 x32_3).f0).length c287_0)) (fun _ hk => hk.2) (.int .i64 ((rd_G x8_2 x32_3).f1))) (fun _ hk => hk.2) (.bool true)) (fun _ hk => hk.2) (.int .i64 ((rd_G x8_2 x32_3).f3))) (fun _ hk => hk.2) (.int .i64 ((rd_G x8_2 x32_3).f4))) (fun _ hk => hk.2) (.int .i64 ((rd_G x8_2 x32_3).f5))) (fun _ hk => ⟨hk.1.1.1, ⟨hk.1.1.2.1, ⟨hk.1.1.2.2.1, ⟨hk.1.1.2.2.2.1, ⟨hk.1.1.2.2.2.2.1, ⟨hk.1.1.2.2.2.2.2, hk.1.2⟩⟩⟩⟩⟩⟩)⟩
             have n1_ : Aside0 (Kd.N (kg ph_ w.heap.size) 32 ((((((w33.setCell ⟨gb288, 0, none⟩ (.slice A287_0 ((rd_G x8_2 x32_3).f0).length c287_0)).setCell ⟨gb288, 1, none⟩ (.int .i64 ((rd_G x8_2 x32_3).f1))).setCell ⟨gb288, 2, none⟩ (.bool true)).setCell ⟨gb288, 3, none⟩ (.int .i64 ((rd_G x8_2 x32_3).f3))).setCell ⟨gb288, 4, none⟩ (.int .i64 ((rd_G x8_2 x32_3).f4))).setCell ⟨gb288, 5, none⟩ (.int .i64 ((rd_G x8_2 x32_3).f5))) w.heap.size (fun k_ => (w.heap.size ≤ k_) ∧ nb k_ u11 ∧ nb k_ u276000 ∧ nb k_ u276001 ∧ k_ ≠ gb269 ∧ k_ ≠ gb275 ∧ k_ ≠ gb288) (.slice (some ad287) x8_2.length co20) x8_2) := ⟨by (with_reducible repeat (first | apply Kd.N_alloc | apply Kd.N_drewN | apply Kd.N_drew)); exact Kd.N_mono (Kd.N_far (p := ⟨gb288, 5, none⟩) (Kd.N_far (p := ⟨gb288, 4, none⟩) (Kd.N_far (p := ⟨gb288, 3, none⟩) (Kd.N_far (p := ⟨gb288, 2, none⟩) (Kd.N_far (p := ⟨gb288, 1, none⟩) (Kd.N_far (p := ⟨gb288, 0, none⟩) (Kd.N_mono HO_30.out (fun k_ hk => (⟨hk, hk.2⟩ : _ ∧ k_ ≠ gb288))) (fun _ hk => hk.2) (.slice A287_0 ((rd_G x8_2 x32_3).f0).length c287_0)) (fun _ hk => hk.2) (.int .i64 ((rd_G x8_2 x32_3).f1))) (fun _ hk => hk.2) (.bool true)) (fun _ hk => hk.2) (.int .i64 ((rd_G x8_2 x32_3).f3))) (fun _ hk => hk.2) (.int .i64 ((rd_G x8_2 x32_3).f4))) (fun _ hk => hk.2) (.int .i64 ((rd_G x8_2 x32_3).f5))) (fun _ hk => ⟨hk.1.1.1, ⟨hk.1.1.2.1, ⟨hk.1.1.2.2.1, ⟨hk.1.1.2.2.2.1, ⟨hk.1.1.2.2.2.2.1, ⟨hk.1.1.2.2.2.2.2, hk.1.2⟩⟩⟩⟩⟩⟩)⟩
             have n2_ : Aside0 (Kd.R (Kd.int .i64) 3 ((((((w33.setCell ⟨gb288, 0, none⟩ (.slice A287_0 ((rd_G x8_2 x32_3).f0).length c287_0)).setCell ⟨gb288, 1, none⟩ (.int .i64 ((rd_G x8_2 x32_3).f1))).setCell ⟨gb288, 2, none⟩ (.bool true)).setCell ⟨gb288, 3, none⟩ (.int .i64 ((rd_G x8_2 x32_3).f3))).setCell ⟨gb288, 4, none⟩ (.int .i64 ((rd_G x8_2 x32_3).f4))).setCell ⟨gb288, 5, none⟩ (.int .i64 ((rd_G x8_2 x32_3).f5))) w.heap.size (fun k_ => (w.heap.size ≤ k_) ∧ nb k_ u276001) u276000 x276000_2) := ⟨ra_ (Kd.R_mono (Kd.R_far (p := ⟨gb288, 5, none⟩) (Kd.R_far (p := ⟨gb288, 4, none⟩) (Kd.R_far (p := ⟨gb288, 3, none⟩) (Kd.R_far (p := ⟨gb288, 2, none⟩) (Kd.R_far (p := ⟨gb288, 1, none⟩) (Kd.R_far (p := ⟨gb288, 0, none⟩) (Kd.R_types HO_276000.out BK288.out (by decide)) (fun _ hk => hk.2) (.slice A287_0 ((rd_G x8_2 x32_3).f0).length c287_0)) (fun _ hk => hk.2) (.int .i64 ((rd_G x8_2 x32_3).f1))) (fun _ hk => hk.2) (.bool true)) (fun _ hk => hk.2) (.int .i64 ((rd_G x8_2 x32_3).f3))) (fun _ hk => hk.2) (.int .i64 ((rd_G x8_2 x32_3).f4))) (fun _ hk => hk.2) (.int .i64 ((rd_G x8_2 x32_3).f5))) (fun _ hk => ⟨hk.1.1, hk.1.2⟩))⟩
             have n3_ : Aside0 (Kd.R (Kd.int .i64) 3 ((((((w33.setCell ⟨gb288, 0, none⟩ (.slice A287_0 ((rd_G x8_2 x32_3).f0).length c287_0)).setCell ⟨gb288, 1, none⟩ (.int .i64 ((rd_G x8_2 x32_3).f1))).setCell ⟨gb288, 2, none⟩ (.bool true)).setCell ⟨gb288, 3, none⟩ (.int .i64 ((rd_G x8_2 x32_3).f3))).setCell ⟨gb288, 4, none⟩ (.int .i64 ((rd_G x8_2 x32_3).f4))).setCell ⟨gb288, 5, none⟩ (.int .i64 ((rd_G x8_2 x32_3).f5))) w.heap.size (fun k_ => (w.heap.size ≤ k_) ∧ nb k_ u276000) u276001 x276001_2) := ⟨ra_ (Kd.R_mono (Kd.R_far (p := ⟨gb288, 5, none⟩) (Kd.R_far (p := ⟨gb288, 4, none⟩) (Kd.R_far (p := ⟨gb288, 3, none⟩) (Kd.R_far (p := ⟨gb288, 2, none⟩) (Kd.R_far (p := ⟨gb288, 1, none⟩) (Kd.R_far (p := ⟨gb288, 0, none⟩) (Kd.R_types HO_276001.out BK288.out (by decide)) (fun _ hk => hk.2) (.slice A287_0 ((rd_G x8_2 x32_3).f0).length c287_0)) (fun _ hk => hk.2) (.int .i64 ((rd_G x8_2 x32_3).f1))) (fun _ hk => hk.2) (.bool true)) (fun _ hk => hk.2) (.int .i64 ((rd_G x8_2 x32_3).f3))) (fun _ hk => hk.2) (.int .i64 ((rd_G x8_2 x32_3).f4))) (fun _ hk => hk.2) (.int .i64 ((rd_G x8_2 x32_3).f5))) (fun _ hk => ⟨hk.1.1, hk.1.2⟩))⟩
             have n4_ : Aside0 (VO ph_ w.heap.size (rd_G x8_2 x32_3).g ((((((w33.setCell ⟨gb288, 0, none⟩ (.slice A287_0 ((rd_G x8_2 x32_3).f0).length c287_0)).setCell ⟨gb288, 1, none⟩ (.int .i64 ((rd_G x8_2 x32_3).f1))).setCell ⟨gb288, 2, none⟩ (.bool true)).setCell ⟨gb288, 3, none⟩ (.int .i64 ((rd_G x8_2 x32_3).f3))).setCell ⟨gb288, 4, none⟩ (.int .i64 ((rd_G x8_2 x32_3).f4))).setCell ⟨gb288, 5, none⟩ (.int .i64 ((rd_G x8_2 x32_3).f5))) w.heap.size (fun k_ => (w.heap.size ≤ k_) ∧ nb k_ u11 ∧ nb k_ (.slice (some ad287) x8_2.length co20) ∧ nb k_ u276000 ∧ nb k_ u276001 ∧ k_ ≠ gb269 ∧ k_ ≠ gb275 ∧ k_ ≠ gb288) (.slice A287_0 ((rd_G x8_2 x32_3).f0).length c287_0) ((rd_G x8_2 x32_3).f0)) := ⟨by (with_reducible repeat (first | apply VO_alloc | apply VO_drewN | apply VO_drew)); exact VO_mono (VO_far (p := ⟨gb288, 5, none⟩) (VO_far (p := ⟨gb288, 4, none⟩) (VO_far (p := ⟨gb288, 3, none⟩) (VO_far (p := ⟨gb288, 2, none⟩) (VO_far (p := ⟨gb288, 1, none⟩) (VO_far (p := ⟨gb288, 0, none⟩) (VO_mono HL287_0.out (fun k_ hk => (⟨hk, hk.2⟩ : _ ∧ k_ ≠ gb288))) (fun _ hk => hk.2) (.slice A287_0 ((rd_G x8_2 x32_3).f0).length c287_0)) (fun _ hk => hk.2) (.int .i64 ((rd_G x8_2 x32_3).f1))) (fun _ hk => hk.2) (.bool true)) (fun _ hk => hk.2) (.int .i64 ((rd_G x8_2 x32_3).f3))) (fun _ hk => hk.2) (.int .i64 ((rd_G x8_2 x32_3).f4))) (fun _ hk => hk.2) (.int .i64 ((rd_G x8_2 x32_3).f5))) (fun _ hk => ⟨hk.1.1.1.1, ⟨hk.1.1.1.2.1, ⟨hk.1.1.2, ⟨hk.1.1.1.2.2.1, ⟨hk.1.1.1.2.2.2.1, ⟨hk.1.1.1.2.2.2.2.1, ⟨hk.1.1.1.2.2.2.2.2, hk.1.2⟩⟩⟩⟩⟩⟩⟩)⟩
             have n5_ : Aside0 (((((((w33.setCell ⟨gb288, 0, none⟩ (.slice A287_0 ((rd_G x8_2 x32_3).f0).length c287_0)).setCell ⟨gb288, 1, none⟩ (.int .i64 ((rd_G x8_2 x32_3).f1))).setCell ⟨gb288, 2, none⟩ (.bool true)).setCell ⟨gb288, 3, none⟩ (.int .i64 ((rd_G x8_2 x32_3).f3))).setCell ⟨gb288, 4, none⟩ (.int .i64 ((rd_G x8_2 x32_3).f4))).setCell ⟨gb288, 5, none⟩ (.int .i64 ((rd_G x8_2 x32_3).f5))).heap[gb269]? = some (.cells #[.slice none 0 0, .slice none 0 0] 40 (0, 0))) := ⟨by (with_reducible repeat (first | refine blk_drewN ?_ _ | refine blk_drew ?_ | refine blk_alloc ?_ _)); refine blk_far ?_ NB269_288.out _; (with_reducible repeat (first | refine blk_drewN ?_ _ | refine blk_drew ?_ | refine blk_alloc ?_ _)); refine blk_far ?_ NB269_288.out _; (with_reducible repeat (first | refine blk_drewN ?_ _ | refine blk_drew ?_ | refine blk_alloc ?_ _)); refine blk_far ?_ NB269_288.out _; (with_reducible repeat (first | refine blk_drewN ?_ _ | refine blk_drew ?_ | refine blk_alloc ?_ _)); refine blk_far ?_ NB269_288.out _; (with_reducible repeat (first | refine blk_drewN ?_ _ | refine blk_drew ?_ | refine blk_alloc ?_ _)); refine blk_far ?_ NB269_288.out _; (with_reducible repeat (first | refine blk_drewN ?_ _ | refine blk_drew ?_ | refine blk_alloc ?_ _)); refine blk_far ?_ NB269_288.out _; (with_reducible repeat (first | refine blk_drewN ?_ _ | refine blk_drew ?_ | refine blk_alloc ?_ _)); exact BK269.out⟩
             have n6_ : Aside0 (((((((w33.setCell ⟨gb288, 0, none⟩ (.slice A287_0 ((rd_G x8_2 x32_3).f0).length c287_0)).setCell ⟨gb288, 1, none⟩ (.int .i64 ((rd_G x8_2 x32_3).f1))).setCell ⟨gb288, 2, none⟩ (.bool true)).setCell ⟨gb288, 3, none⟩ (.int .i64 ((rd_G x8_2 x32_3).f3))).setCell ⟨gb288, 4, none⟩ (.int .i64 ((rd_G x8_2 x32_3).f4))).setCell ⟨gb288, 5, none⟩ (.int .i64 ((rd_G x8_2 x32_3).f5))).heap[gb275]? = some (.cells #[u276000, u276001] 40 (0, 0))) := ⟨by (with_reducible repeat (first | refine blk_drewN ?_ _ | refine blk_drew ?_ | refine blk_alloc ?_ _)); refine blk_far ?_ NB275_288.out _; (with_reducible repeat (first | refine blk_drewN ?_ _ | refine blk_drew ?_ | refine blk_alloc ?_ _)); refine blk_far ?_ NB275_288.out _; (with_reducible repeat (first | refine blk_drewN ?_ _ | refine blk_drew ?_ | refine blk_alloc ?_ _)); refine blk_far ?_ NB275_288.out _; (with_reducible repeat (first | refine blk_drewN ?_ _ | refine blk_drew ?_ | refine blk_alloc ?_ _)); refine blk_far ?_ NB275_288.out _; (with_reducible repeat (first | refine blk_drewN ?_ _ | refine blk_drew ?_ | refine blk_alloc ?_ _)); refine blk_far ?_ NB275_288.out _; (with_reducible repeat (first | refine blk_drewN ?_ _ | refine blk_drew ?_ | refine blk_alloc ?_ _)); refine blk_far ?_ NB275_288.out _; (with_reducible repeat (first | refine blk_drewN ?_ _ | refine blk_drew ?_ | refine blk_alloc ?_ _)); exact BK275.out⟩
             have n7_ : Aside0 (((((((w33.setCell ⟨gb288, 0, none⟩ (.slice A287_0 ((rd_G x8_2 x32_3).f0).length c287_0)).setCell ⟨gb288, 1, none⟩ (.int .i64 ((rd_G x8_2 x32_3).f1))).setCell ⟨gb288, 2, none⟩ (.bool true)).setCell ⟨gb288, 3, none⟩ (.int .i64 ((rd_G x8_2 x32_3).f3))).setCell ⟨gb288, 4, none⟩ (.int .i64 ((rd_G x8_2 x32_3).f4))).setCell ⟨gb288, 5, none⟩ (.int .i64 ((rd_G x8_2 x32_3).f5))).heap[gb288]? = some (.cells #[.slice A287_0 ((rd_G x8_2 x32_3).f0).length c287_0, .int .i64 ((rd_G x8_2 x32_3).f1), .bool true, .int .i64 ((rd_G x8_2 x32_3).f3), .int .i64 ((rd_G x8_2 x32_3).f4), .int .i64 ((rd_G x8_2 x32_3).f5)] 32 (0, 0))) := ⟨by (with_reducible repeat (first | refine blk_drewN ?_ _ | refine blk_drew ?_ | refine blk_alloc ?_ _)); refine blk_put (cs := #[.slice A287_0 ((rd_G x8_2 x32_3).f0).length c287_0, .int .i64 ((rd_G x8_2 x32_3).f1), .bool true, .int .i64 ((rd_G x8_2 x32_3).f3), .int .i64 ((rd_G x8_2 x32_3).f4), .int .i64 0]) ?_ 5 _ rfl; (with_reducible repeat (first | refine blk_drewN ?_ _ | refine blk_drew ?_ | refine blk_alloc ?_ _)); refine blk_put (cs := #[.slice A287_0 ((rd_G x8_2 x32_3).f0).length c287_0, .int .i64 ((rd_G x8_2 x32_3).f1), .bool true, .int .i64 ((rd_G x8_2 x32_3).f3), .int .i64 0, .int .i64 0]) ?_ 4 _ rfl; (with_reducible repeat (first | refine blk_drewN ?_ _ | refine blk_drew ?_ | refine blk_alloc ?_ _)); refine blk_put (cs := #[.slice A287_0 ((rd_G x8_2 x32_3).f0).length c287_0, .int .i64 ((rd_G x8_2 x32_3).f1), .bool true, .int .i64 0, .int .i64 0, .int .i64 0]) ?_ 3 _ rfl; (with_reducible repeat (first | refine blk_drewN ?_ _ | refine blk_drew ?_ | refine blk_alloc ?_ _)); refine blk_put (cs := #[.slice A287_0 ((rd_G x8_2 x32_3).f0).length c287_0, .int .i64 ((rd_G x8_2 x32_3).f1), .bool false, .int .i64 0, .int .i64 0, .int .i64 0]) ?_ 2 _ rfl; (with_reducible repeat (first | refine blk_drewN ?_ _ | refine blk_drew ?_ | refine blk_alloc ?_ _)); refine blk_put (cs := #[.slice A287_0 ((rd_G x8_2 x32_3).f0).length c287_0, .int .i64 0, .bool false, .int .i64 0, .int .i64 0, .int .i64 0]) ?_ 1 _ rfl; (with_reducible repeat (first | refine blk_drewN ?_ _ | refine blk_drew ?_ | refine blk_alloc ?_ _)); refine blk_put (cs := #[.slice none 0 0, .int .i64 0, .bool false, .int .i64 0, .int .i64 0, .int .i64 0]) ?_ 0 _ rfl; (with_reducible repeat (first | refine blk_drewN ?_ _ | refine blk_drew ?_ | refine blk_alloc ?_ _)); exact BK288.out⟩
             have n8_ : Aside0 (Below w.heap.size w ((((((w33.setCell ⟨gb288, 0, none⟩ (.slice A287_0 ((rd_G x8_2 x32_3).f0).length c287_0)).setCell ⟨gb288, 1, none⟩ (.int .i64 ((rd_G x8_2 x32_3).f1))).setCell ⟨gb288, 2, none⟩ (.bool true)).setCell ⟨gb288, 3, none⟩ (.int .i64 ((rd_G x8_2 x32_3).f3))).setCell ⟨gb288, 4, none⟩ (.int .i64 ((rd_G x8_2 x32_3).f4))).setCell ⟨gb288, 5, none⟩ (.int .i64 ((rd_G x8_2 x32_3).f5)))) := ⟨bw_ HB.out⟩
             (try clear HO_11)
             (try clear HO_30)
             (try clear HO_276000)
             (try clear HO_276001)
             (try clear HL287_0)
             (try clear BK269)
             (try clear BK275)
             (try clear BK288)
             (try clear HB)
             generalize ((((((w33.setCell ⟨gb288, 0, none⟩ (.slice A287_0 ((rd_G x8_2 x32_3).f0).length c287_0)).setCell ⟨gb288, 1, none⟩ (.int .i64 ((rd_G x8_2 x32_3).f1))).setCell ⟨gb288, 2, none⟩ (.bool true)).setCell ⟨gb288, 3, none⟩ (.int .i64 ((rd_G x8_2 x32_3).f3))).setCell ⟨gb288, 4, none⟩ (.int .i64 ((rd_G x8_2 x32_3).f4))).setCell ⟨gb288, 5, none⟩ (.int .i64 ((rd_G x8_2 x32_3).f5))) = w37 at n0_ n1_ n2_ n3_ n4_ n5_ n6_ n7_ n8_ ⊢
             have HO_11 := n0_
             have HO_30 := n1_
             have HO_276000 := n2_
             have HO_276001 := n3_
             have HL287_0 := n4_
             have BK269 := n5_
             have BK275 := n6_
             have BK288 := n7_
             have HB := n8_
             clear n0_ n1_ n2_ n3_ n4_ n5_ n6_ n7_ n8_
             have n0_ := am_ (Kd.N_drew HO_11.out)
             have n1_ := am_ (Kd.N_drew HO_30.out)
             have n2_ := am_ (Kd.R_drew HO_276000.out)
             have n3_ := am_ (Kd.R_drew HO_276001.out)
             have n4_ := am_ (VO_drew HL287_0.out)
             have n5_ := am_ (blk_drew BK269.out)
             have n6_ := am_ (blk_drew BK275.out)
             have n7_ := am_ (blk_drew BK288.out)
             have n8_ := am_ (below_drew1 HB.out)
             replace HO_11 := n0_
             replace HO_30 := n1_
             replace HO_276000 := n2_
             replace HO_276001 := n3_
             replace HL287_0 := n4_
             replace BK269 := n5_
             replace BK275 := n6_
             replace BK288 := n7_
             replace HB := n8_
             clear n0_ n1_ n2_ n3_ n4_ n5_ n6_ n7_ n8_
             have p289 : 0 ≤ (((rd_G x8_2 x32_3).f1) : Int) := od_
             have q289 : ((rd_G x8_2 x32_3).f1) < (((rd_G x8_2 x32_3).f0).length : Int) := od_
             obtain ⟨ad289, e289, hx289_0⟩ := Kd.at_int ((VO_reads' HL287_0.out).2.2) ((rd_G x8_2 x32_3).f1) p289 q289
             cases e289
             replace p289 := eq_true p289
             replace q289 := eq_true q289
             refine start_ (n := 12) (S := fun w' => w'.cell? ⟨gb288, 0, none⟩ = some (.slice (some ad289) ((rd_G x8_2 x32_3).f0).length c287_0) ∧ w'.cell? ⟨gb288, 1, none⟩ = some (.int .i64 ((rd_G x8_2 x32_3).f1)) ∧ w'.cell? ⟨gb288, 2, none⟩ = some (.bool true) ∧ w'.cell? ⟨gb288, 3, none⟩ = some (.int .i64 ((rd_G x8_2 x32_3).f3)) ∧ w'.cell? ⟨gb288, 4, none⟩ = some (.int .i64 ((rd_G x8_2 x32_3).f4)) ∧ w'.cell? ⟨gb288, 5, none⟩ = some (.int .i64 ((rd_G x8_2 x32_3).f5)) ∧ w'.cell? (ad289.add (((rd_G x8_2 x32_3).f1)).toNat) = some (.int .i64 (rd ((rd_G x8_2 x32_3).f0) ((rd_G x8_2 x32_3).f1)))) (ds := []) (Array.replicate 12 false) (by kernel_rfl) rfl rfl ⟨cz_ BK288.out 0, cz_ BK288.out 1, cz_ BK288.out 2, cz_ BK288.out 3, cz_ BK288.out 4, cz_ BK288.out 5, hx289_0⟩ (fun hHeld => ?_); refine with_tabW impl_MixVoices.tab10 impl_MixVoices.bits10 (fun HT_ HW_ => ?_)
             generalize w37.drew = w38 at HO_11 HO_30 HO_276000 HO_276001 HL287_0 BK269 BK275 BK288 HB hx289_0 hHeld ⊢
             refine pS_ 0 36 HT_ ?_
             refine pS_ 1 37 HT_ ?_
             refine pS_ 3 39 HT_ ?_
             refine pS_ 7 43 HT_ ?_
             refine tS_ 2 38 HT_ HW_ hHeld ?_
             refine tS_ 4 40 HT_ HW_ hHeld ?_
             refine pS_ 5 41 HT_ ?_
             refine tS_ 6 42 HT_ HW_ hHeld ?_
             refine tS_ 8 44 HT_ HW_ hHeld ?_
             refine oS_ 9 45 HT_ (fun K hK => ?_)
             refine goes_ Try.func37 (by kernel_rfl) rfl #[.int .i64 (rd ((rd_G x8_2 x32_3).f0) ((rd_G x8_2 x32_3).f1)), .int .i64 ((rd_G x8_2 x32_3).f3)] (by rfl) rfl rfl (by (try simp only [List.map_toArray, List.map_cons, List.map_nil]); first | done | rfl | (simp only [List.length_drop, List.length_take]; rfl)) ?_
             with_reducible refine (impl_FixMul.calls (rd ((rd_G x8_2 x32_3).f0) ((rd_G x8_2 x32_3).f1)) ((rd_G x8_2 x32_3).f3) t290 _ A26.out).mono ?_
             rintro e w39 ⟨rfl, hb⟩
             have HS6_ := (hb.cell (World.block_lt_of_cell? _ _ (hHeld.2.2.2.2.2.2))).trans (hHeld.2.2.2.2.2.2)
             refine ⟨_, rfl, ?_⟩
             have n0_ := am_ (Kd.N_below (by (with_reducible repeat (first | apply Kd.N_alloc | apply Kd.N_drewN | apply Kd.N_drew)); exact HO_11.out) hb)
             have n1_ := am_ (Kd.N_below (by (with_reducible repeat (first | apply Kd.N_alloc | apply Kd.N_drewN | apply Kd.N_drew)); exact HO_30.out) hb)
             have n2_ := am_ (Kd.R_below (ra_ HO_276000.out) hb)
             have n3_ := am_ (Kd.R_below (ra_ HO_276001.out) hb)
             have n4_ := am_ (VO_below (by (with_reducible repeat (first | apply VO_alloc | apply VO_drewN | apply VO_drew)); exact HL287_0.out) hb)
             have n5_ := am_ (blk_below (bk_ BK269.out) hb)
             have n6_ := am_ (blk_below (bk_ BK275.out) hb)
             have n7_ := am_ (blk_below (bk_ BK288.out) hb)
             have n8_ := am_ (below_step (bw_ HB.out) hb)
             replace HO_11 := n0_
             replace HO_30 := n1_
             replace HO_276000 := n2_
             replace HO_276001 := n3_
             replace HL287_0 := n4_
             replace BK269 := n5_
             replace BK275 := n6_
             replace BK288 := n7_
             replace HB := n8_
             clear n0_ n1_ n2_ n3_ n4_ n5_ n6_ n7_ n8_
             (try clear hb)
             (try clear hb2)
             (try clear hk)
             (try clear hi)
             refine hK.out _ _ ⟨cz_ BK288.out 0, cz_ BK288.out 1, cz_ BK288.out 2, cz_ BK288.out 3, cz_ BK288.out 4, cz_ BK288.out 5, HS6_⟩ (fun hHeld => ?_)
             clear hK K
             refine nD_ 45 ?_
             refine pS_ 10 46 HT_ ?_
             refine pS_ 11 9 HT_ ?_
             refine done_ (done_of HT_.out (by kernel_rfl)) ?_
             try go_wp2
             have n0_ := am_ (Kd.N_drew HO_11.out)
             have n1_ := am_ (Kd.N_drew HO_30.out)
             have n2_ := am_ (Kd.R_drew HO_276000.out)
             have n3_ := am_ (Kd.R_drew HO_276001.out)
             have n4_ := am_ (VO_drew HL287_0.out)
             have n5_ := am_ (blk_drew BK269.out)
             have n6_ := am_ (blk_drew BK275.out)
             have n7_ := am_ (blk_drew BK288.out)
             have n8_ := am_ (below_drew1 HB.out)
             replace HO_11 := n0_
             replace HO_30 := n1_
             replace HO_276000 := n2_
             replace HO_276001 := n3_
             replace HL287_0 := n4_
             replace BK269 := n5_
             replace BK275 := n6_
             replace BK288 := n7_
             replace HB := n8_
             clear n0_ n1_ n2_ n3_ n4_ n5_ n6_ n7_ n8_
             have p291 : 0 ≤ (((rd_G x8_2 x32_3).f1) : Int) := od_
             have q291 : ((rd_G x8_2 x32_3).f1) < (((rd_G x8_2 x32_3).f0).length : Int) := od_
             obtain ⟨ad291, e291, hx291_0⟩ := Kd.at_int ((VO_reads' HL287_0.out).2.2) ((rd_G x8_2 x32_3).f1) p291 q291
             obtain rfl : ad289 = ad291 := (by injection e291)
             replace p291 := eq_true p291
             replace q291 := eq_true q291
             refine start_ (n := 12) (S := fun w' => w'.cell? ⟨gb288, 0, none⟩ = some (.slice (some ad289) ((rd_G x8_2 x32_3).f0).length c287_0) ∧ w'.cell? ⟨gb288, 1, none⟩ = some (.int .i64 ((rd_G x8_2 x32_3).f1)) ∧ w'.cell? ⟨gb288, 2, none⟩ = some (.bool true) ∧ w'.cell? ⟨gb288, 3, none⟩ = some (.int .i64 ((rd_G x8_2 x32_3).f3)) ∧ w'.cell? ⟨gb288, 4, none⟩ = some (.int .i64 ((rd_G x8_2 x32_3).f4)) ∧ w'.cell? ⟨gb288, 5, none⟩ = some (.int .i64 ((rd_G x8_2 x32_3).f5)) ∧ w'.cell? (ad289.add (((rd_G x8_2 x32_3).f1)).toNat) = some (.int .i64 (rd ((rd_G x8_2 x32_3).f0) ((rd_G x8_2 x32_3).f1)))) (ds := []) (Array.replicate 12 false) (by kernel_rfl) rfl rfl ⟨cz_ BK288.out 0, cz_ BK288.out 1, cz_ BK288.out 2, cz_ BK288.out 3, cz_ BK288.out 4, cz_ BK288.out 5, hx291_0⟩ (fun hHeld => ?_); refine with_tabW impl_MixVoices.tab11 impl_MixVoices.bits11 (fun HT_ HW_ => ?_)
             generalize w39.drew = w40 at HO_11 HO_30 HO_276000 HO_276001 HL287_0 BK269 BK275 BK288 HB hx291_0 hHeld ⊢
             refine pS_ 0 47 HT_ ?_
             refine pS_ 1 48 HT_ ?_
             refine pS_ 3 50 HT_ ?_
             refine pS_ 7 54 HT_ ?_
             refine tS_ 2 49 HT_ HW_ hHeld ?_
             refine tS_ 4 51 HT_ HW_ hHeld ?_
             refine pS_ 5 52 HT_ ?_
             refine tS_ 6 53 HT_ HW_ hHeld ?_
             refine tS_ 8 55 HT_ HW_ hHeld ?_
             refine oS_ 9 56 HT_ (fun K hK => ?_)
             refine goes_ Try.func37 (by kernel_rfl) rfl #[.int .i64 (rd ((rd_G x8_2 x32_3).f0) ((rd_G x8_2 x32_3).f1)), .int .i64 ((rd_G x8_2 x32_3).f4)] (by rfl) rfl rfl (by (try simp only [List.map_toArray, List.map_cons, List.map_nil]); first | done | rfl | (simp only [List.length_drop, List.length_take]; rfl)) ?_
             with_reducible refine (impl_FixMul.calls (rd ((rd_G x8_2 x32_3).f0) ((rd_G x8_2 x32_3).f1)) ((rd_G x8_2 x32_3).f4) t292 _ A27.out).mono ?_
             rintro e w41 ⟨rfl, hb⟩
             have HS6_ := (hb.cell (World.block_lt_of_cell? _ _ (hHeld.2.2.2.2.2.2))).trans (hHeld.2.2.2.2.2.2)
             refine ⟨_, rfl, ?_⟩
             have n0_ := am_ (Kd.N_below (by (with_reducible repeat (first | apply Kd.N_alloc | apply Kd.N_drewN | apply Kd.N_drew)); exact HO_11.out) hb)
             have n1_ := am_ (Kd.N_below (by (with_reducible repeat (first | apply Kd.N_alloc | apply Kd.N_drewN | apply Kd.N_drew)); exact HO_30.out) hb)
             have n2_ := am_ (Kd.R_below (ra_ HO_276000.out) hb)
             have n3_ := am_ (Kd.R_below (ra_ HO_276001.out) hb)
             have n4_ := am_ (VO_below (by (with_reducible repeat (first | apply VO_alloc | apply VO_drewN | apply VO_drew)); exact HL287_0.out) hb)
             have n5_ := am_ (blk_below (bk_ BK269.out) hb)
             have n6_ := am_ (blk_below (bk_ BK275.out) hb)
             have n7_ := am_ (blk_below (bk_ BK288.out) hb)
             have n8_ := am_ (below_step (bw_ HB.out) hb)
             replace HO_11 := n0_
             replace HO_30 := n1_
             replace HO_276000 := n2_
             replace HO_276001 := n3_
             replace HL287_0 := n4_
             replace BK269 := n5_
             replace BK275 := n6_
             replace BK288 := n7_
             replace HB := n8_
             clear n0_ n1_ n2_ n3_ n4_ n5_ n6_ n7_ n8_
             (try clear hb)
             (try clear hb2)
             (try clear hk)
             (try clear hi)
             refine hK.out _ _ ⟨cz_ BK288.out 0, cz_ BK288.out 1, cz_ BK288.out 2, cz_ BK288.out 3, cz_ BK288.out 4, cz_ BK288.out 5, HS6_⟩ (fun hHeld => ?_)
             clear hK K
             refine nD_ 56 ?_
             refine pS_ 10 57 HT_ ?_
             refine pS_ 11 10 HT_ ?_
             refine done_ (done_of HT_.out (by kernel_rfl)) ?_
             have hcz42_0 := cz_ BK288.out 0
             have hcz42_1 := cz_ BK288.out 1
             have hcz42_2 := cz_ BK288.out 2
             have hcz42_3 := cz_ BK288.out 3
             have hcz42_4 := cz_ BK288.out 4
             have hcz42_5 := cz_ BK288.out 5
             have hfz42_0 := blk_frozen BK288.out 0
             have hfz42_1 := blk_frozen BK288.out 1
             have hfz42_2 := blk_frozen BK288.out 2
             have hfz42_3 := blk_frozen BK288.out 3
             have hfz42_4 := blk_frozen BK288.out 4
             have hfz42_5 := blk_frozen BK288.out 5
             try go_wp2_with (first | ((with_reducible refine gate_store (t := 3) (p := 61) rfl ?_); refine se_ 3 61 (w41.setCell ⟨gb288, 1, none⟩ (.int .i64 (wrap64 (((rd_G x8_2 x32_3).f1) + 1)))) ?_; intro w43 hw; have n0_ : Aside0 (Kd.N (kg ph_ w.heap.size) 32 w43 w.heap.size (fun k_ => (w.heap.size ≤ k_) ∧ nb k_ (.slice (some ad287) x8_2.length co20) ∧ nb k_ u276000 ∧ nb k_ u276001 ∧ k_ ≠ gb269 ∧ k_ ≠ gb275 ∧ k_ ≠ gb288) u11 x11_3) := ⟨(by rw [hw]; exact (by (with_reducible repeat (first | apply Kd.N_alloc | apply Kd.N_drewN | apply Kd.N_drew)); exact Kd.N_mono (Kd.N_far (p := ⟨gb288, 1, none⟩) (Kd.N_mono HO_11.out (fun k_ hk => (⟨hk, hk.2.2.2.2.2.2⟩ : _ ∧ k_ ≠ gb288))) (fun _ hk => hk.2) (.int .i64 (wrap64 (((rd_G x8_2 x32_3).f1) + 1)))) (fun _ hk => ⟨hk.1.1, ⟨hk.1.2.1, ⟨hk.1.2.2.1, ⟨hk.1.2.2.2.1, ⟨hk.1.2.2.2.2.1, ⟨hk.1.2.2.2.2.2.1, hk.1.2.2.2.2.2.2⟩⟩⟩⟩⟩⟩)))⟩; have n1_ : Aside0 (Kd.N (kg ph_ w.heap.size) 32 w43 w.heap.size (fun k_ => (w.heap.size ≤ k_) ∧ nb k_ u11 ∧ nb k_ u276000 ∧ nb k_ u276001 ∧ k_ ≠ gb269 ∧ k_ ≠ gb275 ∧ k_ ≠ gb288) (.slice (some ad287) x8_2.length co20) x8_2) := ⟨(by rw [hw]; exact (by (with_reducible repeat (first | apply Kd.N_alloc | apply Kd.N_drewN | apply Kd.N_drew)); exact Kd.N_mono (Kd.N_far (p := ⟨gb288, 1, none⟩) (Kd.N_mono HO_30.out (fun k_ hk => (⟨hk, hk.2.2.2.2.2.2⟩ : _ ∧ k_ ≠ gb288))) (fun _ hk => hk.2) (.int .i64 (wrap64 (((rd_G x8_2 x32_3).f1) + 1)))) (fun _ hk => ⟨hk.1.1, ⟨hk.1.2.1, ⟨hk.1.2.2.1, ⟨hk.1.2.2.2.1, ⟨hk.1.2.2.2.2.1, ⟨hk.1.2.2.2.2.2.1, hk.1.2.2.2.2.2.2⟩⟩⟩⟩⟩⟩)))⟩; have n2_ : Aside0 (Kd.R (Kd.int .i64) 3 w43 w.heap.size (fun k_ => (w.heap.size ≤ k_) ∧ nb k_ u276001) u276000 x276000_2) := ⟨(by rw [hw]; exact (ra_ (Kd.R_mono (Kd.R_far (p := ⟨gb288, 1, none⟩) (Kd.R_types HO_276000.out BK288.out (by decide)) (fun _ hk => hk.2) (.int .i64 (wrap64 (((rd_G x8_2 x32_3).f1) + 1)))) (fun _ hk => ⟨hk.1.1, hk.1.2⟩))))⟩; have n3_ : Aside0 (Kd.R (Kd.int .i64) 3 w43 w.heap.size (fun k_ => (w.heap.size ≤ k_) ∧ nb k_ u276000) u276001 x276001_2) := ⟨(by rw [hw]; exact (ra_ (Kd.R_mono (Kd.R_far (p := ⟨gb288, 1, none⟩) (Kd.R_types HO_276001.out BK288.out (by decide)) (fun _ hk => hk.2) (.int .i64 (wrap64 (((rd_G x8_2 x32_3).f1) + 1)))) (fun _ hk => ⟨hk.1.1, hk.1.2⟩))))⟩; have n4_ : Aside0 (VO ph_ w.heap.size (rd_G x8_2 x32_3).g w43 w.heap.size (fun k_ => (w.heap.size ≤ k_) ∧ nb k_ u11 ∧ nb k_ (.slice (some ad287) x8_2.length co20) ∧ nb k_ u276000 ∧ nb k_ u276001 ∧ k_ ≠ gb269 ∧ k_ ≠ gb275 ∧ k_ ≠ gb288) (.slice (some ad289) ((rd_G x8_2 x32_3).f0).length c287_0) ((rd_G x8_2 x32_3).f0)) := ⟨(by rw [hw]; exact (by (with_reducible repeat (first | apply VO_alloc | apply VO_drewN | apply VO_drew)); exact VO_mono (VO_far (p := ⟨gb288, 1, none⟩) (VO_mono HL287_0.out (fun k_ hk => (⟨hk, hk.2.2.2.2.2.2.2⟩ : _ ∧ k_ ≠ gb288))) (fun _ hk => hk.2) (.int .i64 (wrap64 (((rd_G x8_2 x32_3).f1) + 1)))) (fun _ hk => ⟨hk.1.1, ⟨hk.1.2.1, ⟨hk.1.2.2.1, ⟨hk.1.2.2.2.1, ⟨hk.1.2.2.2.2.1, ⟨hk.1.2.2.2.2.2.1, ⟨hk.1.2.2.2.2.2.2.1, hk.1.2.2.2.2.2.2.2⟩⟩⟩⟩⟩⟩⟩)))⟩; have n5_ : Aside0 (w43.heap[gb269]? = some (.cells #[.slice none 0 0, .slice none 0 0] 40 (0, 0))) := ⟨(by rw [hw]; exact (by (with_reducible repeat (first | refine blk_drewN ?_ _ | refine blk_drew ?_ | refine blk_alloc ?_ _)); refine blk_far ?_ NB269_288.out _; (with_reducible repeat (first | refine blk_drewN ?_ _ | refine blk_drew ?_ | refine blk_alloc ?_ _)); exact BK269.out))⟩; have n6_ : Aside0 (w43.heap[gb275]? = some (.cells #[u276000, u276001] 40 (0, 0))) := ⟨(by rw [hw]; exact (by (with_reducible repeat (first | refine blk_drewN ?_ _ | refine blk_drew ?_ | refine blk_alloc ?_ _)); refine blk_far ?_ NB275_288.out _; (with_reducible repeat (first | refine blk_drewN ?_ _ | refine blk_drew ?_ | refine blk_alloc ?_ _)); exact BK275.out))⟩; have n7_ : Aside0 (w43.heap[gb288]? = some (.cells #[.slice (some ad289) ((rd_G x8_2 x32_3).f0).length c287_0, .int .i64 (wrap64 (((rd_G x8_2 x32_3).f1) + 1)), .bool true, .int .i64 ((rd_G x8_2 x32_3).f3), .int .i64 ((rd_G x8_2 x32_3).f4), .int .i64 ((rd_G x8_2 x32_3).f5)] 32 (0, 0))) := ⟨(by rw [hw]; exact (by (with_reducible repeat (first | refine blk_drewN ?_ _ | refine blk_drew ?_ | refine blk_alloc ?_ _)); refine blk_put (cs := #[.slice (some ad289) ((rd_G x8_2 x32_3).f0).length c287_0, .int .i64 ((rd_G x8_2 x32_3).f1), .bool true, .int .i64 ((rd_G x8_2 x32_3).f3), .int .i64 ((rd_G x8_2 x32_3).f4), .int .i64 ((rd_G x8_2 x32_3).f5)]) ?_ 1 _ rfl; (with_reducible repeat (first | refine blk_drewN ?_ _ | refine blk_drew ?_ | refine blk_alloc ?_ _)); exact BK288.out))⟩; have n8_ : Aside0 (Below w.heap.size w w43) := ⟨(by rw [hw]; exact (bw_ HB.out))⟩; clear hw; replace HO_11 := n0_; replace HO_30 := n1_; replace HO_276000 := n2_; replace HO_276001 := n3_; replace HL287_0 := n4_; replace BK269 := n5_; replace BK275 := n6_; replace BK288 := n7_; replace HB := n8_; clear n0_ n1_ n2_ n3_ n4_ n5_ n6_ n7_ n8_; have hcz44_0 := cz_ BK288.out 0; have hcz44_1 := cz_ BK288.out 1; have hcz44_2 := cz_ BK288.out 2; have hcz44_3 := cz_ BK288.out 3; have hcz44_4 := cz_ BK288.out 4; have hcz44_5 := cz_ BK288.out 5; have hfz44_0 := blk_frozen BK288.out 0; have hfz44_1 := blk_frozen BK288.out 1; have hfz44_2 := blk_frozen BK288.out 2; have hfz44_3 := blk_frozen BK288.out 3; have hfz44_4 := blk_frozen BK288.out 4; have hfz44_5 := blk_frozen BK288.out 5) | ((with_reducible refine gate_store (t := 3) (p := 72) rfl ?_); refine se_ 3 72 (w43.setCell ⟨gb288, 1, none⟩ (.int .i64 0)) ?_; intro w45 hw; have n0_ : Aside0 (Kd.N (kg ph_ w.heap.size) 32 w45 w.heap.size (fun k_ => (w.heap.size ≤ k_) ∧ nb k_ (.slice (some ad287) x8_2.length co20) ∧ nb k_ u276000 ∧ nb k_ u276001 ∧ k_ ≠ gb269 ∧ k_ ≠ gb275 ∧ k_ ≠ gb288) u11 x11_3) := ⟨(by rw [hw]; exact (by (with_reducible repeat (first | apply Kd.N_alloc | apply Kd.N_drewN | apply Kd.N_drew)); exact Kd.N_mono (Kd.N_far (p := ⟨gb288, 1, none⟩) (Kd.N_mono HO_11.out (fun k_ hk => (⟨hk, hk.2.2.2.2.2.2⟩ : _ ∧ k_ ≠ gb288))) (fun _ hk => hk.2) (.int .i64 0)) (fun _ hk => ⟨hk.1.1, ⟨hk.1.2.1, ⟨hk.1.2.2.1, ⟨hk.1.2.2.2.1, ⟨hk.1.2.2.2.2.1, ⟨hk.1.2.2.2.2.2.1, hk.1.2.2.2.2.2.2⟩⟩⟩⟩⟩⟩)))⟩; have n1_ : Aside0 (Kd.N (kg ph_ w.heap.size) 32 w45 w.heap.size (fun k_ => (w.heap.size ≤ k_) ∧ nb k_ u11 ∧ nb k_ u276000 ∧ nb k_ u276001 ∧ k_ ≠ gb269 ∧ k_ ≠ gb275 ∧ k_ ≠ gb288) (.slice (some ad287) x8_2.length co20) x8_2) := ⟨(by rw [hw]; exact (by (with_reducible repeat (first | apply Kd.N_alloc | apply Kd.N_drewN | apply Kd.N_drew)); exact Kd.N_mono (Kd.N_far (p := ⟨gb288, 1, none⟩) (Kd.N_mono HO_30.out (fun k_ hk => (⟨hk, hk.2.2.2.2.2.2⟩ : _ ∧ k_ ≠ gb288))) (fun _ hk => hk.2) (.int .i64 0)) (fun _ hk => ⟨hk.1.1, ⟨hk.1.2.1, ⟨hk.1.2.2.1, ⟨hk.1.2.2.2.1, ⟨hk.1.2.2.2.2.1, ⟨hk.1.2.2.2.2.2.1, hk.1.2.2.2.2.2.2⟩⟩⟩⟩⟩⟩)))⟩; have n2_ : Aside0 (Kd.R (Kd.int .i64) 3 w45 w.heap.size (fun k_ => (w.heap.size ≤ k_) ∧ nb k_ u276001) u276000 x276000_2) := ⟨(by rw [hw]; exact (ra_ (Kd.R_mono (Kd.R_far (p := ⟨gb288, 1, none⟩) (Kd.R_types HO_276000.out BK288.out (by decide)) (fun _ hk => hk.2) (.int .i64 0)) (fun _ hk => ⟨hk.1.1, hk.1.2⟩))))⟩; have n3_ : Aside0 (Kd.R (Kd.int .i64) 3 w45 w.heap.size (fun k_ => (w.heap.size ≤ k_) ∧ nb k_ u276000) u276001 x276001_2) := ⟨(by rw [hw]; exact (ra_ (Kd.R_mono (Kd.R_far (p := ⟨gb288, 1, none⟩) (Kd.R_types HO_276001.out BK288.out (by decide)) (fun _ hk => hk.2) (.int .i64 0)) (fun _ hk => ⟨hk.1.1, hk.1.2⟩))))⟩; have n4_ : Aside0 (VO ph_ w.heap.size (rd_G x8_2 x32_3).g w45 w.heap.size (fun k_ => (w.heap.size ≤ k_) ∧ nb k_ u11 ∧ nb k_ (.slice (some ad287) x8_2.length co20) ∧ nb k_ u276000 ∧ nb k_ u276001 ∧ k_ ≠ gb269 ∧ k_ ≠ gb275 ∧ k_ ≠ gb288) (.slice (some ad289) ((rd_G x8_2 x32_3).f0).length c287_0) ((rd_G x8_2 x32_3).f0)) := ⟨(by rw [hw]; exact (by (with_reducible repeat (first | apply VO_alloc | apply VO_drewN | apply VO_drew)); exact VO_mono (VO_far (p := ⟨gb288, 1, none⟩) (VO_mono HL287_0.out (fun k_ hk => (⟨hk, hk.2.2.2.2.2.2.2⟩ : _ ∧ k_ ≠ gb288))) (fun _ hk => hk.2) (.int .i64 0)) (fun _ hk => ⟨hk.1.1, ⟨hk.1.2.1, ⟨hk.1.2.2.1, ⟨hk.1.2.2.2.1, ⟨hk.1.2.2.2.2.1, ⟨hk.1.2.2.2.2.2.1, ⟨hk.1.2.2.2.2.2.2.1, hk.1.2.2.2.2.2.2.2⟩⟩⟩⟩⟩⟩⟩)))⟩; have n5_ : Aside0 (w45.heap[gb269]? = some (.cells #[.slice none 0 0, .slice none 0 0] 40 (0, 0))) := ⟨(by rw [hw]; exact (by (with_reducible repeat (first | refine blk_drewN ?_ _ | refine blk_drew ?_ | refine blk_alloc ?_ _)); refine blk_far ?_ NB269_288.out _; (with_reducible repeat (first | refine blk_drewN ?_ _ | refine blk_drew ?_ | refine blk_alloc ?_ _)); exact BK269.out))⟩; have n6_ : Aside0 (w45.heap[gb275]? = some (.cells #[u276000, u276001] 40 (0, 0))) := ⟨(by rw [hw]; exact (by (with_reducible repeat (first | refine blk_drewN ?_ _ | refine blk_drew ?_ | refine blk_alloc ?_ _)); refine blk_far ?_ NB275_288.out _; (with_reducible repeat (first | refine blk_drewN ?_ _ | refine blk_drew ?_ | refine blk_alloc ?_ _)); exact BK275.out))⟩; have n7_ : Aside0 (w45.heap[gb288]? = some (.cells #[.slice (some ad289) ((rd_G x8_2 x32_3).f0).length c287_0, .int .i64 0, .bool true, .int .i64 ((rd_G x8_2 x32_3).f3), .int .i64 ((rd_G x8_2 x32_3).f4), .int .i64 ((rd_G x8_2 x32_3).f5)] 32 (0, 0))) := ⟨(by rw [hw]; exact (by (with_reducible repeat (first | refine blk_drewN ?_ _ | refine blk_drew ?_ | refine blk_alloc ?_ _)); refine blk_put (cs := #[.slice (some ad289) ((rd_G x8_2 x32_3).f0).length c287_0, .int .i64 (wrap64 (((rd_G x8_2 x32_3).f1) + 1)), .bool true, .int .i64 ((rd_G x8_2 x32_3).f3), .int .i64 ((rd_G x8_2 x32_3).f4), .int .i64 ((rd_G x8_2 x32_3).f5)]) ?_ 1 _ rfl; (with_reducible repeat (first | refine blk_drewN ?_ _ | refine blk_drew ?_ | refine blk_alloc ?_ _)); exact BK288.out))⟩; have n8_ : Aside0 (Below w.heap.size w w45) := ⟨(by rw [hw]; exact (bw_ HB.out))⟩; clear hw; replace HO_11 := n0_; replace HO_30 := n1_; replace HO_276000 := n2_; replace HO_276001 := n3_; replace HL287_0 := n4_; replace BK269 := n5_; replace BK275 := n6_; replace BK288 := n7_; replace HB := n8_; clear n0_ n1_ n2_ n3_ n4_ n5_ n6_ n7_ n8_; have hcz46_0 := cz_ BK288.out 0; have hcz46_1 := cz_ BK288.out 1; have hcz46_2 := cz_ BK288.out 2; have hcz46_3 := cz_ BK288.out 3; have hcz46_4 := cz_ BK288.out 4; have hcz46_5 := cz_ BK288.out 5; have hfz46_0 := blk_frozen BK288.out 0; have hfz46_1 := blk_frozen BK288.out 1; have hfz46_2 := blk_frozen BK288.out 2; have hfz46_3 := blk_frozen BK288.out 3; have hfz46_4 := blk_frozen BK288.out 4; have hfz46_5 := blk_frozen BK288.out 5) | ((with_reducible refine gate_dst (N := 81) rfl ?_); refine bsl6_ 28 32 Try.underlying28 info32 81 (.tmp 80) _ _ _ _ _ _ ?_) | ((with_reducible refine gate_builtin (b := .append) (xs := #[.tmp 79, .tmp 81]) rfl ?_); at_builtin; refine Kd.N_append (kg ph_ w.heap.size) (w0 := w) w.heap.size rfl (.tmp 79) (.tmp 81) 28 32 (.agg #[(.slice none 0 0), (.int .i64 0), (.bool false), (.int .i64 0), (.int .i64 0), (.int .i64 0)]) 64 rfl Try.underlying28 info32 rfl (Nat.succ_pos 5) (by omega) u11 x11_3 (⟨(rd_G x8_2 x32_3).f0, 0, true, (rd_G x8_2 x32_3).f3, (rd_G x8_2 x32_3).f4, (rd_G x8_2 x32_3).f5, (rd_G x8_2 x32_3).g⟩ : G32) [.slice (some ad289) ((rd_G x8_2 x32_3).f0).length c287_0, .int .i64 0, .bool true, .int .i64 ((rd_G x8_2 x32_3).f3), .int .i64 ((rd_G x8_2 x32_3).f4), .int .i64 ((rd_G x8_2 x32_3).f5)] (fun k_ => (w.heap.size ≤ k_) ∧ nb k_ (.slice (some ad287) x8_2.length co20) ∧ nb k_ u276000 ∧ nb k_ u276001 ∧ k_ ≠ gb269 ∧ k_ ≠ gb275 ∧ k_ ≠ gb288) (fun k_ => ((fun k_ => (w.heap.size ≤ k_) ∧ nb k_ (.slice (some ad287) x8_2.length co20) ∧ nb k_ u276000 ∧ nb k_ u276001 ∧ k_ ≠ gb269 ∧ k_ ≠ gb275 ∧ k_ ≠ gb288)) k_ ∧ nb k_ u11) rfl rfl ?aP (fun _ hk => hk) ?aF ?aO ?aB ?aS ?aL ?_; (case aP => exact (kg_mkF _ _ (⟨(rd_G x8_2 x32_3).f0, 0, true, (rd_G x8_2 x32_3).f3, (rd_G x8_2 x32_3).f4, (rd_G x8_2 x32_3).f5, (rd_G x8_2 x32_3).g⟩ : G32) (VO_reads' (VO_mono (ok' := (fun k_ => ((fun k_ => (w.heap.size ≤ k_) ∧ nb k_ (.slice (some ad287) x8_2.length co20) ∧ nb k_ u276000 ∧ nb k_ u276001 ∧ k_ ≠ gb269 ∧ k_ ≠ gb275 ∧ k_ ≠ gb288)) k_ ∧ nb k_ u11)) (HL287_0.out) (fun k_ hk => ⟨⟨hk.1, ⟨hk.2.2.1, ⟨hk.2.2.2.1, ⟨hk.2.2.2.2.1, ⟨hk.2.2.2.2.2.1, ⟨hk.2.2.2.2.2.2.1, hk.2.2.2.2.2.2.2⟩⟩⟩⟩⟩⟩, hk.2.1⟩))).2.1 (VO_F (VO_mono (ok' := (fun k_ => ((fun k_ => (w.heap.size ≤ k_) ∧ nb k_ (.slice (some ad287) x8_2.length co20) ∧ nb k_ u276000 ∧ nb k_ u276001 ∧ k_ ≠ gb269 ∧ k_ ≠ gb275 ∧ k_ ≠ gb288)) k_ ∧ nb k_ u11)) (HL287_0.out) (fun k_ hk => ⟨⟨hk.1, ⟨hk.2.2.1, ⟨hk.2.2.2.1, ⟨hk.2.2.2.2.1, ⟨hk.2.2.2.2.2.1, ⟨hk.2.2.2.2.2.2.1, hk.2.2.2.2.2.2.2⟩⟩⟩⟩⟩⟩, hk.2.1⟩))))); (case aB => exact (bw_ HB.out)); (case aF => exact (fun k_ hk => ⟨(Nat.le_trans (below_size (bw_ HB.out)) hk), Kd.fresh' (Kd.N_lt (by (with_reducible repeat (first | apply Kd.N_alloc | apply Kd.N_drewN | apply Kd.N_drew)); exact HO_30.out)) k_ hk, Kd.fresh' (Kd.R_lt (ra_ HO_276000.out)) k_ hk, Kd.fresh' (Kd.R_lt (ra_ HO_276001.out)) k_ hk, Kd.freshB (bk_ BK269.out) k_ hk, Kd.freshB (bk_ BK275.out) k_ hk, Kd.freshB (bk_ BK288.out) k_ hk⟩)); (case aO => exact (by (with_reducible repeat (first | apply Kd.N_alloc | apply Kd.N_drewN | apply Kd.N_drew)); exact HO_11.out)); (case aS => exact (below_size (bw_ HB.out))); (case aL => have := LMc32.out; omega); intro v294 w47 ho hb hg hat; rw [← Ny293.out] at ho; have n0_ := am_ (Kd.N_afterv (ok := (fun k_ => (w.heap.size ≤ k_) ∧ nb k_ u276000 ∧ nb k_ u276001 ∧ k_ ≠ gb269 ∧ k_ ≠ gb275 ∧ k_ ≠ gb288)) (by (with_reducible repeat (first | apply Kd.N_alloc | apply Kd.N_drewN | apply Kd.N_drew)); exact Kd.N_mono HO_30.out (fun _ hk => ⟨⟨hk.1, ⟨hk.2.2.1, ⟨hk.2.2.2.1, ⟨hk.2.2.2.2.1, ⟨hk.2.2.2.2.2.1, hk.2.2.2.2.2.2⟩⟩⟩⟩⟩, hk.2.1⟩)) hg hat); have n1_ := am_ (Kd.R_over' (ra_ HO_276000.out) (Kd.N_typed (by (with_reducible repeat (first | apply Kd.N_alloc | apply Kd.N_drewN | apply Kd.N_drew)); exact HO_11.out)) (by decide) hg); have n2_ := am_ (Kd.R_over' (ra_ HO_276001.out) (Kd.N_typed (by (with_reducible repeat (first | apply Kd.N_alloc | apply Kd.N_drewN | apply Kd.N_drew)); exact HO_11.out)) (by decide) hg); have n3_ := am_ (blk_grown (bk_ BK269.out) hg (Kd.N_ne HO_11.out BK269.out (by decide))); have n4_ := am_ (blk_grown (bk_ BK275.out) hg (Kd.N_ne HO_11.out BK275.out (by decide))); have n5_ := am_ (VO_afterv (ok := (fun k_ => (w.heap.size ≤ k_) ∧ nb k_ (.slice (some ad287) x8_2.length co20) ∧ nb k_ u276000 ∧ nb k_ u276001 ∧ k_ ≠ gb269 ∧ k_ ≠ gb275 ∧ k_ ≠ gb288)) (by (with_reducible repeat (first | apply VO_alloc | apply VO_drewN | apply VO_drew)); exact VO_mono HL287_0.out (fun _ hk => ⟨⟨hk.1, ⟨hk.2.2.1, ⟨hk.2.2.2.1, ⟨hk.2.2.2.2.1, ⟨hk.2.2.2.2.2.1, ⟨hk.2.2.2.2.2.2.1, hk.2.2.2.2.2.2.2⟩⟩⟩⟩⟩⟩, hk.2.1⟩)) hg hat); have n6_ := am_ (blk_grown (bk_ BK288.out) hg (Kd.N_away HO_11.out (fun _ hk => hk.2.2.2.2.2.2))); have n7_ := am_ (hb); have n8_ := am_ (ho); clear HO_11; replace HO_30 := n0_; replace HO_276000 := n1_; replace HO_276001 := n2_; replace BK269 := n3_; replace BK275 := n4_; replace HL287_0 := n5_; replace BK288 := n6_; replace HB := n7_; have HO295 := n8_; clear n0_ n1_ n2_ n3_ n4_ n5_ n6_ n7_ n8_; clear ho hb hg hat))
             go_roundg k3
             case measure => have := HJ2.out; have := HK2.out; have := HK3.out; omega
             case rel => exact ⟨(wrap64 (x9_3 + t290)), (wrap64 (x10_3 + t292)), (y293), (wrap64 (x32_3 + 1)), sq_, sq_, sq_, H', ⟨by have := HJ2.out; have := HK2.out; have := HK3.out; omega⟩, ⟨by (with_reducible repeat (first | apply Kd.N_alloc | apply Kd.N_drewN | apply Kd.N_drew)); exact Kd.N_mono HO295.out (fun _ hk => ⟨hk.1, ⟨hk.2.1, ⟨hk.2.2.1, ⟨hk.2.2.2.1, ⟨hk.2.2.2.2.1, hk.2.2.2.2.2.1⟩⟩⟩⟩⟩)⟩, ⟨by (with_reducible repeat (first | apply Kd.N_alloc | apply Kd.N_drewN | apply Kd.N_drew)); exact Kd.N_mono HO_30.out (fun _ hk => ⟨hk.1.1, ⟨hk.2, ⟨hk.1.2.1, ⟨hk.1.2.2.1, ⟨hk.1.2.2.2.1, hk.1.2.2.2.2.1⟩⟩⟩⟩⟩)⟩, ⟨ra_ HO_276000.out⟩, ⟨ra_ HO_276001.out⟩, ⟨bk_ BK269.out⟩, ⟨bk_ BK275.out⟩, ⟨bw_ HB.out⟩⟩
            ·as_aux_lemma =>
             rw [if_neg c31] at H
             have c31b0 : decide (0 < (((rd_G x8_2 x32_3).f0).length : Int)) = false := decide_eq_false c31
             have c31b1 : decide (0 < ((rd_G x8_2 x32_3).f0).length) = false := decide_eq_false (by omega)
             clear c31
             have H' := am_ H
             clear H
             have p287 : 0 ≤ (x32_3 : Int) := od_
             have q287 : x32_3 < (x8_2.length : Int) := od_
             obtain ⟨ad287, A287_0, c287_0, e287, hx287_0, hx287_1, hx287_2, hx287_3, hx287_4, hx287_5, hl287_0, hi287_0⟩ := at_G (Kd.N_reads' HO_30.out).2.2 x32_3 p287 q287
             (try rw [← Nbq29.out] at hx287_2)
             cases e287
             obtain ⟨ce287, hce287, hMe287, hcc287⟩ := Kd.N_get HO_30.out zG x32_3 p287 (by first | exact q287 | exact od_ | (have e_ := (Kd.N_reads' HO_30.out).1; omega))
             obtain ⟨ua287_0, uc287_0, rfl, ul287_0, ge287_0⟩ := kg_openF hMe287
             have hv287_0 := hcc287 0 _ rfl
             rw [Nat.add_zero] at hv287_0
             replace hv287_0 := Option.some.inj (hv287_0.symm.trans hx287_0)
             injection hv287_0 with hva_ hvn_ hvc_
             rw [hva_, hvc_] at ge287_0
             rw [hvc_] at ul287_0
             have HL287_0 := am_ (show VO ph_ w.heap.size (rd_G x8_2 x32_3).g _ w.heap.size _ _ ((rd_G x8_2 x32_3).f0) from VO_mk ul287_0 ge287_0)
             clear hva_ hvn_ hvc_ ge287_0 ul287_0
             clear hcc287 hce287
             have HR287_0 := am_ hi287_0
             have HC287_0 := am_ hl287_0
             clear hi287_0 hl287_0
             replace p287 := eq_true p287
             replace q287 := eq_true q287
             try go_wp2_with (first | ((with_reducible refine gate_dst (N := 13) rfl ?_); refine bx_ 13 #[.slice none 0 0, .int .i64 0, .bool false, .int .i64 0, .int .i64 0, .int .i64 0] 32 ?_; intro gb288 hg w48 hbox hb; have n0_ := am_ (Kd.N_below (Kd.N_elderB (by (with_reducible repeat (first | apply Kd.N_alloc | apply Kd.N_drewN | apply Kd.N_drew)); exact HO_11.out) gb288 (Nat.le_of_eq hg.symm)) hb); have n1_ := am_ (Kd.N_below (Kd.N_elderB (by (with_reducible repeat (first | apply Kd.N_alloc | apply Kd.N_drewN | apply Kd.N_drew)); exact HO_30.out) gb288 (Nat.le_of_eq hg.symm)) hb); have n2_ := am_ (Kd.R_below (ra_ HO_276000.out) hb); have n3_ := am_ (Kd.R_below (ra_ HO_276001.out) hb); have n4_ := am_ (VO_below (VO_elderB (by (with_reducible repeat (first | apply VO_alloc | apply VO_drewN | apply VO_drew)); exact HL287_0.out) gb288 (Nat.le_of_eq hg.symm)) hb); have n5_ := am_ (blk_below (bk_ BK269.out) hb); have n6_ := am_ (blk_below (bk_ BK275.out) hb); have n7_ := am_ (Kd.C_below (by repeat (first | (with_reducible exact HR287_0.out) | (with_reducible refine Kd.C_alloc ?_ _) | (with_reducible refine Kd.C_drewN ?_ _) | (with_reducible refine Kd.C_drew ?_) | exact HR287_0.out)) hb); have n8_ := am_ (below_step (bw_ HB.out) hb); have n9_ := am_ (hbox); have n10_ := am_ (gs_ hg (bw_ HB.out)); have n11_ := am_ (gs_ hg (bw_ HB.out)); have n12_ := am_ (nl_ hg (bk_ BK269.out)); have n13_ := am_ (ng_ hg (bk_ BK269.out)); have n14_ := am_ (nl_ hg (bk_ BK275.out)); have n15_ := am_ (ng_ hg (bk_ BK275.out)); replace HO_11 := n0_; replace HO_30 := n1_; replace HO_276000 := n2_; replace HO_276001 := n3_; replace HL287_0 := n4_; replace BK269 := n5_; replace BK275 := n6_; replace HR287_0 := n7_; replace HB := n8_; have BK288 := n9_; have GW288 := n10_; have GE288 := n11_; have NB269_288 := n12_; have NB288_269 := n13_; have NB275_288 := n14_; have NB288_275 := n15_; clear n0_ n1_ n2_ n3_ n4_ n5_ n6_ n7_ n8_ n9_ n10_ n11_ n12_ n13_ n14_ n15_; clear hb hbox hg; have hnb49 := NB288_269.out; have hnc49 := NB269_288.out; have hnb50 := NB288_275.out; have hnc50 := NB275_288.out; have hcz51_0 := cz_ BK288.out 0; have hcz51_1 := cz_ BK288.out 1; have hcz51_2 := cz_ BK288.out 2; have hcz51_3 := cz_ BK288.out 3; have hcz51_4 := cz_ BK288.out 4; have hcz51_5 := cz_ BK288.out 5; have hfz51_0 := blk_frozen BK288.out 0; have hfz51_1 := blk_frozen BK288.out 1; have hfz51_2 := blk_frozen BK288.out 2; have hfz51_3 := blk_frozen BK288.out 3; have hfz51_4 := blk_frozen BK288.out 4; have hfz51_5 := blk_frozen BK288.out 5))
             have n0_ : Aside0 (Kd.N (kg ph_ w.heap.size) 32 ((((((w48.setCell ⟨gb288, 0, none⟩ (.slice A287_0 ((rd_G x8_2 x32_3).f0).length c287_0)).setCell ⟨gb288, 1, none⟩ (.int .i64 ((rd_G x8_2 x32_3).f1))).setCell ⟨gb288, 2, none⟩ (.bool true)).setCell ⟨gb288, 3, none⟩ (.int .i64 ((rd_G x8_2 x32_3).f3))).setCell ⟨gb288, 4, none⟩ (.int .i64 ((rd_G x8_2 x32_3).f4))).setCell ⟨gb288, 5, none⟩ (.int .i64 ((rd_G x8_2 x32_3).f5))) w.heap.size (fun k_ => (w.heap.size ≤ k_) ∧ nb k_ (.slice (some ad287) x8_2.length co20) ∧ nb k_ u276000 ∧ nb k_ u276001 ∧ k_ ≠ gb269 ∧ k_ ≠ gb275 ∧ k_ ≠ gb288) u11 x11_3) := ⟨by (with_reducible repeat (first | apply Kd.N_alloc | apply Kd.N_drewN | apply Kd.N_drew)); exact Kd.N_mono (Kd.N_far (p := ⟨gb288, 5, none⟩) (Kd.N_far (p := ⟨gb288, 4, none⟩) (Kd.N_far (p := ⟨gb288, 3, none⟩) (Kd.N_far (p := ⟨gb288, 2, none⟩) (Kd.N_far (p := ⟨gb288, 1, none⟩) (Kd.N_far (p := ⟨gb288, 0, none⟩) (Kd.N_mono HO_11.out (fun k_ hk => (⟨hk, hk.2⟩ : _ ∧ k_ ≠ gb288))) (fun _ hk => hk.2) (.slice A287_0 ((rd_G x8_2 x32_3).f0).length c287_0)) (fun _ hk => hk.2) (.int .i64 ((rd_G x8_2 x32_3).f1))) (fun _ hk => hk.2) (.bool true)) (fun _ hk => hk.2) (.int .i64 ((rd_G x8_2 x32_3).f3))) (fun _ hk => hk.2) (.int .i64 ((rd_G x8_2 x32_3).f4))) (fun _ hk => hk.2) (.int .i64 ((rd_G x8_2 x32_3).f5))) (fun _ hk => ⟨hk.1.1.1, ⟨hk.1.1.2.1, ⟨hk.1.1.2.2.1, ⟨hk.1.1.2.2.2.1, ⟨hk.1.1.2.2.2.2.1, ⟨hk.1.1.2.2.2.2.2, hk.1.2⟩⟩⟩⟩⟩⟩)⟩
             have n1_ : Aside0 (Kd.N (kg ph_ w.heap.size) 32 ((((((w48.setCell ⟨gb288, 0, none⟩ (.slice A287_0 ((rd_G x8_2 x32_3).f0).length c287_0)).setCell ⟨gb288, 1, none⟩ (.int .i64 ((rd_G x8_2 x32_3).f1))).setCell ⟨gb288, 2, none⟩ (.bool true)).setCell ⟨gb288, 3, none⟩ (.int .i64 ((rd_G x8_2 x32_3).f3))).setCell ⟨gb288, 4, none⟩ (.int .i64 ((rd_G x8_2 x32_3).f4))).setCell ⟨gb288, 5, none⟩ (.int .i64 ((rd_G x8_2 x32_3).f5))) w.heap.size (fun k_ => (w.heap.size ≤ k_) ∧ nb k_ u11 ∧ nb k_ u276000 ∧ nb k_ u276001 ∧ k_ ≠ gb269 ∧ k_ ≠ gb275 ∧ k_ ≠ gb288) (.slice (some ad287) x8_2.length co20) x8_2) := ⟨by (with_reducible repeat (first | apply Kd.N_alloc | apply Kd.N_drewN | apply Kd.N_drew)); exact Kd.N_mono (Kd.N_far (p := ⟨gb288, 5, none⟩) (Kd.N_far (p := ⟨gb288, 4, none⟩) (Kd.N_far (p := ⟨gb288, 3, none⟩) (Kd.N_far (p := ⟨gb288, 2, none⟩) (Kd.N_far (p := ⟨gb288, 1, none⟩) (Kd.N_far (p := ⟨gb288, 0, none⟩) (Kd.N_mono HO_30.out (fun k_ hk => (⟨hk, hk.2⟩ : _ ∧ k_ ≠ gb288))) (fun _ hk => hk.2) (.slice A287_0 ((rd_G x8_2 x32_3).f0).length c287_0)) (fun _ hk => hk.2) (.int .i64 ((rd_G x8_2 x32_3).f1))) (fun _ hk => hk.2) (.bool true)) (fun _ hk => hk.2) (.int .i64 ((rd_G x8_2 x32_3).f3))) (fun _ hk => hk.2) (.int .i64 ((rd_G x8_2 x32_3).f4))) (fun _ hk => hk.2) (.int .i64 ((rd_G x8_2 x32_3).f5))) (fun _ hk => ⟨hk.1.1.1, ⟨hk.1.1.2.1, ⟨hk.1.1.2.2.1, ⟨hk.1.1.2.2.2.1, ⟨hk.1.1.2.2.2.2.1, ⟨hk.1.1.2.2.2.2.2, hk.1.2⟩⟩⟩⟩⟩⟩)⟩
             have n2_ : Aside0 (Kd.R (Kd.int .i64) 3 ((((((w48.setCell ⟨gb288, 0, none⟩ (.slice A287_0 ((rd_G x8_2 x32_3).f0).length c287_0)).setCell ⟨gb288, 1, none⟩ (.int .i64 ((rd_G x8_2 x32_3).f1))).setCell ⟨gb288, 2, none⟩ (.bool true)).setCell ⟨gb288, 3, none⟩ (.int .i64 ((rd_G x8_2 x32_3).f3))).setCell ⟨gb288, 4, none⟩ (.int .i64 ((rd_G x8_2 x32_3).f4))).setCell ⟨gb288, 5, none⟩ (.int .i64 ((rd_G x8_2 x32_3).f5))) w.heap.size (fun k_ => (w.heap.size ≤ k_) ∧ nb k_ u276001) u276000 x276000_2) := ⟨ra_ (Kd.R_mono (Kd.R_far (p := ⟨gb288, 5, none⟩) (Kd.R_far (p := ⟨gb288, 4, none⟩) (Kd.R_far (p := ⟨gb288, 3, none⟩) (Kd.R_far (p := ⟨gb288, 2, none⟩) (Kd.R_far (p := ⟨gb288, 1, none⟩) (Kd.R_far (p := ⟨gb288, 0, none⟩) (Kd.R_types HO_276000.out BK288.out (by decide)) (fun _ hk => hk.2) (.slice A287_0 ((rd_G x8_2 x32_3).f0).length c287_0)) (fun _ hk => hk.2) (.int .i64 ((rd_G x8_2 x32_3).f1))) (fun _ hk => hk.2) (.bool true)) (fun _ hk => hk.2) (.int .i64 ((rd_G x8_2 x32_3).f3))) (fun _ hk => hk.2) (.int .i64 ((rd_G x8_2 x32_3).f4))) (fun _ hk => hk.2) (.int .i64 ((rd_G x8_2 x32_3).f5))) (fun _ hk => ⟨hk.1.1, hk.1.2⟩))⟩
             have n3_ : Aside0 (Kd.R (Kd.int .i64) 3 ((((((w48.setCell ⟨gb288, 0, none⟩ (.slice A287_0 ((rd_G x8_2 x32_3).f0).length c287_0)).setCell ⟨gb288, 1, none⟩ (.int .i64 ((rd_G x8_2 x32_3).f1))).setCell ⟨gb288, 2, none⟩ (.bool true)).setCell ⟨gb288, 3, none⟩ (.int .i64 ((rd_G x8_2 x32_3).f3))).setCell ⟨gb288, 4, none⟩ (.int .i64 ((rd_G x8_2 x32_3).f4))).setCell ⟨gb288, 5, none⟩ (.int .i64 ((rd_G x8_2 x32_3).f5))) w.heap.size (fun k_ => (w.heap.size ≤ k_) ∧ nb k_ u276000) u276001 x276001_2) := ⟨ra_ (Kd.R_mono (Kd.R_far (p := ⟨gb288, 5, none⟩) (Kd.R_far (p := ⟨gb288, 4, none⟩) (Kd.R_far (p := ⟨gb288, 3, none⟩) (Kd.R_far (p := ⟨gb288, 2, none⟩) (Kd.R_far (p := ⟨gb288, 1, none⟩) (Kd.R_far (p := ⟨gb288, 0, none⟩) (Kd.R_types HO_276001.out BK288.out (by decide)) (fun _ hk => hk.2) (.slice A287_0 ((rd_G x8_2 x32_3).f0).length c287_0)) (fun _ hk => hk.2) (.int .i64 ((rd_G x8_2 x32_3).f1))) (fun _ hk => hk.2) (.bool true)) (fun _ hk => hk.2) (.int .i64 ((rd_G x8_2 x32_3).f3))) (fun _ hk => hk.2) (.int .i64 ((rd_G x8_2 x32_3).f4))) (fun _ hk => hk.2) (.int .i64 ((rd_G x8_2 x32_3).f5))) (fun _ hk => ⟨hk.1.1, hk.1.2⟩))⟩
             have n4_ : Aside0 (VO ph_ w.heap.size (rd_G x8_2 x32_3).g ((((((w48.setCell ⟨gb288, 0, none⟩ (.slice A287_0 ((rd_G x8_2 x32_3).f0).length c287_0)).setCell ⟨gb288, 1, none⟩ (.int .i64 ((rd_G x8_2 x32_3).f1))).setCell ⟨gb288, 2, none⟩ (.bool true)).setCell ⟨gb288, 3, none⟩ (.int .i64 ((rd_G x8_2 x32_3).f3))).setCell ⟨gb288, 4, none⟩ (.int .i64 ((rd_G x8_2 x32_3).f4))).setCell ⟨gb288, 5, none⟩ (.int .i64 ((rd_G x8_2 x32_3).f5))) w.heap.size (fun k_ => (w.heap.size ≤ k_) ∧ nb k_ u11 ∧ nb k_ (.slice (some ad287) x8_2.length co20) ∧ nb k_ u276000 ∧ nb k_ u276001 ∧ k_ ≠ gb269 ∧ k_ ≠ gb275 ∧ k_ ≠ gb288) (.slice A287_0 ((rd_G x8_2 x32_3).f0).length c287_0) ((rd_G x8_2 x32_3).f0)) := ⟨by (with_reducible repeat (first | apply VO_alloc | apply VO_drewN | apply VO_drew)); exact VO_mono (VO_far (p := ⟨gb288, 5, none⟩) (VO_far (p := ⟨gb288, 4, none⟩) (VO_far (p := ⟨gb288, 3, none⟩) (VO_far (p := ⟨gb288, 2, none⟩) (VO_far (p := ⟨gb288, 1, none⟩) (VO_far (p := ⟨gb288, 0, none⟩) (VO_mono HL287_0.out (fun k_ hk => (⟨hk, hk.2⟩ : _ ∧ k_ ≠ gb288))) (fun _ hk => hk.2) (.slice A287_0 ((rd_G x8_2 x32_3).f0).length c287_0)) (fun _ hk => hk.2) (.int .i64 ((rd_G x8_2 x32_3).f1))) (fun _ hk => hk.2) (.bool true)) (fun _ hk => hk.2) (.int .i64 ((rd_G x8_2 x32_3).f3))) (fun _ hk => hk.2) (.int .i64 ((rd_G x8_2 x32_3).f4))) (fun _ hk => hk.2) (.int .i64 ((rd_G x8_2 x32_3).f5))) (fun _ hk => ⟨hk.1.1.1.1, ⟨hk.1.1.1.2.1, ⟨hk.1.1.2, ⟨hk.1.1.1.2.2.1, ⟨hk.1.1.1.2.2.2.1, ⟨hk.1.1.1.2.2.2.2.1, ⟨hk.1.1.1.2.2.2.2.2, hk.1.2⟩⟩⟩⟩⟩⟩⟩)⟩
             have n5_ : Aside0 (((((((w48.setCell ⟨gb288, 0, none⟩ (.slice A287_0 ((rd_G x8_2 x32_3).f0).length c287_0)).setCell ⟨gb288, 1, none⟩ (.int .i64 ((rd_G x8_2 x32_3).f1))).setCell ⟨gb288, 2, none⟩ (.bool true)).setCell ⟨gb288, 3, none⟩ (.int .i64 ((rd_G x8_2 x32_3).f3))).setCell ⟨gb288, 4, none⟩ (.int .i64 ((rd_G x8_2 x32_3).f4))).setCell ⟨gb288, 5, none⟩ (.int .i64 ((rd_G x8_2 x32_3).f5))).heap[gb269]? = some (.cells #[.slice none 0 0, .slice none 0 0] 40 (0, 0))) := ⟨by (with_reducible repeat (first | refine blk_drewN ?_ _ | refine blk_drew ?_ | refine blk_alloc ?_ _)); refine blk_far ?_ NB269_288.out _; (with_reducible repeat (first | refine blk_drewN ?_ _ | refine blk_drew ?_ | refine blk_alloc ?_ _)); refine blk_far ?_ NB269_288.out _; (with_reducible repeat (first | refine blk_drewN ?_ _ | refine blk_drew ?_ | refine blk_alloc ?_ _)); refine blk_far ?_ NB269_288.out _; (with_reducible repeat (first | refine blk_drewN ?_ _ | refine blk_drew ?_ | refine blk_alloc ?_ _)); refine blk_far ?_ NB269_288.out _; (with_reducible repeat (first | refine blk_drewN ?_ _ | refine blk_drew ?_ | refine blk_alloc ?_ _)); refine blk_far ?_ NB269_288.out _; (with_reducible repeat (first | refine blk_drewN ?_ _ | refine blk_drew ?_ | refine blk_alloc ?_ _)); refine blk_far ?_ NB269_288.out _; (with_reducible repeat (first | refine blk_drewN ?_ _ | refine blk_drew ?_ | refine blk_alloc ?_ _)); exact BK269.out⟩
             have n6_ : Aside0 (((((((w48.setCell ⟨gb288, 0, none⟩ (.slice A287_0 ((rd_G x8_2 x32_3).f0).length c287_0)).setCell ⟨gb288, 1, none⟩ (.int .i64 ((rd_G x8_2 x32_3).f1))).setCell ⟨gb288, 2, none⟩ (.bool true)).setCell ⟨gb288, 3, none⟩ (.int .i64 ((rd_G x8_2 x32_3).f3))).setCell ⟨gb288, 4, none⟩ (.int .i64 ((rd_G x8_2 x32_3).f4))).setCell ⟨gb288, 5, none⟩ (.int .i64 ((rd_G x8_2 x32_3).f5))).heap[gb275]? = some (.cells #[u276000, u276001] 40 (0, 0))) := ⟨by (with_reducible repeat (first | refine blk_drewN ?_ _ | refine blk_drew ?_ | refine blk_alloc ?_ _)); refine blk_far ?_ NB275_288.out _; (with_reducible repeat (first | refine blk_drewN ?_ _ | refine blk_drew ?_ | refine blk_alloc ?_ _)); refine blk_far ?_ NB275_288.out _; (with_reducible repeat (first | refine blk_drewN ?_ _ | refine blk_drew ?_ | refine blk_alloc ?_ _)); refine blk_far ?_ NB275_288.out _; (with_reducible repeat (first | refine blk_drewN ?_ _ | refine blk_drew ?_ | refine blk_alloc ?_ _)); refine blk_far ?_ NB275_288.out _; (with_reducible repeat (first | refine blk_drewN ?_ _ | refine blk_drew ?_ | refine blk_alloc ?_ _)); refine blk_far ?_ NB275_288.out _; (with_reducible repeat (first | refine blk_drewN ?_ _ | refine blk_drew ?_ | refine blk_alloc ?_ _)); refine blk_far ?_ NB275_288.out _; (with_reducible repeat (first | refine blk_drewN ?_ _ | refine blk_drew ?_ | refine blk_alloc ?_ _)); exact BK275.out⟩
             have n7_ : Aside0 (((((((w48.setCell ⟨gb288, 0, none⟩ (.slice A287_0 ((rd_G x8_2 x32_3).f0).length c287_0)).setCell ⟨gb288, 1, none⟩ (.int .i64 ((rd_G x8_2 x32_3).f1))).setCell ⟨gb288, 2, none⟩ (.bool true)).setCell ⟨gb288, 3, none⟩ (.int .i64 ((rd_G x8_2 x32_3).f3))).setCell ⟨gb288, 4, none⟩ (.int .i64 ((rd_G x8_2 x32_3).f4))).setCell ⟨gb288, 5, none⟩ (.int .i64 ((rd_G x8_2 x32_3).f5))).heap[gb288]? = some (.cells #[.slice A287_0 ((rd_G x8_2 x32_3).f0).length c287_0, .int .i64 ((rd_G x8_2 x32_3).f1), .bool true, .int .i64 ((rd_G x8_2 x32_3).f3), .int .i64 ((rd_G x8_2 x32_3).f4), .int .i64 ((rd_G x8_2 x32_3).f5)] 32 (0, 0))) := ⟨by (with_reducible repeat (first | refine blk_drewN ?_ _ | refine blk_drew ?_ | refine blk_alloc ?_ _)); refine blk_put (cs := #[.slice A287_0 ((rd_G x8_2 x32_3).f0).length c287_0, .int .i64 ((rd_G x8_2 x32_3).f1), .bool true, .int .i64 ((rd_G x8_2 x32_3).f3), .int .i64 ((rd_G x8_2 x32_3).f4), .int .i64 0]) ?_ 5 _ rfl; (with_reducible repeat (first | refine blk_drewN ?_ _ | refine blk_drew ?_ | refine blk_alloc ?_ _)); refine blk_put (cs := #[.slice A287_0 ((rd_G x8_2 x32_3).f0).length c287_0, .int .i64 ((rd_G x8_2 x32_3).f1), .bool true, .int .i64 ((rd_G x8_2 x32_3).f3), .int .i64 0, .int .i64 0]) ?_ 4 _ rfl; (with_reducible repeat (first | refine blk_drewN ?_ _ | refine blk_drew ?_ | refine blk_alloc ?_ _)); refine blk_put (cs := #[.slice A287_0 ((rd_G x8_2 x32_3).f0).length c287_0, .int .i64 ((rd_G x8_2 x32_3).f1), .bool true, .int .i64 0, .int .i64 0, .int .i64 0]) ?_ 3 _ rfl; (with_reducible repeat (first | refine blk_drewN ?_ _ | refine blk_drew ?_ | refine blk_alloc ?_ _)); refine blk_put (cs := #[.slice A287_0 ((rd_G x8_2 x32_3).f0).length c287_0, .int .i64 ((rd_G x8_2 x32_3).f1), .bool false, .int .i64 0, .int .i64 0, .int .i64 0]) ?_ 2 _ rfl; (with_reducible repeat (first | refine blk_drewN ?_ _ | refine blk_drew ?_ | refine blk_alloc ?_ _)); refine blk_put (cs := #[.slice A287_0 ((rd_G x8_2 x32_3).f0).length c287_0, .int .i64 0, .bool false, .int .i64 0, .int .i64 0, .int .i64 0]) ?_ 1 _ rfl; (with_reducible repeat (first | refine blk_drewN ?_ _ | refine blk_drew ?_ | refine blk_alloc ?_ _)); refine blk_put (cs := #[.slice none 0 0, .int .i64 0, .bool false, .int .i64 0, .int .i64 0, .int .i64 0]) ?_ 0 _ rfl; (with_reducible repeat (first | refine blk_drewN ?_ _ | refine blk_drew ?_ | refine blk_alloc ?_ _)); exact BK288.out⟩
             have n8_ : Aside0 (Below w.heap.size w ((((((w48.setCell ⟨gb288, 0, none⟩ (.slice A287_0 ((rd_G x8_2 x32_3).f0).length c287_0)).setCell ⟨gb288, 1, none⟩ (.int .i64 ((rd_G x8_2 x32_3).f1))).setCell ⟨gb288, 2, none⟩ (.bool true)).setCell ⟨gb288, 3, none⟩ (.int .i64 ((rd_G x8_2 x32_3).f3))).setCell ⟨gb288, 4, none⟩ (.int .i64 ((rd_G x8_2 x32_3).f4))).setCell ⟨gb288, 5, none⟩ (.int .i64 ((rd_G x8_2 x32_3).f5)))) := ⟨bw_ HB.out⟩
             (try clear HO_11)
             (try clear HO_30)
             (try clear HO_276000)
             (try clear HO_276001)
             (try clear HL287_0)
             (try clear BK269)
             (try clear BK275)
             (try clear BK288)
             (try clear HB)
             generalize ((((((w48.setCell ⟨gb288, 0, none⟩ (.slice A287_0 ((rd_G x8_2 x32_3).f0).length c287_0)).setCell ⟨gb288, 1, none⟩ (.int .i64 ((rd_G x8_2 x32_3).f1))).setCell ⟨gb288, 2, none⟩ (.bool true)).setCell ⟨gb288, 3, none⟩ (.int .i64 ((rd_G x8_2 x32_3).f3))).setCell ⟨gb288, 4, none⟩ (.int .i64 ((rd_G x8_2 x32_3).f4))).setCell ⟨gb288, 5, none⟩ (.int .i64 ((rd_G x8_2 x32_3).f5))) = w52 at n0_ n1_ n2_ n3_ n4_ n5_ n6_ n7_ n8_ ⊢
             have HO_11 := n0_
             have HO_30 := n1_
             have HO_276000 := n2_
             have HO_276001 := n3_
             have HL287_0 := n4_
             have BK269 := n5_
             have BK275 := n6_
             have BK288 := n7_
             have HB := n8_
             clear n0_ n1_ n2_ n3_ n4_ n5_ n6_ n7_ n8_
             have n0_ := am_ (Kd.N_drew HO_11.out)
             have n1_ := am_ (Kd.N_drew HO_30.out)
             have n2_ := am_ (Kd.R_drew HO_276000.out)
             have n3_ := am_ (Kd.R_drew HO_276001.out)
             have n4_ := am_ (VO_drew HL287_0.out)
             have n5_ := am_ (blk_drew BK269.out)
             have n6_ := am_ (blk_drew BK275.out)
             have n7_ := am_ (blk_drew BK288.out)
             have n8_ := am_ (below_drew1 HB.out)
             replace HO_11 := n0_
             replace HO_30 := n1_
             replace HO_276000 := n2_
             replace HO_276001 := n3_
             replace HL287_0 := n4_
             replace BK269 := n5_
             replace BK275 := n6_
             replace BK288 := n7_
             replace HB := n8_
             clear n0_ n1_ n2_ n3_ n4_ n5_ n6_ n7_ n8_
             have p289 : 0 ≤ (((rd_G x8_2 x32_3).f1) : Int) := od_
             have q289 : ((rd_G x8_2 x32_3).f1) < (((rd_G x8_2 x32_3).f0).length : Int) := od_
             obtain ⟨ad289, e289, hx289_0⟩ := Kd.at_int ((VO_reads' HL287_0.out).2.2) ((rd_G x8_2 x32_3).f1) p289 q289
             cases e289
             replace p289 := eq_true p289
             replace q289 := eq_true q289
             refine start_ (n := 12) (S := fun w' => w'.cell? ⟨gb288, 0, none⟩ = some (.slice (some ad289) ((rd_G x8_2 x32_3).f0).length c287_0) ∧ w'.cell? ⟨gb288, 1, none⟩ = some (.int .i64 ((rd_G x8_2 x32_3).f1)) ∧ w'.cell? ⟨gb288, 2, none⟩ = some (.bool true) ∧ w'.cell? ⟨gb288, 3, none⟩ = some (.int .i64 ((rd_G x8_2 x32_3).f3)) ∧ w'.cell? ⟨gb288, 4, none⟩ = some (.int .i64 ((rd_G x8_2 x32_3).f4)) ∧ w'.cell? ⟨gb288, 5, none⟩ = some (.int .i64 ((rd_G x8_2 x32_3).f5)) ∧ w'.cell? (ad289.add (((rd_G x8_2 x32_3).f1)).toNat) = some (.int .i64 (rd ((rd_G x8_2 x32_3).f0) ((rd_G x8_2 x32_3).f1)))) (ds := []) (Array.replicate 12 false) (by kernel_rfl) rfl rfl ⟨cz_ BK288.out 0, cz_ BK288.out 1, cz_ BK288.out 2, cz_ BK288.out 3, cz_ BK288.out 4, cz_ BK288.out 5, hx289_0⟩ (fun hHeld => ?_); refine with_tabW impl_MixVoices.tab10 impl_MixVoices.bits10 (fun HT_ HW_ => ?_)
             generalize w52.drew = w53 at HO_11 HO_30 HO_276000 HO_276001 HL287_0 BK269 BK275 BK288 HB hx289_0 hHeld ⊢
             refine pS_ 0 36 HT_ ?_
             refine pS_ 1 37 HT_ ?_
             refine pS_ 3 39 HT_ ?_
             refine pS_ 7 43 HT_ ?_
             refine tS_ 2 38 HT_ HW_ hHeld ?_
             refine tS_ 4 40 HT_ HW_ hHeld ?_
             refine pS_ 5 41 HT_ ?_
             refine tS_ 6 42 HT_ HW_ hHeld ?_
             refine tS_ 8 44 HT_ HW_ hHeld ?_
             refine oS_ 9 45 HT_ (fun K hK => ?_)
             refine goes_ Try.func37 (by kernel_rfl) rfl #[.int .i64 (rd ((rd_G x8_2 x32_3).f0) ((rd_G x8_2 x32_3).f1)), .int .i64 ((rd_G x8_2 x32_3).f3)] (by rfl) rfl rfl (by (try simp only [List.map_toArray, List.map_cons, List.map_nil]); first | done | rfl | (simp only [List.length_drop, List.length_take]; rfl)) ?_
             with_reducible refine (impl_FixMul.calls (rd ((rd_G x8_2 x32_3).f0) ((rd_G x8_2 x32_3).f1)) ((rd_G x8_2 x32_3).f3) t290 _ A26.out).mono ?_
             rintro e w54 ⟨rfl, hb⟩
             have HS6_ := (hb.cell (World.block_lt_of_cell? _ _ (hHeld.2.2.2.2.2.2))).trans (hHeld.2.2.2.2.2.2)
             refine ⟨_, rfl, ?_⟩
             have n0_ := am_ (Kd.N_below (by (with_reducible repeat (first | apply Kd.N_alloc | apply Kd.N_drewN | apply Kd.N_drew)); exact HO_11.out) hb)
             have n1_ := am_ (Kd.N_below (by (with_reducible repeat (first | apply Kd.N_alloc | apply Kd.N_drewN | apply Kd.N_drew)); exact HO_30.out) hb)
             have n2_ := am_ (Kd.R_below (ra_ HO_276000.out) hb)
             have n3_ := am_ (Kd.R_below (ra_ HO_276001.out) hb)
             have n4_ := am_ (VO_below (by (with_reducible repeat (first | apply VO_alloc | apply VO_drewN | apply VO_drew)); exact HL287_0.out) hb)
             have n5_ := am_ (blk_below (bk_ BK269.out) hb)
             have n6_ := am_ (blk_below (bk_ BK275.out) hb)
             have n7_ := am_ (blk_below (bk_ BK288.out) hb)
             have n8_ := am_ (below_step (bw_ HB.out) hb)
             replace HO_11 := n0_
             replace HO_30 := n1_
             replace HO_276000 := n2_
             replace HO_276001 := n3_
             replace HL287_0 := n4_
             replace BK269 := n5_
             replace BK275 := n6_
             replace BK288 := n7_
             replace HB := n8_
             clear n0_ n1_ n2_ n3_ n4_ n5_ n6_ n7_ n8_
             (try clear hb)
             (try clear hb2)
             (try clear hk)
             (try clear hi)
             refine hK.out _ _ ⟨cz_ BK288.out 0, cz_ BK288.out 1, cz_ BK288.out 2, cz_ BK288.out 3, cz_ BK288.out 4, cz_ BK288.out 5, HS6_⟩ (fun hHeld => ?_)
             clear hK K
             refine nD_ 45 ?_
             refine pS_ 10 46 HT_ ?_
             refine pS_ 11 9 HT_ ?_
             refine done_ (done_of HT_.out (by kernel_rfl)) ?_
             try go_wp2
             have n0_ := am_ (Kd.N_drew HO_11.out)
             have n1_ := am_ (Kd.N_drew HO_30.out)
             have n2_ := am_ (Kd.R_drew HO_276000.out)
             have n3_ := am_ (Kd.R_drew HO_276001.out)
             have n4_ := am_ (VO_drew HL287_0.out)
             have n5_ := am_ (blk_drew BK269.out)
             have n6_ := am_ (blk_drew BK275.out)
             have n7_ := am_ (blk_drew BK288.out)
             have n8_ := am_ (below_drew1 HB.out)
             replace HO_11 := n0_
             replace HO_30 := n1_
             replace HO_276000 := n2_
             replace HO_276001 := n3_
             replace HL287_0 := n4_
             replace BK269 := n5_
             replace BK275 := n6_
             replace BK288 := n7_
             replace HB := n8_
             clear n0_ n1_ n2_ n3_ n4_ n5_ n6_ n7_ n8_
             have p291 : 0 ≤ (((rd_G x8_2 x32_3).f1) : Int) := od_
             have q291 : ((rd_G x8_2 x32_3).f1) < (((rd_G x8_2 x32_3).f0).length : Int) := od_
             obtain ⟨ad291, e291, hx291_0⟩ := Kd.at_int ((VO_reads' HL287_0.out).2.2) ((rd_G x8_2 x32_3).f1) p291 q291
             obtain rfl : ad289 = ad291 := (by injection e291)
             replace p291 := eq_true p291
             replace q291 := eq_true q291
             refine start_ (n := 12) (S := fun w' => w'.cell? ⟨gb288, 0, none⟩ = some (.slice (some ad289) ((rd_G x8_2 x32_3).f0).length c287_0) ∧ w'.cell? ⟨gb288, 1, none⟩ = some (.int .i64 ((rd_G x8_2 x32_3).f1)) ∧ w'.cell? ⟨gb288, 2, none⟩ = some (.bool true) ∧ w'.cell? ⟨gb288, 3, none⟩ = some (.int .i64 ((rd_G x8_2 x32_3).f3)) ∧ w'.cell? ⟨gb288, 4, none⟩ = some (.int .i64 ((rd_G x8_2 x32_3).f4)) ∧ w'.cell? ⟨gb288, 5, none⟩ = some (.int .i64 ((rd_G x8_2 x32_3).f5)) ∧ w'.cell? (ad289.add (((rd_G x8_2 x32_3).f1)).toNat) = some (.int .i64 (rd ((rd_G x8_2 x32_3).f0) ((rd_G x8_2 x32_3).f1)))) (ds := []) (Array.replicate 12 false) (by kernel_rfl) rfl rfl ⟨cz_ BK288.out 0, cz_ BK288.out 1, cz_ BK288.out 2, cz_ BK288.out 3, cz_ BK288.out 4, cz_ BK288.out 5, hx291_0⟩ (fun hHeld => ?_); refine with_tabW impl_MixVoices.tab11 impl_MixVoices.bits11 (fun HT_ HW_ => ?_)
             generalize w54.drew = w55 at HO_11 HO_30 HO_276000 HO_276001 HL287_0 BK269 BK275 BK288 HB hx291_0 hHeld ⊢
             refine pS_ 0 47 HT_ ?_
             refine pS_ 1 48 HT_ ?_
             refine pS_ 3 50 HT_ ?_
             refine pS_ 7 54 HT_ ?_
             refine tS_ 2 49 HT_ HW_ hHeld ?_
             refine tS_ 4 51 HT_ HW_ hHeld ?_
             refine pS_ 5 52 HT_ ?_
             refine tS_ 6 53 HT_ HW_ hHeld ?_
             refine tS_ 8 55 HT_ HW_ hHeld ?_
             refine oS_ 9 56 HT_ (fun K hK => ?_)
             refine goes_ Try.func37 (by kernel_rfl) rfl #[.int .i64 (rd ((rd_G x8_2 x32_3).f0) ((rd_G x8_2 x32_3).f1)), .int .i64 ((rd_G x8_2 x32_3).f4)] (by rfl) rfl rfl (by (try simp only [List.map_toArray, List.map_cons, List.map_nil]); first | done | rfl | (simp only [List.length_drop, List.length_take]; rfl)) ?_
             with_reducible refine (impl_FixMul.calls (rd ((rd_G x8_2 x32_3).f0) ((rd_G x8_2 x32_3).f1)) ((rd_G x8_2 x32_3).f4) t292 _ A27.out).mono ?_
             rintro e w56 ⟨rfl, hb⟩
             have HS6_ := (hb.cell (World.block_lt_of_cell? _ _ (hHeld.2.2.2.2.2.2))).trans (hHeld.2.2.2.2.2.2)
             refine ⟨_, rfl, ?_⟩
             have n0_ := am_ (Kd.N_below (by (with_reducible repeat (first | apply Kd.N_alloc | apply Kd.N_drewN | apply Kd.N_drew)); exact HO_11.out) hb)
             have n1_ := am_ (Kd.N_below (by (with_reducible repeat (first | apply Kd.N_alloc | apply Kd.N_drewN | apply Kd.N_drew)); exact HO_30.out) hb)
             have n2_ := am_ (Kd.R_below (ra_ HO_276000.out) hb)
             have n3_ := am_ (Kd.R_below (ra_ HO_276001.out) hb)
             have n4_ := am_ (VO_below (by (with_reducible repeat (first | apply VO_alloc | apply VO_drewN | apply VO_drew)); exact HL287_0.out) hb)
             have n5_ := am_ (blk_below (bk_ BK269.out) hb)
             have n6_ := am_ (blk_below (bk_ BK275.out) hb)
             have n7_ := am_ (blk_below (bk_ BK288.out) hb)
             have n8_ := am_ (below_step (bw_ HB.out) hb)
             replace HO_11 := n0_
             replace HO_30 := n1_
             replace HO_276000 := n2_
             replace HO_276001 := n3_
             replace HL287_0 := n4_
             replace BK269 := n5_
             replace BK275 := n6_
             replace BK288 := n7_
             replace HB := n8_
             clear n0_ n1_ n2_ n3_ n4_ n5_ n6_ n7_ n8_
             (try clear hb)
             (try clear hb2)
             (try clear hk)
             (try clear hi)
             refine hK.out _ _ ⟨cz_ BK288.out 0, cz_ BK288.out 1, cz_ BK288.out 2, cz_ BK288.out 3, cz_ BK288.out 4, cz_ BK288.out 5, HS6_⟩ (fun hHeld => ?_)
             clear hK K
             refine nD_ 56 ?_
             refine pS_ 10 57 HT_ ?_
             refine pS_ 11 10 HT_ ?_
             refine done_ (done_of HT_.out (by kernel_rfl)) ?_
             have hcz57_0 := cz_ BK288.out 0
             have hcz57_1 := cz_ BK288.out 1
             have hcz57_2 := cz_ BK288.out 2
             have hcz57_3 := cz_ BK288.out 3
             have hcz57_4 := cz_ BK288.out 4
             have hcz57_5 := cz_ BK288.out 5
             have hfz57_0 := blk_frozen BK288.out 0
             have hfz57_1 := blk_frozen BK288.out 1
             have hfz57_2 := blk_frozen BK288.out 2
             have hfz57_3 := blk_frozen BK288.out 3
             have hfz57_4 := blk_frozen BK288.out 4
             have hfz57_5 := blk_frozen BK288.out 5
             try go_wp2
             go_roundg k3
             case measure => have := HJ2.out; have := HK2.out; have := HK3.out; omega
             case rel => exact ⟨(wrap64 (x9_3 + t290)), (wrap64 (x10_3 + t292)), (x11_3), (wrap64 (x32_3 + 1)), sq_, sq_, sq_, H', ⟨by have := HJ2.out; have := HK2.out; have := HK3.out; omega⟩, ⟨by (with_reducible repeat (first | apply Kd.N_alloc | apply Kd.N_drewN | apply Kd.N_drew)); exact Kd.N_mono (Kd.N_far (p := ⟨gb288, 1, none⟩) (Kd.N_far (p := ⟨gb288, 1, none⟩) (Kd.N_mono HO_11.out (fun k_ hk => (⟨hk, hk.2.2.2.2.2.2⟩ : _ ∧ k_ ≠ gb288))) (fun _ hk => hk.2) (.int .i64 (wrap64 (((rd_G x8_2 x32_3).f1) + 1)))) (fun _ hk => hk.2) (.int .i64 0)) (fun _ hk => ⟨hk.1.1, ⟨hk.1.2.1, ⟨hk.1.2.2.1, ⟨hk.1.2.2.2.1, ⟨hk.1.2.2.2.2.1, hk.1.2.2.2.2.2.1⟩⟩⟩⟩⟩)⟩, ⟨by (with_reducible repeat (first | apply Kd.N_alloc | apply Kd.N_drewN | apply Kd.N_drew)); exact Kd.N_mono (Kd.N_far (p := ⟨gb288, 1, none⟩) (Kd.N_far (p := ⟨gb288, 1, none⟩) (Kd.N_mono HO_30.out (fun k_ hk => (⟨hk, hk.2.2.2.2.2.2⟩ : _ ∧ k_ ≠ gb288))) (fun _ hk => hk.2) (.int .i64 (wrap64 (((rd_G x8_2 x32_3).f1) + 1)))) (fun _ hk => hk.2) (.int .i64 0)) (fun _ hk => ⟨hk.1.1, ⟨hk.1.2.1, ⟨hk.1.2.2.1, ⟨hk.1.2.2.2.1, ⟨hk.1.2.2.2.2.1, hk.1.2.2.2.2.2.1⟩⟩⟩⟩⟩)⟩, ⟨ra_ (Kd.R_mono (Kd.R_far (p := ⟨gb288, 1, none⟩) (Kd.R_far (p := ⟨gb288, 1, none⟩) (Kd.R_types HO_276000.out BK288.out (by decide)) (fun _ hk => hk.2) (.int .i64 (wrap64 (((rd_G x8_2 x32_3).f1) + 1)))) (fun _ hk => hk.2) (.int .i64 0)) (fun _ hk => ⟨hk.1.1, hk.1.2⟩))⟩, ⟨ra_ (Kd.R_mono (Kd.R_far (p := ⟨gb288, 1, none⟩) (Kd.R_far (p := ⟨gb288, 1, none⟩) (Kd.R_types HO_276001.out BK288.out (by decide)) (fun _ hk => hk.2) (.int .i64 (wrap64 (((rd_G x8_2 x32_3).f1) + 1)))) (fun _ hk => hk.2) (.int .i64 0)) (fun _ hk => ⟨hk.1.1, hk.1.2⟩))⟩, ⟨by (with_reducible repeat (first | refine blk_drewN ?_ _ | refine blk_drew ?_ | refine blk_alloc ?_ _)); refine blk_far ?_ NB269_288.out _; (with_reducible repeat (first | refine blk_drewN ?_ _ | refine blk_drew ?_ | refine blk_alloc ?_ _)); refine blk_far ?_ NB269_288.out _; (with_reducible repeat (first | refine blk_drewN ?_ _ | refine blk_drew ?_ | refine blk_alloc ?_ _)); exact BK269.out⟩, ⟨by (with_reducible repeat (first | refine blk_drewN ?_ _ | refine blk_drew ?_ | refine blk_alloc ?_ _)); refine blk_far ?_ NB275_288.out _; (with_reducible repeat (first | refine blk_drewN ?_ _ | refine blk_drew ?_ | refine blk_alloc ?_ _)); refine blk_far ?_ NB275_288.out _; (with_reducible repeat (first | refine blk_drewN ?_ _ | refine blk_drew ?_ | refine blk_alloc ?_ _)); exact BK275.out⟩, ⟨bw_ HB.out⟩⟩
           ·as_aux_lemma =>
            replace c30 := Bool.eq_false_iff.mpr c30
            subst c30
            replace H := if_ H Bool.false_ne_true
            by_cases c58 : (wrap64 (((rd_G x8_2 x32_3).f1) + 1)) < (((rd_G x8_2 x32_3).f0).length : Int)
            ·as_aux_lemma =>
             rw [if_pos c58] at H
             have c58b0 : decide ((wrap64 (((rd_G x8_2 x32_3).f1) + 1)) < (((rd_G x8_2 x32_3).f0).length : Int)) = true := decide_eq_true c58
             clear c58
             obtain ⟨c59, H⟩ := ifn_ H
             have LMc59 := am_ c59
             clear c59
             obtain ⟨y296, hy296⟩ : ∃ y_ : List (G32), y_ = (x11_3 ++ [(⟨(rd_G x8_2 x32_3).f0, wrap64 (((rd_G x8_2 x32_3).f1) + 1), false, (rd_G x8_2 x32_3).f3, (rd_G x8_2 x32_3).f4, (rd_G x8_2 x32_3).f5, (rd_G x8_2 x32_3).g⟩ : G32)]) := ⟨_, rfl⟩
             replace H : (impl_MixVoices.l1 k3 (wrap64 (x9_3 + t290)) (wrap64 (x10_3 + t292)) y296 a1 x27_2 x8_2 (x8_2.length : Int) (wrap64 (x32_3 + 1)) x276000_2 x276001_2) = some (r1, r2, r3, r4) := by first | (rw [hy296]; with_reducible exact H) | (have H2_ := (Option.bind_some _ _).symm.trans H; rw [hy296]; with_reducible exact H2_) | (have H2_ := (Option.bind_some _ _).symm.trans H; with_reducible exact H2_) | with_reducible exact H | (rw [hy296]; exact H) | exact H
             have Ny296 := am_ hy296
             clear hy296
             have H' := am_ H
             clear H
             have p287 : 0 ≤ (x32_3 : Int) := od_
             have q287 : x32_3 < (x8_2.length : Int) := od_
             obtain ⟨ad287, A287_0, c287_0, e287, hx287_0, hx287_1, hx287_2, hx287_3, hx287_4, hx287_5, hl287_0, hi287_0⟩ := at_G (Kd.N_reads' HO_30.out).2.2 x32_3 p287 q287
             (try rw [← Nbq29.out] at hx287_2)
             cases e287
             obtain ⟨ce287, hce287, hMe287, hcc287⟩ := Kd.N_get HO_30.out zG x32_3 p287 (by first | exact q287 | exact od_ | (have e_ := (Kd.N_reads' HO_30.out).1; omega))
             obtain ⟨ua287_0, uc287_0, rfl, ul287_0, ge287_0⟩ := kg_openF hMe287
             have hv287_0 := hcc287 0 _ rfl
             rw [Nat.add_zero] at hv287_0
             replace hv287_0 := Option.some.inj (hv287_0.symm.trans hx287_0)
             injection hv287_0 with hva_ hvn_ hvc_
             rw [hva_, hvc_] at ge287_0
             rw [hvc_] at ul287_0
             have HL287_0 := am_ (show VO ph_ w.heap.size (rd_G x8_2 x32_3).g _ w.heap.size _ _ ((rd_G x8_2 x32_3).f0) from VO_mk ul287_0 ge287_0)
             clear hva_ hvn_ hvc_ ge287_0 ul287_0
             clear hcc287 hce287
             have HR287_0 := am_ hi287_0
             have HC287_0 := am_ hl287_0
             clear hi287_0 hl287_0
             replace p287 := eq_true p287
             replace q287 := eq_true q287
             try go_wp2_with (first | ((with_reducible refine gate_dst (N := 13) rfl ?_); refine bx_ 13 #[.slice none 0 0, .int .i64 0, .bool false, .int .i64 0, .int .i64 0, .int .i64 0] 32 ?_; intro gb288 hg w60 hbox hb; have n0_ := am_ (Kd.N_below (Kd.N_elderB (by (with_reducible repeat (first | apply Kd.N_alloc | apply Kd.N_drewN | apply Kd.N_drew)); exact HO_11.out) gb288 (Nat.le_of_eq hg.symm)) hb); have n1_ := am_ (Kd.N_below (Kd.N_elderB (by (with_reducible repeat (first | apply Kd.N_alloc | apply Kd.N_drewN | apply Kd.N_drew)); exact HO_30.out) gb288 (Nat.le_of_eq hg.symm)) hb); have n2_ := am_ (Kd.R_below (ra_ HO_276000.out) hb); have n3_ := am_ (Kd.R_below (ra_ HO_276001.out) hb); have n4_ := am_ (VO_below (VO_elderB (by (with_reducible repeat (first | apply VO_alloc | apply VO_drewN | apply VO_drew)); exact HL287_0.out) gb288 (Nat.le_of_eq hg.symm)) hb); have n5_ := am_ (blk_below (bk_ BK269.out) hb); have n6_ := am_ (blk_below (bk_ BK275.out) hb); have n7_ := am_ (Kd.C_below (by repeat (first | (with_reducible exact HR287_0.out) | (with_reducible refine Kd.C_alloc ?_ _) | (with_reducible refine Kd.C_drewN ?_ _) | (with_reducible refine Kd.C_drew ?_) | exact HR287_0.out)) hb); have n8_ := am_ (below_step (bw_ HB.out) hb); have n9_ := am_ (hbox); have n10_ := am_ (gs_ hg (bw_ HB.out)); have n11_ := am_ (gs_ hg (bw_ HB.out)); have n12_ := am_ (nl_ hg (bk_ BK269.out)); have n13_ := am_ (ng_ hg (bk_ BK269.out)); have n14_ := am_ (nl_ hg (bk_ BK275.out)); have n15_ := am_ (ng_ hg (bk_ BK275.out)); replace HO_11 := n0_; replace HO_30 := n1_; replace HO_276000 := n2_; replace HO_276001 := n3_; replace HL287_0 := n4_; replace BK269 := n5_; replace BK275 := n6_; replace HR287_0 := n7_; replace HB := n8_; have BK288 := n9_; have GW288 := n10_; have GE288 := n11_; have NB269_288 := n12_; have NB288_269 := n13_; have NB275_288 := n14_; have NB288_275 := n15_; clear n0_ n1_ n2_ n3_ n4_ n5_ n6_ n7_ n8_ n9_ n10_ n11_ n12_ n13_ n14_ n15_; clear hb hbox hg; have hnb61 := NB288_269.out; have hnc61 := NB269_288.out; have hnb62 := NB288_275.out; have hnc62 := NB275_288.out; have hcz63_0 := cz_ BK288.out 0; have hcz63_1 := cz_ BK288.out 1; have hcz63_2 := cz_ BK288.out 2; have hcz63_3 := cz_ BK288.out 3; have hcz63_4 := cz_ BK288.out 4; have hcz63_5 := cz_ BK288.out 5; have hfz63_0 := blk_frozen BK288.out 0; have hfz63_1 := blk_frozen BK288.out 1; have hfz63_2 := blk_frozen BK288.out 2; have hfz63_3 := blk_frozen BK288.out 3; have hfz63_4 := blk_frozen BK288.out 4; have hfz63_5 := blk_frozen BK288.out 5))
             have n0_ : Aside0 (Kd.N (kg ph_ w.heap.size) 32 ((((((w60.setCell ⟨gb288, 0, none⟩ (.slice A287_0 ((rd_G x8_2 x32_3).f0).length c287_0)).setCell ⟨gb288, 1, none⟩ (.int .i64 ((rd_G x8_2 x32_3).f1))).setCell ⟨gb288, 2, none⟩ (.bool false)).setCell ⟨gb288, 3, none⟩ (.int .i64 ((rd_G x8_2 x32_3).f3))).setCell ⟨gb288, 4, none⟩ (.int .i64 ((rd_G x8_2 x32_3).f4))).setCell ⟨gb288, 5, none⟩ (.int .i64 ((rd_G x8_2 x32_3).f5))) w.heap.size (fun k_ => (w.heap.size ≤ k_) ∧ nb k_ (.slice (some ad287) x8_2.length co20) ∧ nb k_ u276000 ∧ nb k_ u276001 ∧ k_ ≠ gb269 ∧ k_ ≠ gb275 ∧ k_ ≠ gb288) u11 x11_3) := ⟨by (with_reducible repeat (first | apply Kd.N_alloc | apply Kd.N_drewN | apply Kd.N_drew)); exact Kd.N_mono (Kd.N_far (p := ⟨gb288, 5, none⟩) (Kd.N_far (p := ⟨gb288, 4, none⟩) (Kd.N_far (p := ⟨gb288, 3, none⟩) (Kd.N_far (p := ⟨gb288, 2, none⟩) (Kd.N_far (p := ⟨gb288, 1, none⟩) (Kd.N_far (p := ⟨gb288, 0, none⟩) (Kd.N_mono HO_11.out (fun k_ hk => (⟨hk, hk.2⟩ : _ ∧ k_ ≠ gb288))) (fun _ hk => hk.2) (.slice A287_0 ((rd_G x8_2 x32_3).f0).length c287_0)) (fun _ hk => hk.2) (.int .i64 ((rd_G x8_2 x32_3).f1))) (fun _ hk => hk.2) (.bool false)) (fun _ hk => hk.2) (.int .i64 ((rd_G x8_2 x32_3).f3))) (fun _ hk => hk.2) (.int .i64 ((rd_G x8_2 x32_3).f4))) (fun _ hk => hk.2) (.int .i64 ((rd_G x8_2 x32_3).f5))) (fun _ hk => ⟨hk.1.1.1, ⟨hk.1.1.2.1, ⟨hk.1.1.2.2.1, ⟨hk.1.1.2.2.2.1, ⟨hk.1.1.2.2.2.2.1, ⟨hk.1.1.2.2.2.2.2, hk.1.2⟩⟩⟩⟩⟩⟩)⟩
             have n1_ : Aside0 (Kd.N (kg ph_ w.heap.size) 32 ((((((w60.setCell ⟨gb288, 0, none⟩ (.slice A287_0 ((rd_G x8_2 x32_3).f0).length c287_0)).setCell ⟨gb288, 1, none⟩ (.int .i64 ((rd_G x8_2 x32_3).f1))).setCell ⟨gb288, 2, none⟩ (.bool false)).setCell ⟨gb288, 3, none⟩ (.int .i64 ((rd_G x8_2 x32_3).f3))).setCell ⟨gb288, 4, none⟩ (.int .i64 ((rd_G x8_2 x32_3).f4))).setCell ⟨gb288, 5, none⟩ (.int .i64 ((rd_G x8_2 x32_3).f5))) w.heap.size (fun k_ => (w.heap.size ≤ k_) ∧ nb k_ u11 ∧ nb k_ u276000 ∧ nb k_ u276001 ∧ k_ ≠ gb269 ∧ k_ ≠ gb275 ∧ k_ ≠ gb288) (.slice (some ad287) x8_2.length co20) x8_2) := ⟨by (with_reducible repeat (first | apply Kd.N_alloc | apply Kd.N_drewN | apply Kd.N_drew)); exact Kd.N_mono (Kd.N_far (p := ⟨gb288, 5, none⟩) (Kd.N_far (p := ⟨gb288, 4, none⟩) (Kd.N_far (p := ⟨gb288, 3, none⟩) (Kd.N_far (p := ⟨gb288, 2, none⟩) (Kd.N_far (p := ⟨gb288, 1, none⟩) (Kd.N_far (p := ⟨gb288, 0, none⟩) (Kd.N_mono HO_30.out (fun k_ hk => (⟨hk, hk.2⟩ : _ ∧ k_ ≠ gb288))) (fun _ hk => hk.2) (.slice A287_0 ((rd_G x8_2 x32_3).f0).length c287_0)) (fun _ hk => hk.2) (.int .i64 ((rd_G x8_2 x32_3).f1))) (fun _ hk => hk.2) (.bool false)) (fun _ hk => hk.2) (.int .i64 ((rd_G x8_2 x32_3).f3))) (fun _ hk => hk.2) (.int .i64 ((rd_G x8_2 x32_3).f4))) (fun _ hk => hk.2) (.int .i64 ((rd_G x8_2 x32_3).f5))) (fun _ hk => ⟨hk.1.1.1, ⟨hk.1.1.2.1, ⟨hk.1.1.2.2.1, ⟨hk.1.1.2.2.2.1, ⟨hk.1.1.2.2.2.2.1, ⟨hk.1.1.2.2.2.2.2, hk.1.2⟩⟩⟩⟩⟩⟩)⟩
             have n2_ : Aside0 (Kd.R (Kd.int .i64) 3 ((((((w60.setCell ⟨gb288, 0, none⟩ (.slice A287_0 ((rd_G x8_2 x32_3).f0).length c287_0)).setCell ⟨gb288, 1, none⟩ (.int .i64 ((rd_G x8_2 x32_3).f1))).setCell ⟨gb288, 2, none⟩ (.bool false)).setCell ⟨gb288, 3, none⟩ (.int .i64 ((rd_G x8_2 x32_3).f3))).setCell ⟨gb288, 4, none⟩ (.int .i64 ((rd_G x8_2 x32_3).f4))).setCell ⟨gb288, 5, none⟩ (.int .i64 ((rd_G x8_2 x32_3).f5))) w.heap.size (fun k_ => (w.heap.size ≤ k_) ∧ nb k_ u276001) u276000 x276000_2) := ⟨ra_ (Kd.R_mono (Kd.R_far (p := ⟨gb288, 5, none⟩) (Kd.R_far (p := ⟨gb288, 4, none⟩) (Kd.R_far (p := ⟨gb288, 3, none⟩) (Kd.R_far (p := ⟨gb288, 2, none⟩) (Kd.R_far (p := ⟨gb288, 1, none⟩) (Kd.R_far (p := ⟨gb288, 0, none⟩) (Kd.R_types HO_276000.out BK288.out (by decide)) (fun _ hk => hk.2) (.slice A287_0 ((rd_G x8_2 x32_3).f0).length c287_0)) (fun _ hk => hk.2) (.int .i64 ((rd_G x8_2 x32_3).f1))) (fun _ hk => hk.2) (.bool false)) (fun _ hk => hk.2) (.int .i64 ((rd_G x8_2 x32_3).f3))) (fun _ hk => hk.2) (.int .i64 ((rd_G x8_2 x32_3).f4))) (fun _ hk => hk.2) (.int .i64 ((rd_G x8_2 x32_3).f5))) (fun _ hk => ⟨hk.1.1, hk.1.2⟩))⟩
             have n3_ : Aside0 (Kd.R (Kd.int .i64) 3 ((((((w60.setCell ⟨gb288, 0, none⟩ (.slice A287_0 ((rd_G x8_2 x32_3).f0).length c287_0)).setCell ⟨gb288, 1, none⟩ (.int .i64 ((rd_G x8_2 x32_3).f1))).setCell ⟨gb288, 2, none⟩ (.bool false)).setCell ⟨gb288, 3, none⟩ (.int .i64 ((rd_G x8_2 x32_3).f3))).setCell ⟨gb288, 4, none⟩ (.int .i64 ((rd_G x8_2 x32_3).f4))).setCell ⟨gb288, 5, none⟩ (.int .i64 ((rd_G x8_2 x32_3).f5))) w.heap.size (fun k_ => (w.heap.size ≤ k_) ∧ nb k_ u276000) u276001 x276001_2) := ⟨ra_ (Kd.R_mono (Kd.R_far (p := ⟨gb288, 5, none⟩) (Kd.R_far (p := ⟨gb288, 4, none⟩) (Kd.R_far (p := ⟨gb288, 3, none⟩) (Kd.R_far (p := ⟨gb288, 2, none⟩) (Kd.R_far (p := ⟨gb288, 1, none⟩) (Kd.R_far (p := ⟨gb288, 0, none⟩) (Kd.R_types HO_276001.out BK288.out (by decide)) (fun _ hk => hk.2) (.slice A287_0 ((rd_G x8_2 x32_3).f0).length c287_0)) (fun _ hk => hk.2) (.int .i64 ((rd_G x8_2 x32_3).f1))) (fun _ hk => hk.2) (.bool false)) (fun _ hk => hk.2) (.int .i64 ((rd_G x8_2 x32_3).f3))) (fun _ hk => hk.2) (.int .i64 ((rd_G x8_2 x32_3).f4))) (fun _ hk => hk.2) (.int .i64 ((rd_G x8_2 x32_3).f5))) (fun _ hk => ⟨hk.1.1, hk.1.2⟩))⟩
             have n4_ : Aside0 (VO ph_ w.heap.size (rd_G x8_2 x32_3).g ((((((w60.setCell ⟨gb288, 0, none⟩ (.slice A287_0 ((rd_G x8_2 x32_3).f0).length c287_0)).setCell ⟨gb288, 1, none⟩ (.int .i64 ((rd_G x8_2 x32_3).f1))).setCell ⟨gb288, 2, none⟩ (.bool false)).setCell ⟨gb288, 3, none⟩ (.int .i64 ((rd_G x8_2 x32_3).f3))).setCell ⟨gb288, 4, none⟩ (.int .i64 ((rd_G x8_2 x32_3).f4))).setCell ⟨gb288, 5, none⟩ (.int .i64 ((rd_G x8_2 x32_3).f5))) w.heap.size (fun k_ => (w.heap.size ≤ k_) ∧ nb k_ u11 ∧ nb k_ (.slice (some ad287) x8_2.length co20) ∧ nb k_ u276000 ∧ nb k_ u276001 ∧ k_ ≠ gb269 ∧ k_ ≠ gb275 ∧ k_ ≠ gb288) (.slice A287_0 ((rd_G x8_2 x32_3).f0).length c287_0) ((rd_G x8_2 x32_3).f0)) := ⟨by (with_reducible repeat (first | apply VO_alloc | apply VO_drewN | apply VO_drew)); exact VO_mono (VO_far (p := ⟨gb288, 5, none⟩) (VO_far (p := ⟨gb288, 4, none⟩) (VO_far (p := ⟨gb288, 3, none⟩) (VO_far (p := ⟨gb288, 2, none⟩) (VO_far (p := ⟨gb288, 1, none⟩) (VO_far (p := ⟨gb288, 0, none⟩) (VO_mono HL287_0.out (fun k_ hk => (⟨hk, hk.2⟩ : _ ∧ k_ ≠ gb288))) (fun _ hk => hk.2) (.slice A287_0 ((rd_G x8_2 x32_3).f0).length c287_0)) (fun _ hk => hk.2) (.int .i64 ((rd_G x8_2 x32_3).f1))) (fun _ hk => hk.2) (.bool false)) (fun _ hk => hk.2) (.int .i64 ((rd_G x8_2 x32_3).f3))) (fun _ hk => hk.2) (.int .i64 ((rd_G x8_2 x32_3).f4))) (fun _ hk => hk.2) (.int .i64 ((rd_G x8_2 x32_3).f5))) (fun _ hk => ⟨hk.1.1.1.1, ⟨hk.1.1.1.2.1, ⟨hk.1.1.2, ⟨hk.1.1.1.2.2.1, ⟨hk.1.1.1.2.2.2.1, ⟨hk.1.1.1.2.2.2.2.1, ⟨hk.1.1.1.2.2.2.2.2, hk.1.2⟩⟩⟩⟩⟩⟩⟩)⟩
             have n5_ : Aside0 (((((((w60.setCell ⟨gb288, 0, none⟩ (.slice A287_0 ((rd_G x8_2 x32_3).f0).length c287_0)).setCell ⟨gb288, 1, none⟩ (.int .i64 ((rd_G x8_2 x32_3).f1))).setCell ⟨gb288, 2, none⟩ (.bool false)).setCell ⟨gb288, 3, none⟩ (.int .i64 ((rd_G x8_2 x32_3).f3))).setCell ⟨gb288, 4, none⟩ (.int .i64 ((rd_G x8_2 x32_3).f4))).setCell ⟨gb288, 5, none⟩ (.int .i64 ((rd_G x8_2 x32_3).f5))).heap[gb269]? = some (.cells #[.slice none 0 0, .slice none 0 0] 40 (0, 0))) := ⟨by (with_reducible repeat (first | refine blk_drewN ?_ _ | refine blk_drew ?_ | refine blk_alloc ?_ _)); refine blk_far ?_ NB269_288.out _; (with_reducible repeat (first | refine blk_drewN ?_ _ | refine blk_drew ?_ | refine blk_alloc ?_ _)); refine blk_far ?_ NB269_288.out _; (with_reducible repeat (first | refine blk_drewN ?_ _ | refine blk_drew ?_ | refine blk_alloc ?_ _)); refine blk_far ?_ NB269_288.out _; (with_reducible repeat (first | refine blk_drewN ?_ _ | refine blk_drew ?_ | refine blk_alloc ?_ _)); refine blk_far ?_ NB269_288.out _; (with_reducible repeat (first | refine blk_drewN ?_ _ | refine blk_drew ?_ | refine blk_alloc ?_ _)); refine blk_far ?_ NB269_288.out _; (with_reducible repeat (first | refine blk_drewN ?_ _ | refine blk_drew ?_ | refine blk_alloc ?_ _)); refine blk_far ?_ NB269_288.out _; (with_reducible repeat (first | refine blk_drewN ?_ _ | refine blk_drew ?_ | refine blk_alloc ?_ _)); exact BK269.out⟩
             have n6_ : Aside0 (((((((w60.setCell ⟨gb288, 0, none⟩ (.slice A287_0 ((rd_G x8_2 x32_3).f0).length c287_0)).setCell ⟨gb288, 1, none⟩ (.int .i64 ((rd_G x8_2 x32_3).f1))).setCell ⟨gb288, 2, none⟩ (.bool false)).setCell ⟨gb288, 3, none⟩ (.int .i64 ((rd_G x8_2 x32_3).f3))).setCell ⟨gb288, 4, none⟩ (.int .i64 ((rd_G x8_2 x32_3).f4))).setCell ⟨gb288, 5, none⟩ (.int .i64 ((rd_G x8_2 x32_3).f5))).heap[gb275]? = some (.cells #[u276000, u276001] 40 (0, 0))) := ⟨by (with_reducible repeat (first | refine blk_drewN ?_ _ | refine blk_drew ?_ | refine blk_alloc ?_ _)); refine blk_far ?_ NB275_288.out _; (with_reducible repeat (first | refine blk_drewN ?_ _ | refine blk_drew ?_ | refine blk_alloc ?_ _)); refine blk_far ?_ NB275_288.out _; (with_reducible repeat (first | refine blk_drewN ?_ _ | refine blk_drew ?_ | refine blk_alloc ?_ _)); refine blk_far ?_ NB275_288.out _; (with_reducible repeat (first | refine blk_drewN ?_ _ | refine blk_drew ?_ | refine blk_alloc ?_ _)); refine blk_far ?_ NB275_288.out _; (with_reducible repeat (first | refine blk_drewN ?_ _ | refine blk_drew ?_ | refine blk_alloc ?_ _)); refine blk_far ?_ NB275_288.out _; (with_reducible repeat (first | refine blk_drewN ?_ _ | refine blk_drew ?_ | refine blk_alloc ?_ _)); refine blk_far ?_ NB275_288.out _; (with_reducible repeat (first | refine blk_drewN ?_ _ | refine blk_drew ?_ | refine blk_alloc ?_ _)); exact BK275.out⟩
             have n7_ : Aside0 (((((((w60.setCell ⟨gb288, 0, none⟩ (.slice A287_0 ((rd_G x8_2 x32_3).f0).length c287_0)).setCell ⟨gb288, 1, none⟩ (.int .i64 ((rd_G x8_2 x32_3).f1))).setCell ⟨gb288, 2, none⟩ (.bool false)).setCell ⟨gb288, 3, none⟩ (.int .i64 ((rd_G x8_2 x32_3).f3))).setCell ⟨gb288, 4, none⟩ (.int .i64 ((rd_G x8_2 x32_3).f4))).setCell ⟨gb288, 5, none⟩ (.int .i64 ((rd_G x8_2 x32_3).f5))).heap[gb288]? = some (.cells #[.slice A287_0 ((rd_G x8_2 x32_3).f0).length c287_0, .int .i64 ((rd_G x8_2 x32_3).f1), .bool false, .int .i64 ((rd_G x8_2 x32_3).f3), .int .i64 ((rd_G x8_2 x32_3).f4), .int .i64 ((rd_G x8_2 x32_3).f5)] 32 (0, 0))) := ⟨by (with_reducible repeat (first | refine blk_drewN ?_ _ | refine blk_drew ?_ | refine blk_alloc ?_ _)); refine blk_put (cs := #[.slice A287_0 ((rd_G x8_2 x32_3).f0).length c287_0, .int .i64 ((rd_G x8_2 x32_3).f1), .bool false, .int .i64 ((rd_G x8_2 x32_3).f3), .int .i64 ((rd_G x8_2 x32_3).f4), .int .i64 0]) ?_ 5 _ rfl; (with_reducible repeat (first | refine blk_drewN ?_ _ | refine blk_drew ?_ | refine blk_alloc ?_ _)); refine blk_put (cs := #[.slice A287_0 ((rd_G x8_2 x32_3).f0).length c287_0, .int .i64 ((rd_G x8_2 x32_3).f1), .bool false, .int .i64 ((rd_G x8_2 x32_3).f3), .int .i64 0, .int .i64 0]) ?_ 4 _ rfl; (with_reducible repeat (first | refine blk_drewN ?_ _ | refine blk_drew ?_ | refine blk_alloc ?_ _)); refine blk_put (cs := #[.slice A287_0 ((rd_G x8_2 x32_3).f0).length c287_0, .int .i64 ((rd_G x8_2 x32_3).f1), .bool false, .int .i64 0, .int .i64 0, .int .i64 0]) ?_ 3 _ rfl; (with_reducible repeat (first | refine blk_drewN ?_ _ | refine blk_drew ?_ | refine blk_alloc ?_ _)); refine blk_put (cs := #[.slice A287_0 ((rd_G x8_2 x32_3).f0).length c287_0, .int .i64 ((rd_G x8_2 x32_3).f1), .bool false, .int .i64 0, .int .i64 0, .int .i64 0]) ?_ 2 _ rfl; (with_reducible repeat (first | refine blk_drewN ?_ _ | refine blk_drew ?_ | refine blk_alloc ?_ _)); refine blk_put (cs := #[.slice A287_0 ((rd_G x8_2 x32_3).f0).length c287_0, .int .i64 0, .bool false, .int .i64 0, .int .i64 0, .int .i64 0]) ?_ 1 _ rfl; (with_reducible repeat (first | refine blk_drewN ?_ _ | refine blk_drew ?_ | refine blk_alloc ?_ _)); refine blk_put (cs := #[.slice none 0 0, .int .i64 0, .bool false, .int .i64 0, .int .i64 0, .int .i64 0]) ?_ 0 _ rfl; (with_reducible repeat (first | refine blk_drewN ?_ _ | refine blk_drew ?_ | refine blk_alloc ?_ _)); exact BK288.out⟩
             have n8_ : Aside0 (Below w.heap.size w ((((((w60.setCell ⟨gb288, 0, none⟩ (.slice A287_0 ((rd_G x8_2 x32_3).f0).length c287_0)).setCell ⟨gb288, 1, none⟩ (.int .i64 ((rd_G x8_2 x32_3).f1))).setCell ⟨gb288, 2, none⟩ (.bool false)).setCell ⟨gb288, 3, none⟩ (.int .i64 ((rd_G x8_2 x32_3).f3))).setCell ⟨gb288, 4, none⟩ (.int .i64 ((rd_G x8_2 x32_3).f4))).setCell ⟨gb288, 5, none⟩ (.int .i64 ((rd_G x8_2 x32_3).f5)))) := ⟨bw_ HB.out⟩
             (try clear HO_11)
             (try clear HO_30)
             (try clear HO_276000)
             (try clear HO_276001)
             (try clear HL287_0)
             (try clear BK269)
             (try clear BK275)
             (try clear BK288)
             (try clear HB)
             generalize ((((((w60.setCell ⟨gb288, 0, none⟩ (.slice A287_0 ((rd_G x8_2 x32_3).f0).length c287_0)).setCell ⟨gb288, 1, none⟩ (.int .i64 ((rd_G x8_2 x32_3).f1))).setCell ⟨gb288, 2, none⟩ (.bool false)).setCell ⟨gb288, 3, none⟩ (.int .i64 ((rd_G x8_2 x32_3).f3))).setCell ⟨gb288, 4, none⟩ (.int .i64 ((rd_G x8_2 x32_3).f4))).setCell ⟨gb288, 5, none⟩ (.int .i64 ((rd_G x8_2 x32_3).f5))) = w64 at n0_ n1_ n2_ n3_ n4_ n5_ n6_ n7_ n8_ ⊢
             have HO_11 := n0_
             have HO_30 := n1_
             have HO_276000 := n2_
             have HO_276001 := n3_
             have HL287_0 := n4_
             have BK269 := n5_
             have BK275 := n6_
             have BK288 := n7_
             have HB := n8_
             clear n0_ n1_ n2_ n3_ n4_ n5_ n6_ n7_ n8_
             have n0_ := am_ (Kd.N_drew HO_11.out)
             have n1_ := am_ (Kd.N_drew HO_30.out)
             have n2_ := am_ (Kd.R_drew HO_276000.out)
             have n3_ := am_ (Kd.R_drew HO_276001.out)
             have n4_ := am_ (VO_drew HL287_0.out)
             have n5_ := am_ (blk_drew BK269.out)
             have n6_ := am_ (blk_drew BK275.out)
             have n7_ := am_ (blk_drew BK288.out)
             have n8_ := am_ (below_drew1 HB.out)
             replace HO_11 := n0_
             replace HO_30 := n1_
             replace HO_276000 := n2_
             replace HO_276001 := n3_
             replace HL287_0 := n4_
             replace BK269 := n5_
             replace BK275 := n6_
             replace BK288 := n7_
             replace HB := n8_
             clear n0_ n1_ n2_ n3_ n4_ n5_ n6_ n7_ n8_
             have p289 : 0 ≤ (((rd_G x8_2 x32_3).f1) : Int) := od_
             have q289 : ((rd_G x8_2 x32_3).f1) < (((rd_G x8_2 x32_3).f0).length : Int) := od_
             obtain ⟨ad289, e289, hx289_0⟩ := Kd.at_int ((VO_reads' HL287_0.out).2.2) ((rd_G x8_2 x32_3).f1) p289 q289
             cases e289
             replace p289 := eq_true p289
             replace q289 := eq_true q289
             refine start_ (n := 12) (S := fun w' => w'.cell? ⟨gb288, 0, none⟩ = some (.slice (some ad289) ((rd_G x8_2 x32_3).f0).length c287_0) ∧ w'.cell? ⟨gb288, 1, none⟩ = some (.int .i64 ((rd_G x8_2 x32_3).f1)) ∧ w'.cell? ⟨gb288, 2, none⟩ = some (.bool false) ∧ w'.cell? ⟨gb288, 3, none⟩ = some (.int .i64 ((rd_G x8_2 x32_3).f3)) ∧ w'.cell? ⟨gb288, 4, none⟩ = some (.int .i64 ((rd_G x8_2 x32_3).f4)) ∧ w'.cell? ⟨gb288, 5, none⟩ = some (.int .i64 ((rd_G x8_2 x32_3).f5)) ∧ w'.cell? (ad289.add (((rd_G x8_2 x32_3).f1)).toNat) = some (.int .i64 (rd ((rd_G x8_2 x32_3).f0) ((rd_G x8_2 x32_3).f1)))) (ds := []) (Array.replicate 12 false) (by kernel_rfl) rfl rfl ⟨cz_ BK288.out 0, cz_ BK288.out 1, cz_ BK288.out 2, cz_ BK288.out 3, cz_ BK288.out 4, cz_ BK288.out 5, hx289_0⟩ (fun hHeld => ?_); refine with_tabW impl_MixVoices.tab10 impl_MixVoices.bits10 (fun HT_ HW_ => ?_)
             generalize w64.drew = w65 at HO_11 HO_30 HO_276000 HO_276001 HL287_0 BK269 BK275 BK288 HB hx289_0 hHeld ⊢
             refine pS_ 0 36 HT_ ?_
             refine pS_ 1 37 HT_ ?_
             refine pS_ 3 39 HT_ ?_
             refine pS_ 7 43 HT_ ?_
             refine tS_ 2 38 HT_ HW_ hHeld ?_
             refine tS_ 4 40 HT_ HW_ hHeld ?_
             refine pS_ 5 41 HT_ ?_
             refine tS_ 6 42 HT_ HW_ hHeld ?_
             refine tS_ 8 44 HT_ HW_ hHeld ?_
             refine oS_ 9 45 HT_ (fun K hK => ?_)
             refine goes_ Try.func37 (by kernel_rfl) rfl #[.int .i64 (rd ((rd_G x8_2 x32_3).f0) ((rd_G x8_2 x32_3).f1)), .int .i64 ((rd_G x8_2 x32_3).f3)] (by rfl) rfl rfl (by (try simp only [List.map_toArray, List.map_cons, List.map_nil]); first | done | rfl | (simp only [List.length_drop, List.length_take]; rfl)) ?_
             with_reducible refine (impl_FixMul.calls (rd ((rd_G x8_2 x32_3).f0) ((rd_G x8_2 x32_3).f1)) ((rd_G x8_2 x32_3).f3) t290 _ A26.out).mono ?_
             rintro e w66 ⟨rfl, hb⟩
             have HS6_ := (hb.cell (World.block_lt_of_cell? _ _ (hHeld.2.2.2.2.2.2))).trans (hHeld.2.2.2.2.2.2)
             refine ⟨_, rfl, ?_⟩
             have n0_ := am_ (Kd.N_below (by (with_reducible repeat (first | apply Kd.N_alloc | apply Kd.N_drewN | apply Kd.N_drew)); exact HO_11.out) hb)
             have n1_ := am_ (Kd.N_below (by (with_reducible repeat (first | apply Kd.N_alloc | apply Kd.N_drewN | apply Kd.N_drew)); exact HO_30.out) hb)
             have n2_ := am_ (Kd.R_below (ra_ HO_276000.out) hb)
             have n3_ := am_ (Kd.R_below (ra_ HO_276001.out) hb)
             have n4_ := am_ (VO_below (by (with_reducible repeat (first | apply VO_alloc | apply VO_drewN | apply VO_drew)); exact HL287_0.out) hb)
             have n5_ := am_ (blk_below (bk_ BK269.out) hb)
             have n6_ := am_ (blk_below (bk_ BK275.out) hb)
             have n7_ := am_ (blk_below (bk_ BK288.out) hb)
             have n8_ := am_ (below_step (bw_ HB.out) hb)
             replace HO_11 := n0_
             replace HO_30 := n1_
             replace HO_276000 := n2_
             replace HO_276001 := n3_
             replace HL287_0 := n4_
             replace BK269 := n5_
             replace BK275 := n6_
             replace BK288 := n7_
             replace HB := n8_
             clear n0_ n1_ n2_ n3_ n4_ n5_ n6_ n7_ n8_
             (try clear hb)
             (try clear hb2)
             (try clear hk)
             (try clear hi)
             refine hK.out _ _ ⟨cz_ BK288.out 0, cz_ BK288.out 1, cz_ BK288.out 2, cz_ BK288.out 3, cz_ BK288.out 4, cz_ BK288.out 5, HS6_⟩ (fun hHeld => ?_)
             clear hK K
             refine nD_ 45 ?_
             refine pS_ 10 46 HT_ ?_
             refine pS_ 11 9 HT_ ?_
             refine done_ (done_of HT_.out (by kernel_rfl)) ?_
             try go_wp2
             have n0_ := am_ (Kd.N_drew HO_11.out)
             have n1_ := am_ (Kd.N_drew HO_30.out)
             have n2_ := am_ (Kd.R_drew HO_276000.out)
             have n3_ := am_ (Kd.R_drew HO_276001.out)
             have n4_ := am_ (VO_drew HL287_0.out)
             have n5_ := am_ (blk_drew BK269.out)
             have n6_ := am_ (blk_drew BK275.out)
             have n7_ := am_ (blk_drew BK288.out)
             have n8_ := am_ (below_drew1 HB.out)
             replace HO_11 := n0_
             replace HO_30 := n1_
             replace HO_276000 := n2_
             replace HO_276001 := n3_
             replace HL287_0 := n4_
             replace BK269 := n5_
             replace BK275 := n6_
             replace BK288 := n7_
             replace HB := n8_
             clear n0_ n1_ n2_ n3_ n4_ n5_ n6_ n7_ n8_
             have p291 : 0 ≤ (((rd_G x8_2 x32_3).f1) : Int) := od_
             have q291 : ((rd_G x8_2 x32_3).f1) < (((rd_G x8_2 x32_3).f0).length : Int) := od_
             obtain ⟨ad291, e291, hx291_0⟩ := Kd.at_int ((VO_reads' HL287_0.out).2.2) ((rd_G x8_2 x32_3).f1) p291 q291
             obtain rfl : ad289 = ad291 := (by injection e291)
             replace p291 := eq_true p291
             replace q291 := eq_true q291
             refine start_ (n := 12) (S := fun w' => w'.cell? ⟨gb288, 0, none⟩ = some (.slice (some ad289) ((rd_G x8_2 x32_3).f0).length c287_0) ∧ w'.cell? ⟨gb288, 1, none⟩ = some (.int .i64 ((rd_G x8_2 x32_3).f1)) ∧ w'.cell? ⟨gb288, 2, none⟩ = some (.bool false) ∧ w'.cell? ⟨gb288, 3, none⟩ = some (.int .i64 ((rd_G x8_2 x32_3).f3)) ∧ w'.cell? ⟨gb288, 4, none⟩ = some (.int .i64 ((rd_G x8_2 x32_3).f4)) ∧ w'.cell? ⟨gb288, 5, none⟩ = some (.int .i64 ((rd_G x8_2 x32_3).f5)) ∧ w'.cell? (ad289.add (((rd_G x8_2 x32_3).f1)).toNat) = some (.int .i64 (rd ((rd_G x8_2 x32_3).f0) ((rd_G x8_2 x32_3).f1)))) (ds := []) (Array.replicate 12 false) (by kernel_rfl) rfl rfl ⟨cz_ BK288.out 0, cz_ BK288.out 1, cz_ BK288.out 2, cz_ BK288.out 3, cz_ BK288.out 4, cz_ BK288.out 5, hx291_0⟩ (fun hHeld => ?_); refine with_tabW impl_MixVoices.tab11 impl_MixVoices.bits11 (fun HT_ HW_ => ?_)
             generalize w66.drew = w67 at HO_11 HO_30 HO_276000 HO_276001 HL287_0 BK269 BK275 BK288 HB hx291_0 hHeld ⊢
             refine pS_ 0 47 HT_ ?_
             refine pS_ 1 48 HT_ ?_
             refine pS_ 3 50 HT_ ?_
             refine pS_ 7 54 HT_ ?_
             refine tS_ 2 49 HT_ HW_ hHeld ?_
             refine tS_ 4 51 HT_ HW_ hHeld ?_
             refine pS_ 5 52 HT_ ?_
             refine tS_ 6 53 HT_ HW_ hHeld ?_
             refine tS_ 8 55 HT_ HW_ hHeld ?_
             refine oS_ 9 56 HT_ (fun K hK => ?_)
             refine goes_ Try.func37 (by kernel_rfl) rfl #[.int .i64 (rd ((rd_G x8_2 x32_3).f0) ((rd_G x8_2 x32_3).f1)), .int .i64 ((rd_G x8_2 x32_3).f4)] (by rfl) rfl rfl (by (try simp only [List.map_toArray, List.map_cons, List.map_nil]); first | done | rfl | (simp only [List.length_drop, List.length_take]; rfl)) ?_
             with_reducible refine (impl_FixMul.calls (rd ((rd_G x8_2 x32_3).f0) ((rd_G x8_2 x32_3).f1)) ((rd_G x8_2 x32_3).f4) t292 _ A27.out).mono ?_
             rintro e w68 ⟨rfl, hb⟩
             have HS6_ := (hb.cell (World.block_lt_of_cell? _ _ (hHeld.2.2.2.2.2.2))).trans (hHeld.2.2.2.2.2.2)
             refine ⟨_, rfl, ?_⟩
             have n0_ := am_ (Kd.N_below (by (with_reducible repeat (first | apply Kd.N_alloc | apply Kd.N_drewN | apply Kd.N_drew)); exact HO_11.out) hb)
             have n1_ := am_ (Kd.N_below (by (with_reducible repeat (first | apply Kd.N_alloc | apply Kd.N_drewN | apply Kd.N_drew)); exact HO_30.out) hb)
             have n2_ := am_ (Kd.R_below (ra_ HO_276000.out) hb)
             have n3_ := am_ (Kd.R_below (ra_ HO_276001.out) hb)
             have n4_ := am_ (VO_below (by (with_reducible repeat (first | apply VO_alloc | apply VO_drewN | apply VO_drew)); exact HL287_0.out) hb)
             have n5_ := am_ (blk_below (bk_ BK269.out) hb)
             have n6_ := am_ (blk_below (bk_ BK275.out) hb)
             have n7_ := am_ (blk_below (bk_ BK288.out) hb)
             have n8_ := am_ (below_step (bw_ HB.out) hb)
             replace HO_11 := n0_
             replace HO_30 := n1_
             replace HO_276000 := n2_
             replace HO_276001 := n3_
             replace HL287_0 := n4_
             replace BK269 := n5_
             replace BK275 := n6_
             replace BK288 := n7_
             replace HB := n8_
             clear n0_ n1_ n2_ n3_ n4_ n5_ n6_ n7_ n8_
             (try clear hb)
             (try clear hb2)
             (try clear hk)
             (try clear hi)
             refine hK.out _ _ ⟨cz_ BK288.out 0, cz_ BK288.out 1, cz_ BK288.out 2, cz_ BK288.out 3, cz_ BK288.out 4, cz_ BK288.out 5, HS6_⟩ (fun hHeld => ?_)
             clear hK K
             refine nD_ 56 ?_
             refine pS_ 10 57 HT_ ?_
             refine pS_ 11 10 HT_ ?_
             refine done_ (done_of HT_.out (by kernel_rfl)) ?_
             have hcz69_0 := cz_ BK288.out 0
             have hcz69_1 := cz_ BK288.out 1
             have hcz69_2 := cz_ BK288.out 2
             have hcz69_3 := cz_ BK288.out 3
             have hcz69_4 := cz_ BK288.out 4
             have hcz69_5 := cz_ BK288.out 5
             have hfz69_0 := blk_frozen BK288.out 0
             have hfz69_1 := blk_frozen BK288.out 1
             have hfz69_2 := blk_frozen BK288.out 2
             have hfz69_3 := blk_frozen BK288.out 3
             have hfz69_4 := blk_frozen BK288.out 4
             have hfz69_5 := blk_frozen BK288.out 5
             try go_wp2_with (first | ((with_reducible refine gate_store (t := 3) (p := 61) rfl ?_); refine se_ 3 61 (w68.setCell ⟨gb288, 1, none⟩ (.int .i64 (wrap64 (((rd_G x8_2 x32_3).f1) + 1)))) ?_; intro w70 hw; have n0_ : Aside0 (Kd.N (kg ph_ w.heap.size) 32 w70 w.heap.size (fun k_ => (w.heap.size ≤ k_) ∧ nb k_ (.slice (some ad287) x8_2.length co20) ∧ nb k_ u276000 ∧ nb k_ u276001 ∧ k_ ≠ gb269 ∧ k_ ≠ gb275 ∧ k_ ≠ gb288) u11 x11_3) := ⟨(by rw [hw]; exact (by (with_reducible repeat (first | apply Kd.N_alloc | apply Kd.N_drewN | apply Kd.N_drew)); exact Kd.N_mono (Kd.N_far (p := ⟨gb288, 1, none⟩) (Kd.N_mono HO_11.out (fun k_ hk => (⟨hk, hk.2.2.2.2.2.2⟩ : _ ∧ k_ ≠ gb288))) (fun _ hk => hk.2) (.int .i64 (wrap64 (((rd_G x8_2 x32_3).f1) + 1)))) (fun _ hk => ⟨hk.1.1, ⟨hk.1.2.1, ⟨hk.1.2.2.1, ⟨hk.1.2.2.2.1, ⟨hk.1.2.2.2.2.1, ⟨hk.1.2.2.2.2.2.1, hk.1.2.2.2.2.2.2⟩⟩⟩⟩⟩⟩)))⟩; have n1_ : Aside0 (Kd.N (kg ph_ w.heap.size) 32 w70 w.heap.size (fun k_ => (w.heap.size ≤ k_) ∧ nb k_ u11 ∧ nb k_ u276000 ∧ nb k_ u276001 ∧ k_ ≠ gb269 ∧ k_ ≠ gb275 ∧ k_ ≠ gb288) (.slice (some ad287) x8_2.length co20) x8_2) := ⟨(by rw [hw]; exact (by (with_reducible repeat (first | apply Kd.N_alloc | apply Kd.N_drewN | apply Kd.N_drew)); exact Kd.N_mono (Kd.N_far (p := ⟨gb288, 1, none⟩) (Kd.N_mono HO_30.out (fun k_ hk => (⟨hk, hk.2.2.2.2.2.2⟩ : _ ∧ k_ ≠ gb288))) (fun _ hk => hk.2) (.int .i64 (wrap64 (((rd_G x8_2 x32_3).f1) + 1)))) (fun _ hk => ⟨hk.1.1, ⟨hk.1.2.1, ⟨hk.1.2.2.1, ⟨hk.1.2.2.2.1, ⟨hk.1.2.2.2.2.1, ⟨hk.1.2.2.2.2.2.1, hk.1.2.2.2.2.2.2⟩⟩⟩⟩⟩⟩)))⟩; have n2_ : Aside0 (Kd.R (Kd.int .i64) 3 w70 w.heap.size (fun k_ => (w.heap.size ≤ k_) ∧ nb k_ u276001) u276000 x276000_2) := ⟨(by rw [hw]; exact (ra_ (Kd.R_mono (Kd.R_far (p := ⟨gb288, 1, none⟩) (Kd.R_types HO_276000.out BK288.out (by decide)) (fun _ hk => hk.2) (.int .i64 (wrap64 (((rd_G x8_2 x32_3).f1) + 1)))) (fun _ hk => ⟨hk.1.1, hk.1.2⟩))))⟩; have n3_ : Aside0 (Kd.R (Kd.int .i64) 3 w70 w.heap.size (fun k_ => (w.heap.size ≤ k_) ∧ nb k_ u276000) u276001 x276001_2) := ⟨(by rw [hw]; exact (ra_ (Kd.R_mono (Kd.R_far (p := ⟨gb288, 1, none⟩) (Kd.R_types HO_276001.out BK288.out (by decide)) (fun _ hk => hk.2) (.int .i64 (wrap64 (((rd_G x8_2 x32_3).f1) + 1)))) (fun _ hk => ⟨hk.1.1, hk.1.2⟩))))⟩; have n4_ : Aside0 (VO ph_ w.heap.size (rd_G x8_2 x32_3).g w70 w.heap.size (fun k_ => (w.heap.size ≤ k_) ∧ nb k_ u11 ∧ nb k_ (.slice (some ad287) x8_2.length co20) ∧ nb k_ u276000 ∧ nb k_ u276001 ∧ k_ ≠ gb269 ∧ k_ ≠ gb275 ∧ k_ ≠ gb288) (.slice (some ad289) ((rd_G x8_2 x32_3).f0).length c287_0) ((rd_G x8_2 x32_3).f0)) := ⟨(by rw [hw]; exact (by (with_reducible repeat (first | apply VO_alloc | apply VO_drewN | apply VO_drew)); exact VO_mono (VO_far (p := ⟨gb288, 1, none⟩) (VO_mono HL287_0.out (fun k_ hk => (⟨hk, hk.2.2.2.2.2.2.2⟩ : _ ∧ k_ ≠ gb288))) (fun _ hk => hk.2) (.int .i64 (wrap64 (((rd_G x8_2 x32_3).f1) + 1)))) (fun _ hk => ⟨hk.1.1, ⟨hk.1.2.1, ⟨hk.1.2.2.1, ⟨hk.1.2.2.2.1, ⟨hk.1.2.2.2.2.1, ⟨hk.1.2.2.2.2.2.1, ⟨hk.1.2.2.2.2.2.2.1, hk.1.2.2.2.2.2.2.2⟩⟩⟩⟩⟩⟩⟩)))⟩; have n5_ : Aside0 (w70.heap[gb269]? = some (.cells #[.slice none 0 0, .slice none 0 0] 40 (0, 0))) := ⟨(by rw [hw]; exact (by (with_reducible repeat (first | refine blk_drewN ?_ _ | refine blk_drew ?_ | refine blk_alloc ?_ _)); refine blk_far ?_ NB269_288.out _; (with_reducible repeat (first | refine blk_drewN ?_ _ | refine blk_drew ?_ | refine blk_alloc ?_ _)); exact BK269.out))⟩; have n6_ : Aside0 (w70.heap[gb275]? = some (.cells #[u276000, u276001] 40 (0, 0))) := ⟨(by rw [hw]; exact (by (with_reducible repeat (first | refine blk_drewN ?_ _ | refine blk_drew ?_ | refine blk_alloc ?_ _)); refine blk_far ?_ NB275_288.out _; (with_reducible repeat (first | refine blk_drewN ?_ _ | refine blk_drew ?_ | refine blk_alloc ?_ _)); exact BK275.out))⟩; have n7_ : Aside0 (w70.heap[gb288]? = some (.cells #[.slice (some ad289) ((rd_G x8_2 x32_3).f0).length c287_0, .int .i64 (wrap64 (((rd_G x8_2 x32_3).f1) + 1)), .bool false, .int .i64 ((rd_G x8_2 x32_3).f3), .int .i64 ((rd_G x8_2 x32_3).f4), .int .i64 ((rd_G x8_2 x32_3).f5)] 32 (0, 0))) := ⟨(by rw [hw]; exact (by (with_reducible repeat (first | refine blk_drewN ?_ _ | refine blk_drew ?_ | refine blk_alloc ?_ _)); refine blk_put (cs := #[.slice (some ad289) ((rd_G x8_2 x32_3).f0).length c287_0, .int .i64 ((rd_G x8_2 x32_3).f1), .bool false, .int .i64 ((rd_G x8_2 x32_3).f3), .int .i64 ((rd_G x8_2 x32_3).f4), .int .i64 ((rd_G x8_2 x32_3).f5)]) ?_ 1 _ rfl; (with_reducible repeat (first | refine blk_drewN ?_ _ | refine blk_drew ?_ | refine blk_alloc ?_ _)); exact BK288.out))⟩; have n8_ : Aside0 (Below w.heap.size w w70) := ⟨(by rw [hw]; exact (bw_ HB.out))⟩; clear hw; replace HO_11 := n0_; replace HO_30 := n1_; replace HO_276000 := n2_; replace HO_276001 := n3_; replace HL287_0 := n4_; replace BK269 := n5_; replace BK275 := n6_; replace BK288 := n7_; replace HB := n8_; clear n0_ n1_ n2_ n3_ n4_ n5_ n6_ n7_ n8_; have hcz71_0 := cz_ BK288.out 0; have hcz71_1 := cz_ BK288.out 1; have hcz71_2 := cz_ BK288.out 2; have hcz71_3 := cz_ BK288.out 3; have hcz71_4 := cz_ BK288.out 4; have hcz71_5 := cz_ BK288.out 5; have hfz71_0 := blk_frozen BK288.out 0; have hfz71_1 := blk_frozen BK288.out 1; have hfz71_2 := blk_frozen BK288.out 2; have hfz71_3 := blk_frozen BK288.out 3; have hfz71_4 := blk_frozen BK288.out 4; have hfz71_5 := blk_frozen BK288.out 5) | ((with_reducible refine gate_dst (N := 81) rfl ?_); refine bsl6_ 28 32 Try.underlying28 info32 81 (.tmp 80) _ _ _ _ _ _ ?_) | ((with_reducible refine gate_builtin (b := .append) (xs := #[.tmp 79, .tmp 81]) rfl ?_); at_builtin; refine Kd.N_append (kg ph_ w.heap.size) (w0 := w) w.heap.size rfl (.tmp 79) (.tmp 81) 28 32 (.agg #[(.slice none 0 0), (.int .i64 0), (.bool false), (.int .i64 0), (.int .i64 0), (.int .i64 0)]) 64 rfl Try.underlying28 info32 rfl (Nat.succ_pos 5) (by omega) u11 x11_3 (⟨(rd_G x8_2 x32_3).f0, wrap64 (((rd_G x8_2 x32_3).f1) + 1), false, (rd_G x8_2 x32_3).f3, (rd_G x8_2 x32_3).f4, (rd_G x8_2 x32_3).f5, (rd_G x8_2 x32_3).g⟩ : G32) [.slice (some ad289) ((rd_G x8_2 x32_3).f0).length c287_0, .int .i64 (wrap64 (((rd_G x8_2 x32_3).f1) + 1)), .bool false, .int .i64 ((rd_G x8_2 x32_3).f3), .int .i64 ((rd_G x8_2 x32_3).f4), .int .i64 ((rd_G x8_2 x32_3).f5)] (fun k_ => (w.heap.size ≤ k_) ∧ nb k_ (.slice (some ad287) x8_2.length co20) ∧ nb k_ u276000 ∧ nb k_ u276001 ∧ k_ ≠ gb269 ∧ k_ ≠ gb275 ∧ k_ ≠ gb288) (fun k_ => ((fun k_ => (w.heap.size ≤ k_) ∧ nb k_ (.slice (some ad287) x8_2.length co20) ∧ nb k_ u276000 ∧ nb k_ u276001 ∧ k_ ≠ gb269 ∧ k_ ≠ gb275 ∧ k_ ≠ gb288)) k_ ∧ nb k_ u11) rfl rfl ?aP (fun _ hk => hk) ?aF ?aO ?aB ?aS ?aL ?_; (case aP => exact (kg_mkF _ _ (⟨(rd_G x8_2 x32_3).f0, wrap64 (((rd_G x8_2 x32_3).f1) + 1), false, (rd_G x8_2 x32_3).f3, (rd_G x8_2 x32_3).f4, (rd_G x8_2 x32_3).f5, (rd_G x8_2 x32_3).g⟩ : G32) (VO_reads' (VO_mono (ok' := (fun k_ => ((fun k_ => (w.heap.size ≤ k_) ∧ nb k_ (.slice (some ad287) x8_2.length co20) ∧ nb k_ u276000 ∧ nb k_ u276001 ∧ k_ ≠ gb269 ∧ k_ ≠ gb275 ∧ k_ ≠ gb288)) k_ ∧ nb k_ u11)) (HL287_0.out) (fun k_ hk => ⟨⟨hk.1, ⟨hk.2.2.1, ⟨hk.2.2.2.1, ⟨hk.2.2.2.2.1, ⟨hk.2.2.2.2.2.1, ⟨hk.2.2.2.2.2.2.1, hk.2.2.2.2.2.2.2⟩⟩⟩⟩⟩⟩, hk.2.1⟩))).2.1 (VO_F (VO_mono (ok' := (fun k_ => ((fun k_ => (w.heap.size ≤ k_) ∧ nb k_ (.slice (some ad287) x8_2.length co20) ∧ nb k_ u276000 ∧ nb k_ u276001 ∧ k_ ≠ gb269 ∧ k_ ≠ gb275 ∧ k_ ≠ gb288)) k_ ∧ nb k_ u11)) (HL287_0.out) (fun k_ hk => ⟨⟨hk.1, ⟨hk.2.2.1, ⟨hk.2.2.2.1, ⟨hk.2.2.2.2.1, ⟨hk.2.2.2.2.2.1, ⟨hk.2.2.2.2.2.2.1, hk.2.2.2.2.2.2.2⟩⟩⟩⟩⟩⟩, hk.2.1⟩))))); (case aB => exact (bw_ HB.out)); (case aF => exact (fun k_ hk => ⟨(Nat.le_trans (below_size (bw_ HB.out)) hk), Kd.fresh' (Kd.N_lt (by (with_reducible repeat (first | apply Kd.N_alloc | apply Kd.N_drewN | apply Kd.N_drew)); exact HO_30.out)) k_ hk, Kd.fresh' (Kd.R_lt (ra_ HO_276000.out)) k_ hk, Kd.fresh' (Kd.R_lt (ra_ HO_276001.out)) k_ hk, Kd.freshB (bk_ BK269.out) k_ hk, Kd.freshB (bk_ BK275.out) k_ hk, Kd.freshB (bk_ BK288.out) k_ hk⟩)); (case aO => exact (by (with_reducible repeat (first | apply Kd.N_alloc | apply Kd.N_drewN | apply Kd.N_drew)); exact HO_11.out)); (case aS => exact (below_size (bw_ HB.out))); (case aL => have := LMc59.out; omega); intro v297 w72 ho hb hg hat; rw [← Ny296.out] at ho; have n0_ := am_ (Kd.N_afterv (ok := (fun k_ => (w.heap.size ≤ k_) ∧ nb k_ u276000 ∧ nb k_ u276001 ∧ k_ ≠ gb269 ∧ k_ ≠ gb275 ∧ k_ ≠ gb288)) (by (with_reducible repeat (first | apply Kd.N_alloc | apply Kd.N_drewN | apply Kd.N_drew)); exact Kd.N_mono HO_30.out (fun _ hk => ⟨⟨hk.1, ⟨hk.2.2.1, ⟨hk.2.2.2.1, ⟨hk.2.2.2.2.1, ⟨hk.2.2.2.2.2.1, hk.2.2.2.2.2.2⟩⟩⟩⟩⟩, hk.2.1⟩)) hg hat); have n1_ := am_ (Kd.R_over' (ra_ HO_276000.out) (Kd.N_typed (by (with_reducible repeat (first | apply Kd.N_alloc | apply Kd.N_drewN | apply Kd.N_drew)); exact HO_11.out)) (by decide) hg); have n2_ := am_ (Kd.R_over' (ra_ HO_276001.out) (Kd.N_typed (by (with_reducible repeat (first | apply Kd.N_alloc | apply Kd.N_drewN | apply Kd.N_drew)); exact HO_11.out)) (by decide) hg); have n3_ := am_ (blk_grown (bk_ BK269.out) hg (Kd.N_ne HO_11.out BK269.out (by decide))); have n4_ := am_ (blk_grown (bk_ BK275.out) hg (Kd.N_ne HO_11.out BK275.out (by decide))); have n5_ := am_ (VO_afterv (ok := (fun k_ => (w.heap.size ≤ k_) ∧ nb k_ (.slice (some ad287) x8_2.length co20) ∧ nb k_ u276000 ∧ nb k_ u276001 ∧ k_ ≠ gb269 ∧ k_ ≠ gb275 ∧ k_ ≠ gb288)) (by (with_reducible repeat (first | apply VO_alloc | apply VO_drewN | apply VO_drew)); exact VO_mono HL287_0.out (fun _ hk => ⟨⟨hk.1, ⟨hk.2.2.1, ⟨hk.2.2.2.1, ⟨hk.2.2.2.2.1, ⟨hk.2.2.2.2.2.1, ⟨hk.2.2.2.2.2.2.1, hk.2.2.2.2.2.2.2⟩⟩⟩⟩⟩⟩, hk.2.1⟩)) hg hat); have n6_ := am_ (blk_grown (bk_ BK288.out) hg (Kd.N_away HO_11.out (fun _ hk => hk.2.2.2.2.2.2))); have n7_ := am_ (hb); have n8_ := am_ (ho); clear HO_11; replace HO_30 := n0_; replace HO_276000 := n1_; replace HO_276001 := n2_; replace BK269 := n3_; replace BK275 := n4_; replace HL287_0 := n5_; replace BK288 := n6_; replace HB := n7_; have HO298 := n8_; clear n0_ n1_ n2_ n3_ n4_ n5_ n6_ n7_ n8_; clear ho hb hg hat))
             go_roundg k3
             case measure => have := HJ2.out; have := HK2.out; have := HK3.out; omega
             case rel => exact ⟨(wrap64 (x9_3 + t290)), (wrap64 (x10_3 + t292)), (y296), (wrap64 (x32_3 + 1)), sq_, sq_, sq_, H', ⟨by have := HJ2.out; have := HK2.out; have := HK3.out; omega⟩, ⟨by (with_reducible repeat (first | apply Kd.N_alloc | apply Kd.N_drewN | apply Kd.N_drew)); exact Kd.N_mono HO298.out (fun _ hk => ⟨hk.1, ⟨hk.2.1, ⟨hk.2.2.1, ⟨hk.2.2.2.1, ⟨hk.2.2.2.2.1, hk.2.2.2.2.2.1⟩⟩⟩⟩⟩)⟩, ⟨by (with_reducible repeat (first | apply Kd.N_alloc | apply Kd.N_drewN | apply Kd.N_drew)); exact Kd.N_mono HO_30.out (fun _ hk => ⟨hk.1.1, ⟨hk.2, ⟨hk.1.2.1, ⟨hk.1.2.2.1, ⟨hk.1.2.2.2.1, hk.1.2.2.2.2.1⟩⟩⟩⟩⟩)⟩, ⟨ra_ HO_276000.out⟩, ⟨ra_ HO_276001.out⟩, ⟨bk_ BK269.out⟩, ⟨bk_ BK275.out⟩, ⟨bw_ HB.out⟩⟩
            ·as_aux_lemma =>
             rw [if_neg c58] at H
             have c58b0 : decide ((wrap64 (((rd_G x8_2 x32_3).f1) + 1)) < (((rd_G x8_2 x32_3).f0).length : Int)) = false := decide_eq_false c58
             clear c58
             have H' := am_ H
             clear H
             have p287 : 0 ≤ (x32_3 : Int) := od_
             have q287 : x32_3 < (x8_2.length : Int) := od_
             obtain ⟨ad287, A287_0, c287_0, e287, hx287_0, hx287_1, hx287_2, hx287_3, hx287_4, hx287_5, hl287_0, hi287_0⟩ := at_G (Kd.N_reads' HO_30.out).2.2 x32_3 p287 q287
             (try rw [← Nbq29.out] at hx287_2)
             cases e287
             obtain ⟨ce287, hce287, hMe287, hcc287⟩ := Kd.N_get HO_30.out zG x32_3 p287 (by first | exact q287 | exact od_ | (have e_ := (Kd.N_reads' HO_30.out).1; omega))
             obtain ⟨ua287_0, uc287_0, rfl, ul287_0, ge287_0⟩ := kg_openF hMe287
             have hv287_0 := hcc287 0 _ rfl
             rw [Nat.add_zero] at hv287_0
             replace hv287_0 := Option.some.inj (hv287_0.symm.trans hx287_0)
             injection hv287_0 with hva_ hvn_ hvc_
             rw [hva_, hvc_] at ge287_0
             rw [hvc_] at ul287_0
             have HL287_0 := am_ (show VO ph_ w.heap.size (rd_G x8_2 x32_3).g _ w.heap.size _ _ ((rd_G x8_2 x32_3).f0) from VO_mk ul287_0 ge287_0)
             clear hva_ hvn_ hvc_ ge287_0 ul287_0
             clear hcc287 hce287
             have HR287_0 := am_ hi287_0
             have HC287_0 := am_ hl287_0
             clear hi287_0 hl287_0
             replace p287 := eq_true p287
             replace q287 := eq_true q287
             try go_wp2_with (first | ((with_reducible refine gate_dst (N := 13) rfl ?_); refine bx_ 13 #[.slice none 0 0, .int .i64 0, .bool false, .int .i64 0, .int .i64 0, .int .i64 0] 32 ?_; intro gb288 hg w73 hbox hb; have n0_ := am_ (Kd.N_below (Kd.N_elderB (by (with_reducible repeat (first | apply Kd.N_alloc | apply Kd.N_drewN | apply Kd.N_drew)); exact HO_11.out) gb288 (Nat.le_of_eq hg.symm)) hb); have n1_ := am_ (Kd.N_below (Kd.N_elderB (by (with_reducible repeat (first | apply Kd.N_alloc | apply Kd.N_drewN | apply Kd.N_drew)); exact HO_30.out) gb288 (Nat.le_of_eq hg.symm)) hb); have n2_ := am_ (Kd.R_below (ra_ HO_276000.out) hb); have n3_ := am_ (Kd.R_below (ra_ HO_276001.out) hb); have n4_ := am_ (VO_below (VO_elderB (by (with_reducible repeat (first | apply VO_alloc | apply VO_drewN | apply VO_drew)); exact HL287_0.out) gb288 (Nat.le_of_eq hg.symm)) hb); have n5_ := am_ (blk_below (bk_ BK269.out) hb); have n6_ := am_ (blk_below (bk_ BK275.out) hb); have n7_ := am_ (Kd.C_below (by repeat (first | (with_reducible exact HR287_0.out) | (with_reducible refine Kd.C_alloc ?_ _) | (with_reducible refine Kd.C_drewN ?_ _) | (with_reducible refine Kd.C_drew ?_) | exact HR287_0.out)) hb); have n8_ := am_ (below_step (bw_ HB.out) hb); have n9_ := am_ (hbox); have n10_ := am_ (gs_ hg (bw_ HB.out)); have n11_ := am_ (gs_ hg (bw_ HB.out)); have n12_ := am_ (nl_ hg (bk_ BK269.out)); have n13_ := am_ (ng_ hg (bk_ BK269.out)); have n14_ := am_ (nl_ hg (bk_ BK275.out)); have n15_ := am_ (ng_ hg (bk_ BK275.out)); replace HO_11 := n0_; replace HO_30 := n1_; replace HO_276000 := n2_; replace HO_276001 := n3_; replace HL287_0 := n4_; replace BK269 := n5_; replace BK275 := n6_; replace HR287_0 := n7_; replace HB := n8_; have BK288 := n9_; have GW288 := n10_; have GE288 := n11_; have NB269_288 := n12_; have NB288_269 := n13_; have NB275_288 := n14_; have NB288_275 := n15_; clear n0_ n1_ n2_ n3_ n4_ n5_ n6_ n7_ n8_ n9_ n10_ n11_ n12_ n13_ n14_ n15_; clear hb hbox hg; have hnb74 := NB288_269.out; have hnc74 := NB269_288.out; have hnb75 := NB288_275.out; have hnc75 := NB275_288.out; have hcz76_0 := cz_ BK288.out 0; have hcz76_1 := cz_ BK288.out 1; have hcz76_2 := cz_ BK288.out 2; have hcz76_3 := cz_ BK288.out 3; have hcz76_4 := cz_ BK288.out 4; have hcz76_5 := cz_ BK288.out 5; have hfz76_0 := blk_frozen BK288.out 0; have hfz76_1 := blk_frozen BK288.out 1; have hfz76_2 := blk_frozen BK288.out 2; have hfz76_3 := blk_frozen BK288.out 3; have hfz76_4 := blk_frozen BK288.out 4; have hfz76_5 := blk_frozen BK288.out 5))
             have n0_ : Aside0 (Kd.N (kg ph_ w.heap.size) 32 ((((((w73.setCell ⟨gb288, 0, none⟩ (.slice A287_0 ((rd_G x8_2 x32_3).f0).length c287_0)).setCell ⟨gb288, 1, none⟩ (.int .i64 ((rd_G x8_2 x32_3).f1))).setCell ⟨gb288, 2, none⟩ (.bool false)).setCell ⟨gb288, 3, none⟩ (.int .i64 ((rd_G x8_2 x32_3).f3))).setCell ⟨gb288, 4, none⟩ (.int .i64 ((rd_G x8_2 x32_3).f4))).setCell ⟨gb288, 5, none⟩ (.int .i64 ((rd_G x8_2 x32_3).f5))) w.heap.size (fun k_ => (w.heap.size ≤ k_) ∧ nb k_ (.slice (some ad287) x8_2.length co20) ∧ nb k_ u276000 ∧ nb k_ u276001 ∧ k_ ≠ gb269 ∧ k_ ≠ gb275 ∧ k_ ≠ gb288) u11 x11_3) := ⟨by (with_reducible repeat (first | apply Kd.N_alloc | apply Kd.N_drewN | apply Kd.N_drew)); exact Kd.N_mono (Kd.N_far (p := ⟨gb288, 5, none⟩) (Kd.N_far (p := ⟨gb288, 4, none⟩) (Kd.N_far (p := ⟨gb288, 3, none⟩) (Kd.N_far (p := ⟨gb288, 2, none⟩) (Kd.N_far (p := ⟨gb288, 1, none⟩) (Kd.N_far (p := ⟨gb288, 0, none⟩) (Kd.N_mono HO_11.out (fun k_ hk => (⟨hk, hk.2⟩ : _ ∧ k_ ≠ gb288))) (fun _ hk => hk.2) (.slice A287_0 ((rd_G x8_2 x32_3).f0).length c287_0)) (fun _ hk => hk.2) (.int .i64 ((rd_G x8_2 x32_3).f1))) (fun _ hk => hk.2) (.bool false)) (fun _ hk => hk.2) (.int .i64 ((rd_G x8_2 x32_3).f3))) (fun _ hk => hk.2) (.int .i64 ((rd_G x8_2 x32_3).f4))) (fun _ hk => hk.2) (.int .i64 ((rd_G x8_2 x32_3).f5))) (fun _ hk => ⟨hk.1.1.1, ⟨hk.1.1.2.1, ⟨hk.1.1.2.2.1, ⟨hk.1.1.2.2.2.1, ⟨hk.1.1.2.2.2.2.1, ⟨hk.1.1.2.2.2.2.2, hk.1.2⟩⟩⟩⟩⟩⟩)⟩
             have n1_ : Aside0 (Kd.N (kg ph_ w.heap.size) 32 ((((((w73.setCell ⟨gb288, 0, none⟩ (.slice A287_0 ((rd_G x8_2 x32_3).f0).length c287_0)).setCell ⟨gb288, 1, none⟩ (.int .i64 ((rd_G x8_2 x32_3).f1))).setCell ⟨gb288, 2, none⟩ (.bool false)).setCell ⟨gb288, 3, none⟩ (.int .i64 ((rd_G x8_2 x32_3).f3))).setCell ⟨gb288, 4, none⟩ (.int .i64 ((rd_G x8_2 x32_3).f4))).setCell ⟨gb288, 5, none⟩ (.int .i64 ((rd_G x8_2 x32_3).f5))) w.heap.size (fun k_ => (w.heap.size ≤ k_) ∧ nb k_ u11 ∧ nb k_ u276000 ∧ nb k_ u276001 ∧ k_ ≠ gb269 ∧ k_ ≠ gb275 ∧ k_ ≠ gb288) (.slice (some ad287) x8_2.length co20) x8_2) := ⟨by (with_reducible repeat (first | apply Kd.N_alloc | apply Kd.N_drewN | apply Kd.N_drew)); exact Kd.N_mono (Kd.N_far (p := ⟨gb288, 5, none⟩) (Kd.N_far (p := ⟨gb288, 4, none⟩) (Kd.N_far (p := ⟨gb288, 3, none⟩) (Kd.N_far (p := ⟨gb288, 2, none⟩) (Kd.N_far (p := ⟨gb288, 1, none⟩) (Kd.N_far (p := ⟨gb288, 0, none⟩) (Kd.N_mono HO_30.out (fun k_ hk => (⟨hk, hk.2⟩ : _ ∧ k_ ≠ gb288))) (fun _ hk => hk.2) (.slice A287_0 ((rd_G x8_2 x32_3).f0).length c287_0)) (fun _ hk => hk.2) (.int .i64 ((rd_G x8_2 x32_3).f1))) (fun _ hk => hk.2) (.bool false)) (fun _ hk => hk.2) (.int .i64 ((rd_G x8_2 x32_3).f3))) (fun _ hk => hk.2) (.int .i64 ((rd_G x8_2 x32_3).f4))) (fun _ hk => hk.2) (.int .i64 ((rd_G x8_2 x32_3).f5))) (fun _ hk => ⟨hk.1.1.1, ⟨hk.1.1.2.1, ⟨hk.1.1.2.2.1, ⟨hk.1.1.2.2.2.1, ⟨hk.1.1.2.2.2.2.1, ⟨hk.1.1.2.2.2.2.2, hk.1.2⟩⟩⟩⟩⟩⟩)⟩
             have n2_ : Aside0 (Kd.R (Kd.int .i64) 3 ((((((w73.setCell ⟨gb288, 0, none⟩ (.slice A287_0 ((rd_G x8_2 x32_3).f0).length c287_0)).setCell ⟨gb288, 1, none⟩ (.int .i64 ((rd_G x8_2 x32_3).f1))).setCell ⟨gb288, 2, none⟩ (.bool false)).setCell ⟨gb288, 3, none⟩ (.int .i64 ((rd_G x8_2 x32_3).f3))).setCell ⟨gb288, 4, none⟩ (.int .i64 ((rd_G x8_2 x32_3).f4))).setCell ⟨gb288, 5, none⟩ (.int .i64 ((rd_G x8_2 x32_3).f5))) w.heap.size (fun k_ => (w.heap.size ≤ k_) ∧ nb k_ u276001) u276000 x276000_2) := ⟨ra_ (Kd.R_mono (Kd.R_far (p := ⟨gb288, 5, none⟩) (Kd.R_far (p := ⟨gb288, 4, none⟩) (Kd.R_far (p := ⟨gb288, 3, none⟩) (Kd.R_far (p := ⟨gb288, 2, none⟩) (Kd.R_far (p := ⟨gb288, 1, none⟩) (Kd.R_far (p := ⟨gb288, 0, none⟩) (Kd.R_types HO_276000.out BK288.out (by decide)) (fun _ hk => hk.2) (.slice A287_0 ((rd_G x8_2 x32_3).f0).length c287_0)) (fun _ hk => hk.2) (.int .i64 ((rd_G x8_2 x32_3).f1))) (fun _ hk => hk.2) (.bool false)) (fun _ hk => hk.2) (.int .i64 ((rd_G x8_2 x32_3).f3))) (fun _ hk => hk.2) (.int .i64 ((rd_G x8_2 x32_3).f4))) (fun _ hk => hk.2) (.int .i64 ((rd_G x8_2 x32_3).f5))) (fun _ hk => ⟨hk.1.1, hk.1.2⟩))⟩
             have n3_ : Aside0 (Kd.R (Kd.int .i64) 3 ((((((w73.setCell ⟨gb288, 0, none⟩ (.slice A287_0 ((rd_G x8_2 x32_3).f0).length c287_0)).setCell ⟨gb288, 1, none⟩ (.int .i64 ((rd_G x8_2 x32_3).f1))).setCell ⟨gb288, 2, none⟩ (.bool false)).setCell ⟨gb288, 3, none⟩ (.int .i64 ((rd_G x8_2 x32_3).f3))).setCell ⟨gb288, 4, none⟩ (.int .i64 ((rd_G x8_2 x32_3).f4))).setCell ⟨gb288, 5, none⟩ (.int .i64 ((rd_G x8_2 x32_3).f5))) w.heap.size (fun k_ => (w.heap.size ≤ k_) ∧ nb k_ u276000) u276001 x276001_2) := ⟨ra_ (Kd.R_mono (Kd.R_far (p := ⟨gb288, 5, none⟩) (Kd.R_far (p := ⟨gb288, 4, none⟩) (Kd.R_far (p := ⟨gb288, 3, none⟩) (Kd.R_far (p := ⟨gb288, 2, none⟩) (Kd.R_far (p := ⟨gb288, 1, none⟩) (Kd.R_far (p := ⟨gb288, 0, none⟩) (Kd.R_types HO_276001.out BK288.out (by decide)) (fun _ hk => hk.2) (.slice A287_0 ((rd_G x8_2 x32_3).f0).length c287_0)) (fun _ hk => hk.2) (.int .i64 ((rd_G x8_2 x32_3).f1))) (fun _ hk => hk.2) (.bool false)) (fun _ hk => hk.2) (.int .i64 ((rd_G x8_2 x32_3).f3))) (fun _ hk => hk.2) (.int .i64 ((rd_G x8_2 x32_3).f4))) (fun _ hk => hk.2) (.int .i64 ((rd_G x8_2 x32_3).f5))) (fun _ hk => ⟨hk.1.1, hk.1.2⟩))⟩
             have n4_ : Aside0 (VO ph_ w.heap.size (rd_G x8_2 x32_3).g ((((((w73.setCell ⟨gb288, 0, none⟩ (.slice A287_0 ((rd_G x8_2 x32_3).f0).length c287_0)).setCell ⟨gb288, 1, none⟩ (.int .i64 ((rd_G x8_2 x32_3).f1))).setCell ⟨gb288, 2, none⟩ (.bool false)).setCell ⟨gb288, 3, none⟩ (.int .i64 ((rd_G x8_2 x32_3).f3))).setCell ⟨gb288, 4, none⟩ (.int .i64 ((rd_G x8_2 x32_3).f4))).setCell ⟨gb288, 5, none⟩ (.int .i64 ((rd_G x8_2 x32_3).f5))) w.heap.size (fun k_ => (w.heap.size ≤ k_) ∧ nb k_ u11 ∧ nb k_ (.slice (some ad287) x8_2.length co20) ∧ nb k_ u276000 ∧ nb k_ u276001 ∧ k_ ≠ gb269 ∧ k_ ≠ gb275 ∧ k_ ≠ gb288) (.slice A287_0 ((rd_G x8_2 x32_3).f0).length c287_0) ((rd_G x8_2 x32_3).f0)) := ⟨by (with_reducible repeat (first | apply VO_alloc | apply VO_drewN | apply VO_drew)); exact VO_mono (VO_far (p := ⟨gb288, 5, none⟩) (VO_far (p := ⟨gb288, 4, none⟩) (VO_far (p := ⟨gb288, 3, none⟩) (VO_far (p := ⟨gb288, 2, none⟩) (VO_far (p := ⟨gb288, 1, none⟩) (VO_far (p := ⟨gb288, 0, none⟩) (VO_mono HL287_0.out (fun k_ hk => (⟨hk, hk.2⟩ : _ ∧ k_ ≠ gb288))) (fun _ hk => hk.2) (.slice A287_0 ((rd_G x8_2 x32_3).f0).length c287_0)) (fun _ hk => hk.2) (.int .i64 ((rd_G x8_2 x32_3).f1))) (fun _ hk => hk.2) (.bool false)) (fun _ hk => hk.2) (.int .i64 ((rd_G x8_2 x32_3).f3))) (fun _ hk => hk.2) (.int .i64 ((rd_G x8_2 x32_3).f4))) (fun _ hk => hk.2) (.int .i64 ((rd_G x8_2 x32_3).f5))) (fun _ hk => ⟨hk.1.1.1.1, ⟨hk.1.1.1.2.1, ⟨hk.1.1.2, ⟨hk.1.1.1.2.2.1, ⟨hk.1.1.1.2.2.2.1, ⟨hk.1.1.1.2.2.2.2.1, ⟨hk.1.1.1.2.2.2.2.2, hk.1.2⟩⟩⟩⟩⟩⟩⟩)⟩
             have n5_ : Aside0 (((((((w73.setCell ⟨gb288, 0, none⟩ (.slice A287_0 ((rd_G x8_2 x32_3).f0).length c287_0)).setCell ⟨gb288, 1, none⟩ (.int .i64 ((rd_G x8_2 x32_3).f1))).setCell ⟨gb288, 2, none⟩ (.bool false)).setCell ⟨gb288, 3, none⟩ (.int .i64 ((rd_G x8_2 x32_3).f3))).setCell ⟨gb288, 4, none⟩ (.int .i64 ((rd_G x8_2 x32_3).f4))).setCell ⟨gb288, 5, none⟩ (.int .i64 ((rd_G x8_2 x32_3).f5))).heap[gb269]? = some (.cells #[.slice none 0 0, .slice none 0 0] 40 (0, 0))) := ⟨by (with_reducible repeat (first | refine blk_drewN ?_ _ | refine blk_drew ?_ | refine blk_alloc ?_ _)); refine blk_far ?_ NB269_288.out _; (with_reducible repeat (first | refine blk_drewN ?_ _ | refine blk_drew ?_ | refine blk_alloc ?_ _)); refine blk_far ?_ NB269_288.out _; (with_reducible repeat (first | refine blk_drewN ?_ _ | refine blk_drew ?_ | refine blk_alloc ?_ _)); refine blk_far ?_ NB269_288.out _; (with_reducible repeat (first | refine blk_drewN ?_ _ | refine blk_drew ?_ | refine blk_alloc ?_ _)); refine blk_far ?_ NB269_288.out _; (with_reducible repeat (first | refine blk_drewN ?_ _ | refine blk_drew ?_ | refine blk_alloc ?_ _)); refine blk_far ?_ NB269_288.out _; (with_reducible repeat (first | refine blk_drewN ?_ _ | refine blk_drew ?_ | refine blk_alloc ?_ _)); refine blk_far ?_ NB269_288.out _; (with_reducible repeat (first | refine blk_drewN ?_ _ | refine blk_drew ?_ | refine blk_alloc ?_ _)); exact BK269.out⟩
             have n6_ : Aside0 (((((((w73.setCell ⟨gb288, 0, none⟩ (.slice A287_0 ((rd_G x8_2 x32_3).f0).length c287_0)).setCell ⟨gb288, 1, none⟩ (.int .i64 ((rd_G x8_2 x32_3).f1))).setCell ⟨gb288, 2, none⟩ (.bool false)).setCell ⟨gb288, 3, none⟩ (.int .i64 ((rd_G x8_2 x32_3).f3))).setCell ⟨gb288, 4, none⟩ (.int .i64 ((rd_G x8_2 x32_3).f4))).setCell ⟨gb288, 5, none⟩ (.int .i64 ((rd_G x8_2 x32_3).f5))).heap[gb275]? = some (.cells #[u276000, u276001] 40 (0, 0))) := ⟨by (with_reducible repeat (first | refine blk_drewN ?_ _ | refine blk_drew ?_ | refine blk_alloc ?_ _)); refine blk_far ?_ NB275_288.out _; (with_reducible repeat (first | refine blk_drewN ?_ _ | refine blk_drew ?_ | refine blk_alloc ?_ _)); refine blk_far ?_ NB275_288.out _; (with_reducible repeat (first | refine blk_drewN ?_ _ | refine blk_drew ?_ | refine blk_alloc ?_ _)); refine blk_far ?_ NB275_288.out _; (with_reducible repeat (first | refine blk_drewN ?_ _ | refine blk_drew ?_ | refine blk_alloc ?_ _)); refine blk_far ?_ NB275_288.out _; (with_reducible repeat (first | refine blk_drewN ?_ _ | refine blk_drew ?_ | refine blk_alloc ?_ _)); refine blk_far ?_ NB275_288.out _; (with_reducible repeat (first | refine blk_drewN ?_ _ | refine blk_drew ?_ | refine blk_alloc ?_ _)); refine blk_far ?_ NB275_288.out _; (with_reducible repeat (first | refine blk_drewN ?_ _ | refine blk_drew ?_ | refine blk_alloc ?_ _)); exact BK275.out⟩
             have n7_ : Aside0 (((((((w73.setCell ⟨gb288, 0, none⟩ (.slice A287_0 ((rd_G x8_2 x32_3).f0).length c287_0)).setCell ⟨gb288, 1, none⟩ (.int .i64 ((rd_G x8_2 x32_3).f1))).setCell ⟨gb288, 2, none⟩ (.bool false)).setCell ⟨gb288, 3, none⟩ (.int .i64 ((rd_G x8_2 x32_3).f3))).setCell ⟨gb288, 4, none⟩ (.int .i64 ((rd_G x8_2 x32_3).f4))).setCell ⟨gb288, 5, none⟩ (.int .i64 ((rd_G x8_2 x32_3).f5))).heap[gb288]? = some (.cells #[.slice A287_0 ((rd_G x8_2 x32_3).f0).length c287_0, .int .i64 ((rd_G x8_2 x32_3).f1), .bool false, .int .i64 ((rd_G x8_2 x32_3).f3), .int .i64 ((rd_G x8_2 x32_3).f4), .int .i64 ((rd_G x8_2 x32_3).f5)] 32 (0, 0))) := ⟨by (with_reducible repeat (first | refine blk_drewN ?_ _ | refine blk_drew ?_ | refine blk_alloc ?_ _)); refine blk_put (cs := #[.slice A287_0 ((rd_G x8_2 x32_3).f0).length c287_0, .int .i64 ((rd_G x8_2 x32_3).f1), .bool false, .int .i64 ((rd_G x8_2 x32_3).f3), .int .i64 ((rd_G x8_2 x32_3).f4), .int .i64 0]) ?_ 5 _ rfl; (with_reducible repeat (first | refine blk_drewN ?_ _ | refine blk_drew ?_ | refine blk_alloc ?_ _)); refine blk_put (cs := #[.slice A287_0 ((rd_G x8_2 x32_3).f0).length c287_0, .int .i64 ((rd_G x8_2 x32_3).f1), .bool false, .int .i64 ((rd_G x8_2 x32_3).f3), .int .i64 0, .int .i64 0]) ?_ 4 _ rfl; (with_reducible repeat (first | refine blk_drewN ?_ _ | refine blk_drew ?_ | refine blk_alloc ?_ _)); refine blk_put (cs := #[.slice A287_0 ((rd_G x8_2 x32_3).f0).length c287_0, .int .i64 ((rd_G x8_2 x32_3).f1), .bool false, .int .i64 0, .int .i64 0, .int .i64 0]) ?_ 3 _ rfl; (with_reducible repeat (first | refine blk_drewN ?_ _ | refine blk_drew ?_ | refine blk_alloc ?_ _)); refine blk_put (cs := #[.slice A287_0 ((rd_G x8_2 x32_3).f0).length c287_0, .int .i64 ((rd_G x8_2 x32_3).f1), .bool false, .int .i64 0, .int .i64 0, .int .i64 0]) ?_ 2 _ rfl; (with_reducible repeat (first | refine blk_drewN ?_ _ | refine blk_drew ?_ | refine blk_alloc ?_ _)); refine blk_put (cs := #[.slice A287_0 ((rd_G x8_2 x32_3).f0).length c287_0, .int .i64 0, .bool false, .int .i64 0, .int .i64 0, .int .i64 0]) ?_ 1 _ rfl; (with_reducible repeat (first | refine blk_drewN ?_ _ | refine blk_drew ?_ | refine blk_alloc ?_ _)); refine blk_put (cs := #[.slice none 0 0, .int .i64 0, .bool false, .int .i64 0, .int .i64 0, .int .i64 0]) ?_ 0 _ rfl; (with_reducible repeat (first | refine blk_drewN ?_ _ | refine blk_drew ?_ | refine blk_alloc ?_ _)); exact BK288.out⟩
             have n8_ : Aside0 (Below w.heap.size w ((((((w73.setCell ⟨gb288, 0, none⟩ (.slice A287_0 ((rd_G x8_2 x32_3).f0).length c287_0)).setCell ⟨gb288, 1, none⟩ (.int .i64 ((rd_G x8_2 x32_3).f1))).setCell ⟨gb288, 2, none⟩ (.bool false)).setCell ⟨gb288, 3, none⟩ (.int .i64 ((rd_G x8_2 x32_3).f3))).setCell ⟨gb288, 4, none⟩ (.int .i64 ((rd_G x8_2 x32_3).f4))).setCell ⟨gb288, 5, none⟩ (.int .i64 ((rd_G x8_2 x32_3).f5)))) := ⟨bw_ HB.out⟩
             (try clear HO_11)
             (try clear HO_30)
             (try clear HO_276000)
             (try clear HO_276001)
             (try clear HL287_0)
             (try clear BK269)
             (try clear BK275)
             (try clear BK288)
             (try clear HB)
             generalize ((((((w73.setCell ⟨gb288, 0, none⟩ (.slice A287_0 ((rd_G x8_2 x32_3).f0).length c287_0)).setCell ⟨gb288, 1, none⟩ (.int .i64 ((rd_G x8_2 x32_3).f1))).setCell ⟨gb288, 2, none⟩ (.bool false)).setCell ⟨gb288, 3, none⟩ (.int .i64 ((rd_G x8_2 x32_3).f3))).setCell ⟨gb288, 4, none⟩ (.int .i64 ((rd_G x8_2 x32_3).f4))).setCell ⟨gb288, 5, none⟩ (.int .i64 ((rd_G x8_2 x32_3).f5))) = w77 at n0_ n1_ n2_ n3_ n4_ n5_ n6_ n7_ n8_ ⊢
             have HO_11 := n0_
             have HO_30 := n1_
             have HO_276000 := n2_
             have HO_276001 := n3_
             have HL287_0 := n4_
             have BK269 := n5_
             have BK275 := n6_
             have BK288 := n7_
             have HB := n8_
             clear n0_ n1_ n2_ n3_ n4_ n5_ n6_ n7_ n8_
             have n0_ := am_ (Kd.N_drew HO_11.out)
             have n1_ := am_ (Kd.N_drew HO_30.out)
             have n2_ := am_ (Kd.R_drew HO_276000.out)
             have n3_ := am_ (Kd.R_drew HO_276001.out)
             have n4_ := am_ (VO_drew HL287_0.out)
             have n5_ := am_ (blk_drew BK269.out)
             have n6_ := am_ (blk_drew BK275.out)
             have n7_ := am_ (blk_drew BK288.out)
             have n8_ := am_ (below_drew1 HB.out)
             replace HO_11 := n0_
             replace HO_30 := n1_
             replace HO_276000 := n2_
             replace HO_276001 := n3_
             replace HL287_0 := n4_
             replace BK269 := n5_
             replace BK275 := n6_
             replace BK288 := n7_
             replace HB := n8_
             clear n0_ n1_ n2_ n3_ n4_ n5_ n6_ n7_ n8_
             have p289 : 0 ≤ (((rd_G x8_2 x32_3).f1) : Int) := od_
             have q289 : ((rd_G x8_2 x32_3).f1) < (((rd_G x8_2 x32_3).f0).length : Int) := od_
             obtain ⟨ad289, e289, hx289_0⟩ := Kd.at_int ((VO_reads' HL287_0.out).2.2) ((rd_G x8_2 x32_3).f1) p289 q289
             cases e289
             replace p289 := eq_true p289
             replace q289 := eq_true q289
             refine start_ (n := 12) (S := fun w' => w'.cell? ⟨gb288, 0, none⟩ = some (.slice (some ad289) ((rd_G x8_2 x32_3).f0).length c287_0) ∧ w'.cell? ⟨gb288, 1, none⟩ = some (.int .i64 ((rd_G x8_2 x32_3).f1)) ∧ w'.cell? ⟨gb288, 2, none⟩ = some (.bool false) ∧ w'.cell? ⟨gb288, 3, none⟩ = some (.int .i64 ((rd_G x8_2 x32_3).f3)) ∧ w'.cell? ⟨gb288, 4, none⟩ = some (.int .i64 ((rd_G x8_2 x32_3).f4)) ∧ w'.cell? ⟨gb288, 5, none⟩ = some (.int .i64 ((rd_G x8_2 x32_3).f5)) ∧ w'.cell? (ad289.add (((rd_G x8_2 x32_3).f1)).toNat) = some (.int .i64 (rd ((rd_G x8_2 x32_3).f0) ((rd_G x8_2 x32_3).f1)))) (ds := []) (Array.replicate 12 false) (by kernel_rfl) rfl rfl ⟨cz_ BK288.out 0, cz_ BK288.out 1, cz_ BK288.out 2, cz_ BK288.out 3, cz_ BK288.out 4, cz_ BK288.out 5, hx289_0⟩ (fun hHeld => ?_); refine with_tabW impl_MixVoices.tab10 impl_MixVoices.bits10 (fun HT_ HW_ => ?_)
             generalize w77.drew = w78 at HO_11 HO_30 HO_276000 HO_276001 HL287_0 BK269 BK275 BK288 HB hx289_0 hHeld ⊢
             refine pS_ 0 36 HT_ ?_
             refine pS_ 1 37 HT_ ?_
             refine pS_ 3 39 HT_ ?_
             refine pS_ 7 43 HT_ ?_
             refine tS_ 2 38 HT_ HW_ hHeld ?_
             refine tS_ 4 40 HT_ HW_ hHeld ?_
             refine pS_ 5 41 HT_ ?_
             refine tS_ 6 42 HT_ HW_ hHeld ?_
             refine tS_ 8 44 HT_ HW_ hHeld ?_
             refine oS_ 9 45 HT_ (fun K hK => ?_)
             refine goes_ Try.func37 (by kernel_rfl) rfl #[.int .i64 (rd ((rd_G x8_2 x32_3).f0) ((rd_G x8_2 x32_3).f1)), .int .i64 ((rd_G x8_2 x32_3).f3)] (by rfl) rfl rfl (by (try simp only [List.map_toArray, List.map_cons, List.map_nil]); first | done | rfl | (simp only [List.length_drop, List.length_take]; rfl)) ?_
             with_reducible refine (impl_FixMul.calls (rd ((rd_G x8_2 x32_3).f0) ((rd_G x8_2 x32_3).f1)) ((rd_G x8_2 x32_3).f3) t290 _ A26.out).mono ?_
             rintro e w79 ⟨rfl, hb⟩
             have HS6_ := (hb.cell (World.block_lt_of_cell? _ _ (hHeld.2.2.2.2.2.2))).trans (hHeld.2.2.2.2.2.2)
             refine ⟨_, rfl, ?_⟩
             have n0_ := am_ (Kd.N_below (by (with_reducible repeat (first | apply Kd.N_alloc | apply Kd.N_drewN | apply Kd.N_drew)); exact HO_11.out) hb)
             have n1_ := am_ (Kd.N_below (by (with_reducible repeat (first | apply Kd.N_alloc | apply Kd.N_drewN | apply Kd.N_drew)); exact HO_30.out) hb)
             have n2_ := am_ (Kd.R_below (ra_ HO_276000.out) hb)
             have n3_ := am_ (Kd.R_below (ra_ HO_276001.out) hb)
             have n4_ := am_ (VO_below (by (with_reducible repeat (first | apply VO_alloc | apply VO_drewN | apply VO_drew)); exact HL287_0.out) hb)
             have n5_ := am_ (blk_below (bk_ BK269.out) hb)
             have n6_ := am_ (blk_below (bk_ BK275.out) hb)
             have n7_ := am_ (blk_below (bk_ BK288.out) hb)
             have n8_ := am_ (below_step (bw_ HB.out) hb)
             replace HO_11 := n0_
             replace HO_30 := n1_
             replace HO_276000 := n2_
             replace HO_276001 := n3_
             replace HL287_0 := n4_
             replace BK269 := n5_
             replace BK275 := n6_
             replace BK288 := n7_
             replace HB := n8_
             clear n0_ n1_ n2_ n3_ n4_ n5_ n6_ n7_ n8_
             (try clear hb)
             (try clear hb2)
             (try clear hk)
             (try clear hi)
             refine hK.out _ _ ⟨cz_ BK288.out 0, cz_ BK288.out 1, cz_ BK288.out 2, cz_ BK288.out 3, cz_ BK288.out 4, cz_ BK288.out 5, HS6_⟩ (fun hHeld => ?_)
             clear hK K
             refine nD_ 45 ?_
             refine pS_ 10 46 HT_ ?_
             refine pS_ 11 9 HT_ ?_
             refine done_ (done_of HT_.out (by kernel_rfl)) ?_
             try go_wp2
             have n0_ := am_ (Kd.N_drew HO_11.out)
             have n1_ := am_ (Kd.N_drew HO_30.out)
             have n2_ := am_ (Kd.R_drew HO_276000.out)
             have n3_ := am_ (Kd.R_drew HO_276001.out)
             have n4_ := am_ (VO_drew HL287_0.out)
             have n5_ := am_ (blk_drew BK269.out)
             have n6_ := am_ (blk_drew BK275.out)
             have n7_ := am_ (blk_drew BK288.out)
             have n8_ := am_ (below_drew1 HB.out)
             replace HO_11 := n0_
             replace HO_30 := n1_
             replace HO_276000 := n2_
             replace HO_276001 := n3_
             replace HL287_0 := n4_
             replace BK269 := n5_
             replace BK275 := n6_
             replace BK288 := n7_
             replace HB := n8_
             clear n0_ n1_ n2_ n3_ n4_ n5_ n6_ n7_ n8_
             have p291 : 0 ≤ (((rd_G x8_2 x32_3).f1) : Int) := od_
             have q291 : ((rd_G x8_2 x32_3).f1) < (((rd_G x8_2 x32_3).f0).length : Int) := od_
             obtain ⟨ad291, e291, hx291_0⟩ := Kd.at_int ((VO_reads' HL287_0.out).2.2) ((rd_G x8_2 x32_3).f1) p291 q291
             obtain rfl : ad289 = ad291 := (by injection e291)
             replace p291 := eq_true p291
             replace q291 := eq_true q291
             refine start_ (n := 12) (S := fun w' => w'.cell? ⟨gb288, 0, none⟩ = some (.slice (some ad289) ((rd_G x8_2 x32_3).f0).length c287_0) ∧ w'.cell? ⟨gb288, 1, none⟩ = some (.int .i64 ((rd_G x8_2 x32_3).f1)) ∧ w'.cell? ⟨gb288, 2, none⟩ = some (.bool false) ∧ w'.cell? ⟨gb288, 3, none⟩ = some (.int .i64 ((rd_G x8_2 x32_3).f3)) ∧ w'.cell? ⟨gb288, 4, none⟩ = some (.int .i64 ((rd_G x8_2 x32_3).f4)) ∧ w'.cell? ⟨gb288, 5, none⟩ = some (.int .i64 ((rd_G x8_2 x32_3).f5)) ∧ w'.cell? (ad289.add (((rd_G x8_2 x32_3).f1)).toNat) = some (.int .i64 (rd ((rd_G x8_2 x32_3).f0) ((rd_G x8_2 x32_3).f1)))) (ds := []) (Array.replicate 12 false) (by kernel_rfl) rfl rfl ⟨cz_ BK288.out 0, cz_ BK288.out 1, cz_ BK288.out 2, cz_ BK288.out 3, cz_ BK288.out 4, cz_ BK288.out 5, hx291_0⟩ (fun hHeld => ?_); refine with_tabW impl_MixVoices.tab11 impl_MixVoices.bits11 (fun HT_ HW_ => ?_)
             generalize w79.drew = w80 at HO_11 HO_30 HO_276000 HO_276001 HL287_0 BK269 BK275 BK288 HB hx291_0 hHeld ⊢
             refine pS_ 0 47 HT_ ?_
             refine pS_ 1 48 HT_ ?_
             refine pS_ 3 50 HT_ ?_
             refine pS_ 7 54 HT_ ?_
             refine tS_ 2 49 HT_ HW_ hHeld ?_
             refine tS_ 4 51 HT_ HW_ hHeld ?_
             refine pS_ 5 52 HT_ ?_
             refine tS_ 6 53 HT_ HW_ hHeld ?_
             refine tS_ 8 55 HT_ HW_ hHeld ?_
             refine oS_ 9 56 HT_ (fun K hK => ?_)
             refine goes_ Try.func37 (by kernel_rfl) rfl #[.int .i64 (rd ((rd_G x8_2 x32_3).f0) ((rd_G x8_2 x32_3).f1)), .int .i64 ((rd_G x8_2 x32_3).f4)] (by rfl) rfl rfl (by (try simp only [List.map_toArray, List.map_cons, List.map_nil]); first | done | rfl | (simp only [List.length_drop, List.length_take]; rfl)) ?_
             with_reducible refine (impl_FixMul.calls (rd ((rd_G x8_2 x32_3).f0) ((rd_G x8_2 x32_3).f1)) ((rd_G x8_2 x32_3).f4) t292 _ A27.out).mono ?_
             rintro e w81 ⟨rfl, hb⟩
             have HS6_ := (hb.cell (World.block_lt_of_cell? _ _ (hHeld.2.2.2.2.2.2))).trans (hHeld.2.2.2.2.2.2)
             refine ⟨_, rfl, ?_⟩
             have n0_ := am_ (Kd.N_below (by (with_reducible repeat (first | apply Kd.N_alloc | apply Kd.N_drewN | apply Kd.N_drew)); exact HO_11.out) hb)
             have n1_ := am_ (Kd.N_below (by (with_reducible repeat (first | apply Kd.N_alloc | apply Kd.N_drewN | apply Kd.N_drew)); exact HO_30.out) hb)
             have n2_ := am_ (Kd.R_below (ra_ HO_276000.out) hb)
             have n3_ := am_ (Kd.R_below (ra_ HO_276001.out) hb)
             have n4_ := am_ (VO_below (by (with_reducible repeat (first | apply VO_alloc | apply VO_drewN | apply VO_drew)); exact HL287_0.out) hb)
             have n5_ := am_ (blk_below (bk_ BK269.out) hb)
             have n6_ := am_ (blk_below (bk_ BK275.out) hb)
             have n7_ := am_ (blk_below (bk_ BK288.out) hb)
             have n8_ := am_ (below_step (bw_ HB.out) hb)
             replace HO_11 := n0_
             replace HO_30 := n1_
             replace HO_276000 := n2_
             replace HO_276001 := n3_
             replace HL287_0 := n4_
             replace BK269 := n5_
             replace BK275 := n6_
             replace BK288 := n7_
             replace HB := n8_
             clear n0_ n1_ n2_ n3_ n4_ n5_ n6_ n7_ n8_
             (try clear hb)
             (try clear hb2)
             (try clear hk)
             (try clear hi)
             refine hK.out _ _ ⟨cz_ BK288.out 0, cz_ BK288.out 1, cz_ BK288.out 2, cz_ BK288.out 3, cz_ BK288.out 4, cz_ BK288.out 5, HS6_⟩ (fun hHeld => ?_)
             clear hK K
             refine nD_ 56 ?_
             refine pS_ 10 57 HT_ ?_
             refine pS_ 11 10 HT_ ?_
             refine done_ (done_of HT_.out (by kernel_rfl)) ?_
             have hcz82_0 := cz_ BK288.out 0
             have hcz82_1 := cz_ BK288.out 1
             have hcz82_2 := cz_ BK288.out 2
             have hcz82_3 := cz_ BK288.out 3
             have hcz82_4 := cz_ BK288.out 4
             have hcz82_5 := cz_ BK288.out 5
             have hfz82_0 := blk_frozen BK288.out 0
             have hfz82_1 := blk_frozen BK288.out 1
             have hfz82_2 := blk_frozen BK288.out 2
             have hfz82_3 := blk_frozen BK288.out 3
             have hfz82_4 := blk_frozen BK288.out 4
             have hfz82_5 := blk_frozen BK288.out 5
             try go_wp2
             go_roundg k3
             case measure => have := HJ2.out; have := HK2.out; have := HK3.out; omega
             case rel => exact ⟨(wrap64 (x9_3 + t290)), (wrap64 (x10_3 + t292)), (x11_3), (wrap64 (x32_3 + 1)), sq_, sq_, sq_, H', ⟨by have := HJ2.out; have := HK2.out; have := HK3.out; omega⟩, ⟨by (with_reducible repeat (first | apply Kd.N_alloc | apply Kd.N_drewN | apply Kd.N_drew)); exact Kd.N_mono (Kd.N_far (p := ⟨gb288, 1, none⟩) (Kd.N_mono HO_11.out (fun k_ hk => (⟨hk, hk.2.2.2.2.2.2⟩ : _ ∧ k_ ≠ gb288))) (fun _ hk => hk.2) (.int .i64 (wrap64 (((rd_G x8_2 x32_3).f1) + 1)))) (fun _ hk => ⟨hk.1.1, ⟨hk.1.2.1, ⟨hk.1.2.2.1, ⟨hk.1.2.2.2.1, ⟨hk.1.2.2.2.2.1, hk.1.2.2.2.2.2.1⟩⟩⟩⟩⟩)⟩, ⟨by (with_reducible repeat (first | apply Kd.N_alloc | apply Kd.N_drewN | apply Kd.N_drew)); exact Kd.N_mono (Kd.N_far (p := ⟨gb288, 1, none⟩) (Kd.N_mono HO_30.out (fun k_ hk => (⟨hk, hk.2.2.2.2.2.2⟩ : _ ∧ k_ ≠ gb288))) (fun _ hk => hk.2) (.int .i64 (wrap64 (((rd_G x8_2 x32_3).f1) + 1)))) (fun _ hk => ⟨hk.1.1, ⟨hk.1.2.1, ⟨hk.1.2.2.1, ⟨hk.1.2.2.2.1, ⟨hk.1.2.2.2.2.1, hk.1.2.2.2.2.2.1⟩⟩⟩⟩⟩)⟩, ⟨ra_ (Kd.R_mono (Kd.R_far (p := ⟨gb288, 1, none⟩) (Kd.R_types HO_276000.out BK288.out (by decide)) (fun _ hk => hk.2) (.int .i64 (wrap64 (((rd_G x8_2 x32_3).f1) + 1)))) (fun _ hk => ⟨hk.1.1, hk.1.2⟩))⟩, ⟨ra_ (Kd.R_mono (Kd.R_far (p := ⟨gb288, 1, none⟩) (Kd.R_types HO_276001.out BK288.out (by decide)) (fun _ hk => hk.2) (.int .i64 (wrap64 (((rd_G x8_2 x32_3).f1) + 1)))) (fun _ hk => ⟨hk.1.1, hk.1.2⟩))⟩, ⟨by (with_reducible repeat (first | refine blk_drewN ?_ _ | refine blk_drew ?_ | refine blk_alloc ?_ _)); refine blk_far ?_ NB269_288.out _; (with_reducible repeat (first | refine blk_drewN ?_ _ | refine blk_drew ?_ | refine blk_alloc ?_ _)); exact BK269.out⟩, ⟨by (with_reducible repeat (first | refine blk_drewN ?_ _ | refine blk_drew ?_ | refine blk_alloc ?_ _)); refine blk_far ?_ NB275_288.out _; (with_reducible repeat (first | refine blk_drewN ?_ _ | refine blk_drew ?_ | refine blk_alloc ?_ _)); exact BK275.out⟩, ⟨bw_ HB.out⟩⟩
          ·as_aux_lemma =>
           rw [if_neg c28] at H
           have c28b0 : ((wrap64 (((rd_G x8_2 x32_3).f1) + 1)) == (((rd_G x8_2 x32_3).f0).length : Int)) = false := beq_eq_false_iff_ne.mpr c28
           have c28b1 : ((wrap64 (((rd_G x8_2 x32_3).f1) + 1)) != (((rd_G x8_2 x32_3).f0).length : Int)) = true := bne_iff_ne.mpr c28
           by_cases c83 : (wrap64 (((rd_G x8_2 x32_3).f1) + 1)) < (((rd_G x8_2 x32_3).f0).length : Int)
           ·as_aux_lemma =>
            rw [if_pos c83] at H
            have c83b0 : decide ((wrap64 (((rd_G x8_2 x32_3).f1) + 1)) < (((rd_G x8_2 x32_3).f0).length : Int)) = true := decide_eq_true c83
            clear c83
            obtain ⟨c84, H⟩ := ifn_ H
            have LMc84 := am_ c84
            clear c84
            obtain ⟨y299, hy299⟩ : ∃ y_ : List (G32), y_ = (x11_3 ++ [(⟨(rd_G x8_2 x32_3).f0, wrap64 (((rd_G x8_2 x32_3).f1) + 1), (rd_G x8_2 x32_3).f2, (rd_G x8_2 x32_3).f3, (rd_G x8_2 x32_3).f4, (rd_G x8_2 x32_3).f5, (rd_G x8_2 x32_3).g⟩ : G32)]) := ⟨_, rfl⟩
            replace H : (impl_MixVoices.l1 k3 (wrap64 (x9_3 + t290)) (wrap64 (x10_3 + t292)) y299 a1 x27_2 x8_2 (x8_2.length : Int) (wrap64 (x32_3 + 1)) x276000_2 x276001_2) = some (r1, r2, r3, r4) := by first | (rw [hy299]; with_reducible exact H) | (have H2_ := (Option.bind_some _ _).symm.trans H; rw [hy299]; with_reducible exact H2_) | (have H2_ := (Option.bind_some _ _).symm.trans H; with_reducible exact H2_) | with_reducible exact H | (rw [hy299]; exact H) | exact H
            have Ny299 := am_ hy299
            clear hy299
            have H' := am_ H
            clear H
            have p287 : 0 ≤ (x32_3 : Int) := od_
            have q287 : x32_3 < (x8_2.length : Int) := od_
            obtain ⟨ad287, A287_0, c287_0, e287, hx287_0, hx287_1, hx287_2, hx287_3, hx287_4, hx287_5, hl287_0, hi287_0⟩ := at_G (Kd.N_reads' HO_30.out).2.2 x32_3 p287 q287
            cases e287
            obtain ⟨ce287, hce287, hMe287, hcc287⟩ := Kd.N_get HO_30.out zG x32_3 p287 (by first | exact q287 | exact od_ | (have e_ := (Kd.N_reads' HO_30.out).1; omega))
            obtain ⟨ua287_0, uc287_0, rfl, ul287_0, ge287_0⟩ := kg_openF hMe287
            have hv287_0 := hcc287 0 _ rfl
            rw [Nat.add_zero] at hv287_0
            replace hv287_0 := Option.some.inj (hv287_0.symm.trans hx287_0)
            injection hv287_0 with hva_ hvn_ hvc_
            rw [hva_, hvc_] at ge287_0
            rw [hvc_] at ul287_0
            have HL287_0 := am_ (show VO ph_ w.heap.size (rd_G x8_2 x32_3).g _ w.heap.size _ _ ((rd_G x8_2 x32_3).f0) from VO_mk ul287_0 ge287_0)
            clear hva_ hvn_ hvc_ ge287_0 ul287_0
            clear hcc287 hce287
            have HR287_0 := am_ hi287_0
            have HC287_0 := am_ hl287_0
            clear hi287_0 hl287_0
            replace p287 := eq_true p287
            replace q287 := eq_true q287
            try go_wp2_with (first | ((with_reducible refine gate_dst (N := 13) rfl ?_); refine bx_ 13 #[.slice none 0 0, .int .i64 0, .bool false, .int .i64 0, .int .i64 0, .int .i64 0] 32 ?_; intro gb288 hg w85 hbox hb; have n0_ := am_ (Kd.N_below (Kd.N_elderB (by (with_reducible repeat (first | apply Kd.N_alloc | apply Kd.N_drewN | apply Kd.N_drew)); exact HO_11.out) gb288 (Nat.le_of_eq hg.symm)) hb); have n1_ := am_ (Kd.N_below (Kd.N_elderB (by (with_reducible repeat (first | apply Kd.N_alloc | apply Kd.N_drewN | apply Kd.N_drew)); exact HO_30.out) gb288 (Nat.le_of_eq hg.symm)) hb); have n2_ := am_ (Kd.R_below (ra_ HO_276000.out) hb); have n3_ := am_ (Kd.R_below (ra_ HO_276001.out) hb); have n4_ := am_ (VO_below (VO_elderB (by (with_reducible repeat (first | apply VO_alloc | apply VO_drewN | apply VO_drew)); exact HL287_0.out) gb288 (Nat.le_of_eq hg.symm)) hb); have n5_ := am_ (blk_below (bk_ BK269.out) hb); have n6_ := am_ (blk_below (bk_ BK275.out) hb); have n7_ := am_ (Kd.C_below (by repeat (first | (with_reducible exact HR287_0.out) | (with_reducible refine Kd.C_alloc ?_ _) | (with_reducible refine Kd.C_drewN ?_ _) | (with_reducible refine Kd.C_drew ?_) | exact HR287_0.out)) hb); have n8_ := am_ (below_step (bw_ HB.out) hb); have n9_ := am_ (hbox); have n10_ := am_ (gs_ hg (bw_ HB.out)); have n11_ := am_ (gs_ hg (bw_ HB.out)); have n12_ := am_ (nl_ hg (bk_ BK269.out)); have n13_ := am_ (ng_ hg (bk_ BK269.out)); have n14_ := am_ (nl_ hg (bk_ BK275.out)); have n15_ := am_ (ng_ hg (bk_ BK275.out)); replace HO_11 := n0_; replace HO_30 := n1_; replace HO_276000 := n2_; replace HO_276001 := n3_; replace HL287_0 := n4_; replace BK269 := n5_; replace BK275 := n6_; replace HR287_0 := n7_; replace HB := n8_; have BK288 := n9_; have GW288 := n10_; have GE288 := n11_; have NB269_288 := n12_; have NB288_269 := n13_; have NB275_288 := n14_; have NB288_275 := n15_; clear n0_ n1_ n2_ n3_ n4_ n5_ n6_ n7_ n8_ n9_ n10_ n11_ n12_ n13_ n14_ n15_; clear hb hbox hg; have hnb86 := NB288_269.out; have hnc86 := NB269_288.out; have hnb87 := NB288_275.out; have hnc87 := NB275_288.out; have hcz88_0 := cz_ BK288.out 0; have hcz88_1 := cz_ BK288.out 1; have hcz88_2 := cz_ BK288.out 2; have hcz88_3 := cz_ BK288.out 3; have hcz88_4 := cz_ BK288.out 4; have hcz88_5 := cz_ BK288.out 5; have hfz88_0 := blk_frozen BK288.out 0; have hfz88_1 := blk_frozen BK288.out 1; have hfz88_2 := blk_frozen BK288.out 2; have hfz88_3 := blk_frozen BK288.out 3; have hfz88_4 := blk_frozen BK288.out 4; have hfz88_5 := blk_frozen BK288.out 5))
            have n0_ : Aside0 (Kd.N (kg ph_ w.heap.size) 32 ((((((w85.setCell ⟨gb288, 0, none⟩ (.slice A287_0 ((rd_G x8_2 x32_3).f0).length c287_0)).setCell ⟨gb288, 1, none⟩ (.int .i64 ((rd_G x8_2 x32_3).f1))).setCell ⟨gb288, 2, none⟩ (.bool ((rd_G x8_2 x32_3).f2))).setCell ⟨gb288, 3, none⟩ (.int .i64 ((rd_G x8_2 x32_3).f3))).setCell ⟨gb288, 4, none⟩ (.int .i64 ((rd_G x8_2 x32_3).f4))).setCell ⟨gb288, 5, none⟩ (.int .i64 ((rd_G x8_2 x32_3).f5))) w.heap.size (fun k_ => (w.heap.size ≤ k_) ∧ nb k_ (.slice (some ad287) x8_2.length co20) ∧ nb k_ u276000 ∧ nb k_ u276001 ∧ k_ ≠ gb269 ∧ k_ ≠ gb275 ∧ k_ ≠ gb288) u11 x11_3) := ⟨by (with_reducible repeat (first | apply Kd.N_alloc | apply Kd.N_drewN | apply Kd.N_drew)); exact Kd.N_mono (Kd.N_far (p := ⟨gb288, 5, none⟩) (Kd.N_far (p := ⟨gb288, 4, none⟩) (Kd.N_far (p := ⟨gb288, 3, none⟩) (Kd.N_far (p := ⟨gb288, 2, none⟩) (Kd.N_far (p := ⟨gb288, 1, none⟩) (Kd.N_far (p := ⟨gb288, 0, none⟩) (Kd.N_mono HO_11.out (fun k_ hk => (⟨hk, hk.2⟩ : _ ∧ k_ ≠ gb288))) (fun _ hk => hk.2) (.slice A287_0 ((rd_G x8_2 x32_3).f0).length c287_0)) (fun _ hk => hk.2) (.int .i64 ((rd_G x8_2 x32_3).f1))) (fun _ hk => hk.2) (.bool ((rd_G x8_2 x32_3).f2))) (fun _ hk => hk.2) (.int .i64 ((rd_G x8_2 x32_3).f3))) (fun _ hk => hk.2) (.int .i64 ((rd_G x8_2 x32_3).f4))) (fun _ hk => hk.2) (.int .i64 ((rd_G x8_2 x32_3).f5))) (fun _ hk => ⟨hk.1.1.1, ⟨hk.1.1.2.1, ⟨hk.1.1.2.2.1, ⟨hk.1.1.2.2.2.1, ⟨hk.1.1.2.2.2.2.1, ⟨hk.1.1.2.2.2.2.2, hk.1.2⟩⟩⟩⟩⟩⟩)⟩
            have n1_ : Aside0 (Kd.N (kg ph_ w.heap.size) 32 ((((((w85.setCell ⟨gb288, 0, none⟩ (.slice A287_0 ((rd_G x8_2 x32_3).f0).length c287_0)).setCell ⟨gb288, 1, none⟩ (.int .i64 ((rd_G x8_2 x32_3).f1))).setCell ⟨gb288, 2, none⟩ (.bool ((rd_G x8_2 x32_3).f2))).setCell ⟨gb288, 3, none⟩ (.int .i64 ((rd_G x8_2 x32_3).f3))).setCell ⟨gb288, 4, none⟩ (.int .i64 ((rd_G x8_2 x32_3).f4))).setCell ⟨gb288, 5, none⟩ (.int .i64 ((rd_G x8_2 x32_3).f5))) w.heap.size (fun k_ => (w.heap.size ≤ k_) ∧ nb k_ u11 ∧ nb k_ u276000 ∧ nb k_ u276001 ∧ k_ ≠ gb269 ∧ k_ ≠ gb275 ∧ k_ ≠ gb288) (.slice (some ad287) x8_2.length co20) x8_2) := ⟨by (with_reducible repeat (first | apply Kd.N_alloc | apply Kd.N_drewN | apply Kd.N_drew)); exact Kd.N_mono (Kd.N_far (p := ⟨gb288, 5, none⟩) (Kd.N_far (p := ⟨gb288, 4, none⟩) (Kd.N_far (p := ⟨gb288, 3, none⟩) (Kd.N_far (p := ⟨gb288, 2, none⟩) (Kd.N_far (p := ⟨gb288, 1, none⟩) (Kd.N_far (p := ⟨gb288, 0, none⟩) (Kd.N_mono HO_30.out (fun k_ hk => (⟨hk, hk.2⟩ : _ ∧ k_ ≠ gb288))) (fun _ hk => hk.2) (.slice A287_0 ((rd_G x8_2 x32_3).f0).length c287_0)) (fun _ hk => hk.2) (.int .i64 ((rd_G x8_2 x32_3).f1))) (fun _ hk => hk.2) (.bool ((rd_G x8_2 x32_3).f2))) (fun _ hk => hk.2) (.int .i64 ((rd_G x8_2 x32_3).f3))) (fun _ hk => hk.2) (.int .i64 ((rd_G x8_2 x32_3).f4))) (fun _ hk => hk.2) (.int .i64 ((rd_G x8_2 x32_3).f5))) (fun _ hk => ⟨hk.1.1.1, ⟨hk.1.1.2.1, ⟨hk.1.1.2.2.1, ⟨hk.1.1.2.2.2.1, ⟨hk.1.1.2.2.2.2.1, ⟨hk.1.1.2.2.2.2.2, hk.1.2⟩⟩⟩⟩⟩⟩)⟩
            have n2_ : Aside0 (Kd.R (Kd.int .i64) 3 ((((((w85.setCell ⟨gb288, 0, none⟩ (.slice A287_0 ((rd_G x8_2 x32_3).f0).length c287_0)).setCell ⟨gb288, 1, none⟩ (.int .i64 ((rd_G x8_2 x32_3).f1))).setCell ⟨gb288, 2, none⟩ (.bool ((rd_G x8_2 x32_3).f2))).setCell ⟨gb288, 3, none⟩ (.int .i64 ((rd_G x8_2 x32_3).f3))).setCell ⟨gb288, 4, none⟩ (.int .i64 ((rd_G x8_2 x32_3).f4))).setCell ⟨gb288, 5, none⟩ (.int .i64 ((rd_G x8_2 x32_3).f5))) w.heap.size (fun k_ => (w.heap.size ≤ k_) ∧ nb k_ u276001) u276000 x276000_2) := ⟨ra_ (Kd.R_mono (Kd.R_far (p := ⟨gb288, 5, none⟩) (Kd.R_far (p := ⟨gb288, 4, none⟩) (Kd.R_far (p := ⟨gb288, 3, none⟩) (Kd.R_far (p := ⟨gb288, 2, none⟩) (Kd.R_far (p := ⟨gb288, 1, none⟩) (Kd.R_far (p := ⟨gb288, 0, none⟩) (Kd.R_types HO_276000.out BK288.out (by decide)) (fun _ hk => hk.2) (.slice A287_0 ((rd_G x8_2 x32_3).f0).length c287_0)) (fun _ hk => hk.2) (.int .i64 ((rd_G x8_2 x32_3).f1))) (fun _ hk => hk.2) (.bool ((rd_G x8_2 x32_3).f2))) (fun _ hk => hk.2) (.int .i64 ((rd_G x8_2 x32_3).f3))) (fun _ hk => hk.2) (.int .i64 ((rd_G x8_2 x32_3).f4))) (fun _ hk => hk.2) (.int .i64 ((rd_G x8_2 x32_3).f5))) (fun _ hk => ⟨hk.1.1, hk.1.2⟩))⟩
            have n3_ : Aside0 (Kd.R (Kd.int .i64) 3 ((((((w85.setCell ⟨gb288, 0, none⟩ (.slice A287_0 ((rd_G x8_2 x32_3).f0).length c287_0)).setCell ⟨gb288, 1, none⟩ (.int .i64 ((rd_G x8_2 x32_3).f1))).setCell ⟨gb288, 2, none⟩ (.bool ((rd_G x8_2 x32_3).f2))).setCell ⟨gb288, 3, none⟩ (.int .i64 ((rd_G x8_2 x32_3).f3))).setCell ⟨gb288, 4, none⟩ (.int .i64 ((rd_G x8_2 x32_3).f4))).setCell ⟨gb288, 5, none⟩ (.int .i64 ((rd_G x8_2 x32_3).f5))) w.heap.size (fun k_ => (w.heap.size ≤ k_) ∧ nb k_ u276000) u276001 x276001_2) := ⟨ra_ (Kd.R_mono (Kd.R_far (p := ⟨gb288, 5, none⟩) (Kd.R_far (p := ⟨gb288, 4, none⟩) (Kd.R_far (p := ⟨gb288, 3, none⟩) (Kd.R_far (p := ⟨gb288, 2, none⟩) (Kd.R_far (p := ⟨gb288, 1, none⟩) (Kd.R_far (p := ⟨gb288, 0, none⟩) (Kd.R_types HO_276001.out BK288.out (by decide)) (fun _ hk => hk.2) (.slice A287_0 ((rd_G x8_2 x32_3).f0).length c287_0)) (fun _ hk => hk.2) (.int .i64 ((rd_G x8_2 x32_3).f1))) (fun _ hk => hk.2) (.bool ((rd_G x8_2 x32_3).f2))) (fun _ hk => hk.2) (.int .i64 ((rd_G x8_2 x32_3).f3))) (fun _ hk => hk.2) (.int .i64 ((rd_G x8_2 x32_3).f4))) (fun _ hk => hk.2) (.int .i64 ((rd_G x8_2 x32_3).f5))) (fun _ hk => ⟨hk.1.1, hk.1.2⟩))⟩
            have n4_ : Aside0 (VO ph_ w.heap.size (rd_G x8_2 x32_3).g ((((((w85.setCell ⟨gb288, 0, none⟩ (.slice A287_0 ((rd_G x8_2 x32_3).f0).length c287_0)).setCell ⟨gb288, 1, none⟩ (.int .i64 ((rd_G x8_2 x32_3).f1))).setCell ⟨gb288, 2, none⟩ (.bool ((rd_G x8_2 x32_3).f2))).setCell ⟨gb288, 3, none⟩ (.int .i64 ((rd_G x8_2 x32_3).f3))).setCell ⟨gb288, 4, none⟩ (.int .i64 ((rd_G x8_2 x32_3).f4))).setCell ⟨gb288, 5, none⟩ (.int .i64 ((rd_G x8_2 x32_3).f5))) w.heap.size (fun k_ => (w.heap.size ≤ k_) ∧ nb k_ u11 ∧ nb k_ (.slice (some ad287) x8_2.length co20) ∧ nb k_ u276000 ∧ nb k_ u276001 ∧ k_ ≠ gb269 ∧ k_ ≠ gb275 ∧ k_ ≠ gb288) (.slice A287_0 ((rd_G x8_2 x32_3).f0).length c287_0) ((rd_G x8_2 x32_3).f0)) := ⟨by (with_reducible repeat (first | apply VO_alloc | apply VO_drewN | apply VO_drew)); exact VO_mono (VO_far (p := ⟨gb288, 5, none⟩) (VO_far (p := ⟨gb288, 4, none⟩) (VO_far (p := ⟨gb288, 3, none⟩) (VO_far (p := ⟨gb288, 2, none⟩) (VO_far (p := ⟨gb288, 1, none⟩) (VO_far (p := ⟨gb288, 0, none⟩) (VO_mono HL287_0.out (fun k_ hk => (⟨hk, hk.2⟩ : _ ∧ k_ ≠ gb288))) (fun _ hk => hk.2) (.slice A287_0 ((rd_G x8_2 x32_3).f0).length c287_0)) (fun _ hk => hk.2) (.int .i64 ((rd_G x8_2 x32_3).f1))) (fun _ hk => hk.2) (.bool ((rd_G x8_2 x32_3).f2))) (fun _ hk => hk.2) (.int .i64 ((rd_G x8_2 x32_3).f3))) (fun _ hk => hk.2) (.int .i64 ((rd_G x8_2 x32_3).f4))) (fun _ hk => hk.2) (.int .i64 ((rd_G x8_2 x32_3).f5))) (fun _ hk => ⟨hk.1.1.1.1, ⟨hk.1.1.1.2.1, ⟨hk.1.1.2, ⟨hk.1.1.1.2.2.1, ⟨hk.1.1.1.2.2.2.1, ⟨hk.1.1.1.2.2.2.2.1, ⟨hk.1.1.1.2.2.2.2.2, hk.1.2⟩⟩⟩⟩⟩⟩⟩)⟩
            have n5_ : Aside0 (((((((w85.setCell ⟨gb288, 0, none⟩ (.slice A287_0 ((rd_G x8_2 x32_3).f0).length c287_0)).setCell ⟨gb288, 1, none⟩ (.int .i64 ((rd_G x8_2 x32_3).f1))).setCell ⟨gb288, 2, none⟩ (.bool ((rd_G x8_2 x32_3).f2))).setCell ⟨gb288, 3, none⟩ (.int .i64 ((rd_G x8_2 x32_3).f3))).setCell ⟨gb288, 4, none⟩ (.int .i64 ((rd_G x8_2 x32_3).f4))).setCell ⟨gb288, 5, none⟩ (.int .i64 ((rd_G x8_2 x32_3).f5))).heap[gb269]? = some (.cells #[.slice none 0 0, .slice none 0 0] 40 (0, 0))) := ⟨by (with_reducible repeat (first | refine blk_drewN ?_ _ | refine blk_drew ?_ | refine blk_alloc ?_ _)); refine blk_far ?_ NB269_288.out _; (with_reducible repeat (first | refine blk_drewN ?_ _ | refine blk_drew ?_ | refine blk_alloc ?_ _)); refine blk_far ?_ NB269_288.out _; (with_reducible repeat (first | refine blk_drewN ?_ _ | refine blk_drew ?_ | refine blk_alloc ?_ _)); refine blk_far ?_ NB269_288.out _; (with_reducible repeat (first | refine blk_drewN ?_ _ | refine blk_drew ?_ | refine blk_alloc ?_ _)); refine blk_far ?_ NB269_288.out _; (with_reducible repeat (first | refine blk_drewN ?_ _ | refine blk_drew ?_ | refine blk_alloc ?_ _)); refine blk_far ?_ NB269_288.out _; (with_reducible repeat (first | refine blk_drewN ?_ _ | refine blk_drew ?_ | refine blk_alloc ?_ _)); refine blk_far ?_ NB269_288.out _; (with_reducible repeat (first | refine blk_drewN ?_ _ | refine blk_drew ?_ | refine blk_alloc ?_ _)); exact BK269.out⟩
            have n6_ : Aside0 (((((((w85.setCell ⟨gb288, 0, none⟩ (.slice A287_0 ((rd_G x8_2 x32_3).f0).length c287_0)).setCell ⟨gb288, 1, none⟩ (.int .i64 ((rd_G x8_2 x32_3).f1))).setCell ⟨gb288, 2, none⟩ (.bool ((rd_G x8_2 x32_3).f2))).setCell ⟨gb288, 3, none⟩ (.int .i64 ((rd_G x8_2 x32_3).f3))).setCell ⟨gb288, 4, none⟩ (.int .i64 ((rd_G x8_2 x32_3).f4))).setCell ⟨gb288, 5, none⟩ (.int .i64 ((rd_G x8_2 x32_3).f5))).heap[gb275]? = some (.cells #[u276000, u276001] 40 (0, 0))) := ⟨by (with_reducible repeat (first | refine blk_drewN ?_ _ | refine blk_drew ?_ | refine blk_alloc ?_ _)); refine blk_far ?_ NB275_288.out _; (with_reducible repeat (first | refine blk_drewN ?_ _ | refine blk_drew ?_ | refine blk_alloc ?_ _)); refine blk_far ?_ NB275_288.out _; (with_reducible repeat (first | refine blk_drewN ?_ _ | refine blk_drew ?_ | refine blk_alloc ?_ _)); refine blk_far ?_ NB275_288.out _; (with_reducible repeat (first | refine blk_drewN ?_ _ | refine blk_drew ?_ | refine blk_alloc ?_ _)); refine blk_far ?_ NB275_288.out _; (with_reducible repeat (first | refine blk_drewN ?_ _ | refine blk_drew ?_ | refine blk_alloc ?_ _)); refine blk_far ?_ NB275_288.out _; (with_reducible repeat (first | refine blk_drewN ?_ _ | refine blk_drew ?_ | refine blk_alloc ?_ _)); refine blk_far ?_ NB275_288.out _; (with_reducible repeat (first | refine blk_drewN ?_ _ | refine blk_drew ?_ | refine blk_alloc ?_ _)); exact BK275.out⟩
            have n7_ : Aside0 (((((((w85.setCell ⟨gb288, 0, none⟩ (.slice A287_0 ((rd_G x8_2 x32_3).f0).length c287_0)).setCell ⟨gb288, 1, none⟩ (.int .i64 ((rd_G x8_2 x32_3).f1))).setCell ⟨gb288, 2, none⟩ (.bool ((rd_G x8_2 x32_3).f2))).setCell ⟨gb288, 3, none⟩ (.int .i64 ((rd_G x8_2 x32_3).f3))).setCell ⟨gb288, 4, none⟩ (.int .i64 ((rd_G x8_2 x32_3).f4))).setCell ⟨gb288, 5, none⟩ (.int .i64 ((rd_G x8_2 x32_3).f5))).heap[gb288]? = some (.cells #[.slice A287_0 ((rd_G x8_2 x32_3).f0).length c287_0, .int .i64 ((rd_G x8_2 x32_3).f1), .bool ((rd_G x8_2 x32_3).f2), .int .i64 ((rd_G x8_2 x32_3).f3), .int .i64 ((rd_G x8_2 x32_3).f4), .int .i64 ((rd_G x8_2 x32_3).f5)] 32 (0, 0))) := ⟨by (with_reducible repeat (first | refine blk_drewN ?_ _ | refine blk_drew ?_ | refine blk_alloc ?_ _)); refine blk_put (cs := #[.slice A287_0 ((rd_G x8_2 x32_3).f0).length c287_0, .int .i64 ((rd_G x8_2 x32_3).f1), .bool ((rd_G x8_2 x32_3).f2), .int .i64 ((rd_G x8_2 x32_3).f3), .int .i64 ((rd_G x8_2 x32_3).f4), .int .i64 0]) ?_ 5 _ rfl; (with_reducible repeat (first | refine blk_drewN ?_ _ | refine blk_drew ?_ | refine blk_alloc ?_ _)); refine blk_put (cs := #[.slice A287_0 ((rd_G x8_2 x32_3).f0).length c287_0, .int .i64 ((rd_G x8_2 x32_3).f1), .bool ((rd_G x8_2 x32_3).f2), .int .i64 ((rd_G x8_2 x32_3).f3), .int .i64 0, .int .i64 0]) ?_ 4 _ rfl; (with_reducible repeat (first | refine blk_drewN ?_ _ | refine blk_drew ?_ | refine blk_alloc ?_ _)); refine blk_put (cs := #[.slice A287_0 ((rd_G x8_2 x32_3).f0).length c287_0, .int .i64 ((rd_G x8_2 x32_3).f1), .bool ((rd_G x8_2 x32_3).f2), .int .i64 0, .int .i64 0, .int .i64 0]) ?_ 3 _ rfl; (with_reducible repeat (first | refine blk_drewN ?_ _ | refine blk_drew ?_ | refine blk_alloc ?_ _)); refine blk_put (cs := #[.slice A287_0 ((rd_G x8_2 x32_3).f0).length c287_0, .int .i64 ((rd_G x8_2 x32_3).f1), .bool false, .int .i64 0, .int .i64 0, .int .i64 0]) ?_ 2 _ rfl; (with_reducible repeat (first | refine blk_drewN ?_ _ | refine blk_drew ?_ | refine blk_alloc ?_ _)); refine blk_put (cs := #[.slice A287_0 ((rd_G x8_2 x32_3).f0).length c287_0, .int .i64 0, .bool false, .int .i64 0, .int .i64 0, .int .i64 0]) ?_ 1 _ rfl; (with_reducible repeat (first | refine blk_drewN ?_ _ | refine blk_drew ?_ | refine blk_alloc ?_ _)); refine blk_put (cs := #[.slice none 0 0, .int .i64 0, .bool false, .int .i64 0, .int .i64 0, .int .i64 0]) ?_ 0 _ rfl; (with_reducible repeat (first | refine blk_drewN ?_ _ | refine blk_drew ?_ | refine blk_alloc ?_ _)); exact BK288.out⟩
            have n8_ : Aside0 (Below w.heap.size w ((((((w85.setCell ⟨gb288, 0, none⟩ (.slice A287_0 ((rd_G x8_2 x32_3).f0).length c287_0)).setCell ⟨gb288, 1, none⟩ (.int .i64 ((rd_G x8_2 x32_3).f1))).setCell ⟨gb288, 2, none⟩ (.bool ((rd_G x8_2 x32_3).f2))).setCell ⟨gb288, 3, none⟩ (.int .i64 ((rd_G x8_2 x32_3).f3))).setCell ⟨gb288, 4, none⟩ (.int .i64 ((rd_G x8_2 x32_3).f4))).setCell ⟨gb288, 5, none⟩ (.int .i64 ((rd_G x8_2 x32_3).f5)))) := ⟨bw_ HB.out⟩
            (try clear HO_11)
            (try clear HO_30)
            (try clear HO_276000)
            (try clear HO_276001)
            (try clear HL287_0)
            (try clear BK269)
            (try clear BK275)
            (try clear BK288)
            (try clear HB)
            generalize ((((((w85.setCell ⟨gb288, 0, none⟩ (.slice A287_0 ((rd_G x8_2 x32_3).f0).length c287_0)).setCell ⟨gb288, 1, none⟩ (.int .i64 ((rd_G x8_2 x32_3).f1))).setCell ⟨gb288, 2, none⟩ (.bool ((rd_G x8_2 x32_3).f2))).setCell ⟨gb288, 3, none⟩ (.int .i64 ((rd_G x8_2 x32_3).f3))).setCell ⟨gb288, 4, none⟩ (.int .i64 ((rd_G x8_2 x32_3).f4))).setCell ⟨gb288, 5, none⟩ (.int .i64 ((rd_G x8_2 x32_3).f5))) = w89 at n0_ n1_ n2_ n3_ n4_ n5_ n6_ n7_ n8_ ⊢
            have HO_11 := n0_
            have HO_30 := n1_
            have HO_276000 := n2_
            have HO_276001 := n3_
            have HL287_0 := n4_
            have BK269 := n5_
            have BK275 := n6_
            have BK288 := n7_
            have HB := n8_
            clear n0_ n1_ n2_ n3_ n4_ n5_ n6_ n7_ n8_
            have n0_ := am_ (Kd.N_drew HO_11.out)
            have n1_ := am_ (Kd.N_drew HO_30.out)
            have n2_ := am_ (Kd.R_drew HO_276000.out)
            have n3_ := am_ (Kd.R_drew HO_276001.out)
            have n4_ := am_ (VO_drew HL287_0.out)
            have n5_ := am_ (blk_drew BK269.out)
            have n6_ := am_ (blk_drew BK275.out)
            have n7_ := am_ (blk_drew BK288.out)
            have n8_ := am_ (below_drew1 HB.out)
            replace HO_11 := n0_
            replace HO_30 := n1_
            replace HO_276000 := n2_
            replace HO_276001 := n3_
            replace HL287_0 := n4_
            replace BK269 := n5_
            replace BK275 := n6_
            replace BK288 := n7_
            replace HB := n8_
            clear n0_ n1_ n2_ n3_ n4_ n5_ n6_ n7_ n8_
            have p289 : 0 ≤ (((rd_G x8_2 x32_3).f1) : Int) := od_
            have q289 : ((rd_G x8_2 x32_3).f1) < (((rd_G x8_2 x32_3).f0).length : Int) := od_
            obtain ⟨ad289, e289, hx289_0⟩ := Kd.at_int ((VO_reads' HL287_0.out).2.2) ((rd_G x8_2 x32_3).f1) p289 q289
            cases e289
            replace p289 := eq_true p289
            replace q289 := eq_true q289
            refine start_ (n := 12) (S := fun w' => w'.cell? ⟨gb288, 0, none⟩ = some (.slice (some ad289) ((rd_G x8_2 x32_3).f0).length c287_0) ∧ w'.cell? ⟨gb288, 1, none⟩ = some (.int .i64 ((rd_G x8_2 x32_3).f1)) ∧ w'.cell? ⟨gb288, 2, none⟩ = some (.bool ((rd_G x8_2 x32_3).f2)) ∧ w'.cell? ⟨gb288, 3, none⟩ = some (.int .i64 ((rd_G x8_2 x32_3).f3)) ∧ w'.cell? ⟨gb288, 4, none⟩ = some (.int .i64 ((rd_G x8_2 x32_3).f4)) ∧ w'.cell? ⟨gb288, 5, none⟩ = some (.int .i64 ((rd_G x8_2 x32_3).f5)) ∧ w'.cell? (ad289.add (((rd_G x8_2 x32_3).f1)).toNat) = some (.int .i64 (rd ((rd_G x8_2 x32_3).f0) ((rd_G x8_2 x32_3).f1)))) (ds := []) (Array.replicate 12 false) (by kernel_rfl) rfl rfl ⟨cz_ BK288.out 0, cz_ BK288.out 1, cz_ BK288.out 2, cz_ BK288.out 3, cz_ BK288.out 4, cz_ BK288.out 5, hx289_0⟩ (fun hHeld => ?_); refine with_tabW impl_MixVoices.tab10 impl_MixVoices.bits10 (fun HT_ HW_ => ?_)
            generalize w89.drew = w90 at HO_11 HO_30 HO_276000 HO_276001 HL287_0 BK269 BK275 BK288 HB hx289_0 hHeld ⊢
            refine pS_ 0 36 HT_ ?_
            refine pS_ 1 37 HT_ ?_
            refine pS_ 3 39 HT_ ?_
            refine pS_ 7 43 HT_ ?_
            refine tS_ 2 38 HT_ HW_ hHeld ?_
            refine tS_ 4 40 HT_ HW_ hHeld ?_
            refine pS_ 5 41 HT_ ?_
            refine tS_ 6 42 HT_ HW_ hHeld ?_
            refine tS_ 8 44 HT_ HW_ hHeld ?_
            refine oS_ 9 45 HT_ (fun K hK => ?_)
            refine goes_ Try.func37 (by kernel_rfl) rfl #[.int .i64 (rd ((rd_G x8_2 x32_3).f0) ((rd_G x8_2 x32_3).f1)), .int .i64 ((rd_G x8_2 x32_3).f3)] (by rfl) rfl rfl (by (try simp only [List.map_toArray, List.map_cons, List.map_nil]); first | done | rfl | (simp only [List.length_drop, List.length_take]; rfl)) ?_
            with_reducible refine (impl_FixMul.calls (rd ((rd_G x8_2 x32_3).f0) ((rd_G x8_2 x32_3).f1)) ((rd_G x8_2 x32_3).f3) t290 _ A26.out).mono ?_
            rintro e w91 ⟨rfl, hb⟩
            have HS6_ := (hb.cell (World.block_lt_of_cell? _ _ (hHeld.2.2.2.2.2.2))).trans (hHeld.2.2.2.2.2.2)
            refine ⟨_, rfl, ?_⟩
            have n0_ := am_ (Kd.N_below (by (with_reducible repeat (first | apply Kd.N_alloc | apply Kd.N_drewN | apply Kd.N_drew)); exact HO_11.out) hb)
            have n1_ := am_ (Kd.N_below (by (with_reducible repeat (first | apply Kd.N_alloc | apply Kd.N_drewN | apply Kd.N_drew)); exact HO_30.out) hb)
            have n2_ := am_ (Kd.R_below (ra_ HO_276000.out) hb)
            have n3_ := am_ (Kd.R_below (ra_ HO_276001.out) hb)
            have n4_ := am_ (VO_below (by (with_reducible repeat (first | apply VO_alloc | apply VO_drewN | apply VO_drew)); exact HL287_0.out) hb)
            have n5_ := am_ (blk_below (bk_ BK269.out) hb)
            have n6_ := am_ (blk_below (bk_ BK275.out) hb)
            have n7_ := am_ (blk_below (bk_ BK288.out) hb)
            have n8_ := am_ (below_step (bw_ HB.out) hb)
            replace HO_11 := n0_
            replace HO_30 := n1_
            replace HO_276000 := n2_
            replace HO_276001 := n3_
            replace HL287_0 := n4_
            replace BK269 := n5_
            replace BK275 := n6_
            replace BK288 := n7_
            replace HB := n8_
            clear n0_ n1_ n2_ n3_ n4_ n5_ n6_ n7_ n8_
            (try clear hb)
            (try clear hb2)
            (try clear hk)
            (try clear hi)
            refine hK.out _ _ ⟨cz_ BK288.out 0, cz_ BK288.out 1, cz_ BK288.out 2, cz_ BK288.out 3, cz_ BK288.out 4, cz_ BK288.out 5, HS6_⟩ (fun hHeld => ?_)
            clear hK K
            refine nD_ 45 ?_
            refine pS_ 10 46 HT_ ?_
            refine pS_ 11 9 HT_ ?_
            refine done_ (done_of HT_.out (by kernel_rfl)) ?_
            try go_wp2
            have n0_ := am_ (Kd.N_drew HO_11.out)
            have n1_ := am_ (Kd.N_drew HO_30.out)
            have n2_ := am_ (Kd.R_drew HO_276000.out)
            have n3_ := am_ (Kd.R_drew HO_276001.out)
            have n4_ := am_ (VO_drew HL287_0.out)
            have n5_ := am_ (blk_drew BK269.out)
            have n6_ := am_ (blk_drew BK275.out)
            have n7_ := am_ (blk_drew BK288.out)
            have n8_ := am_ (below_drew1 HB.out)
            replace HO_11 := n0_
            replace HO_30 := n1_
            replace HO_276000 := n2_
            replace HO_276001 := n3_
            replace HL287_0 := n4_
            replace BK269 := n5_
            replace BK275 := n6_
            replace BK288 := n7_
            replace HB := n8_
            clear n0_ n1_ n2_ n3_ n4_ n5_ n6_ n7_ n8_
            have p291 : 0 ≤ (((rd_G x8_2 x32_3).f1) : Int) := od_
            have q291 : ((rd_G x8_2 x32_3).f1) < (((rd_G x8_2 x32_3).f0).length : Int) := od_
            obtain ⟨ad291, e291, hx291_0⟩ := Kd.at_int ((VO_reads' HL287_0.out).2.2) ((rd_G x8_2 x32_3).f1) p291 q291
            obtain rfl : ad289 = ad291 := (by injection e291)
            replace p291 := eq_true p291
            replace q291 := eq_true q291
            refine start_ (n := 12) (S := fun w' => w'.cell? ⟨gb288, 0, none⟩ = some (.slice (some ad289) ((rd_G x8_2 x32_3).f0).length c287_0) ∧ w'.cell? ⟨gb288, 1, none⟩ = some (.int .i64 ((rd_G x8_2 x32_3).f1)) ∧ w'.cell? ⟨gb288, 2, none⟩ = some (.bool ((rd_G x8_2 x32_3).f2)) ∧ w'.cell? ⟨gb288, 3, none⟩ = some (.int .i64 ((rd_G x8_2 x32_3).f3)) ∧ w'.cell? ⟨gb288, 4, none⟩ = some (.int .i64 ((rd_G x8_2 x32_3).f4)) ∧ w'.cell? ⟨gb288, 5, none⟩ = some (.int .i64 ((rd_G x8_2 x32_3).f5)) ∧ w'.cell? (ad289.add (((rd_G x8_2 x32_3).f1)).toNat) = some (.int .i64 (rd ((rd_G x8_2 x32_3).f0) ((rd_G x8_2 x32_3).f1)))) (ds := []) (Array.replicate 12 false) (by kernel_rfl) rfl rfl ⟨cz_ BK288.out 0, cz_ BK288.out 1, cz_ BK288.out 2, cz_ BK288.out 3, cz_ BK288.out 4, cz_ BK288.out 5, hx291_0⟩ (fun hHeld => ?_); refine with_tabW impl_MixVoices.tab11 impl_MixVoices.bits11 (fun HT_ HW_ => ?_)
            generalize w91.drew = w92 at HO_11 HO_30 HO_276000 HO_276001 HL287_0 BK269 BK275 BK288 HB hx291_0 hHeld ⊢
            refine pS_ 0 47 HT_ ?_
            refine pS_ 1 48 HT_ ?_
            refine pS_ 3 50 HT_ ?_
            refine pS_ 7 54 HT_ ?_
            refine tS_ 2 49 HT_ HW_ hHeld ?_
            refine tS_ 4 51 HT_ HW_ hHeld ?_
            refine pS_ 5 52 HT_ ?_
            refine tS_ 6 53 HT_ HW_ hHeld ?_
            refine tS_ 8 55 HT_ HW_ hHeld ?_
            refine oS_ 9 56 HT_ (fun K hK => ?_)
            refine goes_ Try.func37 (by kernel_rfl) rfl #[.int .i64 (rd ((rd_G x8_2 x32_3).f0) ((rd_G x8_2 x32_3).f1)), .int .i64 ((rd_G x8_2 x32_3).f4)] (by rfl) rfl rfl (by (try simp only [List.map_toArray, List.map_cons, List.map_nil]); first | done | rfl | (simp only [List.length_drop, List.length_take]; rfl)) ?_
            with_reducible refine (impl_FixMul.calls (rd ((rd_G x8_2 x32_3).f0) ((rd_G x8_2 x32_3).f1)) ((rd_G x8_2 x32_3).f4) t292 _ A27.out).mono ?_
            rintro e w93 ⟨rfl, hb⟩
            have HS6_ := (hb.cell (World.block_lt_of_cell? _ _ (hHeld.2.2.2.2.2.2))).trans (hHeld.2.2.2.2.2.2)
            refine ⟨_, rfl, ?_⟩
            have n0_ := am_ (Kd.N_below (by (with_reducible repeat (first | apply Kd.N_alloc | apply Kd.N_drewN | apply Kd.N_drew)); exact HO_11.out) hb)
            have n1_ := am_ (Kd.N_below (by (with_reducible repeat (first | apply Kd.N_alloc | apply Kd.N_drewN | apply Kd.N_drew)); exact HO_30.out) hb)
            have n2_ := am_ (Kd.R_below (ra_ HO_276000.out) hb)
            have n3_ := am_ (Kd.R_below (ra_ HO_276001.out) hb)
            have n4_ := am_ (VO_below (by (with_reducible repeat (first | apply VO_alloc | apply VO_drewN | apply VO_drew)); exact HL287_0.out) hb)
            have n5_ := am_ (blk_below (bk_ BK269.out) hb)
            have n6_ := am_ (blk_below (bk_ BK275.out) hb)
            have n7_ := am_ (blk_below (bk_ BK288.out) hb)
            have n8_ := am_ (below_step (bw_ HB.out) hb)
            replace HO_11 := n0_
            replace HO_30 := n1_
            replace HO_276000 := n2_
            replace HO_276001 := n3_
            replace HL287_0 := n4_
            replace BK269 := n5_
            replace BK275 := n6_
            replace BK288 := n7_
            replace HB := n8_
            clear n0_ n1_ n2_ n3_ n4_ n5_ n6_ n7_ n8_
            (try clear hb)
            (try clear hb2)
            (try clear hk)
            (try clear hi)
            refine hK.out _ _ ⟨cz_ BK288.out 0, cz_ BK288.out 1, cz_ BK288.out 2, cz_ BK288.out 3, cz_ BK288.out 4, cz_ BK288.out 5, HS6_⟩ (fun hHeld => ?_)
            clear hK K
            refine nD_ 56 ?_
            refine pS_ 10 57 HT_ ?_
            refine pS_ 11 10 HT_ ?_
            refine done_ (done_of HT_.out (by kernel_rfl)) ?_
            have hcz94_0 := cz_ BK288.out 0
            have hcz94_1 := cz_ BK288.out 1
            have hcz94_2 := cz_ BK288.out 2
            have hcz94_3 := cz_ BK288.out 3
            have hcz94_4 := cz_ BK288.out 4
            have hcz94_5 := cz_ BK288.out 5
            have hfz94_0 := blk_frozen BK288.out 0
            have hfz94_1 := blk_frozen BK288.out 1
            have hfz94_2 := blk_frozen BK288.out 2
            have hfz94_3 := blk_frozen BK288.out 3
            have hfz94_4 := blk_frozen BK288.out 4
            have hfz94_5 := blk_frozen BK288.out 5
            try go_wp2_with (first | ((with_reducible refine gate_store (t := 3) (p := 61) rfl ?_); refine se_ 3 61 (w93.setCell ⟨gb288, 1, none⟩ (.int .i64 (wrap64 (((rd_G x8_2 x32_3).f1) + 1)))) ?_; intro w95 hw; have n0_ : Aside0 (Kd.N (kg ph_ w.heap.size) 32 w95 w.heap.size (fun k_ => (w.heap.size ≤ k_) ∧ nb k_ (.slice (some ad287) x8_2.length co20) ∧ nb k_ u276000 ∧ nb k_ u276001 ∧ k_ ≠ gb269 ∧ k_ ≠ gb275 ∧ k_ ≠ gb288) u11 x11_3) := ⟨(by rw [hw]; exact (by (with_reducible repeat (first | apply Kd.N_alloc | apply Kd.N_drewN | apply Kd.N_drew)); exact Kd.N_mono (Kd.N_far (p := ⟨gb288, 1, none⟩) (Kd.N_mono HO_11.out (fun k_ hk => (⟨hk, hk.2.2.2.2.2.2⟩ : _ ∧ k_ ≠ gb288))) (fun _ hk => hk.2) (.int .i64 (wrap64 (((rd_G x8_2 x32_3).f1) + 1)))) (fun _ hk => ⟨hk.1.1, ⟨hk.1.2.1, ⟨hk.1.2.2.1, ⟨hk.1.2.2.2.1, ⟨hk.1.2.2.2.2.1, ⟨hk.1.2.2.2.2.2.1, hk.1.2.2.2.2.2.2⟩⟩⟩⟩⟩⟩)))⟩; have n1_ : Aside0 (Kd.N (kg ph_ w.heap.size) 32 w95 w.heap.size (fun k_ => (w.heap.size ≤ k_) ∧ nb k_ u11 ∧ nb k_ u276000 ∧ nb k_ u276001 ∧ k_ ≠ gb269 ∧ k_ ≠ gb275 ∧ k_ ≠ gb288) (.slice (some ad287) x8_2.length co20) x8_2) := ⟨(by rw [hw]; exact (by (with_reducible repeat (first | apply Kd.N_alloc | apply Kd.N_drewN | apply Kd.N_drew)); exact Kd.N_mono (Kd.N_far (p := ⟨gb288, 1, none⟩) (Kd.N_mono HO_30.out (fun k_ hk => (⟨hk, hk.2.2.2.2.2.2⟩ : _ ∧ k_ ≠ gb288))) (fun _ hk => hk.2) (.int .i64 (wrap64 (((rd_G x8_2 x32_3).f1) + 1)))) (fun _ hk => ⟨hk.1.1, ⟨hk.1.2.1, ⟨hk.1.2.2.1, ⟨hk.1.2.2.2.1, ⟨hk.1.2.2.2.2.1, ⟨hk.1.2.2.2.2.2.1, hk.1.2.2.2.2.2.2⟩⟩⟩⟩⟩⟩)))⟩; have n2_ : Aside0 (Kd.R (Kd.int .i64) 3 w95 w.heap.size (fun k_ => (w.heap.size ≤ k_) ∧ nb k_ u276001) u276000 x276000_2) := ⟨(by rw [hw]; exact (ra_ (Kd.R_mono (Kd.R_far (p := ⟨gb288, 1, none⟩) (Kd.R_types HO_276000.out BK288.out (by decide)) (fun _ hk => hk.2) (.int .i64 (wrap64 (((rd_G x8_2 x32_3).f1) + 1)))) (fun _ hk => ⟨hk.1.1, hk.1.2⟩))))⟩; have n3_ : Aside0 (Kd.R (Kd.int .i64) 3 w95 w.heap.size (fun k_ => (w.heap.size ≤ k_) ∧ nb k_ u276000) u276001 x276001_2) := ⟨(by rw [hw]; exact (ra_ (Kd.R_mono (Kd.R_far (p := ⟨gb288, 1, none⟩) (Kd.R_types HO_276001.out BK288.out (by decide)) (fun _ hk => hk.2) (.int .i64 (wrap64 (((rd_G x8_2 x32_3).f1) + 1)))) (fun _ hk => ⟨hk.1.1, hk.1.2⟩))))⟩; have n4_ : Aside0 (VO ph_ w.heap.size (rd_G x8_2 x32_3).g w95 w.heap.size (fun k_ => (w.heap.size ≤ k_) ∧ nb k_ u11 ∧ nb k_ (.slice (some ad287) x8_2.length co20) ∧ nb k_ u276000 ∧ nb k_ u276001 ∧ k_ ≠ gb269 ∧ k_ ≠ gb275 ∧ k_ ≠ gb288) (.slice (some ad289) ((rd_G x8_2 x32_3).f0).length c287_0) ((rd_G x8_2 x32_3).f0)) := ⟨(by rw [hw]; exact (by (with_reducible repeat (first | apply VO_alloc | apply VO_drewN | apply VO_drew)); exact VO_mono (VO_far (p := ⟨gb288, 1, none⟩) (VO_mono HL287_0.out (fun k_ hk => (⟨hk, hk.2.2.2.2.2.2.2⟩ : _ ∧ k_ ≠ gb288))) (fun _ hk => hk.2) (.int .i64 (wrap64 (((rd_G x8_2 x32_3).f1) + 1)))) (fun _ hk => ⟨hk.1.1, ⟨hk.1.2.1, ⟨hk.1.2.2.1, ⟨hk.1.2.2.2.1, ⟨hk.1.2.2.2.2.1, ⟨hk.1.2.2.2.2.2.1, ⟨hk.1.2.2.2.2.2.2.1, hk.1.2.2.2.2.2.2.2⟩⟩⟩⟩⟩⟩⟩)))⟩; have n5_ : Aside0 (w95.heap[gb269]? = some (.cells #[.slice none 0 0, .slice none 0 0] 40 (0, 0))) := ⟨(by rw [hw]; exact (by (with_reducible repeat (first | refine blk_drewN ?_ _ | refine blk_drew ?_ | refine blk_alloc ?_ _)); refine blk_far ?_ NB269_288.out _; (with_reducible repeat (first | refine blk_drewN ?_ _ | refine blk_drew ?_ | refine blk_alloc ?_ _)); exact BK269.out))⟩; have n6_ : Aside0 (w95.heap[gb275]? = some (.cells #[u276000, u276001] 40 (0, 0))) := ⟨(by rw [hw]; exact (by (with_reducible repeat (first | refine blk_drewN ?_ _ | refine blk_drew ?_ | refine blk_alloc ?_ _)); refine blk_far ?_ NB275_288.out _; (with_reducible repeat (first | refine blk_drewN ?_ _ | refine blk_drew ?_ | refine blk_alloc ?_ _)); exact BK275.out))⟩; have n7_ : Aside0 (w95.heap[gb288]? = some (.cells #[.slice (some ad289) ((rd_G x8_2 x32_3).f0).length c287_0, .int .i64 (wrap64 (((rd_G x8_2 x32_3).f1) + 1)), .bool ((rd_G x8_2 x32_3).f2), .int .i64 ((rd_G x8_2 x32_3).f3), .int .i64 ((rd_G x8_2 x32_3).f4), .int .i64 ((rd_G x8_2 x32_3).f5)] 32 (0, 0))) := ⟨(by rw [hw]; exact (by (with_reducible repeat (first | refine blk_drewN ?_ _ | refine blk_drew ?_ | refine blk_alloc ?_ _)); refine blk_put (cs := #[.slice (some ad289) ((rd_G x8_2 x32_3).f0).length c287_0, .int .i64 ((rd_G x8_2 x32_3).f1), .bool ((rd_G x8_2 x32_3).f2), .int .i64 ((rd_G x8_2 x32_3).f3), .int .i64 ((rd_G x8_2 x32_3).f4), .int .i64 ((rd_G x8_2 x32_3).f5)]) ?_ 1 _ rfl; (with_reducible repeat (first | refine blk_drewN ?_ _ | refine blk_drew ?_ | refine blk_alloc ?_ _)); exact BK288.out))⟩; have n8_ : Aside0 (Below w.heap.size w w95) := ⟨(by rw [hw]; exact (bw_ HB.out))⟩; clear hw; replace HO_11 := n0_; replace HO_30 := n1_; replace HO_276000 := n2_; replace HO_276001 := n3_; replace HL287_0 := n4_; replace BK269 := n5_; replace BK275 := n6_; replace BK288 := n7_; replace HB := n8_; clear n0_ n1_ n2_ n3_ n4_ n5_ n6_ n7_ n8_; have hcz96_0 := cz_ BK288.out 0; have hcz96_1 := cz_ BK288.out 1; have hcz96_2 := cz_ BK288.out 2; have hcz96_3 := cz_ BK288.out 3; have hcz96_4 := cz_ BK288.out 4; have hcz96_5 := cz_ BK288.out 5; have hfz96_0 := blk_frozen BK288.out 0; have hfz96_1 := blk_frozen BK288.out 1; have hfz96_2 := blk_frozen BK288.out 2; have hfz96_3 := blk_frozen BK288.out 3; have hfz96_4 := blk_frozen BK288.out 4; have hfz96_5 := blk_frozen BK288.out 5) | ((with_reducible refine gate_dst (N := 81) rfl ?_); refine bsl6_ 28 32 Try.underlying28 info32 81 (.tmp 80) _ _ _ _ _ _ ?_) | ((with_reducible refine gate_builtin (b := .append) (xs := #[.tmp 79, .tmp 81]) rfl ?_); at_builtin; refine Kd.N_append (kg ph_ w.heap.size) (w0 := w) w.heap.size rfl (.tmp 79) (.tmp 81) 28 32 (.agg #[(.slice none 0 0), (.int .i64 0), (.bool false), (.int .i64 0), (.int .i64 0), (.int .i64 0)]) 64 rfl Try.underlying28 info32 rfl (Nat.succ_pos 5) (by omega) u11 x11_3 (⟨(rd_G x8_2 x32_3).f0, wrap64 (((rd_G x8_2 x32_3).f1) + 1), (rd_G x8_2 x32_3).f2, (rd_G x8_2 x32_3).f3, (rd_G x8_2 x32_3).f4, (rd_G x8_2 x32_3).f5, (rd_G x8_2 x32_3).g⟩ : G32) [.slice (some ad289) ((rd_G x8_2 x32_3).f0).length c287_0, .int .i64 (wrap64 (((rd_G x8_2 x32_3).f1) + 1)), .bool ((rd_G x8_2 x32_3).f2), .int .i64 ((rd_G x8_2 x32_3).f3), .int .i64 ((rd_G x8_2 x32_3).f4), .int .i64 ((rd_G x8_2 x32_3).f5)] (fun k_ => (w.heap.size ≤ k_) ∧ nb k_ (.slice (some ad287) x8_2.length co20) ∧ nb k_ u276000 ∧ nb k_ u276001 ∧ k_ ≠ gb269 ∧ k_ ≠ gb275 ∧ k_ ≠ gb288) (fun k_ => ((fun k_ => (w.heap.size ≤ k_) ∧ nb k_ (.slice (some ad287) x8_2.length co20) ∧ nb k_ u276000 ∧ nb k_ u276001 ∧ k_ ≠ gb269 ∧ k_ ≠ gb275 ∧ k_ ≠ gb288)) k_ ∧ nb k_ u11) rfl rfl ?aP (fun _ hk => hk) ?aF ?aO ?aB ?aS ?aL ?_; (case aP => exact (kg_mkF _ _ (⟨(rd_G x8_2 x32_3).f0, wrap64 (((rd_G x8_2 x32_3).f1) + 1), (rd_G x8_2 x32_3).f2, (rd_G x8_2 x32_3).f3, (rd_G x8_2 x32_3).f4, (rd_G x8_2 x32_3).f5, (rd_G x8_2 x32_3).g⟩ : G32) (VO_reads' (VO_mono (ok' := (fun k_ => ((fun k_ => (w.heap.size ≤ k_) ∧ nb k_ (.slice (some ad287) x8_2.length co20) ∧ nb k_ u276000 ∧ nb k_ u276001 ∧ k_ ≠ gb269 ∧ k_ ≠ gb275 ∧ k_ ≠ gb288)) k_ ∧ nb k_ u11)) (HL287_0.out) (fun k_ hk => ⟨⟨hk.1, ⟨hk.2.2.1, ⟨hk.2.2.2.1, ⟨hk.2.2.2.2.1, ⟨hk.2.2.2.2.2.1, ⟨hk.2.2.2.2.2.2.1, hk.2.2.2.2.2.2.2⟩⟩⟩⟩⟩⟩, hk.2.1⟩))).2.1 (VO_F (VO_mono (ok' := (fun k_ => ((fun k_ => (w.heap.size ≤ k_) ∧ nb k_ (.slice (some ad287) x8_2.length co20) ∧ nb k_ u276000 ∧ nb k_ u276001 ∧ k_ ≠ gb269 ∧ k_ ≠ gb275 ∧ k_ ≠ gb288)) k_ ∧ nb k_ u11)) (HL287_0.out) (fun k_ hk => ⟨⟨hk.1, ⟨hk.2.2.1, ⟨hk.2.2.2.1, ⟨hk.2.2.2.2.1, ⟨hk.2.2.2.2.2.1, ⟨hk.2.2.2.2.2.2.1, hk.2.2.2.2.2.2.2⟩⟩⟩⟩⟩⟩, hk.2.1⟩))))); (case aB => exact (bw_ HB.out)); (case aF => exact (fun k_ hk => ⟨(Nat.le_trans (below_size (bw_ HB.out)) hk), Kd.fresh' (Kd.N_lt (by (with_reducible repeat (first | apply Kd.N_alloc | apply Kd.N_drewN | apply Kd.N_drew)); exact HO_30.out)) k_ hk, Kd.fresh' (Kd.R_lt (ra_ HO_276000.out)) k_ hk, Kd.fresh' (Kd.R_lt (ra_ HO_276001.out)) k_ hk, Kd.freshB (bk_ BK269.out) k_ hk, Kd.freshB (bk_ BK275.out) k_ hk, Kd.freshB (bk_ BK288.out) k_ hk⟩)); (case aO => exact (by (with_reducible repeat (first | apply Kd.N_alloc | apply Kd.N_drewN | apply Kd.N_drew)); exact HO_11.out)); (case aS => exact (below_size (bw_ HB.out))); (case aL => have := LMc84.out; omega); intro v300 w97 ho hb hg hat; rw [← Ny299.out] at ho; have n0_ := am_ (Kd.N_afterv (ok := (fun k_ => (w.heap.size ≤ k_) ∧ nb k_ u276000 ∧ nb k_ u276001 ∧ k_ ≠ gb269 ∧ k_ ≠ gb275 ∧ k_ ≠ gb288)) (by (with_reducible repeat (first | apply Kd.N_alloc | apply Kd.N_drewN | apply Kd.N_drew)); exact Kd.N_mono HO_30.out (fun _ hk => ⟨⟨hk.1, ⟨hk.2.2.1, ⟨hk.2.2.2.1, ⟨hk.2.2.2.2.1, ⟨hk.2.2.2.2.2.1, hk.2.2.2.2.2.2⟩⟩⟩⟩⟩, hk.2.1⟩)) hg hat); have n1_ := am_ (Kd.R_over' (ra_ HO_276000.out) (Kd.N_typed (by (with_reducible repeat (first | apply Kd.N_alloc | apply Kd.N_drewN | apply Kd.N_drew)); exact HO_11.out)) (by decide) hg); have n2_ := am_ (Kd.R_over' (ra_ HO_276001.out) (Kd.N_typed (by (with_reducible repeat (first | apply Kd.N_alloc | apply Kd.N_drewN | apply Kd.N_drew)); exact HO_11.out)) (by decide) hg); have n3_ := am_ (blk_grown (bk_ BK269.out) hg (Kd.N_ne HO_11.out BK269.out (by decide))); have n4_ := am_ (blk_grown (bk_ BK275.out) hg (Kd.N_ne HO_11.out BK275.out (by decide))); have n5_ := am_ (VO_afterv (ok := (fun k_ => (w.heap.size ≤ k_) ∧ nb k_ (.slice (some ad287) x8_2.length co20) ∧ nb k_ u276000 ∧ nb k_ u276001 ∧ k_ ≠ gb269 ∧ k_ ≠ gb275 ∧ k_ ≠ gb288)) (by (with_reducible repeat (first | apply VO_alloc | apply VO_drewN | apply VO_drew)); exact VO_mono HL287_0.out (fun _ hk => ⟨⟨hk.1, ⟨hk.2.2.1, ⟨hk.2.2.2.1, ⟨hk.2.2.2.2.1, ⟨hk.2.2.2.2.2.1, ⟨hk.2.2.2.2.2.2.1, hk.2.2.2.2.2.2.2⟩⟩⟩⟩⟩⟩, hk.2.1⟩)) hg hat); have n6_ := am_ (blk_grown (bk_ BK288.out) hg (Kd.N_away HO_11.out (fun _ hk => hk.2.2.2.2.2.2))); have n7_ := am_ (hb); have n8_ := am_ (ho); clear HO_11; replace HO_30 := n0_; replace HO_276000 := n1_; replace HO_276001 := n2_; replace BK269 := n3_; replace BK275 := n4_; replace HL287_0 := n5_; replace BK288 := n6_; replace HB := n7_; have HO301 := n8_; clear n0_ n1_ n2_ n3_ n4_ n5_ n6_ n7_ n8_; clear ho hb hg hat))
            go_roundg k3
            case measure => have := HJ2.out; have := HK2.out; have := HK3.out; omega
            case rel => exact ⟨(wrap64 (x9_3 + t290)), (wrap64 (x10_3 + t292)), (y299), (wrap64 (x32_3 + 1)), sq_, sq_, sq_, H', ⟨by have := HJ2.out; have := HK2.out; have := HK3.out; omega⟩, ⟨by (with_reducible repeat (first | apply Kd.N_alloc | apply Kd.N_drewN | apply Kd.N_drew)); exact Kd.N_mono HO301.out (fun _ hk => ⟨hk.1, ⟨hk.2.1, ⟨hk.2.2.1, ⟨hk.2.2.2.1, ⟨hk.2.2.2.2.1, hk.2.2.2.2.2.1⟩⟩⟩⟩⟩)⟩, ⟨by (with_reducible repeat (first | apply Kd.N_alloc | apply Kd.N_drewN | apply Kd.N_drew)); exact Kd.N_mono HO_30.out (fun _ hk => ⟨hk.1.1, ⟨hk.2, ⟨hk.1.2.1, ⟨hk.1.2.2.1, ⟨hk.1.2.2.2.1, hk.1.2.2.2.2.1⟩⟩⟩⟩⟩)⟩, ⟨ra_ HO_276000.out⟩, ⟨ra_ HO_276001.out⟩, ⟨bk_ BK269.out⟩, ⟨bk_ BK275.out⟩, ⟨bw_ HB.out⟩⟩
           ·as_aux_lemma =>
            rw [if_neg c83] at H
            have c83b0 : decide ((wrap64 (((rd_G x8_2 x32_3).f1) + 1)) < (((rd_G x8_2 x32_3).f0).length : Int)) = false := decide_eq_false c83
            clear c83
            have H' := am_ H
            clear H
            have p287 : 0 ≤ (x32_3 : Int) := od_
            have q287 : x32_3 < (x8_2.length : Int) := od_
            obtain ⟨ad287, A287_0, c287_0, e287, hx287_0, hx287_1, hx287_2, hx287_3, hx287_4, hx287_5, hl287_0, hi287_0⟩ := at_G (Kd.N_reads' HO_30.out).2.2 x32_3 p287 q287
            cases e287
            obtain ⟨ce287, hce287, hMe287, hcc287⟩ := Kd.N_get HO_30.out zG x32_3 p287 (by first | exact q287 | exact od_ | (have e_ := (Kd.N_reads' HO_30.out).1; omega))
            obtain ⟨ua287_0, uc287_0, rfl, ul287_0, ge287_0⟩ := kg_openF hMe287
            have hv287_0 := hcc287 0 _ rfl
            rw [Nat.add_zero] at hv287_0
            replace hv287_0 := Option.some.inj (hv287_0.symm.trans hx287_0)
            injection hv287_0 with hva_ hvn_ hvc_
            rw [hva_, hvc_] at ge287_0
            rw [hvc_] at ul287_0
            have HL287_0 := am_ (show VO ph_ w.heap.size (rd_G x8_2 x32_3).g _ w.heap.size _ _ ((rd_G x8_2 x32_3).f0) from VO_mk ul287_0 ge287_0)
            clear hva_ hvn_ hvc_ ge287_0 ul287_0
            clear hcc287 hce287
            have HR287_0 := am_ hi287_0
            have HC287_0 := am_ hl287_0
            clear hi287_0 hl287_0
            replace p287 := eq_true p287
            replace q287 := eq_true q287
            try go_wp2_with (first | ((with_reducible refine gate_dst (N := 13) rfl ?_); refine bx_ 13 #[.slice none 0 0, .int .i64 0, .bool false, .int .i64 0, .int .i64 0, .int .i64 0] 32 ?_; intro gb288 hg w98 hbox hb; have n0_ := am_ (Kd.N_below (Kd.N_elderB (by (with_reducible repeat (first | apply Kd.N_alloc | apply Kd.N_drewN | apply Kd.N_drew)); exact HO_11.out) gb288 (Nat.le_of_eq hg.symm)) hb); have n1_ := am_ (Kd.N_below (Kd.N_elderB (by (with_reducible repeat (first | apply Kd.N_alloc | apply Kd.N_drewN | apply Kd.N_drew)); exact HO_30.out) gb288 (Nat.le_of_eq hg.symm)) hb); have n2_ := am_ (Kd.R_below (ra_ HO_276000.out) hb); have n3_ := am_ (Kd.R_below (ra_ HO_276001.out) hb); have n4_ := am_ (VO_below (VO_elderB (by (with_reducible repeat (first | apply VO_alloc | apply VO_drewN | apply VO_drew)); exact HL287_0.out) gb288 (Nat.le_of_eq hg.symm)) hb); have n5_ := am_ (blk_below (bk_ BK269.out) hb); have n6_ := am_ (blk_below (bk_ BK275.out) hb); have n7_ := am_ (Kd.C_below (by repeat (first | (with_reducible exact HR287_0.out) | (with_reducible refine Kd.C_alloc ?_ _) | (with_reducible refine Kd.C_drewN ?_ _) | (with_reducible refine Kd.C_drew ?_) | exact HR287_0.out)) hb); have n8_ := am_ (below_step (bw_ HB.out) hb); have n9_ := am_ (hbox); have n10_ := am_ (gs_ hg (bw_ HB.out)); have n11_ := am_ (gs_ hg (bw_ HB.out)); have n12_ := am_ (nl_ hg (bk_ BK269.out)); have n13_ := am_ (ng_ hg (bk_ BK269.out)); have n14_ := am_ (nl_ hg (bk_ BK275.out)); have n15_ := am_ (ng_ hg (bk_ BK275.out)); replace HO_11 := n0_; replace HO_30 := n1_; replace HO_276000 := n2_; replace HO_276001 := n3_; replace HL287_0 := n4_; replace BK269 := n5_; replace BK275 := n6_; replace HR287_0 := n7_; replace HB := n8_; have BK288 := n9_; have GW288 := n10_; have GE288 := n11_; have NB269_288 := n12_; have NB288_269 := n13_; have NB275_288 := n14_; have NB288_275 := n15_; clear n0_ n1_ n2_ n3_ n4_ n5_ n6_ n7_ n8_ n9_ n10_ n11_ n12_ n13_ n14_ n15_; clear hb hbox hg; have hnb99 := NB288_269.out; have hnc99 := NB269_288.out; have hnb100 := NB288_275.out; have hnc100 := NB275_288.out; have hcz101_0 := cz_ BK288.out 0; have hcz101_1 := cz_ BK288.out 1; have hcz101_2 := cz_ BK288.out 2; have hcz101_3 := cz_ BK288.out 3; have hcz101_4 := cz_ BK288.out 4; have hcz101_5 := cz_ BK288.out 5; have hfz101_0 := blk_frozen BK288.out 0; have hfz101_1 := blk_frozen BK288.out 1; have hfz101_2 := blk_frozen BK288.out 2; have hfz101_3 := blk_frozen BK288.out 3; have hfz101_4 := blk_frozen BK288.out 4; have hfz101_5 := blk_frozen BK288.out 5))
            have n0_ : Aside0 (Kd.N (kg ph_ w.heap.size) 32 ((((((w98.setCell ⟨gb288, 0, none⟩ (.slice A287_0 ((rd_G x8_2 x32_3).f0).length c287_0)).setCell ⟨gb288, 1, none⟩ (.int .i64 ((rd_G x8_2 x32_3).f1))).setCell ⟨gb288, 2, none⟩ (.bool ((rd_G x8_2 x32_3).f2))).setCell ⟨gb288, 3, none⟩ (.int .i64 ((rd_G x8_2 x32_3).f3))).setCell ⟨gb288, 4, none⟩ (.int .i64 ((rd_G x8_2 x32_3).f4))).setCell ⟨gb288, 5, none⟩ (.int .i64 ((rd_G x8_2 x32_3).f5))) w.heap.size (fun k_ => (w.heap.size ≤ k_) ∧ nb k_ (.slice (some ad287) x8_2.length co20) ∧ nb k_ u276000 ∧ nb k_ u276001 ∧ k_ ≠ gb269 ∧ k_ ≠ gb275 ∧ k_ ≠ gb288) u11 x11_3) := ⟨by (with_reducible repeat (first | apply Kd.N_alloc | apply Kd.N_drewN | apply Kd.N_drew)); exact Kd.N_mono (Kd.N_far (p := ⟨gb288, 5, none⟩) (Kd.N_far (p := ⟨gb288, 4, none⟩) (Kd.N_far (p := ⟨gb288, 3, none⟩) (Kd.N_far (p := ⟨gb288, 2, none⟩) (Kd.N_far (p := ⟨gb288, 1, none⟩) (Kd.N_far (p := ⟨gb288, 0, none⟩) (Kd.N_mono HO_11.out (fun k_ hk => (⟨hk, hk.2⟩ : _ ∧ k_ ≠ gb288))) (fun _ hk => hk.2) (.slice A287_0 ((rd_G x8_2 x32_3).f0).length c287_0)) (fun _ hk => hk.2) (.int .i64 ((rd_G x8_2 x32_3).f1))) (fun _ hk => hk.2) (.bool ((rd_G x8_2 x32_3).f2))) (fun _ hk => hk.2) (.int .i64 ((rd_G x8_2 x32_3).f3))) (fun _ hk => hk.2) (.int .i64 ((rd_G x8_2 x32_3).f4))) (fun _ hk => hk.2) (.int .i64 ((rd_G x8_2 x32_3).f5))) (fun _ hk => ⟨hk.1.1.1, ⟨hk.1.1.2.1, ⟨hk.1.1.2.2.1, ⟨hk.1.1.2.2.2.1, ⟨hk.1.1.2.2.2.2.1, ⟨hk.1.1.2.2.2.2.2, hk.1.2⟩⟩⟩⟩⟩⟩)⟩
            have n1_ : Aside0 (Kd.N (kg ph_ w.heap.size) 32 ((((((w98.setCell ⟨gb288, 0, none⟩ (.slice A287_0 ((rd_G x8_2 x32_3).f0).length c287_0)).setCell ⟨gb288, 1, none⟩ (.int .i64 ((rd_G x8_2 x32_3).f1))).setCell ⟨gb288, 2, none⟩ (.bool ((rd_G x8_2 x32_3).f2))).setCell ⟨gb288, 3, none⟩ (.int .i64 ((rd_G x8_2 x32_3).f3))).setCell ⟨gb288, 4, none⟩ (.int .i64 ((rd_G x8_2 x32_3).f4))).setCell ⟨gb288, 5, none⟩ (.int .i64 ((rd_G x8_2 x32_3).f5))) w.heap.size (fun k_ => (w.heap.size ≤ k_) ∧ nb k_ u11 ∧ nb k_ u276000 ∧ nb k_ u276001 ∧ k_ ≠ gb269 ∧ k_ ≠ gb275 ∧ k_ ≠ gb288) (.slice (some ad287) x8_2.length co20) x8_2) := ⟨by (with_reducible repeat (first | apply Kd.N_alloc | apply Kd.N_drewN | apply Kd.N_drew)); exact Kd.N_mono (Kd.N_far (p := ⟨gb288, 5, none⟩) (Kd.N_far (p := ⟨gb288, 4, none⟩) (Kd.N_far (p := ⟨gb288, 3, none⟩) (Kd.N_far (p := ⟨gb288, 2, none⟩) (Kd.N_far (p := ⟨gb288, 1, none⟩) (Kd.N_far (p := ⟨gb288, 0, none⟩) (Kd.N_mono HO_30.out (fun k_ hk => (⟨hk, hk.2⟩ : _ ∧ k_ ≠ gb288))) (fun _ hk => hk.2) (.slice A287_0 ((rd_G x8_2 x32_3).f0).length c287_0)) (fun _ hk => hk.2) (.int .i64 ((rd_G x8_2 x32_3).f1))) (fun _ hk => hk.2) (.bool ((rd_G x8_2 x32_3).f2))) (fun _ hk => hk.2) (.int .i64 ((rd_G x8_2 x32_3).f3))) (fun _ hk => hk.2) (.int .i64 ((rd_G x8_2 x32_3).f4))) (fun _ hk => hk.2) (.int .i64 ((rd_G x8_2 x32_3).f5))) (fun _ hk => ⟨hk.1.1.1, ⟨hk.1.1.2.1, ⟨hk.1.1.2.2.1, ⟨hk.1.1.2.2.2.1, ⟨hk.1.1.2.2.2.2.1, ⟨hk.1.1.2.2.2.2.2, hk.1.2⟩⟩⟩⟩⟩⟩)⟩
            have n2_ : Aside0 (Kd.R (Kd.int .i64) 3 ((((((w98.setCell ⟨gb288, 0, none⟩ (.slice A287_0 ((rd_G x8_2 x32_3).f0).length c287_0)).setCell ⟨gb288, 1, none⟩ (.int .i64 ((rd_G x8_2 x32_3).f1))).setCell ⟨gb288, 2, none⟩ (.bool ((rd_G x8_2 x32_3).f2))).setCell ⟨gb288, 3, none⟩ (.int .i64 ((rd_G x8_2 x32_3).f3))).setCell ⟨gb288, 4, none⟩ (.int .i64 ((rd_G x8_2 x32_3).f4))).setCell ⟨gb288, 5, none⟩ (.int .i64 ((rd_G x8_2 x32_3).f5))) w.heap.size (fun k_ => (w.heap.size ≤ k_) ∧ nb k_ u276001) u276000 x276000_2) := ⟨ra_ (Kd.R_mono (Kd.R_far (p := ⟨gb288, 5, none⟩) (Kd.R_far (p := ⟨gb288, 4, none⟩) (Kd.R_far (p := ⟨gb288, 3, none⟩) (Kd.R_far (p := ⟨gb288, 2, none⟩) (Kd.R_far (p := ⟨gb288, 1, none⟩) (Kd.R_far (p := ⟨gb288, 0, none⟩) (Kd.R_types HO_276000.out BK288.out (by decide)) (fun _ hk => hk.2) (.slice A287_0 ((rd_G x8_2 x32_3).f0).length c287_0)) (fun _ hk => hk.2) (.int .i64 ((rd_G x8_2 x32_3).f1))) (fun _ hk => hk.2) (.bool ((rd_G x8_2 x32_3).f2))) (fun _ hk => hk.2) (.int .i64 ((rd_G x8_2 x32_3).f3))) (fun _ hk => hk.2) (.int .i64 ((rd_G x8_2 x32_3).f4))) (fun _ hk => hk.2) (.int .i64 ((rd_G x8_2 x32_3).f5))) (fun _ hk => ⟨hk.1.1, hk.1.2⟩))⟩
            have n3_ : Aside0 (Kd.R (Kd.int .i64) 3 ((((((w98.setCell ⟨gb288, 0, none⟩ (.slice A287_0 ((rd_G x8_2 x32_3).f0).length c287_0)).setCell ⟨gb288, 1, none⟩ (.int .i64 ((rd_G x8_2 x32_3).f1))).setCell ⟨gb288, 2, none⟩ (.bool ((rd_G x8_2 x32_3).f2))).setCell ⟨gb288, 3, none⟩ (.int .i64 ((rd_G x8_2 x32_3).f3))).setCell ⟨gb288, 4, none⟩ (.int .i64 ((rd_G x8_2 x32_3).f4))).setCell ⟨gb288, 5, none⟩ (.int .i64 ((rd_G x8_2 x32_3).f5))) w.heap.size (fun k_ => (w.heap.size ≤ k_) ∧ nb k_ u276000) u276001 x276001_2) := ⟨ra_ (Kd.R_mono (Kd.R_far (p := ⟨gb288, 5, none⟩) (Kd.R_far (p := ⟨gb288, 4, none⟩) (Kd.R_far (p := ⟨gb288, 3, none⟩) (Kd.R_far (p := ⟨gb288, 2, none⟩) (Kd.R_far (p := ⟨gb288, 1, none⟩) (Kd.R_far (p := ⟨gb288, 0, none⟩) (Kd.R_types HO_276001.out BK288.out (by decide)) (fun _ hk => hk.2) (.slice A287_0 ((rd_G x8_2 x32_3).f0).length c287_0)) (fun _ hk => hk.2) (.int .i64 ((rd_G x8_2 x32_3).f1))) (fun _ hk => hk.2) (.bool ((rd_G x8_2 x32_3).f2))) (fun _ hk => hk.2) (.int .i64 ((rd_G x8_2 x32_3).f3))) (fun _ hk => hk.2) (.int .i64 ((rd_G x8_2 x32_3).f4))) (fun _ hk => hk.2) (.int .i64 ((rd_G x8_2 x32_3).f5))) (fun _ hk => ⟨hk.1.1, hk.1.2⟩))⟩
            have n4_ : Aside0 (VO ph_ w.heap.size (rd_G x8_2 x32_3).g ((((((w98.setCell ⟨gb288, 0, none⟩ (.slice A287_0 ((rd_G x8_2 x32_3).f0).length c287_0)).setCell ⟨gb288, 1, none⟩ (.int .i64 ((rd_G x8_2 x32_3).f1))).setCell ⟨gb288, 2, none⟩ (.bool ((rd_G x8_2 x32_3).f2))).setCell ⟨gb288, 3, none⟩ (.int .i64 ((rd_G x8_2 x32_3).f3))).setCell ⟨gb288, 4, none⟩ (.int .i64 ((rd_G x8_2 x32_3).f4))).setCell ⟨gb288, 5, none⟩ (.int .i64 ((rd_G x8_2 x32_3).f5))) w.heap.size (fun k_ => (w.heap.size ≤ k_) ∧ nb k_ u11 ∧ nb k_ (.slice (some ad287) x8_2.length co20) ∧ nb k_ u276000 ∧ nb k_ u276001 ∧ k_ ≠ gb269 ∧ k_ ≠ gb275 ∧ k_ ≠ gb288) (.slice A287_0 ((rd_G x8_2 x32_3).f0).length c287_0) ((rd_G x8_2 x32_3).f0)) := ⟨by (with_reducible repeat (first | apply VO_alloc | apply VO_drewN | apply VO_drew)); exact VO_mono (VO_far (p := ⟨gb288, 5, none⟩) (VO_far (p := ⟨gb288, 4, none⟩) (VO_far (p := ⟨gb288, 3, none⟩) (VO_far (p := ⟨gb288, 2, none⟩) (VO_far (p := ⟨gb288, 1, none⟩) (VO_far (p := ⟨gb288, 0, none⟩) (VO_mono HL287_0.out (fun k_ hk => (⟨hk, hk.2⟩ : _ ∧ k_ ≠ gb288))) (fun _ hk => hk.2) (.slice A287_0 ((rd_G x8_2 x32_3).f0).length c287_0)) (fun _ hk => hk.2) (.int .i64 ((rd_G x8_2 x32_3).f1))) (fun _ hk => hk.2) (.bool ((rd_G x8_2 x32_3).f2))) (fun _ hk => hk.2) (.int .i64 ((rd_G x8_2 x32_3).f3))) (fun _ hk => hk.2) (.int .i64 ((rd_G x8_2 x32_3).f4))) (fun _ hk => hk.2) (.int .i64 ((rd_G x8_2 x32_3).f5))) (fun _ hk => ⟨hk.1.1.1.1, ⟨hk.1.1.1.2.1, ⟨hk.1.1.2, ⟨hk.1.1.1.2.2.1, ⟨hk.1.1.1.2.2.2.1, ⟨hk.1.1.1.2.2.2.2.1, ⟨hk.1.1.1.2.2.2.2.2, hk.1.2⟩⟩⟩⟩⟩⟩⟩)⟩
            have n5_ : Aside0 (((((((w98.setCell ⟨gb288, 0, none⟩ (.slice A287_0 ((rd_G x8_2 x32_3).f0).length c287_0)).setCell ⟨gb288, 1, none⟩ (.int .i64 ((rd_G x8_2 x32_3).f1))).setCell ⟨gb288, 2, none⟩ (.bool ((rd_G x8_2 x32_3).f2))).setCell ⟨gb288, 3, none⟩ (.int .i64 ((rd_G x8_2 x32_3).f3))).setCell ⟨gb288, 4, none⟩ (.int .i64 ((rd_G x8_2 x32_3).f4))).setCell ⟨gb288, 5, none⟩ (.int .i64 ((rd_G x8_2 x32_3).f5))).heap[gb269]? = some (.cells #[.slice none 0 0, .slice none 0 0] 40 (0, 0))) := ⟨by (with_reducible repeat (first | refine blk_drewN ?_ _ | refine blk_drew ?_ | refine blk_alloc ?_ _)); refine blk_far ?_ NB269_288.out _; (with_reducible repeat (first | refine blk_drewN ?_ _ | refine blk_drew ?_ | refine blk_alloc ?_ _)); refine blk_far ?_ NB269_288.out _; (with_reducible repeat (first | refine blk_drewN ?_ _ | refine blk_drew ?_ | refine blk_alloc ?_ _)); refine blk_far ?_ NB269_288.out _; (with_reducible repeat (first | refine blk_drewN ?_ _ | refine blk_drew ?_ | refine blk_alloc ?_ _)); refine blk_far ?_ NB269_288.out _; (with_reducible repeat (first | refine blk_drewN ?_ _ | refine blk_drew ?_ | refine blk_alloc ?_ _)); refine blk_far ?_ NB269_288.out _; (with_reducible repeat (first | refine blk_drewN ?_ _ | refine blk_drew ?_ | refine blk_alloc ?_ _)); refine blk_far ?_ NB269_288.out _; (with_reducible repeat (first | refine blk_drewN ?_ _ | refine blk_drew ?_ | refine blk_alloc ?_ _)); exact BK269.out⟩
            have n6_ : Aside0 (((((((w98.setCell ⟨gb288, 0, none⟩ (.slice A287_0 ((rd_G x8_2 x32_3).f0).length c287_0)).setCell ⟨gb288, 1, none⟩ (.int .i64 ((rd_G x8_2 x32_3).f1))).setCell ⟨gb288, 2, none⟩ (.bool ((rd_G x8_2 x32_3).f2))).setCell ⟨gb288, 3, none⟩ (.int .i64 ((rd_G x8_2 x32_3).f3))).setCell ⟨gb288, 4, none⟩ (.int .i64 ((rd_G x8_2 x32_3).f4))).setCell ⟨gb288, 5, none⟩ (.int .i64 ((rd_G x8_2 x32_3).f5))).heap[gb275]? = some (.cells #[u276000, u276001] 40 (0, 0))) := ⟨by (with_reducible repeat (first | refine blk_drewN ?_ _ | refine blk_drew ?_ | refine blk_alloc ?_ _)); refine blk_far ?_ NB275_288.out _; (with_reducible repeat (first | refine blk_drewN ?_ _ | refine blk_drew ?_ | refine blk_alloc ?_ _)); refine blk_far ?_ NB275_288.out _; (with_reducible repeat (first | refine blk_drewN ?_ _ | refine blk_drew ?_ | refine blk_alloc ?_ _)); refine blk_far ?_ NB275_288.out _; (with_reducible repeat (first | refine blk_drewN ?_ _ | refine blk_drew ?_ | refine blk_alloc ?_ _)); refine blk_far ?_ NB275_288.out _; (with_reducible repeat (first | refine blk_drewN ?_ _ | refine blk_drew ?_ | refine blk_alloc ?_ _)); refine blk_far ?_ NB275_288.out _; (with_reducible repeat (first | refine blk_drewN ?_ _ | refine blk_drew ?_ | refine blk_alloc ?_ _)); refine blk_far ?_ NB275_288.out _; (with_reducible repeat (first | refine blk_drewN ?_ _ | refine blk_drew ?_ | refine blk_alloc ?_ _)); exact BK275.out⟩
            have n7_ : Aside0 (((((((w98.setCell ⟨gb288, 0, none⟩ (.slice A287_0 ((rd_G x8_2 x32_3).f0).length c287_0)).setCell ⟨gb288, 1, none⟩ (.int .i64 ((rd_G x8_2 x32_3).f1))).setCell ⟨gb288, 2, none⟩ (.bool ((rd_G x8_2 x32_3).f2))).setCell ⟨gb288, 3, none⟩ (.int .i64 ((rd_G x8_2 x32_3).f3))).setCell ⟨gb288, 4, none⟩ (.int .i64 ((rd_G x8_2 x32_3).f4))).setCell ⟨gb288, 5, none⟩ (.int .i64 ((rd_G x8_2 x32_3).f5))).heap[gb288]? = some (.cells #[.slice A287_0 ((rd_G x8_2 x32_3).f0).length c287_0, .int .i64 ((rd_G x8_2 x32_3).f1), .bool ((rd_G x8_2 x32_3).f2), .int .i64 ((rd_G x8_2 x32_3).f3), .int .i64 ((rd_G x8_2 x32_3).f4), .int .i64 ((rd_G x8_2 x32_3).f5)] 32 (0, 0))) := ⟨by (with_reducible repeat (first | refine blk_drewN ?_ _ | refine blk_drew ?_ | refine blk_alloc ?_ _)); refine blk_put (cs := #[.slice A287_0 ((rd_G x8_2 x32_3).f0).length c287_0, .int .i64 ((rd_G x8_2 x32_3).f1), .bool ((rd_G x8_2 x32_3).f2), .int .i64 ((rd_G x8_2 x32_3).f3), .int .i64 ((rd_G x8_2 x32_3).f4), .int .i64 0]) ?_ 5 _ rfl; (with_reducible repeat (first | refine blk_drewN ?_ _ | refine blk_drew ?_ | refine blk_alloc ?_ _)); refine blk_put (cs := #[.slice A287_0 ((rd_G x8_2 x32_3).f0).length c287_0, .int .i64 ((rd_G x8_2 x32_3).f1), .bool ((rd_G x8_2 x32_3).f2), .int .i64 ((rd_G x8_2 x32_3).f3), .int .i64 0, .int .i64 0]) ?_ 4 _ rfl; (with_reducible repeat (first | refine blk_drewN ?_ _ | refine blk_drew ?_ | refine blk_alloc ?_ _)); refine blk_put (cs := #[.slice A287_0 ((rd_G x8_2 x32_3).f0).length c287_0, .int .i64 ((rd_G x8_2 x32_3).f1), .bool ((rd_G x8_2 x32_3).f2), .int .i64 0, .int .i64 0, .int .i64 0]) ?_ 3 _ rfl; (with_reducible repeat (first | refine blk_drewN ?_ _ | refine blk_drew ?_ | refine blk_alloc ?_ _)); refine blk_put (cs := #[.slice A287_0 ((rd_G x8_2 x32_3).f0).length c287_0, .int .i64 ((rd_G x8_2 x32_3).f1), .bool false, .int .i64 0, .int .i64 0, .int .i64 0]) ?_ 2 _ rfl; (with_reducible repeat (first | refine blk_drewN ?_ _ | refine blk_drew ?_ | refine blk_alloc ?_ _)); refine blk_put (cs := #[.slice A287_0 ((rd_G x8_2 x32_3).f0).length c287_0, .int .i64 0, .bool false, .int .i64 0, .int .i64 0, .int .i64 0]) ?_ 1 _ rfl; (with_reducible repeat (first | refine blk_drewN ?_ _ | refine blk_drew ?_ | refine blk_alloc ?_ _)); refine blk_put (cs := #[.slice none 0 0, .int .i64 0, .bool false, .int .i64 0, .int .i64 0, .int .i64 0]) ?_ 0 _ rfl; (with_reducible repeat (first | refine blk_drewN ?_ _ | refine blk_drew ?_ | refine blk_alloc ?_ _)); exact BK288.out⟩
            have n8_ : Aside0 (Below w.heap.size w ((((((w98.setCell ⟨gb288, 0, none⟩ (.slice A287_0 ((rd_G x8_2 x32_3).f0).length c287_0)).setCell ⟨gb288, 1, none⟩ (.int .i64 ((rd_G x8_2 x32_3).f1))).setCell ⟨gb288, 2, none⟩ (.bool ((rd_G x8_2 x32_3).f2))).setCell ⟨gb288, 3, none⟩ (.int .i64 ((rd_G x8_2 x32_3).f3))).setCell ⟨gb288, 4, none⟩ (.int .i64 ((rd_G x8_2 x32_3).f4))).setCell ⟨gb288, 5, none⟩ (.int .i64 ((rd_G x8_2 x32_3).f5)))) := ⟨bw_ HB.out⟩
            (try clear HO_11)
            (try clear HO_30)
            (try clear HO_276000)
            (try clear HO_276001)
            (try clear HL287_0)
            (try clear BK269)
            (try clear BK275)
            (try clear BK288)
            (try clear HB)
            generalize ((((((w98.setCell ⟨gb288, 0, none⟩ (.slice A287_0 ((rd_G x8_2 x32_3).f0).length c287_0)).setCell ⟨gb288, 1, none⟩ (.int .i64 ((rd_G x8_2 x32_3).f1))).setCell ⟨gb288, 2, none⟩ (.bool ((rd_G x8_2 x32_3).f2))).setCell ⟨gb288, 3, none⟩ (.int .i64 ((rd_G x8_2 x32_3).f3))).setCell ⟨gb288, 4, none⟩ (.int .i64 ((rd_G x8_2 x32_3).f4))).setCell ⟨gb288, 5, none⟩ (.int .i64 ((rd_G x8_2 x32_3).f5))) = w102 at n0_ n1_ n2_ n3_ n4_ n5_ n6_ n7_ n8_ ⊢
            have HO_11 := n0_
            have HO_30 := n1_
            have HO_276000 := n2_
            have HO_276001 := n3_
            have HL287_0 := n4_
            have BK269 := n5_
            have BK275 := n6_
            have BK288 := n7_
            have HB := n8_
            clear n0_ n1_ n2_ n3_ n4_ n5_ n6_ n7_ n8_
            have n0_ := am_ (Kd.N_drew HO_11.out)
            have n1_ := am_ (Kd.N_drew HO_30.out)
            have n2_ := am_ (Kd.R_drew HO_276000.out)
            have n3_ := am_ (Kd.R_drew HO_276001.out)
            have n4_ := am_ (VO_drew HL287_0.out)
            have n5_ := am_ (blk_drew BK269.out)
            have n6_ := am_ (blk_drew BK275.out)
            have n7_ := am_ (blk_drew BK288.out)
            have n8_ := am_ (below_drew1 HB.out)
            replace HO_11 := n0_
            replace HO_30 := n1_
            replace HO_276000 := n2_
            replace HO_276001 := n3_
            replace HL287_0 := n4_
            replace BK269 := n5_
            replace BK275 := n6_
            replace BK288 := n7_
            replace HB := n8_
            clear n0_ n1_ n2_ n3_ n4_ n5_ n6_ n7_ n8_
            have p289 : 0 ≤ (((rd_G x8_2 x32_3).f1) : Int) := od_
            have q289 : ((rd_G x8_2 x32_3).f1) < (((rd_G x8_2 x32_3).f0).length : Int) := od_
            obtain ⟨ad289, e289, hx289_0⟩ := Kd.at_int ((VO_reads' HL287_0.out).2.2) ((rd_G x8_2 x32_3).f1) p289 q289
            cases e289
            replace p289 := eq_true p289
            replace q289 := eq_true q289
            refine start_ (n := 12) (S := fun w' => w'.cell? ⟨gb288, 0, none⟩ = some (.slice (some ad289) ((rd_G x8_2 x32_3).f0).length c287_0) ∧ w'.cell? ⟨gb288, 1, none⟩ = some (.int .i64 ((rd_G x8_2 x32_3).f1)) ∧ w'.cell? ⟨gb288, 2, none⟩ = some (.bool ((rd_G x8_2 x32_3).f2)) ∧ w'.cell? ⟨gb288, 3, none⟩ = some (.int .i64 ((rd_G x8_2 x32_3).f3)) ∧ w'.cell? ⟨gb288, 4, none⟩ = some (.int .i64 ((rd_G x8_2 x32_3).f4)) ∧ w'.cell? ⟨gb288, 5, none⟩ = some (.int .i64 ((rd_G x8_2 x32_3).f5)) ∧ w'.cell? (ad289.add (((rd_G x8_2 x32_3).f1)).toNat) = some (.int .i64 (rd ((rd_G x8_2 x32_3).f0) ((rd_G x8_2 x32_3).f1)))) (ds := []) (Array.replicate 12 false) (by kernel_rfl) rfl rfl ⟨cz_ BK288.out 0, cz_ BK288.out 1, cz_ BK288.out 2, cz_ BK288.out 3, cz_ BK288.out 4, cz_ BK288.out 5, hx289_0⟩ (fun hHeld => ?_); refine with_tabW impl_MixVoices.tab10 impl_MixVoices.bits10 (fun HT_ HW_ => ?_)
            generalize w102.drew = w103 at HO_11 HO_30 HO_276000 HO_276001 HL287_0 BK269 BK275 BK288 HB hx289_0 hHeld ⊢
            refine pS_ 0 36 HT_ ?_
            refine pS_ 1 37 HT_ ?_
            refine pS_ 3 39 HT_ ?_
            refine pS_ 7 43 HT_ ?_
            refine tS_ 2 38 HT_ HW_ hHeld ?_
            refine tS_ 4 40 HT_ HW_ hHeld ?_
            refine pS_ 5 41 HT_ ?_
            refine tS_ 6 42 HT_ HW_ hHeld ?_
            refine tS_ 8 44 HT_ HW_ hHeld ?_
            refine oS_ 9 45 HT_ (fun K hK => ?_)
            refine goes_ Try.func37 (by kernel_rfl) rfl #[.int .i64 (rd ((rd_G x8_2 x32_3).f0) ((rd_G x8_2 x32_3).f1)), .int .i64 ((rd_G x8_2 x32_3).f3)] (by rfl) rfl rfl (by (try simp only [List.map_toArray, List.map_cons, List.map_nil]); first | done | rfl | (simp only [List.length_drop, List.length_take]; rfl)) ?_
            with_reducible refine (impl_FixMul.calls (rd ((rd_G x8_2 x32_3).f0) ((rd_G x8_2 x32_3).f1)) ((rd_G x8_2 x32_3).f3) t290 _ A26.out).mono ?_
            rintro e w104 ⟨rfl, hb⟩
            have HS6_ := (hb.cell (World.block_lt_of_cell? _ _ (hHeld.2.2.2.2.2.2))).trans (hHeld.2.2.2.2.2.2)
            refine ⟨_, rfl, ?_⟩
            have n0_ := am_ (Kd.N_below (by (with_reducible repeat (first | apply Kd.N_alloc | apply Kd.N_drewN | apply Kd.N_drew)); exact HO_11.out) hb)
            have n1_ := am_ (Kd.N_below (by (with_reducible repeat (first | apply Kd.N_alloc | apply Kd.N_drewN | apply Kd.N_drew)); exact HO_30.out) hb)
            have n2_ := am_ (Kd.R_below (ra_ HO_276000.out) hb)
            have n3_ := am_ (Kd.R_below (ra_ HO_276001.out) hb)
            have n4_ := am_ (VO_below (by (with_reducible repeat (first | apply VO_alloc | apply VO_drewN | apply VO_drew)); exact HL287_0.out) hb)
            have n5_ := am_ (blk_below (bk_ BK269.out) hb)
            have n6_ := am_ (blk_below (bk_ BK275.out) hb)
            have n7_ := am_ (blk_below (bk_ BK288.out) hb)
            have n8_ := am_ (below_step (bw_ HB.out) hb)
            replace HO_11 := n0_
            replace HO_30 := n1_
            replace HO_276000 := n2_
            replace HO_276001 := n3_
            replace HL287_0 := n4_
            replace BK269 := n5_
            replace BK275 := n6_
            replace BK288 := n7_
            replace HB := n8_
            clear n0_ n1_ n2_ n3_ n4_ n5_ n6_ n7_ n8_
            (try clear hb)
            (try clear hb2)
            (try clear hk)
            (try clear hi)
            refine hK.out _ _ ⟨cz_ BK288.out 0, cz_ BK288.out 1, cz_ BK288.out 2, cz_ BK288.out 3, cz_ BK288.out 4, cz_ BK288.out 5, HS6_⟩ (fun hHeld => ?_)
            clear hK K
            refine nD_ 45 ?_
            refine pS_ 10 46 HT_ ?_
            refine pS_ 11 9 HT_ ?_
            refine done_ (done_of HT_.out (by kernel_rfl)) ?_
            try go_wp2
            have n0_ := am_ (Kd.N_drew HO_11.out)
            have n1_ := am_ (Kd.N_drew HO_30.out)
            have n2_ := am_ (Kd.R_drew HO_276000.out)
            have n3_ := am_ (Kd.R_drew HO_276001.out)
            have n4_ := am_ (VO_drew HL287_0.out)
            have n5_ := am_ (blk_drew BK269.out)
            have n6_ := am_ (blk_drew BK275.out)
            have n7_ := am_ (blk_drew BK288.out)
            have n8_ := am_ (below_drew1 HB.out)
            replace HO_11 := n0_
            replace HO_30 := n1_
            replace HO_276000 := n2_
            replace HO_276001 := n3_
            replace HL287_0 := n4_
            replace BK269 := n5_
            replace BK275 := n6_
            replace BK288 := n7_
            replace HB := n8_
            clear n0_ n1_ n2_ n3_ n4_ n5_ n6_ n7_ n8_
            have p291 : 0 ≤ (((rd_G x8_2 x32_3).f1) : Int) := od_
            have q291 : ((rd_G x8_2 x32_3).f1) < (((rd_G x8_2 x32_3).f0).length : Int) := od_
            obtain ⟨ad291, e291, hx291_0⟩ := Kd.at_int ((VO_reads' HL287_0.out).2.2) ((rd_G x8_2 x32_3).f1) p291 q291
            obtain rfl : ad289 = ad291 := (by injection e291)
            replace p291 := eq_true p291
            replace q291 := eq_true q291
            refine start_ (n := 12) (S := fun w' => w'.cell? ⟨gb288, 0, none⟩ = some (.slice (some ad289) ((rd_G x8_2 x32_3).f0).length c287_0) ∧ w'.cell? ⟨gb288, 1, none⟩ = some (.int .i64 ((rd_G x8_2 x32_3).f1)) ∧ w'.cell? ⟨gb288, 2, none⟩ = some (.bool ((rd_G x8_2 x32_3).f2)) ∧ w'.cell? ⟨gb288, 3, none⟩ = some (.int .i64 ((rd_G x8_2 x32_3).f3)) ∧ w'.cell? ⟨gb288, 4, none⟩ = some (.int .i64 ((rd_G x8_2 x32_3).f4)) ∧ w'.cell? ⟨gb288, 5, none⟩ = some (.int .i64 ((rd_G x8_2 x32_3).f5)) ∧ w'.cell? (ad289.add (((rd_G x8_2 x32_3).f1)).toNat) = some (.int .i64 (rd ((rd_G x8_2 x32_3).f0) ((rd_G x8_2 x32_3).f1)))) (ds := []) (Array.replicate 12 false) (by kernel_rfl) rfl rfl ⟨cz_ BK288.out 0, cz_ BK288.out 1, cz_ BK288.out 2, cz_ BK288.out 3, cz_ BK288.out 4, cz_ BK288.out 5, hx291_0⟩ (fun hHeld => ?_); refine with_tabW impl_MixVoices.tab11 impl_MixVoices.bits11 (fun HT_ HW_ => ?_)
            generalize w104.drew = w105 at HO_11 HO_30 HO_276000 HO_276001 HL287_0 BK269 BK275 BK288 HB hx291_0 hHeld ⊢
            refine pS_ 0 47 HT_ ?_
            refine pS_ 1 48 HT_ ?_
            refine pS_ 3 50 HT_ ?_
            refine pS_ 7 54 HT_ ?_
            refine tS_ 2 49 HT_ HW_ hHeld ?_
            refine tS_ 4 51 HT_ HW_ hHeld ?_
            refine pS_ 5 52 HT_ ?_
            refine tS_ 6 53 HT_ HW_ hHeld ?_
            refine tS_ 8 55 HT_ HW_ hHeld ?_
            refine oS_ 9 56 HT_ (fun K hK => ?_)
            refine goes_ Try.func37 (by kernel_rfl) rfl #[.int .i64 (rd ((rd_G x8_2 x32_3).f0) ((rd_G x8_2 x32_3).f1)), .int .i64 ((rd_G x8_2 x32_3).f4)] (by rfl) rfl rfl (by (try simp only [List.map_toArray, List.map_cons, List.map_nil]); first | done | rfl | (simp only [List.length_drop, List.length_take]; rfl)) ?_
            with_reducible refine (impl_FixMul.calls (rd ((rd_G x8_2 x32_3).f0) ((rd_G x8_2 x32_3).f1)) ((rd_G x8_2 x32_3).f4) t292 _ A27.out).mono ?_
            rintro e w106 ⟨rfl, hb⟩
            have HS6_ := (hb.cell (World.block_lt_of_cell? _ _ (hHeld.2.2.2.2.2.2))).trans (hHeld.2.2.2.2.2.2)
            refine ⟨_, rfl, ?_⟩
            have n0_ := am_ (Kd.N_below (by (with_reducible repeat (first | apply Kd.N_alloc | apply Kd.N_drewN | apply Kd.N_drew)); exact HO_11.out) hb)
            have n1_ := am_ (Kd.N_below (by (with_reducible repeat (first | apply Kd.N_alloc | apply Kd.N_drewN | apply Kd.N_drew)); exact HO_30.out) hb)
            have n2_ := am_ (Kd.R_below (ra_ HO_276000.out) hb)
            have n3_ := am_ (Kd.R_below (ra_ HO_276001.out) hb)
            have n4_ := am_ (VO_below (by (with_reducible repeat (first | apply VO_alloc | apply VO_drewN | apply VO_drew)); exact HL287_0.out) hb)
            have n5_ := am_ (blk_below (bk_ BK269.out) hb)
            have n6_ := am_ (blk_below (bk_ BK275.out) hb)
            have n7_ := am_ (blk_below (bk_ BK288.out) hb)
            have n8_ := am_ (below_step (bw_ HB.out) hb)
            replace HO_11 := n0_
            replace HO_30 := n1_
            replace HO_276000 := n2_
            replace HO_276001 := n3_
            replace HL287_0 := n4_
            replace BK269 := n5_
            replace BK275 := n6_
            replace BK288 := n7_
            replace HB := n8_
            clear n0_ n1_ n2_ n3_ n4_ n5_ n6_ n7_ n8_
            (try clear hb)
            (try clear hb2)
            (try clear hk)
            (try clear hi)
            refine hK.out _ _ ⟨cz_ BK288.out 0, cz_ BK288.out 1, cz_ BK288.out 2, cz_ BK288.out 3, cz_ BK288.out 4, cz_ BK288.out 5, HS6_⟩ (fun hHeld => ?_)
            clear hK K
            refine nD_ 56 ?_
            refine pS_ 10 57 HT_ ?_
            refine pS_ 11 10 HT_ ?_
            refine done_ (done_of HT_.out (by kernel_rfl)) ?_
            have hcz107_0 := cz_ BK288.out 0
            have hcz107_1 := cz_ BK288.out 1
            have hcz107_2 := cz_ BK288.out 2
            have hcz107_3 := cz_ BK288.out 3
            have hcz107_4 := cz_ BK288.out 4
            have hcz107_5 := cz_ BK288.out 5
            have hfz107_0 := blk_frozen BK288.out 0
            have hfz107_1 := blk_frozen BK288.out 1
            have hfz107_2 := blk_frozen BK288.out 2
            have hfz107_3 := blk_frozen BK288.out 3
            have hfz107_4 := blk_frozen BK288.out 4
            have hfz107_5 := blk_frozen BK288.out 5
            try go_wp2
            go_roundg k3
            case measure => have := HJ2.out; have := HK2.out; have := HK3.out; omega
            case rel => exact ⟨(wrap64 (x9_3 + t290)), (wrap64 (x10_3 + t292)), (x11_3), (wrap64 (x32_3 + 1)), sq_, sq_, sq_, H', ⟨by have := HJ2.out; have := HK2.out; have := HK3.out; omega⟩, ⟨by (with_reducible repeat (first | apply Kd.N_alloc | apply Kd.N_drewN | apply Kd.N_drew)); exact Kd.N_mono (Kd.N_far (p := ⟨gb288, 1, none⟩) (Kd.N_mono HO_11.out (fun k_ hk => (⟨hk, hk.2.2.2.2.2.2⟩ : _ ∧ k_ ≠ gb288))) (fun _ hk => hk.2) (.int .i64 (wrap64 (((rd_G x8_2 x32_3).f1) + 1)))) (fun _ hk => ⟨hk.1.1, ⟨hk.1.2.1, ⟨hk.1.2.2.1, ⟨hk.1.2.2.2.1, ⟨hk.1.2.2.2.2.1, hk.1.2.2.2.2.2.1⟩⟩⟩⟩⟩)⟩, ⟨by (with_reducible repeat (first | apply Kd.N_alloc | apply Kd.N_drewN | apply Kd.N_drew)); exact Kd.N_mono (Kd.N_far (p := ⟨gb288, 1, none⟩) (Kd.N_mono HO_30.out (fun k_ hk => (⟨hk, hk.2.2.2.2.2.2⟩ : _ ∧ k_ ≠ gb288))) (fun _ hk => hk.2) (.int .i64 (wrap64 (((rd_G x8_2 x32_3).f1) + 1)))) (fun _ hk => ⟨hk.1.1, ⟨hk.1.2.1, ⟨hk.1.2.2.1, ⟨hk.1.2.2.2.1, ⟨hk.1.2.2.2.2.1, hk.1.2.2.2.2.2.1⟩⟩⟩⟩⟩)⟩, ⟨ra_ (Kd.R_mono (Kd.R_far (p := ⟨gb288, 1, none⟩) (Kd.R_types HO_276000.out BK288.out (by decide)) (fun _ hk => hk.2) (.int .i64 (wrap64 (((rd_G x8_2 x32_3).f1) + 1)))) (fun _ hk => ⟨hk.1.1, hk.1.2⟩))⟩, ⟨ra_ (Kd.R_mono (Kd.R_far (p := ⟨gb288, 1, none⟩) (Kd.R_types HO_276001.out BK288.out (by decide)) (fun _ hk => hk.2) (.int .i64 (wrap64 (((rd_G x8_2 x32_3).f1) + 1)))) (fun _ hk => ⟨hk.1.1, hk.1.2⟩))⟩, ⟨by (with_reducible repeat (first | refine blk_drewN ?_ _ | refine blk_drew ?_ | refine blk_alloc ?_ _)); refine blk_far ?_ NB269_288.out _; (with_reducible repeat (first | refine blk_drewN ?_ _ | refine blk_drew ?_ | refine blk_alloc ?_ _)); exact BK269.out⟩, ⟨by (with_reducible repeat (first | refine blk_drewN ?_ _ | refine blk_drew ?_ | refine blk_alloc ?_ _)); refine blk_far ?_ NB275_288.out _; (with_reducible repeat (first | refine blk_drewN ?_ _ | refine blk_drew ?_ | refine blk_alloc ?_ _)); exact BK275.out⟩, ⟨bw_ HB.out⟩⟩
         ·as_aux_lemma =>
          rw [if_neg c21] at H
          have c21b0 : decide (x32_3 < (x8_2.length : Int)) = false := decide_eq_false c21
          clear c21
          obtain ⟨t279, A1080, H⟩ := bE_ H
          have A108 := am_ A1080
          clear A1080
          obtain ⟨c109, H⟩ := ifn_ H
          have LMc109 := am_ c109
          clear c109
          obtain ⟨y280, hy280⟩ : ∃ y_ : List Int, y_ = (x276000_2 ++ [t279]) := ⟨_, rfl⟩
          replace H : ((impl_clamp.f x10_3 (-32767) 32767).bind fun t283 => (if x276001_2.length < 17592186044416 then (impl_MixVoices.l0 k3 x11_3 a1 (wrap64 (x27_2 + 1)) y280 (x276001_2 ++ [t283])) else (none))) = some (r1, r2, r3, r4) := by first | (rw [hy280]; with_reducible exact H) | (have H2_ := (Option.bind_some _ _).symm.trans H; rw [hy280]; with_reducible exact H2_) | (have H2_ := (Option.bind_some _ _).symm.trans H; with_reducible exact H2_) | with_reducible exact H | (rw [hy280]; exact H) | exact H
          have Ny280 := am_ hy280
          clear hy280
          obtain ⟨t283, A1100, H⟩ := bE_ H
          have A110 := am_ A1100
          clear A1100
          obtain ⟨c111, H⟩ := ifn_ H
          have LMc111 := am_ c111
          clear c111
          obtain ⟨y284, hy284⟩ : ∃ y_ : List Int, y_ = (x276001_2 ++ [t283]) := ⟨_, rfl⟩
          replace H : (impl_MixVoices.l0 k3 x11_3 a1 (wrap64 (x27_2 + 1)) y280 y284) = some (r1, r2, r3, r4) := by first | (rw [hy284]; with_reducible exact H) | (have H2_ := (Option.bind_some _ _).symm.trans H; rw [hy284]; with_reducible exact H2_) | (have H2_ := (Option.bind_some _ _).symm.trans H; with_reducible exact H2_) | with_reducible exact H | (rw [hy284]; exact H) | exact H
          have Ny284 := am_ hy284
          clear hy284
          have H' := am_ H
          clear H
          try go_wp2
          have n0_ := am_ (Kd.N_drew HO_11.out)
          have n1_ := am_ (Kd.N_drew HO_30.out)
          have n2_ := am_ (Kd.R_drew HO_276000.out)
          have n3_ := am_ (Kd.R_drew HO_276001.out)
          have n4_ := am_ (blk_drew BK269.out)
          have n5_ := am_ (blk_drew BK275.out)
          have n6_ := am_ (below_drew1 HB.out)
          replace HO_11 := n0_
          replace HO_30 := n1_
          replace HO_276000 := n2_
          replace HO_276001 := n3_
          replace BK269 := n4_
          replace BK275 := n5_
          replace HB := n6_
          clear n0_ n1_ n2_ n3_ n4_ n5_ n6_
          refine start_ (n := 8) (S := fun w' => w'.cell? ⟨gb275, 0, none⟩ = some (u276000) ∧ w'.cell? ⟨gb275, 1, none⟩ = some (u276001)) (ds := [7]) (Array.replicate 8 false) (by kernel_rfl) rfl rfl ⟨cz_ BK275.out 0, cz_ BK275.out 1⟩ (fun hHeld => ?_); refine with_tabW impl_MixVoices.tab19 impl_MixVoices.bits19 (fun HT_ HW_ => ?_)
          generalize wr.drew = w112 at HO_11 HO_30 HO_276000 HO_276001 BK269 BK275 HB hHeld ⊢
          refine pS_ 0 85 HT_ ?_
          refine pS_ 2 87 HT_ ?_
          refine tS_ 1 86 HT_ HW_ hHeld ?_
          refine oS_ 3 88 HT_ (fun K hK => ?_)
          refine goes_ Try.func38 (by kernel_rfl) rfl #[.int .i64 x9_3, .int .i64 (-32767), .int .i64 32767] (by rfl) rfl rfl (by (try simp only [List.map_toArray, List.map_cons, List.map_nil]); first | done | rfl | (simp only [List.length_drop, List.length_take]; rfl)) ?_
          with_reducible refine (impl_clamp.calls x9_3 (-32767) 32767 t279 _ A108.out).mono ?_
          rintro e w113 ⟨rfl, hb⟩
          refine ⟨_, rfl, ?_⟩
          have n0_ := am_ (Kd.N_below (by (with_reducible repeat (first | apply Kd.N_alloc | apply Kd.N_drewN | apply Kd.N_drew)); exact HO_11.out) hb)
          have n1_ := am_ (Kd.N_below (by (with_reducible repeat (first | apply Kd.N_alloc | apply Kd.N_drewN | apply Kd.N_drew)); exact HO_30.out) hb)
          have n2_ := am_ (Kd.R_below (ra_ HO_276000.out) hb)
          have n3_ := am_ (Kd.R_below (ra_ HO_276001.out) hb)
          have n4_ := am_ (blk_below (bk_ BK269.out) hb)
          have n5_ := am_ (blk_below (bk_ BK275.out) hb)
          have n6_ := am_ (below_step (bw_ HB.out) hb)
          replace HO_11 := n0_
          replace HO_30 := n1_
          replace HO_276000 := n2_
          replace HO_276001 := n3_
          replace BK269 := n4_
          replace BK275 := n5_
          replace HB := n6_
          clear n0_ n1_ n2_ n3_ n4_ n5_ n6_
          (try clear hb)
          (try clear hb2)
          (try clear hk)
          (try clear hi)
          refine hK.out _ _ ⟨cz_ BK275.out 0, cz_ BK275.out 1⟩ (fun hHeld => ?_)
          clear hK K
          refine nD_ 88 ?_
          refine oS_ 4 89 HT_ (fun K hK => ?_)
          refine value_ (w1 := ?_) (v := ?_) (by rfl) rfl ?_ ?_
          rotate_left 2
          ·go_simp
           constructor
           ·rfl
           ·rfl
          refine hK.out _ _ ⟨(blk_cell (blk_alloc BK275.out _) 0).trans rfl, (blk_cell (blk_alloc BK275.out _) 1).trans rfl⟩ (fun hHeld => ?_)
          clear hK K
          refine nD_ 89 ?_
          refine oS_ 5 90 HT_ (fun K hK => ?_)
          refine Kd.R_append_step (Kd.int .i64) (w0 := w) w.heap.size (by rfl) (.tmp 86) (.tmp 89) 23 3 (.int .i64 0) 8 rfl Try.underlying23 info3 rfl (by decide) (by omega) u276000 x276000_2 t279 [.int .i64 t279] (fun k_ => (w.heap.size ≤ k_) ∧ nb k_ u276001) (fun _ => False) rfl rfl ?aP (fun _ hk => hk.elim) ?aF ?aO ?aB ?aS ?aL ?_
          (case aP => exact rfl)
          (case aB => exact (bw_ HB.out))
          (case aF => exact (fun k_ hk => ⟨(Nat.le_trans (below_size (bw_ HB.out)) hk), Kd.fresh' (Kd.R_lt (ra_ HO_276001.out)) k_ hk⟩))
          (case aO => exact (ra_ HO_276000.out))
          (case aS => exact (below_size (bw_ HB.out)))
          (case aL => have := LMc109.out; omega)
          intro v281 w114 ho hb hg hat
          rw [← Ny280.out] at ho
          have n0_ := am_ (Kd.N_afterv (ok := (fun k_ => (w.heap.size ≤ k_) ∧ nb k_ (.slice Ao20 x8_2.length co20) ∧ nb k_ u276001 ∧ k_ ≠ gb269 ∧ k_ ≠ gb275)) (by (with_reducible repeat (first | apply Kd.N_alloc | apply Kd.N_drewN | apply Kd.N_drew)); exact Kd.N_mono HO_11.out (fun _ hk => ⟨⟨hk.1, ⟨hk.2.1, ⟨hk.2.2.2.1, ⟨hk.2.2.2.2.1, hk.2.2.2.2.2⟩⟩⟩⟩, hk.2.2.1⟩)) hg hat)
          have n1_ := am_ (Kd.N_afterv (ok := (fun k_ => (w.heap.size ≤ k_) ∧ nb k_ u11 ∧ nb k_ u276001 ∧ k_ ≠ gb269 ∧ k_ ≠ gb275)) (by (with_reducible repeat (first | apply Kd.N_alloc | apply Kd.N_drewN | apply Kd.N_drew)); exact Kd.N_mono HO_30.out (fun _ hk => ⟨⟨hk.1, ⟨hk.2.1, ⟨hk.2.2.2.1, ⟨hk.2.2.2.2.1, hk.2.2.2.2.2⟩⟩⟩⟩, hk.2.2.1⟩)) hg hat)
          have n2_ := am_ (Kd.R_after (ok := (fun k_ => (w.heap.size ≤ k_))) (ra_ HO_276001.out) hg hat)
          have n3_ := am_ (blk_grown (bk_ BK269.out) hg (Kd.R_ne HO_276000.out BK269.out (by decide)))
          have n4_ := am_ (blk_grown (bk_ BK275.out) hg (Kd.R_ne HO_276000.out BK275.out (by decide)))
          have n5_ := am_ (hb)
          have n6_ := am_ (ho)
          clear HO_276000
          replace HO_11 := n0_
          replace HO_30 := n1_
          replace HO_276001 := n2_
          replace BK269 := n3_
          replace BK275 := n4_
          replace HB := n5_
          have HO282 := n6_
          clear n0_ n1_ n2_ n3_ n4_ n5_ n6_
          clear ho hb hg hat
          obtain ⟨Ao115, co115, eo115⟩ := Kd.R_slice HO282.out
          (first | subst eo115 | (injection eo115 with f1_ f2_ f3_; have f4_ := f1_.symm; have f5_ := f3_.symm; clear f1_ f2_ f3_; subst f4_; subst f5_))
          refine hK.out _ _ ⟨cz_ BK275.out 0, cz_ BK275.out 1⟩ (fun hHeld => ?_)
          clear hK K
          refine nD_ 90 ?_
          refine pS_ 6 91 HT_ ?_
          refine last_ (i := 7) (N := none) #[true, true, true, true, true, true, true, true] rfl rfl (one_of HT_.out (by kernel_rfl)) (by decide) (fun K hK => ?_)
          have hs116 : w114.cell? ⟨gb275, 0, none⟩ = some (u276000) := cz_ BK275.out 0
          have hfs116 := blk_frozen BK275.out 0
          have hns116_0 := NB269_275.out
          have hms116_0 := NB275_269.out
          refine skip_ (w1 := ?_) (by rfl) rfl ?_ ?_
          rotate_left
          ·go_simp
           rfl
          refine hK.out _ _ ?_
          clear hK K
          refine done_ (done_of HT_.out (by kernel_rfl)) ?_
          try go_wp2
          have n0_ : Aside0 (Kd.N (kg ph_ w.heap.size) 32 (w114.setCell ⟨gb275, 0, none⟩ (.slice Ao115 y280.length co115)) w.heap.size (fun k_ => (w.heap.size ≤ k_) ∧ nb k_ (.slice Ao20 x8_2.length co20) ∧ nb k_ u276001 ∧ nb k_ (.slice Ao115 y280.length co115) ∧ k_ ≠ gb269 ∧ k_ ≠ gb275) u11 x11_3) := ⟨by (with_reducible repeat (first | apply Kd.N_alloc | apply Kd.N_drewN | apply Kd.N_drew)); exact Kd.N_mono (Kd.N_far (p := ⟨gb275, 0, none⟩) (Kd.N_mono HO_11.out (fun k_ hk => (⟨hk, hk.1.2.2.2.2⟩ : _ ∧ k_ ≠ gb275))) (fun _ hk => hk.2) (.slice Ao115 y280.length co115)) (fun _ hk => ⟨hk.1.1.1, ⟨hk.1.1.2.1, ⟨hk.1.1.2.2.1, ⟨hk.1.2, ⟨hk.1.1.2.2.2.1, hk.1.1.2.2.2.2⟩⟩⟩⟩⟩)⟩
          have n1_ : Aside0 (Kd.N (kg ph_ w.heap.size) 32 (w114.setCell ⟨gb275, 0, none⟩ (.slice Ao115 y280.length co115)) w.heap.size (fun k_ => (w.heap.size ≤ k_) ∧ nb k_ u11 ∧ nb k_ u276001 ∧ nb k_ (.slice Ao115 y280.length co115) ∧ k_ ≠ gb269 ∧ k_ ≠ gb275) (.slice Ao20 x8_2.length co20) x8_2) := ⟨by (with_reducible repeat (first | apply Kd.N_alloc | apply Kd.N_drewN | apply Kd.N_drew)); exact Kd.N_mono (Kd.N_far (p := ⟨gb275, 0, none⟩) (Kd.N_mono HO_30.out (fun k_ hk => (⟨hk, hk.1.2.2.2.2⟩ : _ ∧ k_ ≠ gb275))) (fun _ hk => hk.2) (.slice Ao115 y280.length co115)) (fun _ hk => ⟨hk.1.1.1, ⟨hk.1.1.2.1, ⟨hk.1.1.2.2.1, ⟨hk.1.2, ⟨hk.1.1.2.2.2.1, hk.1.1.2.2.2.2⟩⟩⟩⟩⟩)⟩
          have n2_ : Aside0 (Kd.R (Kd.int .i64) 3 (w114.setCell ⟨gb275, 0, none⟩ (.slice Ao115 y280.length co115)) w.heap.size (fun k_ => (w.heap.size ≤ k_) ∧ nb k_ (.slice Ao115 y280.length co115)) u276001 x276001_2) := ⟨ra_ (Kd.R_mono (Kd.R_far (p := ⟨gb275, 0, none⟩) (Kd.R_types HO_276001.out BK275.out (by decide)) (fun _ hk => hk.2) (.slice Ao115 y280.length co115)) (fun _ hk => ⟨hk.1.1, hk.1.2⟩))⟩
          have n3_ : Aside0 (Kd.R (Kd.int .i64) 3 (w114.setCell ⟨gb275, 0, none⟩ (.slice Ao115 y280.length co115)) w.heap.size (fun k_ => (w.heap.size ≤ k_) ∧ nb k_ u276001) (.slice Ao115 y280.length co115) y280) := ⟨ra_ (Kd.R_mono (Kd.R_far (p := ⟨gb275, 0, none⟩) (Kd.R_types HO282.out BK275.out (by decide)) (fun _ hk => hk.2) (.slice Ao115 y280.length co115)) (fun _ hk => ⟨hk.1.1, hk.1.2⟩))⟩
          have n4_ : Aside0 ((w114.setCell ⟨gb275, 0, none⟩ (.slice Ao115 y280.length co115)).heap[gb269]? = some (.cells #[.slice none 0 0, .slice none 0 0] 40 (0, 0))) := ⟨by (with_reducible repeat (first | refine blk_drewN ?_ _ | refine blk_drew ?_ | refine blk_alloc ?_ _)); refine blk_far ?_ NB269_275.out _; (with_reducible repeat (first | refine blk_drewN ?_ _ | refine blk_drew ?_ | refine blk_alloc ?_ _)); exact BK269.out⟩
          have n5_ : Aside0 ((w114.setCell ⟨gb275, 0, none⟩ (.slice Ao115 y280.length co115)).heap[gb275]? = some (.cells #[.slice Ao115 y280.length co115, u276001] 40 (0, 0))) := ⟨by (with_reducible repeat (first | refine blk_drewN ?_ _ | refine blk_drew ?_ | refine blk_alloc ?_ _)); refine blk_put (cs := #[u276000, u276001]) ?_ 0 _ rfl; (with_reducible repeat (first | refine blk_drewN ?_ _ | refine blk_drew ?_ | refine blk_alloc ?_ _)); exact BK275.out⟩
          have n6_ : Aside0 (Below w.heap.size w (w114.setCell ⟨gb275, 0, none⟩ (.slice Ao115 y280.length co115))) := ⟨bw_ HB.out⟩
          (try clear HO_11)
          (try clear HO_30)
          (try clear HO_276001)
          (try clear HO282)
          (try clear BK269)
          (try clear BK275)
          (try clear HB)
          generalize (w114.setCell ⟨gb275, 0, none⟩ (.slice Ao115 y280.length co115)) = w117 at n0_ n1_ n2_ n3_ n4_ n5_ n6_ ⊢
          have HO_11 := n0_
          have HO_30 := n1_
          have HO_276001 := n2_
          have HO282 := n3_
          have BK269 := n4_
          have BK275 := n5_
          have HB := n6_
          clear n0_ n1_ n2_ n3_ n4_ n5_ n6_
          have n0_ := am_ (Kd.N_drew HO_11.out)
          have n1_ := am_ (Kd.N_drew HO_30.out)
          have n2_ := am_ (Kd.R_drew HO_276001.out)
          have n3_ := am_ (Kd.R_drew HO282.out)
          have n4_ := am_ (blk_drew BK269.out)
          have n5_ := am_ (blk_drew BK275.out)
          have n6_ := am_ (below_drew1 HB.out)
          replace HO_11 := n0_
          replace HO_30 := n1_
          replace HO_276001 := n2_
          replace HO282 := n3_
          replace BK269 := n4_
          replace BK275 := n5_
          replace HB := n6_
          clear n0_ n1_ n2_ n3_ n4_ n5_ n6_
          refine start_ (n := 8) (S := fun w' => w'.cell? ⟨gb275, 0, none⟩ = some (.slice Ao115 y280.length co115) ∧ w'.cell? ⟨gb275, 1, none⟩ = some (u276001)) (ds := [7]) (Array.replicate 8 false) (by kernel_rfl) rfl rfl ⟨cz_ BK275.out 0, cz_ BK275.out 1⟩ (fun hHeld => ?_); refine with_tabW impl_MixVoices.tab20 impl_MixVoices.bits20 (fun HT_ HW_ => ?_)
          generalize w117.drew = w118 at HO_11 HO_30 HO_276001 HO282 BK269 BK275 HB hHeld ⊢
          refine pS_ 0 92 HT_ ?_
          refine pS_ 2 94 HT_ ?_
          refine tS_ 1 93 HT_ HW_ hHeld ?_
          refine oS_ 3 95 HT_ (fun K hK => ?_)
          refine goes_ Try.func38 (by kernel_rfl) rfl #[.int .i64 x10_3, .int .i64 (-32767), .int .i64 32767] (by rfl) rfl rfl (by (try simp only [List.map_toArray, List.map_cons, List.map_nil]); first | done | rfl | (simp only [List.length_drop, List.length_take]; rfl)) ?_
          with_reducible refine (impl_clamp.calls x10_3 (-32767) 32767 t283 _ A110.out).mono ?_
          rintro e w119 ⟨rfl, hb⟩
          refine ⟨_, rfl, ?_⟩
          have n0_ := am_ (Kd.N_below (by (with_reducible repeat (first | apply Kd.N_alloc | apply Kd.N_drewN | apply Kd.N_drew)); exact HO_11.out) hb)
          have n1_ := am_ (Kd.N_below (by (with_reducible repeat (first | apply Kd.N_alloc | apply Kd.N_drewN | apply Kd.N_drew)); exact HO_30.out) hb)
          have n2_ := am_ (Kd.R_below (ra_ HO_276001.out) hb)
          have n3_ := am_ (Kd.R_below (ra_ HO282.out) hb)
          have n4_ := am_ (blk_below (bk_ BK269.out) hb)
          have n5_ := am_ (blk_below (bk_ BK275.out) hb)
          have n6_ := am_ (below_step (bw_ HB.out) hb)
          replace HO_11 := n0_
          replace HO_30 := n1_
          replace HO_276001 := n2_
          replace HO282 := n3_
          replace BK269 := n4_
          replace BK275 := n5_
          replace HB := n6_
          clear n0_ n1_ n2_ n3_ n4_ n5_ n6_
          (try clear hb)
          (try clear hb2)
          (try clear hk)
          (try clear hi)
          refine hK.out _ _ ⟨cz_ BK275.out 0, cz_ BK275.out 1⟩ (fun hHeld => ?_)
          clear hK K
          refine nD_ 95 ?_
          refine oS_ 4 96 HT_ (fun K hK => ?_)
          refine value_ (w1 := ?_) (v := ?_) (by rfl) rfl ?_ ?_
          rotate_left 2
          ·go_simp
           constructor
           ·rfl
           ·rfl
          refine hK.out _ _ ⟨(blk_cell (blk_alloc BK275.out _) 0).trans rfl, (blk_cell (blk_alloc BK275.out _) 1).trans rfl⟩ (fun hHeld => ?_)
          clear hK K
          refine nD_ 96 ?_
          refine oS_ 5 97 HT_ (fun K hK => ?_)
          refine Kd.R_append_step (Kd.int .i64) (w0 := w) w.heap.size (by rfl) (.tmp 93) (.tmp 96) 23 3 (.int .i64 0) 8 rfl Try.underlying23 info3 rfl (by decide) (by omega) u276001 x276001_2 t283 [.int .i64 t283] (fun k_ => (w.heap.size ≤ k_) ∧ nb k_ (.slice Ao115 y280.length co115)) (fun _ => False) rfl rfl ?aP (fun _ hk => hk.elim) ?aF ?aO ?aB ?aS ?aL ?_
          (case aP => exact rfl)
          (case aB => exact (bw_ HB.out))
          (case aF => exact (fun k_ hk => ⟨(Nat.le_trans (below_size (bw_ HB.out)) hk), Kd.fresh' (Kd.R_lt (ra_ HO282.out)) k_ hk⟩))
          (case aO => exact (ra_ HO_276001.out))
          (case aS => exact (below_size (bw_ HB.out)))
          (case aL => have := LMc111.out; omega)
          intro v285 w120 ho hb hg hat
          rw [← Ny284.out] at ho
          have n0_ := am_ (Kd.N_afterv (ok := (fun k_ => (w.heap.size ≤ k_) ∧ nb k_ (.slice Ao20 x8_2.length co20) ∧ nb k_ (.slice Ao115 y280.length co115) ∧ k_ ≠ gb269 ∧ k_ ≠ gb275)) (by (with_reducible repeat (first | apply Kd.N_alloc | apply Kd.N_drewN | apply Kd.N_drew)); exact Kd.N_mono HO_11.out (fun _ hk => ⟨⟨hk.1, ⟨hk.2.1, ⟨hk.2.2.2.1, ⟨hk.2.2.2.2.1, hk.2.2.2.2.2⟩⟩⟩⟩, hk.2.2.1⟩)) hg hat)
          have n1_ := am_ (Kd.N_afterv (ok := (fun k_ => (w.heap.size ≤ k_) ∧ nb k_ u11 ∧ nb k_ (.slice Ao115 y280.length co115) ∧ k_ ≠ gb269 ∧ k_ ≠ gb275)) (by (with_reducible repeat (first | apply Kd.N_alloc | apply Kd.N_drewN | apply Kd.N_drew)); exact Kd.N_mono HO_30.out (fun _ hk => ⟨⟨hk.1, ⟨hk.2.1, ⟨hk.2.2.2.1, ⟨hk.2.2.2.2.1, hk.2.2.2.2.2⟩⟩⟩⟩, hk.2.2.1⟩)) hg hat)
          have n2_ := am_ (blk_grown (bk_ BK269.out) hg (Kd.R_ne HO_276001.out BK269.out (by decide)))
          have n3_ := am_ (blk_grown (bk_ BK275.out) hg (Kd.R_ne HO_276001.out BK275.out (by decide)))
          have n4_ := am_ (Kd.R_after (ok := (fun k_ => (w.heap.size ≤ k_))) (ra_ HO282.out) hg hat)
          have n5_ := am_ (hb)
          have n6_ := am_ (ho)
          clear HO_276001
          replace HO_11 := n0_
          replace HO_30 := n1_
          replace BK269 := n2_
          replace BK275 := n3_
          replace HO282 := n4_
          replace HB := n5_
          have HO286 := n6_
          clear n0_ n1_ n2_ n3_ n4_ n5_ n6_
          clear ho hb hg hat
          obtain ⟨Ao121, co121, eo121⟩ := Kd.R_slice HO286.out
          (first | subst eo121 | (injection eo121 with f1_ f2_ f3_; have f4_ := f1_.symm; have f5_ := f3_.symm; clear f1_ f2_ f3_; subst f4_; subst f5_))
          refine hK.out _ _ ⟨cz_ BK275.out 0, cz_ BK275.out 1⟩ (fun hHeld => ?_)
          clear hK K
          refine nD_ 97 ?_
          refine pS_ 6 98 HT_ ?_
          refine last_ (i := 7) (N := none) #[true, true, true, true, true, true, true, true] rfl rfl (one_of HT_.out (by kernel_rfl)) (by decide) (fun K hK => ?_)
          have hs122 : w120.cell? ⟨gb275, 1, none⟩ = some (u276001) := cz_ BK275.out 1
          have hfs122 := blk_frozen BK275.out 1
          have hns122_0 := NB269_275.out
          have hms122_0 := NB275_269.out
          refine skip_ (w1 := ?_) (by rfl) rfl ?_ ?_
          rotate_left
          ·go_simp
           rfl
          refine hK.out _ _ ?_
          clear hK K
          refine done_ (done_of HT_.out (by kernel_rfl)) ?_
          try go_wp2
          go_roundg k3
          case measure => have := HJ2.out; have := HK2.out; have := HK3.out; omega
          case rel => exact ⟨(x11_3), (wrap64 (x27_2 + 1)), (y280), (y284), (.slice Ao115 y280.length co115), (.slice Ao121 y284.length co121), sq_, H', ⟨by have := HJ2.out; have := HK2.out; have := HK3.out; omega⟩, ⟨by (with_reducible repeat (first | apply Kd.N_alloc | apply Kd.N_drewN | apply Kd.N_drew)); exact Kd.N_mono (Kd.N_far (p := ⟨gb275, 1, none⟩) (Kd.N_mono HO_11.out (fun k_ hk => (⟨hk, hk.1.2.2.2.2⟩ : _ ∧ k_ ≠ gb275))) (fun _ hk => hk.2) (.slice Ao121 y284.length co121)) (fun _ hk => ⟨hk.1.1.1, ⟨hk.1.1.2.2.1, ⟨hk.1.2, ⟨hk.1.1.2.2.2.1, hk.1.1.2.2.2.2⟩⟩⟩⟩)⟩, ⟨ra_ (Kd.R_mono (Kd.R_far (p := ⟨gb275, 1, none⟩) (Kd.R_types HO282.out BK275.out (by decide)) (fun _ hk => hk.2) (.slice Ao121 y284.length co121)) (fun _ hk => ⟨hk.1.1, hk.1.2⟩))⟩, ⟨ra_ (Kd.R_mono (Kd.R_far (p := ⟨gb275, 1, none⟩) (Kd.R_types HO286.out BK275.out (by decide)) (fun _ hk => hk.2) (.slice Ao121 y284.length co121)) (fun _ hk => ⟨hk.1.1, hk.1.2⟩))⟩, ⟨by (with_reducible repeat (first | refine blk_drewN ?_ _ | refine blk_drew ?_ | refine blk_alloc ?_ _)); refine blk_far ?_ NB269_275.out _; (with_reducible repeat (first | refine blk_drewN ?_ _ | refine blk_drew ?_ | refine blk_alloc ?_ _)); exact BK269.out⟩, ⟨by (with_reducible repeat (first | refine blk_drewN ?_ _ | refine blk_drew ?_ | refine blk_alloc ?_ _)); refine blk_put (cs := #[.slice Ao115 y280.length co115, u276001]) ?_ 1 _ rfl; (with_reducible repeat (first | refine blk_drewN ?_ _ | refine blk_drew ?_ | refine blk_alloc ?_ _)); exact BK275.out⟩, ⟨bw_ HB.out⟩⟩
      ·as_aux_lemma =>
       rw [if_neg c17] at H
       have c17b0 : decide (x27_2 < a1) = false := decide_eq_false c17
       clear c17
       simp only [Option.some.injEq, Prod.mk.injEq] at H
       obtain ⟨rfl, rfl, rfl, rfl⟩ := H
       have hnb123 := NB275_269.out
       have hnc123 := NB269_275.out
       have hcz124_0 := cz_ BK275.out 0
       have hcz124_1 := cz_ BK275.out 1
       have hfz124_0 := blk_frozen BK275.out 0
       have hfz124_1 := blk_frozen BK275.out 1
       obtain ⟨Ao125, co125, eo125⟩ := Kd.R_slice HO_276000.out
       subst eo125
       have hcz126_0 := cz_ BK269.out 0
       have hcz126_1 := cz_ BK269.out 1
       have hfz126_0 := blk_frozen BK269.out 0
       have hfz126_1 := blk_frozen BK269.out 1
       obtain ⟨Ao127, co127, eo127⟩ := Kd.R_slice HO_276001.out
       subst eo127
       go_wp2
       refine bodyPost_ret (results_ctt rfl _ _ gb269 40 #[.slice Ao125 x276000_2.length co125, .slice Ao127 x276001_2.length co127] (0, 0) _ rfl (by (with_reducible repeat (first | refine blk_drewN ?_ _ | refine blk_drew ?_ | refine blk_alloc ?_ _)); refine blk_put (cs := #[.slice Ao125 x276000_2.length co125, .slice none 0 0]) ?_ 1 _ rfl; (with_reducible repeat (first | refine blk_drewN ?_ _ | refine blk_drew ?_ | refine blk_alloc ?_ _)); refine blk_put (cs := #[.slice none 0 0, .slice none 0 0]) ?_ 0 _ rfl; (with_reducible repeat (first | refine blk_drewN ?_ _ | refine blk_drew ?_ | refine blk_alloc ?_ _)); exact BK269.out) Try.underlying40 rfl (by kernel_rfl)) rfl ?_
       exact ⟨_, _, _, ph_, by first | rfl | (simp [errW_none, errW_some] <;> rfl) | (simp [*, errW_none, errW_some] <;> rfl), ra_ (Kd.R_mono (Kd.R_far (p := ⟨gb269, 1, none⟩) (Kd.R_far (p := ⟨gb269, 0, none⟩) (Kd.R_types HO_276000.out BK269.out (by decide)) (fun _ hk => hk.2) (.slice Ao125 x276000_2.length co125)) (fun _ hk => hk.2) (.slice Ao127 x276001_2.length co127)) (fun _ hk => ⟨hk.1.1, hk.1.2⟩)), ra_ (Kd.R_mono (Kd.R_far (p := ⟨gb269, 1, none⟩) (Kd.R_far (p := ⟨gb269, 0, none⟩) (Kd.R_types HO_276001.out BK269.out (by decide)) (fun _ hk => hk.2) (.slice Ao125 x276000_2.length co125)) (fun _ hk => hk.2) (.slice Ao127 x276001_2.length co127)) (fun _ hk => ⟨hk.1.1, hk.1.2⟩)), by (with_reducible repeat (first | apply Kd.N_alloc | apply Kd.N_drewN | apply Kd.N_drew)); exact Kd.N_mono (Kd.N_far (p := ⟨gb269, 1, none⟩) (Kd.N_far (p := ⟨gb269, 0, none⟩) (Kd.N_mono HO_8.out (fun k_ hk => (⟨hk, hk.2.2.2.1⟩ : _ ∧ k_ ≠ gb269))) (fun _ hk => hk.2) (.slice Ao125 x276000_2.length co125)) (fun _ hk => hk.2) (.slice Ao127 x276001_2.length co127)) (fun _ hk => ⟨hk.1.1, ⟨hk.1.2.1, hk.1.2.2.1⟩⟩), bw_ HB.out⟩

def impl_MixVoices.f (k : Nat) (l0 : List (S32)) (a1 : Int) : Option (List Int × List Int × (List (S32)) × Bool) := (impl_MixVoices.fg k l0 a1).bind fun r => if (r.2.2.1.map G32.g).Pairwise (· < ·) then some (r.1, r.2.1, r.2.2.1.map G32.s, r.2.2.2) else none
theorem impl_MixVoices.mono : ∀ a0 a1 k, LeO (impl_MixVoices.f k a0 a1) (impl_MixVoices.f (k + 1) a0 a1) := by
  intro a0 a1 k
  unfold impl_MixVoices.f
  exact LeO.bind (impl_MixVoices.monog _ _ _) (fun _ => LeO.refl _)
theorem impl_MixVoices.calls (k : Nat) (A0 : Option Addr) (c0 : Nat) (l0 : List (S32)) (a1 : Int) (r1 : List Int) (r2 : List Int) (r3 : List (S32)) (r4 : Bool) (w : World) (hr0 : Kd.C k32 w A0 l0.length l0) (hc0 : l0.length ≤ c0) (h : impl_MixVoices.f k l0 a1 = some (r1, r2, r3, r4)) :
  Calls Try.prog 17 #[.slice A0 l0.length c0, .int .i64 a1] w fun e w' => ∃ (v0_ v1_ v2_ : Value) (P0 P1 P2 : Nat → Prop), e = .returned (.tuple #[.agg #[v0_, v1_], v2_, .bool r4]) ∧ Kd.R (Kd.int .i64) 3 w' w.heap.size P0 v0_ r1 ∧ Kd.R (Kd.int .i64) 3 w' w.heap.size P1 v1_ r2 ∧ Kd.S k32 32 w' w.heap.size P2 v2_ r3 ∧ (∀ k, P0 k → P1 k → False) ∧ (∀ k, P0 k → P2 k → False) ∧ (∀ k, P1 k → P2 k → False) ∧ Below w.heap.size w w' := by
  unfold impl_MixVoices.f at h
  obtain ⟨⟨s1, s2, s3, s4⟩, hg, h2⟩ := Option.bind_eq_some_iff.mp h
  obtain ⟨hp, h3⟩ := nd_ h2
  simp only [Option.some.injEq, Prod.mk.injEq] at h3
  obtain ⟨rfl, rfl, rfl, rfl⟩ := h3
  refine (impl_MixVoices.callsg k A0 c0 l0 a1 s1 s2 s3 s4 w hr0 hc0 hg).mono ?_
  rintro e w' ⟨v0, v1, v2, ph, rfl, h0, h1, h2, hb⟩
  refine ⟨v0, v1, v2, fun k => some k = v0.ownBlock, fun k => some k = v1.ownBlock, fun k => nb k v0 ∧ nb k v1, rfl, Kd.R_tight rfl h0, Kd.R_tight rfl h1, N_untag (Kd.N_mono h2 (fun _ hk => hk.2)) (Nat.le_refl _) hp, ?_, ?_, ?_, hb⟩
  · exact fun k e0 e1 => (h0.1 k e0.symm).2 e1
  · exact fun k e0 hk => hk.1 e0
  · exact fun k e1 hk => hk.2 e1

end Go.Proofs.Ytbnbgmpkemlfbaa.XFnExactMixVoices
