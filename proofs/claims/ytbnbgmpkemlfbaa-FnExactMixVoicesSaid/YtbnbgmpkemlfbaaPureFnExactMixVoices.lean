/- MixVoices: the pure statement of the law: what the program's voices give together is what the reference's give, for all voices and every many. -/
import Derived.Test.YtbnbgmpkemlfbaaXFnExactMixVoicesx10
import Derived.Test.YtbnbgmpkemlfbaaXLibMixVoices
namespace Go.Proofs.Ytbnbgmpkemlfbaa.Pure
open Go.RowKit Go.Proofs.Ytbnbgmpkemlfbaa.XFnExactMixVoices Go.Proofs.YtbnbgmpkemlfbaaW.PrintWords Go.Proofs.YtbnbgmpkemlfbaaW.PrintLast Go.Proofs.YtbnbgmpkemlfbaaW.PrintMore Go.Proofs.Ytbnbgmpkemlfbaa.X
set_option linter.unusedVariables false
set_option linter.unusedSimpArgs false

theorem in_spec (a b c : Int) : spec_l1In.f a b c = some (decide (b ≤ a) && decide (a ≤ c)) := by
  unfold spec_l1In.f
  by_cases h : b ≤ a <;> simp [h]
theorem in_impl (a b c : Int) : impl_inRange.f a b c = some (decide (b ≤ a) && decide (a ≤ c)) := by
  unfold impl_inRange.f
  by_cases h : b ≤ a <;> simp [h]
theorem sz_ints (l : List Int) {a : Int} (h0 : 0 ≤ a) (h1 : a ≤ 1048576) (hl : l.length ≤ maxLen) : laws_szIntS.f l a = some (roomLeft l.length a) := sz_left h0 h1 hl
theorem to_ints (l : List Int) (hl : (l.length : Int) ≤ 1048576) : Ev (fun k => laws_toIntS.f k l) l := by
  have h := toS_ev (0 : Int) (id : Int → Int) 0 laws_toIntS.l0 (fun k x y i => laws_toIntS.l0.eq_2 x y i k) l (by omega)
  rw [List.map_id] at h
  exact Ev.pos (by omega) (Ev.pos (by omega) h)
theorem eq_ints (l : List Int) (hl : (l.length : Int) ≤ 1048576) : Ev (fun k => laws_eqIntS.f k l l) true :=
  eqInt_ev laws_eqIntS.l0 (fun k x y i => laws_eqIntS.l0.eq_2 x y i k) l (by rw [maxLen_eq]; omega)
/-! voices -/
def voiceOk (l : List Int) (a1 : Int) (a3 a4 a5 : Int) : Bool :=
  (decide (1 ≤ l.length) && decide (l.length ≤ 200)) && ((l.all fun n => decide (-32767 ≤ n) && decide (n ≤ 32767)) && ((decide (0 ≤ a1) && decide (a1 ≤ (l.length : Int) - 1)) && ((decide (0 ≤ a3) && decide (a3 ≤ 65536)) && ((decide (0 ≤ a4) && decide (a4 ≤ 65536)) && (decide (0 ≤ a5) && decide (a5 ≤ 100))))))
theorem voice_spec (l : List Int) (a1 : Int) (a2 : Bool) (a3 a4 a5 : Int) (hl : l.length ≤ maxLen) : Ev (fun k => spec_GoodVoice.f k l a1 a2 a3 a4 a5) (voiceOk l a1 a3 a4 a5) := by
  have h0 := all_ev (0 : Int) (fun n => decide (-32767 ≤ n) && decide (n ≤ 32767)) spec_GoodVoice.l0 (fun k x n i => by rw [spec_GoodVoice.l0]; simp only [in_spec, Option.bind_some]; rfl) l hl
  have hj : ∀ z, Ev (fun k => spec_GoodVoice.j0 k z l a1 a2 a3 a4 a5) (!z && l.all fun n => decide (-32767 ≤ n) && decide (n ≤ 32767)) := fun z =>
    Ev.step (fun k => spec_GoodVoice.j0.eq_2 _ _ _ _ _ _ _ k) (Ev.andn (fun _ => h0))
  rw [maxLen_eq] at hl
  unfold spec_GoodVoice.f voiceOk
  simp only [in_spec, Option.bind_some]
  refine Ev.ite (fun h => Ev.cast (hj true) ?_) (fun h => Ev.ite (fun h2 => Ev.cast (hj true) ?_) (fun h2 => ?_))
  · rw [decide_eq_false (show ¬ 1 ≤ l.length by omega)]; rfl
  · rw [decide_eq_false (show ¬ l.length ≤ 200 by omega), Bool.and_false]; rfl
  · rw [decide_eq_true (show 1 ≤ l.length by omega), decide_eq_true (show l.length ≤ 200 by omega), w_pred (i := l.length) (by omega)]
    cases h1 : (decide (0 ≤ a1) && decide (a1 ≤ (l.length : Int) - 1)) with
    | false => exact Ev.neg (by decide) (Ev.cast (hj true) (by simp))
    | true =>
      cases h3 : (decide (0 ≤ a3) && decide (a3 ≤ 65536)) with
      | false => exact Ev.pos rfl (Ev.neg (by decide) (Ev.cast (hj true) (by simp)))
      | true =>
        cases h4 : (decide (0 ≤ a4) && decide (a4 ≤ 65536)) with
        | false => exact Ev.pos rfl (Ev.pos rfl (Ev.neg (by decide) (Ev.cast (hj true) (by simp))))
        | true => exact Ev.pos rfl (Ev.pos rfl (Ev.pos rfl (Ev.cast (hj _) (by simp [Bool.and_comm]))))
theorem voice_impl (l : List Int) (a1 : Int) (a2 : Bool) (a3 a4 a5 : Int) (hl : l.length ≤ maxLen) : Ev (fun k => impl_GoodVoice.f k l a1 a2 a3 a4 a5) (voiceOk l a1 a3 a4 a5) := by
  have h := contains_ev (0 : Int) (fun _ z => impl_GoodVoice_1.f z) (fun n => !(decide (-32767 ≤ n) && decide (n ≤ 32767))) slices_IndexFunc_int_int_at_impl_GoodVoice_1.l0 (fun k x n i => slices_IndexFunc_int_int_at_impl_GoodVoice_1.l0.eq_2 x n i k) l hl (fun z _ => Ev.mk (fun _ => by unfold impl_GoodVoice_1.f; rw [in_impl]; rfl))
  rw [maxLen_eq] at hl
  unfold impl_GoodVoice.f voiceOk slices_ContainsFunc_int_int_at_impl_GoodVoice_1.f slices_IndexFunc_int_int_at_impl_GoodVoice_1.f
  simp only [in_impl, Option.bind_some]
  have e : (decide (1 ≤ (l.length : Int)) && decide ((l.length : Int) ≤ 200)) = (decide (1 ≤ l.length) && decide (l.length ≤ 200)) := by congr 1 <;> exact decide_eq_decide.2 (by omega)
  rw [e]
  refine Ev.and (fun _ => Ev.bind h (Ev.cast (Ev.andn (fun _ => Ev.and (fun _ => Ev.and (fun _ => Ev.and (fun _ => Ev.now _))))) ?_))
  rw [any_not, w_pred (i := l.length) (by omega)]
/-! lists of voices -/
abbrev Vc := S32
abbrev rV (l : List Vc) (i : Int) : Vc := rd_T32 l i
theorem rV_get {L : List Vc} {i : Nat} (h : i < L.length) : rV L (i : Int) = L[i] := rdOf_get (d := z32) h
def vok (z : Vc) : Bool := voiceOk z.f0 z.f1 z.f3 z.f4 z.f5
def voicesOk (l : List Vc) : Bool := decide (l.length ≤ 8) && l.all vok
theorem voices_spec (l : List Vc) (hl : l.length ≤ maxLen) (hs : ∀ z ∈ l, z.f0.length ≤ maxLen) : Ev (fun k => spec_l15Voices.f k l) (voicesOk l) := by
  have h := all_evT z32 (fun k z => spec_GoodVoice.f k z.f0 z.f1 z.f2 z.f3 z.f4 z.f5) vok spec_l15Voices.l0 (fun k x n i => spec_l15Voices.l0.eq_2 x n i k) l hl (fun z hz => voice_spec z.f0 z.f1 z.f2 z.f3 z.f4 z.f5 (hs z hz))
  unfold spec_l15Voices.f voicesOk
  refine Ev.ite (fun h8 => Ev.cast (Ev.now _) ?_) (fun h8 => Ev.cast h ?_)
  · rw [decide_eq_false (show ¬ l.length ≤ 8 by omega)]; rfl
  · rw [decide_eq_true (show l.length ≤ 8 by omega)]; rfl
theorem voices_impl (l : List Vc) (hl : l.length ≤ maxLen) (hs : ∀ z ∈ l, z.f0.length ≤ maxLen) : Ev (fun k => impl_areVoices.f k l) (voicesOk l) := by
  have h := contains_ev z32 (fun k z => impl_areVoices_1.f k z.f0 z.f1 z.f2 z.f3 z.f4 z.f5) (fun z => !vok z) slices_IndexFunc_impl_Voice_impl_Voice_at_impl_areVoices_1.l0 (fun k x n i => slices_IndexFunc_impl_Voice_impl_Voice_at_impl_areVoices_1.l0.eq_2 x n i k) l hl (fun z hz => Ev.bind (voice_impl z.f0 z.f1 z.f2 z.f3 z.f4 z.f5 (hs z hz)) (Ev.now _))
  unfold impl_areVoices.f voicesOk slices_ContainsFunc_impl_Voice_impl_Voice_at_impl_areVoices_1.f slices_IndexFunc_impl_Voice_impl_Voice_at_impl_areVoices_1.f
  refine Ev.ite (fun h8 => Ev.cast (Ev.bind h (Ev.now _)) ?_) (fun h8 => Ev.cast (Ev.now _) ?_)
  · rw [any_not, decide_eq_true (show l.length ≤ 8 by omega)]; rfl
  · rw [decide_eq_false (show ¬ l.length ≤ 8 by omega)]; rfl
theorem voices_yes {l : List Vc} (h : voicesOk l = true) : l.length ≤ 8 ∧ ∀ z ∈ l, z.f0.length ≤ 200 := by
  simp only [voicesOk, Bool.and_eq_true, decide_eq_true_eq, List.all_eq_true] at h
  refine ⟨h.1, fun z hz => ?_⟩
  have := h.2 z hz
  simp only [vok, voiceOk, Bool.and_eq_true, decide_eq_true_eq] at this
  exact this.1.2
/-! voices in the law -/
theorem sz_voice (l : List Int) (a1 : Int) (a2 : Bool) (a3 a4 a5 : Int) (hl : l.length ≤ maxLen) {a : Int} (h0 : 0 ≤ a) (h1 : a ≤ 1048576) : ∃ t, t ≤ 1048576 ∧ (¬ t < 0 → (l.length : Int) ≤ 1048576) ∧ laws_szVoice.f l a1 a2 a3 a4 a5 a = some t := by
  unfold laws_szVoice.f
  rw [sz_ints l h0 h1 hl, Option.bind_some, room_again]
  exact ⟨_, roomLeft_le h1, fun h => by have := (roomLeft_ok h).1; omega, rfl⟩
theorem sz_voices (l : List S25) (hl : l.length ≤ maxLen) (hs : ∀ z ∈ l, z.f0.length ≤ maxLen) {a : Int} (h0 : 0 ≤ a) (h1 : a ≤ 1048576) : ∃ t, t ≤ 1048576 ∧ (¬ t < 0 → (l.length : Int) ≤ 1048576 ∧ ∀ z ∈ l, (z.f0.length : Int) ≤ 1048576) ∧ Ev (fun k => laws_szVoiceS.f k l a) t := by
  unfold laws_szVoiceS.f
  have e := sz_left (n := l.length) h0 h1 hl
  rw [maxLen_eq] at hl
  by_cases hn : wrap64 (a - (l.length : Int)) < 0
  · exact ⟨-1, by omega, by omega, Ev.pos hn (Ev.now _)⟩
  · rw [if_neg hn] at e
    have e := Option.some.inj e
    rw [e] at hn ⊢
    have hr := (roomLeft_ok hn).1
    obtain ⟨t, ht, hts, he⟩ := sizesP_ev (fun z : S25 => (z.f0.length : Int) ≤ 1048576) z25 (fun _ z r => laws_szVoice.f z.f0 z.f1 z.f2 z.f3 z.f4 z.f5 r) laws_szVoiceS.l0 (fun k x r i => laws_szVoiceS.l0.eq_2 x r i k) l (by omega)
      (fun z hz r h0 h1 => by
        obtain ⟨u, u1, u2, u3⟩ := sz_voice z.f0 z.f1 z.f2 z.f3 z.f4 z.f5 (hs z hz) h0 h1
        exact ⟨u, u1, u2, Ev.mk fun _ => u3⟩) (roomLeft l.length a) (by omega) (roomLeft_le h1)
    exact ⟨t, ht, fun h => ⟨by omega, hts h⟩, Ev.neg hn he⟩
def asVoice (b : S25) : Vc := ⟨b.f0, b.f1, b.f2, b.f3, b.f4, b.f5⟩
theorem to_voice (l : List Int) (a1 : Int) (a2 : Bool) (a3 a4 a5 : Int) (hl : (l.length : Int) ≤ 1048576) : Ev (fun k => laws_toVoice.f k l a1 a2 a3 a4 a5) (l, a1, a2, a3, a4, a5) := Ev.bind (to_ints l hl) (Ev.now _)
theorem to_voices (l : List S25) (hl : (l.length : Int) ≤ 1048576) (hs : ∀ z ∈ l, (z.f0.length : Int) ≤ 1048576) : Ev (fun k => laws_toVoiceS.f k l) (l.map asVoice) := by
  have ht := toK_ev z32 asVoice z25 (fun k z => (laws_toVoice.f k z.f0 z.f1 z.f2 z.f3 z.f4 z.f5).bind fun t => some (⟨t.1, t.2.1, t.2.2.1, t.2.2.2.1, t.2.2.2.2.1, t.2.2.2.2.2⟩ : Vc)) laws_toVoiceS.l0 (fun k x y i => by
      rw [laws_toVoiceS.l0]
      split
      · split
        · simp only [Option.bind_assoc, Option.bind_some]; rfl
        · rfl
      · rfl) l (by omega) (fun z hz => Ev.bind (to_voice z.f0 z.f1 z.f2 z.f3 z.f4 z.f5 (hs z hz)) (Ev.now _))
  unfold laws_toVoiceS.f
  exact Ev.pos (by omega) (Ev.pos (by omega) ht)
theorem eq_voice (l : List Int) (a1 : Int) (a2 : Bool) (a3 a4 a5 : Int) (hl : (l.length : Int) ≤ 1048576) : Ev (fun k => laws_eqVoice.f k l a1 a2 a3 a4 a5 l a1 a2 a3 a4 a5) true :=
  Ev.bind (eq_ints l hl) (Ev.pos rfl (Ev.pos rfl (Ev.neg (by simp) (Ev.pos rfl (Ev.pos rfl (Ev.pos rfl (Ev.now _)))))))
theorem eq_voices (l : List Vc) (hl : (l.length : Int) ≤ 1048576) (hs : ∀ z ∈ l, (z.f0.length : Int) ≤ 1048576) : Ev (fun k => laws_eqVoiceS.f k l l) true := by
  unfold laws_eqVoiceS.f
  exact eqK_ev z32 (fun k a b => laws_eqVoice.f k a.f0 a.f1 a.f2 a.f3 a.f4 a.f5 b.f0 b.f1 b.f2 b.f3 b.f4 b.f5) laws_eqVoiceS.l0 (fun k x y i => laws_eqVoiceS.l0.eq_2 x y i k) l (by rw [maxLen_eq]; omega) (fun a ha => eq_voice a.f0 a.f1 a.f2 a.f3 a.f4 a.f5 (hs a ha))
def vmark (n : Nat) (x : Int) : Vc := ⟨marks n x, x + n, Int.tmod (x + n + 1) 3 == 0, x + n + 2, x + n + 3, x + n + 4⟩
def vmarks : List Nat → Int → List Vc
  | [], _ => []
  | n :: ns, x => vmark n x :: vmarks ns (x + n + 5)
def vtot : List Nat → Int → Int
  | [], x => x
  | n :: ns, x => vtot ns (x + n + 5)
theorem vtot_range : ∀ (ns : List Nat) (x : Int), (∀ n ∈ ns, (n : Int) ≤ 1048576) → x ≤ vtot ns x ∧ vtot ns x ≤ x + (ns.length : Int) * 4194304
  | [], x, _ => by simp [vtot]
  | n :: ns, x, h => by
    have h1 := vtot_range ns (x + n + 5) (fun z hz => h z (List.mem_cons_of_mem _ hz))
    have h2 := h n List.mem_cons_self
    rw [vtot, List.length_cons]
    omega
theorem mark_voices : ∀ (l : List Vc) (c : Int), 1 ≤ c → c + (l.length : Int) * 4194304 ≤ 4611686018427387000 → (∀ z ∈ l, (z.f0.length : Int) ≤ 1048576) → Ev (fun k => laws_markVoiceS.f k l c) (vtot (l.map fun z => z.f0.length) c, vmarks (l.map fun z => z.f0.length) c)
  | [], c, _, _, _ => Ev.now _
  | e :: l, c, h1, h2, h => by
    rw [List.length_cons] at h2
    have he := h e List.mem_cons_self
    have hm : Ev (fun k => laws_markIntS.f k e.f0 c) (c + (e.f0.length : Int), marks e.f0.length c) := markInt_ev laws_markIntS.l0 (fun k x c i => laws_markIntS.l0.eq_2 x c i k) c h1 e.f0 (by omega)
    have ih := mark_voices l (c + e.f0.length + 5) (by omega) (by omega) (fun z hz => h z (List.mem_cons_of_mem _ hz))
    have h1 : Ev (fun k => laws_markVoiceS.one k e c) (c + e.f0.length + 5, vmark e.f0.length c) := by
      refine Ev.bind hm (Ev.cast (Ev.now _) ?_)
      rw [w64 (n := c + e.f0.length + 1) (by omega) (by omega), w64 (n := c + e.f0.length + 1 + 1) (by omega) (by omega), w64 (n := c + e.f0.length + 1 + 1 + 1) (by omega) (by omega), w64 (n := c + e.f0.length + 1 + 1 + 1 + 1) (by omega) (by omega), w64 (n := c + e.f0.length + 1 + 1 + 1 + 1 + 1) (by omega) (by omega)]
      rw [show c + (e.f0.length : Int) + 1 + 1 = c + e.f0.length + 2 by omega, show c + (e.f0.length : Int) + 2 + 1 = c + e.f0.length + 3 by omega, show c + (e.f0.length : Int) + 3 + 1 = c + e.f0.length + 4 by omega, show c + (e.f0.length : Int) + 4 + 1 = c + e.f0.length + 5 by omega]
      rfl
    exact Ev.bind h1 (Ev.bind ih (Ev.now _))
theorem held_voices (ns : List Nat) : ∀ (c : Int) (pre : List Vc), 1 ≤ c → c + (ns.length : Int) * 4194304 ≤ 4611686018427387000 → (∀ n ∈ ns, (n : Int) ≤ 1048576) → (pre.length : Int) + ns.length ≤ 4611686018427387000 → Ev (fun k => laws_heldVoiceS.l0 k (pre ++ vmarks ns c) c (pre.length : Int)) (vtot ns c) := by
  induction ns with
  | nil => exact fun c pre _ _ _ hp => Ev.step (fun k => laws_heldVoiceS.l0.eq_2 _ _ _ k) (Ev.neg (by simp [vmarks]) (Ev.now _))
  | cons n ns ih =>
    intro c pre h1 h2 h hp
    rw [List.length_cons] at h2 hp
    have hn := h n List.mem_cons_self
    have hl : (pre ++ vmarks (n :: ns) c).length = pre.length + ((vmarks ns (c + n + 5)).length + 1) := by simp [vmarks]
    have er : rd_T32 (pre ++ vmarks (n :: ns) c) (pre.length : Int) = vmark n c := by
      unfold rd_T32
      rw [Int.toNat_natCast, List.getD_eq_getElem?_getD, List.getElem?_append_right (Nat.le_refl _), Nat.sub_self]
      rfl
    have ih := ih (c + n + 5) (pre ++ [vmark n c]) (by omega) (by omega) (fun z hz => h z (List.mem_cons_of_mem _ hz)) (by simp; omega)
    rw [List.append_assoc, List.length_append, List.length_singleton] at ih
    have hh : Ev (fun k => laws_heldIntS.f k (marks n c) c) (c + (n : Int)) := heldInt_ev laws_heldIntS.l0 (fun k x c i => laws_heldIntS.l0.eq_2 x c i k) n c h1 (by omega)
    refine Ev.step (fun k => laws_heldVoiceS.l0.eq_2 _ _ _ k) (Ev.pos (by rw [hl]; omega) (Ev.pos (by omega) ?_))
    rw [er]
    refine Ev.bind hh (Ev.neg (by omega) (Ev.pos rfl ?_))
    rw [w64 (n := c + n + 1) (by omega) (by omega), w64 (n := c + n + 1 + 1) (by omega) (by omega), w64 (n := c + n + 1 + 1 + 1) (by omega) (by omega), w64 (n := c + n + 1 + 1 + 1 + 1) (by omega) (by omega), w64 (n := c + n + 1 + 1 + 1 + 1 + 1) (by omega) (by omega), w_succ (by omega), show c + (n : Int) + 1 + 1 + 1 + 1 + 1 = c + n + 5 by omega]
    exact Ev.neg (by simp [vmark]) (Ev.pos (by show c + n + 2 = _; omega) (Ev.pos (by show c + n + 3 = _; omega) (Ev.pos (by show c + n + 4 = _; omega) ih)))
theorem held_voiceS (ns : List Nat) (hl : (ns.length : Int) ≤ 1048576) (hs : ∀ n ∈ ns, (n : Int) ≤ 1048576) : Ev (fun k => laws_heldVoiceS.f k (vmarks ns 1) 1) (vtot ns 1) := held_voices ns 1 [] (by omega) (by omega) hs (by simp; omega)
/-! wide numbers that are small -/
theorem u64w {n : Int} (h0 : 0 ≤ n) (h1 : n < 18446744073709551616) : IntKind.u64.wrap n = n := by
  simp [IntKind.wrap, IntKind.bits, IntKind.signed]
  omega
theorem or_wide (q r : Int) (hq : 0 ≤ q) (hq2 : q < 4294967296) (hr : 0 ≤ r) (hr2 : r < 4294967296) : Go.bits .or .u64 (q * 4294967296) r = q * 4294967296 + r := by
  obtain ⟨Q, rfl⟩ := Int.eq_ofNat_of_zero_le hq
  obtain ⟨R, rfl⟩ := Int.eq_ofNat_of_zero_le hr
  unfold Go.bits
  have e : ((BitVec.ofInt IntKind.u64.bits ((Q : Int) * 4294967296)) ||| (BitVec.ofInt IntKind.u64.bits (R : Int))).toNat = Q * 4294967296 + R := by
    rw [BitVec.toNat_or, BitVec.toNat_ofInt, BitVec.toNat_ofInt]
    have e1 : (((Q : Int) * 4294967296) % ((2 ^ IntKind.u64.bits : Nat) : Int)).toNat = Q * 4294967296 := by
      simp [IntKind.bits]; omega
    have e2 : ((R : Int) % ((2 ^ IntKind.u64.bits : Nat) : Int)).toNat = R := by
      simp [IntKind.bits]; omega
    rw [e1, e2]
    have h := Nat.shiftLeft_add_eq_or_of_lt (i := 32) (b := R) (by omega) Q
    rw [Nat.shiftLeft_eq] at h
    exact h.symm
  show IntKind.u64.wrap _ = _
  rw [e, u64w (by omega) (by omega)]
  omega
theorem times_small (a b : Int) (ha : 0 ≤ a) (ha1 : a ≤ 4398046511104) (hb : 0 ≤ b) (hb1 : b ≤ 262144) : spec_l1Times.f a b = some (0, a * b) := by
  have ta : Int.tdiv a 4294967296 = a / 4294967296 := Int.tdiv_eq_ediv_of_nonneg ha
  have ma : Int.tmod a 4294967296 = a % 4294967296 := Int.tmod_eq_emod_of_nonneg ha
  have tb : Int.tdiv b 4294967296 = 0 := by rw [Int.tdiv_eq_ediv_of_nonneg hb]; omega
  have mb : Int.tmod b 4294967296 = b := by rw [Int.tmod_eq_emod_of_nonneg hb]; omega
  have hY0 : 0 ≤ a / 4294967296 := by omega
  have hY1 : a / 4294967296 ≤ 1024 := by omega
  have hX0 : 0 ≤ a % 4294967296 := by omega
  have hX1 : a % 4294967296 ≤ 4294967295 := by omega
  have e : a = a / 4294967296 * 4294967296 + a % 4294967296 := by omega
  unfold spec_l1Times.f
  rw [ta, ma, tb, mb]
  generalize a / 4294967296 = Y at *
  generalize a % 4294967296 = X at *
  have p0 : 0 ≤ X * b := Int.mul_nonneg hX0 hb
  have p1 : X * b ≤ 4294967295 * 262144 := Int.mul_le_mul hX1 hb1 hb (by omega)
  have q0 : 0 ≤ Y * b := Int.mul_nonneg hY0 hb
  have q1 : Y * b ≤ 1024 * 262144 := Int.mul_le_mul hY1 hb1 hb (by omega)
  have eab : a * b = Y * b * 4294967296 + X * b := by rw [e, Int.add_mul, Int.mul_right_comm]
  rw [eab]
  rw [u64w (n := Y) hY0 (by omega), u64w (n := 0) (by omega) (by omega), Int.mul_zero, Int.mul_zero, u64w (n := 0) (by omega) (by omega), Int.zero_add, Int.zero_add]
  generalize X * b = P at *
  generalize Y * b = Q at *
  rw [u64w (n := P) p0 (by omega), u64w (n := Q) q0 (by omega), Int.tdiv_eq_ediv_of_nonneg p0, u64w (n := P / 4294967296) (by omega) (by omega), Int.tmod_eq_emod_of_nonneg p0]
  rw [u64w (n := Q + P / 4294967296) (by omega) (by omega)]
  rw [Int.tdiv_eq_ediv_of_nonneg (a := Q + P / 4294967296) (by omega), Int.tmod_eq_emod_of_nonneg (a := Q + P / 4294967296) (by omega)]
  rw [show (Q + P / 4294967296) / 4294967296 = 0 by omega, show (Q + P / 4294967296) % 4294967296 = Q + P / 4294967296 by omega]
  rw [u64w (n := Q + P / 4294967296) (by omega) (by omega), u64w (n := 0) (by omega) (by omega), u64w (n := 0) (by omega) (by omega)]
  rw [Int.tdiv_eq_ediv_of_nonneg (a := Q + P / 4294967296) (by omega), show (Q + P / 4294967296) / 4294967296 = 0 by omega, u64w (n := 0) (by omega) (by omega), Int.add_zero, u64w (n := 0) (by omega) (by omega)]
  rw [u64w (n := (Q + P / 4294967296) * 4294967296) (by omega) (by omega), or_wide _ _ (by omega) (by omega) (by omega) (by omega)]
  congr 2
  omega
theorem plus_small (a b : Int) (ha : 0 ≤ a) (ha1 : a ≤ 1000000000000) (hb : 0 ≤ b) (hb1 : b ≤ 1000000000000) : spec_l1Plus.f 0 a b = some (0, a + b) := by
  unfold spec_l1Plus.f
  rw [u64w (n := a + b) (by omega) (by omega), if_neg (by omega)]
theorem over_ev (T : Int) (hT : 0 ≤ T) (hT1 : T ≤ 1000000000000) : ∀ (d : Nat) (lo hi : Int), hi - lo ≤ (d : Int) → 0 ≤ lo → lo ≤ T / 131072 → T / 131072 ≤ hi → hi ≤ 4398046511104 → Ev (fun k => spec_l1Over.l0 k 131072 lo hi 0 T) (T / 131072) := by
  intro d
  induction d using Nat.strongRecOn with
  | _ d ih =>
    intro lo hi hd h0 h1 h2 h3
    refine Ev.step (fun k => spec_l1Over.l0.eq_2 _ _ _ _ _ k) ?_
    by_cases hlt : lo < hi
    · refine Ev.pos hlt ?_
      rw [u64w (n := hi - lo) (by omega) (by omega), u64w (n := hi - lo + 1) (by omega) (by omega), Int.tdiv_eq_ediv_of_nonneg (a := hi - lo + 1) (by omega), u64w (n := (hi - lo + 1) / 2) (by omega) (by omega), u64w (n := lo + (hi - lo + 1) / 2) (by omega) (by omega)]
      have c0 : lo < lo + (hi - lo + 1) / 2 := by omega
      have c1 : lo + (hi - lo + 1) / 2 ≤ hi := by omega
      generalize lo + (hi - lo + 1) / 2 = c at c0 c1 ⊢
      refine Ev.const_bind (times_small c 131072 (by omega) (by omega) (by omega) (by omega)) ?_
      have hless : spec_l1Less.f 0 T 0 (c * 131072) = some (decide (T < c * 131072)) := by
        unfold spec_l1Less.f
        rw [if_neg (by omega), if_pos rfl]
      refine Ev.const_bind hless ?_
      by_cases hc : T < c * 131072
      · rw [decide_eq_true hc, u64w (n := c - 1) (by omega) (by omega)]
        exact Ev.pos rfl (ih (c - 1 - lo).toNat (by omega) lo (c - 1) (by omega) h0 h1 (by omega) (by omega))
      · rw [decide_eq_false hc]
        exact Ev.neg (by decide) (ih (hi - c).toNat (by omega) c hi (by omega) (by omega) (by omega) h2 h3)
    · exact Ev.neg hlt (Ev.cast (Ev.now _) (by omega))
theorem cut_small (q : Int) (h0 : -1000000 ≤ q) (h1 : q ≤ 1000000) : spec_l1Cut.f q = some q := by
  unfold spec_l1Cut.f
  rw [if_neg (by omega), if_neg (by omega)]
theorem near_ev (neg : Bool) (P : Int) (h0 : 0 ≤ P) (h1 : P ≤ 200000 * 65536) : Ev (fun k => spec_l1Near.f k neg 0 P 65536) (if neg = true then -((P + 32767) / 65536) else (P + 32768) / 65536) := by
  have hsum : spec_l1Sum.f 0 P 0 P = some (0, P + P) := by
    unfold spec_l1Sum.f
    rw [plus_small P P h0 (by omega) h0 (by omega), Option.bind_some]
    rw [u64w (n := 0 + 0) (by omega) (by omega)]
    rfl
  have ho : ∀ T : Int, 0 ≤ T → T ≤ 1000000000000 → Ev (fun k => spec_l1Over.f k 0 T 131072 4398046511104) (T / 131072) := fun T g0 g1 => by
    unfold spec_l1Over.f
    exact over_ev T g0 g1 4398046511104 0 4398046511104 (by omega) (by omega) (by omega) (by omega) (by omega)
  have e2 : IntKind.u64.wrap (2 * 65536) = 131072 := u64w (by omega) (by omega)
  unfold spec_l1Near.f
  refine Ev.const_bind hsum (Ev.const_bind (plus_small (P + P) 65536 (by omega) (by omega) (by omega) (by omega)) ?_)
  cases neg with
  | true =>
    refine Ev.pos rfl (Ev.neg (by show ¬ P + P + 65536 = 0; omega) ?_)
    show Ev (fun k => spec_l1Near.j0 k true 65536 0 (IntKind.u64.wrap (P + P + 65536 - 1))) _
    rw [u64w (n := P + P + 65536 - 1) (by omega) (by omega)]
    refine Ev.step (fun k => spec_l1Near.j0.eq_2 _ _ _ _ k) ?_
    rw [e2]
    refine Ev.bind (ho (P + P + 65536 - 1) (by omega) (by omega)) (Ev.pos rfl ?_)
    rw [show (P + P + 65536 - 1) / 131072 = (P + 32767) / 65536 by omega, w64 (n := (P + 32767) / 65536) (by omega) (by omega), w64 (n := -((P + 32767) / 65536)) (by omega) (by omega)]
    exact Ev.const_bind (cut_small _ (by omega) (by omega)) (Ev.now _)
  | false =>
    refine Ev.neg (by decide) ?_
    show Ev (fun k => spec_l1Near.j0 k false 65536 0 (P + P + 65536)) _
    refine Ev.step (fun k => spec_l1Near.j0.eq_2 _ _ _ _ k) ?_
    rw [e2]
    refine Ev.bind (ho (P + P + 65536) (by omega) (by omega)) (Ev.neg (by decide) ?_)
    rw [show (P + P + 65536) / 131072 = (P + 32768) / 65536 by omega, w64 (n := (P + 32768) / 65536) (by omega) (by omega)]
    exact Ev.const_bind (cut_small _ (by omega) (by omega)) (Ev.now _)
theorem good_small (x : Int) (h0 : -200000 ≤ x) (h1 : x ≤ 200000) : spec_GoodFixed.f x = some true := by
  unfold spec_GoodFixed.f
  rw [in_spec, decide_eq_true (by omega), decide_eq_true (by omega)]
  rfl
theorem abs_small (x : Int) (h0 : -200000 ≤ x) (h1 : x ≤ 200000) : spec_l1Abs.f x = some (if x < 0 then -x else x) := by
  unfold spec_l1Abs.f
  by_cases h : x < 0
  · rw [if_pos h, if_pos h, w64 (n := -x) (by omega) (by omega)]
  · rw [if_neg h, if_neg h]
theorem mul_spec (x p : Int) (h0 : -200000 ≤ x) (h1 : x ≤ 200000) (p0 : 0 ≤ p) (p1 : p ≤ 65536) : Ev (fun k => spec_FixMul.f k x p) (impl_FixMul.near x p) := by
  unfold spec_FixMul.f
  refine Ev.const_bind (good_small x h0 h1) (Ev.pos rfl (Ev.const_bind (good_small p (by omega) (by omega)) ?_))
  refine Ev.step (fun k => spec_FixMul.j0.eq_2 _ _ _ k) (Ev.neg (by decide) (Ev.const_bind (abs_small x h0 h1) (Ev.const_bind (abs_small p (by omega) (by omega)) ?_)))
  rw [if_neg (show ¬ p < 0 by omega), u64w (n := p) p0 (by omega), decide_eq_false (show ¬ p < 0 by omega)]
  unfold impl_FixMul.near
  by_cases h : x < 0
  · rw [if_pos h, if_pos h, u64w (n := -x) (by omega) (by omega), decide_eq_true h]
    have g0 : 0 ≤ -x * p := Int.mul_nonneg (by omega) p0
    have g1 : -x * p ≤ 200000 * 65536 := Int.mul_le_mul (by omega) p1 p0 (by omega)
    exact Ev.const_bind (times_small (-x) p (by omega) (by omega) p0 (by omega)) (Ev.bind (near_ev true (-x * p) g0 g1) (Ev.now _))
  · rw [if_neg h, if_neg h, u64w (n := x) (by omega) (by omega), decide_eq_false h]
    have g0 : 0 ≤ x * p := Int.mul_nonneg (by omega) p0
    have g1 : x * p ≤ 200000 * 65536 := Int.mul_le_mul (by omega) p1 p0 (by omega)
    exact Ev.const_bind (times_small x p (by omega) (by omega) p0 (by omega)) (Ev.bind (near_ev false (x * p) g0 g1) (Ev.now _))
theorem mul_impl (x p : Int) (h0 : -200000 ≤ x) (h1 : x ≤ 200000) (p0 : 0 ≤ p) (p1 : p ≤ 65536) : impl_FixMul.f x p = some (impl_FixMul.near x p) := by
  unfold impl_FixMul.f
  rw [if_pos ⟨⟨h0, h1⟩, p0, p1⟩]
theorem own_spec (l : List Int) (a1 : Int) (a2 : Bool) (a3 a4 a5 : Int) (hl : l.length ≤ 200) : spec_l15Own.f l a1 a2 a3 a4 a5 = some (l, a1, a2, a3, a4, a5) := by
  unfold spec_l15Own.f
  rw [Option.bind_some, if_pos (by simp; omega), List.nil_append]
theorem clone_impl (l : List Int) (hl : l.length ≤ 200) : slices_Clone_int_int.f l = some l := by
  unfold slices_Clone_int_int.f
  rw [Option.bind_some, if_pos (by simp; omega), List.nil_append]
theorem take_next {l : List Vc} {i : Nat} (h : i < l.length) : l.take i ++ [rV l (i : Int)] = l.take (i + 1) := by rw [rV_get h, List.take_succ_eq_append_getElem h]
theorem copy_impl (l : List Vc) (hl : l.length ≤ 8) (hs : ∀ z ∈ l, z.f0.length ≤ 200) : Ev (fun k => impl_copyVoices.f k l) l := by
  have key : ∀ m i : Nat, i + m = l.length → Ev (fun k => impl_copyVoices.l0 k (l.take i) l (l.length : Int) (i : Int)) l := by
    intro m
    induction m with
    | zero => exact fun i hi => Ev.step (fun k => impl_copyVoices.l0.eq_2 _ _ _ _ k) (Ev.neg (by omega) (Ev.cast (Ev.now _) (by rw [List.take_of_length_le (by omega)])))
    | succ m ih =>
      intro i hi
      have hi' : i < l.length := by omega
      have hz := hs _ (List.getElem_mem hi')
      rw [← rV_get hi'] at hz
      refine Ev.step (fun k => impl_copyVoices.l0.eq_2 _ _ _ _ k) (Ev.pos (by omega) (Ev.pos (by omega) (Ev.pos (by omega) (Ev.const_bind (clone_impl _ hz) (Ev.pos (by rw [List.length_take]; omega) ?_)))))
      rw [w_succ (by omega)]
      have e : l.take i ++ [(⟨(rd_T32 l (i : Int)).f0, (rd_T32 l (i : Int)).f1, (rd_T32 l (i : Int)).f2, (rd_T32 l (i : Int)).f3, (rd_T32 l (i : Int)).f4, (rd_T32 l (i : Int)).f5⟩ : Vc)] = l.take (i + 1) := take_next hi'
      rw [e]
      exact ih (i + 1) (by omega)
  exact key l.length 0 (by omega)
/-! voices with a number each -/
theorem rG_get {L : List G32} {i : Nat} (h : i < L.length) : rd_G L (i : Int) = L[i] := rdOf_get (d := zG) h
theorem rV_map {L : List G32} {i : Nat} (h : i < L.length) : rd_T32 (L.map G32.s) (i : Int) = (rd_G L (i : Int)).s := by
  rw [rG_get h]
  exact (rV_get (L := L.map G32.s) (by rw [List.length_map]; exact h)).trans (List.getElem_map _)
theorem tag_s (l : List Vc) : (tagL l).map G32.s = l := by
  unfold tagL
  rw [List.map_map]
  exact (List.map_congr_left (fun p _ => rfl)).trans (List.zipIdx_map_fst 0 l)
theorem tag_g (l : List Vc) : ((tagL l).map G32.g).Pairwise (· < ·) := by
  unfold tagL
  rw [List.map_map]
  have e : l.zipIdx.map (G32.g ∘ fun p => (⟨p.1.f0, p.1.f1, p.1.f2, p.1.f3, p.1.f4, p.1.f5, p.2⟩ : G32)) = l.zipIdx.map Prod.snd := List.map_congr_left (fun p _ => rfl)
  rw [e, List.zipIdx_map_snd]
  exact List.pairwise_lt_range'
def GV (z : G32) : Prop := (z.f0.length ≤ 200 ∧ ∀ x ∈ z.f0, -32767 ≤ x ∧ x ≤ 32767) ∧ (0 ≤ z.f1 ∧ z.f1 < (z.f0.length : Int)) ∧ (0 ≤ z.f3 ∧ z.f3 ≤ 65536) ∧ (0 ≤ z.f4 ∧ z.f4 ≤ 65536)
theorem tag_v {l : List Vc} (h : ∀ z ∈ l, vok z = true) : ∀ z ∈ tagL l, GV z := by
  intro z hz
  unfold tagL at hz
  obtain ⟨p, hp, rfl⟩ := List.mem_map.1 hz
  have h1 := h p.1 (by have := List.mem_zipIdx hp; rw [this.2.2]; exact List.getElem_mem _)
  simp only [vok, voiceOk, Bool.and_eq_true, decide_eq_true_eq, List.all_eq_true] at h1
  obtain ⟨⟨h2, h3⟩, h4, ⟨h5, h6⟩, h7, h8, h9⟩ := h1
  exact ⟨⟨h3, h4⟩, ⟨h5, by show p.1.f1 < (p.1.f0.length : Int); omega⟩, h7, h8⟩
abbrev RS := List Int × List Int × List Vc × Bool
abbrev RG := List Int × List Int × List G32 × Bool
def unt (r : RG) : RS := (r.1, r.2.1, r.2.2.1.map G32.s, r.2.2.2)
def ROk (r : RG) : Prop := (r.1.length ≤ 200 ∧ r.2.1.length ≤ 200) ∧ (r.2.2.1.length ≤ 8 ∧ ∀ z ∈ r.2.2.1, z.f0.length ≤ 200) ∧ (r.2.2.1.map G32.g).Pairwise (· < ·)
def Two (f : Nat → Option RS) (g : Nat → Option RG) : Prop := ∃ r, ROk r ∧ Ev f (unt r) ∧ Ev g r
def cutv (x : Int) : Int := if x > 32767 then 32767 else if x < -32767 then -32767 else x
theorem cut_spec (x : Int) : spec_l15Cut.f x = some (cutv x) := by
  unfold spec_l15Cut.f cutv
  split
  · rfl
  · split <;> rfl
theorem cut_impl (x : Int) : impl_clamp.f x (-32767) 32767 = some (cutv x) := by
  unfold impl_clamp.f cutv mn mx
  congr 1
  repeat' split
  all_goals omega
theorem inner (now : List G32) (hn : now.length ≤ 8) (hv : ∀ z ∈ now, GV z) (x1 many q : Int) (L R : List Int) (hL : L.length ≤ 200) (hR : R.length ≤ 200)
    (cont : ∀ (still : List G32) (lf rt : Int), still.length ≤ 8 → (∀ z ∈ still, GV z) → (still.map G32.g).Pairwise (· < ·) → Two (fun k => spec_MixVoices.l1 k (wrap64 (x1 - 1)) (still.map G32.s) (L ++ [cutv lf]) (R ++ [cutv rt])) (fun k => impl_MixVoices.l0 k still many (wrap64 (q + 1)) (L ++ [cutv lf]) (R ++ [cutv rt]))) :
    ∀ (m i : Nat) (still : List G32) (lf rt : Int), i + m = now.length → still.length ≤ i → (∀ z ∈ still, GV z) → (still.map G32.g ++ (now.drop i).map G32.g).Pairwise (· < ·) →
      Two (fun k => spec_MixVoices.l2 k x1 lf rt (still.map G32.s) (now.map G32.s) ((now.map G32.s).length : Int) (i : Int) L R) (fun k => impl_MixVoices.l1 k lf rt still many q now (now.length : Int) (i : Int) L R) := by
  intro m
  induction m with
  | zero =>
    intro i still lf rt hi hs hg hp
    rw [List.drop_of_length_le (by omega), List.map_nil, List.append_nil] at hp
    obtain ⟨r, hr, h1, h2⟩ := cont still lf rt (by omega) hg hp
    refine ⟨r, hr, Ev.step (fun k => spec_MixVoices.l2.eq_2 _ _ _ _ _ _ _ _ _ k) (Ev.neg (by rw [List.length_map]; omega) (Ev.const_bind (cut_spec lf) (Ev.pos (by omega) (Ev.const_bind (cut_spec rt) (Ev.pos (by omega) h1))))), Ev.step (fun k => impl_MixVoices.l1.eq_2 _ _ _ _ _ _ _ _ _ _ k) (Ev.neg (by omega) (Ev.const_bind (cut_impl lf) (Ev.pos (by omega) (Ev.const_bind (cut_impl rt) (Ev.pos (by omega) h2)))))⟩
  | succ m ih =>
    intro i still lf rt hi hs hg hp
    have hin : i < now.length := by omega
    obtain ⟨z, hz⟩ : ∃ z, z = rd_G now (i : Int) := ⟨_, rfl⟩
    have hzm : z ∈ now := by rw [hz, rG_get hin]; exact List.getElem_mem hin
    obtain ⟨⟨v1, v2⟩, ⟨v3, v4⟩, ⟨v5, v6⟩, v7, v8⟩ := hv z hzm
    have eV : rd_T32 (now.map G32.s) (i : Int) = z.s := by rw [rV_map hin, hz]
    rw [List.drop_eq_getElem_cons hin, List.map_cons, ← rG_get hin, ← hz] at hp
    have hx : -32767 ≤ rd z.f0 z.f1 ∧ rd z.f0 z.f1 ≤ 32767 := by
      obtain ⟨n, hnn⟩ := Int.eq_ofNat_of_zero_le v3
      have hlt : n < z.f0.length := by omega
      refine v2 _ ?_
      rw [hnn]
      unfold rd
      rw [Int.toNat_natCast, List.getD_eq_getElem?_getD, List.getElem?_eq_getElem hlt, Option.getD_some]
      exact List.getElem_mem hlt
    have hw : wrap64 (z.f1 + 1) = z.f1 + 1 := w64 (by omega) (by omega)
    have go : ∀ (st : List G32), st.length ≤ i + 1 → (∀ z ∈ st, GV z) → (st.map G32.g ++ (now.drop (i + 1)).map G32.g).Pairwise (· < ·) → Two (fun k => spec_MixVoices.l2 k x1 (wrap64 (lf + impl_FixMul.near (rd z.f0 z.f1) z.f3)) (wrap64 (rt + impl_FixMul.near (rd z.f0 z.f1) z.f4)) (st.map G32.s) (now.map G32.s) ((now.map G32.s).length : Int) (wrap64 ((i : Int) + 1)) L R) (fun k => impl_MixVoices.l1 k (wrap64 (lf + impl_FixMul.near (rd z.f0 z.f1) z.f3)) (wrap64 (rt + impl_FixMul.near (rd z.f0 z.f1) z.f4)) st many q now (now.length : Int) (wrap64 ((i : Int) + 1)) L R) := by
      intro st h1 h2 h3
      rw [w_succ (by omega)]
      exact ih (i + 1) st _ _ (by omega) h1 h2 h3
    have drop1 : (still.map G32.g ++ (now.drop (i + 1)).map G32.g).Pairwise (· < ·) := hp.sublist (List.Sublist.append (List.Sublist.refl _) (List.sublist_cons_self _ _))
    have add1 : ∀ z' : G32, z'.g = z.g → ((still ++ [z']).map G32.g ++ (now.drop (i + 1)).map G32.g).Pairwise (· < ·) := by
      intro z' e
      rw [List.map_append, List.map_cons, List.map_nil, e, List.append_assoc]
      exact hp
    have gv1 : ∀ z' : G32, GV z' → ∀ y ∈ still ++ [z'], GV y := by
      intro z' h y hy
      rcases List.mem_append.1 hy with h1 | h1
      · exact hg y h1
      · rw [List.mem_singleton] at h1; rw [h1]; exact h
    have sp : ∀ {r : RS}, Ev (fun k => if wrap64 (z.f1 + 1) = (z.f0.length : Int) then (if z.f2 = true then (if (still.map G32.s).length < 2199023255552 then (spec_MixVoices.l2 k x1 (wrap64 (lf + impl_FixMul.near (rd z.f0 z.f1) z.f3)) (wrap64 (rt + impl_FixMul.near (rd z.f0 z.f1) z.f4)) (still.map G32.s ++ [(⟨z.f0, 0, z.f2, z.f3, z.f4, z.f5⟩ : Vc)]) (now.map G32.s) ((now.map G32.s).length : Int) (wrap64 ((i : Int) + 1)) L R) else none) else (spec_MixVoices.l2 k x1 (wrap64 (lf + impl_FixMul.near (rd z.f0 z.f1) z.f3)) (wrap64 (rt + impl_FixMul.near (rd z.f0 z.f1) z.f4)) (still.map G32.s) (now.map G32.s) ((now.map G32.s).length : Int) (wrap64 ((i : Int) + 1)) L R)) else (if (still.map G32.s).length < 2199023255552 then (spec_MixVoices.l2 k x1 (wrap64 (lf + impl_FixMul.near (rd z.f0 z.f1) z.f3)) (wrap64 (rt + impl_FixMul.near (rd z.f0 z.f1) z.f4)) (still.map G32.s ++ [(⟨z.f0, wrap64 (z.f1 + 1), z.f2, z.f3, z.f4, z.f5⟩ : Vc)]) (now.map G32.s) ((now.map G32.s).length : Int) (wrap64 ((i : Int) + 1)) L R) else none)) r → Ev (fun k => spec_MixVoices.l2 k x1 lf rt (still.map G32.s) (now.map G32.s) ((now.map G32.s).length : Int) (i : Int) L R) r := by
      intro r h
      refine Ev.step (fun k => spec_MixVoices.l2.eq_2 _ _ _ _ _ _ _ _ _ k) ?_
      simp only [eV]
      exact Ev.pos (by rw [List.length_map]; omega) (Ev.pos (by omega) (Ev.pos (by rw [List.length_map]; omega) (Ev.pos v3 (Ev.pos v4 (Ev.bind (mul_spec _ _ (by show _ ≤ rd z.f0 z.f1; omega) (by show rd z.f0 z.f1 ≤ _; omega) v5 v6) (Ev.bind (mul_spec _ _ (by show _ ≤ rd z.f0 z.f1; omega) (by show rd z.f0 z.f1 ≤ _; omega) v7 v8) h))))))
    have im : ∀ {r : RG}, Ev (fun k => if wrap64 (z.f1 + 1) = (z.f0.length : Int) then (if z.f2 = true then (if 0 < (z.f0.length : Int) then (if still.length < 2199023255552 then (impl_MixVoices.l1 k (wrap64 (lf + impl_FixMul.near (rd z.f0 z.f1) z.f3)) (wrap64 (rt + impl_FixMul.near (rd z.f0 z.f1) z.f4)) (still ++ [(⟨z.f0, 0, z.f2, z.f3, z.f4, z.f5, z.g⟩ : G32)]) many q now (now.length : Int) (wrap64 ((i : Int) + 1)) L R) else none) else (impl_MixVoices.l1 k (wrap64 (lf + impl_FixMul.near (rd z.f0 z.f1) z.f3)) (wrap64 (rt + impl_FixMul.near (rd z.f0 z.f1) z.f4)) still many q now (now.length : Int) (wrap64 ((i : Int) + 1)) L R)) else (if wrap64 (z.f1 + 1) < (z.f0.length : Int) then (if still.length < 2199023255552 then (impl_MixVoices.l1 k (wrap64 (lf + impl_FixMul.near (rd z.f0 z.f1) z.f3)) (wrap64 (rt + impl_FixMul.near (rd z.f0 z.f1) z.f4)) (still ++ [(⟨z.f0, wrap64 (z.f1 + 1), z.f2, z.f3, z.f4, z.f5, z.g⟩ : G32)]) many q now (now.length : Int) (wrap64 ((i : Int) + 1)) L R) else none) else (impl_MixVoices.l1 k (wrap64 (lf + impl_FixMul.near (rd z.f0 z.f1) z.f3)) (wrap64 (rt + impl_FixMul.near (rd z.f0 z.f1) z.f4)) still many q now (now.length : Int) (wrap64 ((i : Int) + 1)) L R))) else (if wrap64 (z.f1 + 1) < (z.f0.length : Int) then (if still.length < 2199023255552 then (impl_MixVoices.l1 k (wrap64 (lf + impl_FixMul.near (rd z.f0 z.f1) z.f3)) (wrap64 (rt + impl_FixMul.near (rd z.f0 z.f1) z.f4)) (still ++ [(⟨z.f0, wrap64 (z.f1 + 1), z.f2, z.f3, z.f4, z.f5, z.g⟩ : G32)]) many q now (now.length : Int) (wrap64 ((i : Int) + 1)) L R) else none) else (impl_MixVoices.l1 k (wrap64 (lf + impl_FixMul.near (rd z.f0 z.f1) z.f3)) (wrap64 (rt + impl_FixMul.near (rd z.f0 z.f1) z.f4)) still many q now (now.length : Int) (wrap64 ((i : Int) + 1)) L R))) r → Ev (fun k => impl_MixVoices.l1 k lf rt still many q now (now.length : Int) (i : Int) L R) r := by
      intro r h
      refine Ev.step (fun k => impl_MixVoices.l1.eq_2 _ _ _ _ _ _ _ _ _ _ k) ?_
      simp only [← hz]
      exact Ev.pos (by omega) (Ev.pos (by omega) (Ev.pos (by omega) (Ev.pos v3 (Ev.pos v4 (Ev.const_bind (mul_impl _ _ (by omega) (by omega) v5 v6) (Ev.const_bind (mul_impl _ _ (by omega) (by omega) v7 v8) h))))))
    rw [hw] at sp im
    have hlen : (still.map G32.s).length < 2199023255552 := by rw [List.length_map]; omega
    by_cases hc : z.f1 + 1 = (z.f0.length : Int)
    · cases hf : z.f2 with
      | true =>
        obtain ⟨r, hr, h1, h2⟩ := go (still ++ [⟨z.f0, 0, z.f2, z.f3, z.f4, z.f5, z.g⟩]) (by rw [List.length_append]; exact Nat.add_le_add_right hs 1) (gv1 _ ⟨⟨v1, v2⟩, ⟨Int.le_refl _, by show (0 : Int) < (z.f0.length : Int); omega⟩, ⟨v5, v6⟩, v7, v8⟩) (add1 _ rfl)
        rw [List.map_append] at h1
        exact ⟨r, hr, sp (Ev.pos hc (Ev.pos hf (Ev.pos hlen h1))), im (Ev.pos hc (Ev.pos hf (Ev.pos (by omega) (Ev.pos (by omega) h2))))⟩
      | false =>
        obtain ⟨r, hr, h1, h2⟩ := go still (by omega) hg drop1
        exact ⟨r, hr, sp (Ev.pos hc (Ev.neg (by rw [hf]; decide) h1)), im (Ev.pos hc (Ev.neg (by rw [hf]; decide) (Ev.neg (by omega) h2)))⟩
    · obtain ⟨r, hr, h1, h2⟩ := go (still ++ [⟨z.f0, z.f1 + 1, z.f2, z.f3, z.f4, z.f5, z.g⟩]) (by rw [List.length_append]; exact Nat.add_le_add_right hs 1) (gv1 _ ⟨⟨v1, v2⟩, ⟨by show 0 ≤ z.f1 + 1; omega, by show z.f1 + 1 < (z.f0.length : Int); omega⟩, ⟨v5, v6⟩, v7, v8⟩) (add1 _ rfl)
      rw [List.map_append] at h1
      exact ⟨r, hr, sp (Ev.neg hc (Ev.pos hlen h1)), im (Ev.neg hc (Ev.pos (by omega) (Ev.pos (by omega) h2)))⟩
theorem outer (many : Int) (h1 : many ≤ 200) : ∀ (n q : Nat) (now : List G32) (L R : List Int), (q : Int) + (n : Int) = many → now.length ≤ 8 → (∀ z ∈ now, GV z) → (now.map G32.g).Pairwise (· < ·) → L.length = q → R.length = q → Two (fun k => spec_MixVoices.l1 k (n : Int) (now.map G32.s) L R) (fun k => impl_MixVoices.l0 k now many (q : Int) L R) := by
  intro n
  induction n with
  | zero =>
    intro q now L R hq hn hv hp hL hR
    exact ⟨(L, R, now, true), ⟨⟨by show L.length ≤ 200; omega, by show R.length ≤ 200; omega⟩, ⟨hn, fun z hz => (hv z hz).1.1⟩, hp⟩, Ev.step (fun k => spec_MixVoices.l1.eq_2 _ _ _ _ k) (Ev.neg (by omega) (Ev.now _)), Ev.step (fun k => impl_MixVoices.l0.eq_2 _ _ _ _ _ k) (Ev.neg (by omega) (Ev.now _))⟩
  | succ n ih =>
    intro q now L R hq hn hv hp hL hR
    have hc := inner now hn hv ((n + 1 : Nat) : Int) many (q : Int) L R (by omega) (by omega) (fun still lf rt g1 g2 g3 => by
      rw [w_succ (by omega), show wrap64 (((n + 1 : Nat) : Int) - 1) = (n : Int) from by rw [w64 (by omega) (by omega)]; omega]
      exact ih (q + 1) still _ _ (by omega) g1 g2 g3 (by rw [List.length_append, hL]; rfl) (by rw [List.length_append, hR]; rfl)) now.length 0 [] 0 0 (by omega) (by simp) (by simp) (by simpa using hp)
    obtain ⟨r, hr, e1, e2⟩ := hc
    exact ⟨r, hr, Ev.step (fun k => spec_MixVoices.l1.eq_2 _ _ _ _ k) (Ev.pos (by omega) e1), Ev.step (fun k => impl_MixVoices.l0.eq_2 _ _ _ _ _ k) (Ev.pos (by omega) e2)⟩
theorem copy_spec (l : List Vc) (many : Int) (hl : l.length ≤ 8) (hs : ∀ z ∈ l, z.f0.length ≤ 200) {r : RS} (hE : Ev (fun k => spec_MixVoices.l1 k many l [] []) r) : Ev (fun k => spec_MixVoices.l0 k many [] l (l.length : Int) 0) r := by
  have key : ∀ m i : Nat, i + m = l.length → Ev (fun k => spec_MixVoices.l0 k many (l.take i) l (l.length : Int) (i : Int)) r := by
    intro m
    induction m with
    | zero =>
      intro i hi
      refine Ev.step (fun k => spec_MixVoices.l0.eq_2 _ _ _ _ _ k) (Ev.neg (by omega) ?_)
      rw [List.take_of_length_le (by omega)]
      exact hE
    | succ m ih =>
      intro i hi
      have hi' : i < l.length := by omega
      have hz := hs _ (List.getElem_mem hi')
      rw [← rV_get hi'] at hz
      refine Ev.step (fun k => spec_MixVoices.l0.eq_2 _ _ _ _ _ k) (Ev.pos (by omega) (Ev.pos (by omega) (Ev.pos (by omega) (Ev.const_bind (own_spec _ _ _ _ _ _ hz) (Ev.pos (by rw [List.length_take]; omega) ?_)))))
      rw [w_succ (by omega)]
      have e : l.take i ++ [(⟨(rd_T32 l (i : Int)).f0, (rd_T32 l (i : Int)).f1, (rd_T32 l (i : Int)).f2, (rd_T32 l (i : Int)).f3, (rd_T32 l (i : Int)).f4, (rd_T32 l (i : Int)).f5⟩ : Vc)] = l.take (i + 1) := take_next hi'
      rw [e]
      exact ih (i + 1) (by omega)
  exact key l.length 0 (by omega)
def RsOk (r : RS) : Prop := (r.1.length ≤ 200 ∧ r.2.1.length ≤ 200) ∧ (r.2.2.1.length ≤ 8 ∧ ∀ z ∈ r.2.2.1, z.f0.length ≤ 200)
theorem both (l : List Vc) (many : Int) (hl : l.length ≤ maxLen) (hs : ∀ z ∈ l, z.f0.length ≤ maxLen) : Both RsOk (fun k => spec_MixVoices.f k l many) (fun k => impl_MixVoices.f k l many) := by
  suffices h : Two (fun k => spec_MixVoices.f k l many) (fun k => impl_MixVoices.fg k l many) by
    obtain ⟨r, ⟨h1, ⟨h2, h3⟩, h4⟩, e1, e2⟩ := h
    refine ⟨unt r, ⟨h1, by show (r.2.2.1.map G32.s).length ≤ 8; rw [List.length_map]; exact h2, fun z hz => ?_⟩, e1, Ev.bind e2 (Ev.pos h4 (Ev.now _))⟩
    obtain ⟨y, hy, rfl⟩ := List.mem_map.1 (show z ∈ r.2.2.1.map G32.s from hz)
    exact h3 y hy
  have no : ROk ([], [], [], false) := ⟨⟨by simp, by simp⟩, ⟨by simp, by simp⟩, by simp⟩
  have c1 := voices_spec l hl hs
  have c2 := voices_impl l hl hs
  have sT : Ev (fun k => spec_MixVoices.j0 k l many true) (unt ([], [], [], false)) := Ev.step (fun k => spec_MixVoices.j0.eq_2 _ _ _ k) (Ev.pos rfl (Ev.now _))
  have iT : Ev (fun k => impl_MixVoices.j0 k l many true) ([], [], [], false) := Ev.step (fun k => impl_MixVoices.j0.eq_2 _ _ _ k) (Ev.pos rfl (Ev.now _))
  unfold spec_MixVoices.f impl_MixVoices.fg
  cases hv : voicesOk l with
  | false => rw [hv] at c1 c2; exact ⟨_, no, Ev.bind c1 (Ev.neg (by decide) sT), Ev.bind c2 (Ev.neg (by decide) iT)⟩
  | true =>
    rw [hv] at c1 c2
    have dT : spec_l1In.f many 0 200 = impl_inRange.f many 0 200 := by rw [in_spec, in_impl]
    by_cases hm : 0 ≤ many ∧ many ≤ 200
    · have d2 : impl_inRange.f many 0 200 = some true := by rw [in_impl, decide_eq_true hm.1, decide_eq_true hm.2]; rfl
      obtain ⟨l8, ls⟩ := voices_yes hv
      have lv : ∀ z ∈ l, vok z = true := by
        simp only [voicesOk, Bool.and_eq_true, decide_eq_true_eq, List.all_eq_true] at hv
        exact hv.2
      obtain ⟨n, rfl⟩ := Int.eq_ofNat_of_zero_le hm.1
      obtain ⟨r, hr, e1, e2⟩ := outer (n : Int) hm.2 n 0 (tagL l) [] [] (by omega) (by simpa [tagL] using l8) (tag_v lv) (tag_g l) rfl rfl
      rw [tag_s] at e1
      exact ⟨r, hr, Ev.bind c1 (Ev.pos rfl (Ev.const_bind (dT.trans d2) (Ev.step (fun k => spec_MixVoices.j0.eq_2 _ _ _ k) (Ev.neg (by decide) (copy_spec l _ l8 ls e1))))), Ev.bind c2 (Ev.pos rfl (Ev.const_bind d2 (Ev.step (fun k => impl_MixVoices.j0.eq_2 _ _ _ k) (Ev.neg (by decide) (Ev.bind (copy_impl l l8 ls) e2)))))⟩
    · have d2 : impl_inRange.f many 0 200 = some false := by
        rw [in_impl]
        congr 1
        by_cases h0 : 0 ≤ many
        · rw [decide_eq_false (show ¬ many ≤ 200 from fun h => hm ⟨h0, h⟩), Bool.and_false]
        · rw [decide_eq_false h0]; rfl
      exact ⟨_, no, Ev.bind c1 (Ev.pos rfl (Ev.const_bind (dT.trans d2) sT)), Ev.bind c2 (Ev.pos rfl (Ev.const_bind d2 iT))⟩
theorem FnExactMixVoices : laws_FnExactMixVoices.Pure := by
  intro l many ⟨hl, hs⟩ _
  have hs' : ∀ z ∈ l, z.f0.length ≤ maxLen := fun z hz => (hs z hz).1.1
  refine Ev.rounds (r := true) ?_
  unfold laws_FnExactMixVoices.f
  obtain ⟨t, t1, t2, he⟩ := sz_voices l hl hs' (a := 1048576) (by omega) (by omega)
  refine Ev.bind he (Ev.ite (fun _ => Ev.now _) (fun h => ?_))
  obtain ⟨n1, n2⟩ := t2 h
  have tk := to_voices l n1 n2
  have x1 : ((l.map asVoice).length : Int) ≤ 1048576 := by rw [List.length_map]; exact n1
  have x2 : ∀ z ∈ l.map asVoice, (z.f0.length : Int) ≤ 1048576 := by
    intro z hz
    obtain ⟨y, hy, rfl⟩ := List.mem_map.1 hz
    exact n2 y hy
  generalize l.map asVoice = X at tk x1 x2
  obtain ⟨⟨ra, rb, r0, r2⟩, ⟨⟨qa, qb⟩, q1, q2⟩, s1, s2⟩ := both X many (by rw [maxLen_eq]; omega) (fun z hz => by have := x2 z hz; rw [maxLen_eq]; omega)
  have qa : ra.length ≤ 200 := qa
  have qb : rb.length ≤ 200 := qb
  have q1 : r0.length ≤ 8 := q1
  have q3 : ∀ z ∈ r0, (z.f0.length : Int) ≤ 1048576 := fun z hz => by have : z.f0.length ≤ 200 := q2 z hz; omega
  have hq := eq_voices r0 (by omega) q3
  have hh : Ev (fun k => laws_eqHeard.f k ra rb ra rb) true := Ev.bind (eq_ints ra (by omega)) (Ev.pos rfl (Ev.bind (eq_ints rb (by omega)) (Ev.pos rfl (Ev.now _))))
  have m1 := mark_voices X 1 (by omega) (by omega) x2
  have v1 := vtot_range (X.map fun z => z.f0.length) 1 (by intro n hn; obtain ⟨y, hy, rfl⟩ := List.mem_map.1 hn; exact x2 y hy)
  rw [List.length_map] at v1
  generalize vtot (X.map fun z => z.f0.length) 1 = c at m1 v1
  have m2 : Ev (fun k => laws_markHeard.f k ra rb 1) (1 + (ra.length : Int) + (rb.length : Int), marks ra.length 1, marks rb.length (1 + (ra.length : Int))) :=
    Ev.bind (markInt_ev laws_markIntS.l0 (fun k x c i => laws_markIntS.l0.eq_2 x c i k) 1 (by omega) ra (by omega)) (Ev.bind (markInt_ev laws_markIntS.l0 (fun k x c i => laws_markIntS.l0.eq_2 x c i k) (1 + (ra.length : Int)) (by omega) rb (by omega)) (Ev.now _))
  have hd1 := heldInt_ev laws_heldIntS.l0 (fun k x c i => laws_heldIntS.l0.eq_2 x c i k) ra.length 1 (by omega) (by omega)
  have hd2 := heldInt_ev laws_heldIntS.l0 (fun k x c i => laws_heldIntS.l0.eq_2 x c i k) rb.length (1 + (ra.length : Int)) (by omega) (by omega)
  have m5 : Ev (fun k => laws_heldHeard.f k (marks ra.length 1) (marks rb.length (1 + (ra.length : Int))) 1) (1 + (ra.length : Int) + (rb.length : Int)) :=
    Ev.bind hd1 (Ev.neg (by omega) (Ev.bind hd2 (Ev.neg (by omega) (Ev.now _))))
  have q4 : ∀ n ∈ List.map (fun z : Vc => z.f0.length) r0, ((n : Nat) : Int) ≤ 1048576 := by intro n hn; obtain ⟨y, hy, rfl⟩ := List.mem_map.1 hn; exact q3 y hy
  obtain ⟨p, hp⟩ : ∃ p : Int, p = 1 + (ra.length : Int) + (rb.length : Int) := ⟨_, rfl⟩
  rw [← hp] at m2 m5
  have m3 := mark_voices r0 p (by omega) (by omega) q3
  have v3 := vtot_range (r0.map fun z => z.f0.length) p q4
  have m4 : Ev (fun k => laws_heldVoiceS.f k (vmarks (r0.map fun z => z.f0.length) p) p) (vtot (r0.map fun z => z.f0.length) p) := held_voices (r0.map fun z : Vc => z.f0.length) p ([] : List Vc) (by omega) (by rw [List.length_map]; omega) q4 (by simp; omega)
  generalize vtot (r0.map fun z => z.f0.length) p = d at m3 m4 v3
  generalize vmarks (r0.map fun z => z.f0.length) p = zs at m3 m4
  exact Ev.bind tk (Ev.bind s1 (Ev.bind tk (Ev.bind s2 (Ev.bind hh (Ev.pos rfl (Ev.bind hq (Ev.pos rfl (Ev.pos rfl (Ev.bind tk (Ev.bind (eq_voices X x1 x2) (Ev.pos rfl (Ev.bind m1 (Ev.pos (by show ¬ c < 0; omega) (Ev.bind hh (Ev.pos rfl (Ev.bind hq (Ev.pos rfl (Ev.pos rfl (Ev.bind m2 (Ev.bind m3 (Ev.bind m5 (Ev.pos (by omega) (Ev.bind m4 (Ev.pos (by omega) (Ev.pos rfl (Ev.bind tk (Ev.bind s2 (Ev.bind hh (Ev.pos rfl (Ev.bind hq (Ev.pos rfl (Ev.pos rfl (Ev.bind m5 (Ev.pos (by omega) (Ev.bind m4 (Ev.pos (by omega) (Ev.pos rfl (Ev.now _))))))))))))))))))))))))))))))))))))))

end Go.Proofs.Ytbnbgmpkemlfbaa.Pure
