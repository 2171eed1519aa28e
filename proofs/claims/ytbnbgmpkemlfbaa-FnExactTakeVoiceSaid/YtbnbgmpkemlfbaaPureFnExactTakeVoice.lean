/- TakeVoice: the pure statement of the law: the program's voices are the reference's, for all voices and every new one. -/
import Derived.Test.YtbnbgmpkemlfbaaXFnExactTakeVoicex7
import Derived.Test.YtbnbgmpkemlfbaaXLibTakeVoice
namespace Go.Proofs.Ytbnbgmpkemlfbaa.Pure
open Go.RowKit Go.Proofs.Ytbnbgmpkemlfbaa.XFnExactTakeVoice Go.Proofs.YtbnbgmpkemlfbaaW.PrintWords Go.Proofs.YtbnbgmpkemlfbaaW.PrintLast Go.Proofs.YtbnbgmpkemlfbaaW.PrintMore Go.Proofs.Ytbnbgmpkemlfbaa.X
set_option linter.unusedVariables false
set_option linter.unusedSimpArgs false

theorem in_spec (a b c : Int) : spec_l1In.f a b c = some (decide (b ≤ a) && decide (a ≤ c)) := by
  unfold spec_l1In.f
  by_cases h : b ≤ a <;> simp [h]
theorem in_impl (a b c : Int) : impl_inRange.f a b c = some (decide (b ≤ a) && decide (a ≤ c)) := by
  unfold impl_inRange.f
  by_cases h : b ≤ a <;> simp [h]
theorem sz_ints (l : List Int) {a : Int} (h0 : 0 ≤ a) (h1 : a ≤ 1048576) (hl : l.length ≤ maxLen) : laws_szIntS.f l a = some (roomLeft l.length a) := sz_left h0 h1 hl
theorem to_ints (l : List Int) (hl : (l.length : Int) ≤ 1048576) : Ev (fun k => laws_toIntS.f k l) l := by
  have h := toS_ev (0 : Int) (id : Int → Int) 0 laws_toIntS.l0 (fun k x y i => laws_toIntS.l0.eq_2 x y i k) l (by omega)
  rw [List.map_id] at h
  exact Ev.pos (by omega) (Ev.pos (by omega) h)
theorem eq_ints (l : List Int) (hl : (l.length : Int) ≤ 1048576) : Ev (fun k => laws_eqIntS.f k l l) true :=
  eqInt_ev laws_eqIntS.l0 (fun k x y i => laws_eqIntS.l0.eq_2 x y i k) l (by rw [maxLen_eq]; omega)
/-! voices -/
def voiceOk (l : List Int) (a1 : Int) (a3 a4 a5 : Int) : Bool :=
  (decide (1 ≤ l.length) && decide (l.length ≤ 200)) && ((l.all fun n => decide (-32767 ≤ n) && decide (n ≤ 32767)) && ((decide (0 ≤ a1) && decide (a1 ≤ (l.length : Int) - 1)) && ((decide (0 ≤ a3) && decide (a3 ≤ 65536)) && ((decide (0 ≤ a4) && decide (a4 ≤ 65536)) && (decide (0 ≤ a5) && decide (a5 ≤ 100))))))
theorem voice_spec (l : List Int) (a1 : Int) (a2 : Bool) (a3 a4 a5 : Int) (hl : l.length ≤ maxLen) : Ev (fun k => spec_GoodVoice.f k l a1 a2 a3 a4 a5) (voiceOk l a1 a3 a4 a5) := by
  have h0 := all_ev (0 : Int) (fun n => decide (-32767 ≤ n) && decide (n ≤ 32767)) spec_GoodVoice.l0 (fun k x n i => by rw [spec_GoodVoice.l0]; simp only [in_spec, Option.bind_some]; rfl) l hl
  have hj : ∀ z, Ev (fun k => spec_GoodVoice.j0 k z l a1 a2 a3 a4 a5) (!z && l.all fun n => decide (-32767 ≤ n) && decide (n ≤ 32767)) := fun z =>
    Ev.step (fun k => spec_GoodVoice.j0.eq_2 _ _ _ _ _ _ _ k) (Ev.andn (fun _ => h0))
  rw [maxLen_eq] at hl
  unfold spec_GoodVoice.f voiceOk
  simp only [in_spec, Option.bind_some]
  refine Ev.ite (fun h => Ev.cast (hj true) ?_) (fun h => Ev.ite (fun h2 => Ev.cast (hj true) ?_) (fun h2 => ?_))
  · rw [decide_eq_false (show ¬ 1 ≤ l.length by omega)]; rfl
  · rw [decide_eq_false (show ¬ l.length ≤ 200 by omega), Bool.and_false]; rfl
  · rw [decide_eq_true (show 1 ≤ l.length by omega), decide_eq_true (show l.length ≤ 200 by omega), w_pred (i := l.length) (by omega)]
    cases h1 : (decide (0 ≤ a1) && decide (a1 ≤ (l.length : Int) - 1)) with
    | false => exact Ev.neg (by decide) (Ev.cast (hj true) (by simp))
    | true =>
      cases h3 : (decide (0 ≤ a3) && decide (a3 ≤ 65536)) with
      | false => exact Ev.pos rfl (Ev.neg (by decide) (Ev.cast (hj true) (by simp)))
      | true =>
        cases h4 : (decide (0 ≤ a4) && decide (a4 ≤ 65536)) with
        | false => exact Ev.pos rfl (Ev.pos rfl (Ev.neg (by decide) (Ev.cast (hj true) (by simp))))
        | true => exact Ev.pos rfl (Ev.pos rfl (Ev.pos rfl (Ev.cast (hj _) (by simp [Bool.and_comm]))))
theorem voice_impl (l : List Int) (a1 : Int) (a2 : Bool) (a3 a4 a5 : Int) (hl : l.length ≤ maxLen) : Ev (fun k => impl_GoodVoice.f k l a1 a2 a3 a4 a5) (voiceOk l a1 a3 a4 a5) := by
  have h := contains_ev (0 : Int) (fun _ z => impl_GoodVoice_1.f z) (fun n => !(decide (-32767 ≤ n) && decide (n ≤ 32767))) slices_IndexFunc_int_int_at_impl_GoodVoice_1.l0 (fun k x n i => slices_IndexFunc_int_int_at_impl_GoodVoice_1.l0.eq_2 x n i k) l hl (fun z _ => Ev.mk (fun _ => by unfold impl_GoodVoice_1.f; rw [in_impl]; rfl))
  rw [maxLen_eq] at hl
  unfold impl_GoodVoice.f voiceOk slices_ContainsFunc_int_int_at_impl_GoodVoice_1.f slices_IndexFunc_int_int_at_impl_GoodVoice_1.f
  simp only [in_impl, Option.bind_some]
  have e : (decide (1 ≤ (l.length : Int)) && decide ((l.length : Int) ≤ 200)) = (decide (1 ≤ l.length) && decide (l.length ≤ 200)) := by congr 1 <;> exact decide_eq_decide.2 (by omega)
  rw [e]
  refine Ev.and (fun _ => Ev.bind h (Ev.cast (Ev.andn (fun _ => Ev.and (fun _ => Ev.and (fun _ => Ev.and (fun _ => Ev.now _))))) ?_))
  rw [any_not, w_pred (i := l.length) (by omega)]
/-! lists of voices -/
abbrev Vc := S32
abbrev rV (l : List Vc) (i : Int) : Vc := rd_T32 l i
theorem rV_get {L : List Vc} {i : Nat} (h : i < L.length) : rV L (i : Int) = L[i] := rdOf_get (d := z32) h
def vok (z : Vc) : Bool := voiceOk z.f0 z.f1 z.f3 z.f4 z.f5
def voicesOk (l : List Vc) : Bool := decide (l.length ≤ 8) && l.all vok
theorem voices_spec (l : List Vc) (hl : l.length ≤ maxLen) (hs : ∀ z ∈ l, z.f0.length ≤ maxLen) : Ev (fun k => spec_l15Voices.f k l) (voicesOk l) := by
  have h := all_evT z32 (fun k z => spec_GoodVoice.f k z.f0 z.f1 z.f2 z.f3 z.f4 z.f5) vok spec_l15Voices.l0 (fun k x n i => spec_l15Voices.l0.eq_2 x n i k) l hl (fun z hz => voice_spec z.f0 z.f1 z.f2 z.f3 z.f4 z.f5 (hs z hz))
  unfold spec_l15Voices.f voicesOk
  refine Ev.ite (fun h8 => Ev.cast (Ev.now _) ?_) (fun h8 => Ev.cast h ?_)
  · rw [decide_eq_false (show ¬ l.length ≤ 8 by omega)]; rfl
  · rw [decide_eq_true (show l.length ≤ 8 by omega)]; rfl
theorem voices_impl (l : List Vc) (hl : l.length ≤ maxLen) (hs : ∀ z ∈ l, z.f0.length ≤ maxLen) : Ev (fun k => impl_areVoices.f k l) (voicesOk l) := by
  have h := contains_ev z32 (fun k z => impl_areVoices_1.f k z.f0 z.f1 z.f2 z.f3 z.f4 z.f5) (fun z => !vok z) slices_IndexFunc_impl_Voice_impl_Voice_at_impl_areVoices_1.l0 (fun k x n i => slices_IndexFunc_impl_Voice_impl_Voice_at_impl_areVoices_1.l0.eq_2 x n i k) l hl (fun z hz => Ev.bind (voice_impl z.f0 z.f1 z.f2 z.f3 z.f4 z.f5 (hs z hz)) (Ev.now _))
  unfold impl_areVoices.f voicesOk slices_ContainsFunc_impl_Voice_impl_Voice_at_impl_areVoices_1.f slices_IndexFunc_impl_Voice_impl_Voice_at_impl_areVoices_1.f
  refine Ev.ite (fun h8 => Ev.cast (Ev.bind h (Ev.now _)) ?_) (fun h8 => Ev.cast (Ev.now _) ?_)
  · rw [any_not, decide_eq_true (show l.length ≤ 8 by omega)]; rfl
  · rw [decide_eq_false (show ¬ l.length ≤ 8 by omega)]; rfl
theorem voices_yes {l : List Vc} (h : voicesOk l = true) : l.length ≤ 8 ∧ ∀ z ∈ l, z.f0.length ≤ 200 := by
  simp only [voicesOk, Bool.and_eq_true, decide_eq_true_eq, List.all_eq_true] at h
  refine ⟨h.1, fun z hz => ?_⟩
  have := h.2 z hz
  simp only [vok, voiceOk, Bool.and_eq_true, decide_eq_true_eq] at this
  exact this.1.2
/-! voices in the law -/
theorem sz_voice (l : List Int) (a1 : Int) (a2 : Bool) (a3 a4 a5 : Int) (hl : l.length ≤ maxLen) {a : Int} (h0 : 0 ≤ a) (h1 : a ≤ 1048576) : ∃ t, t ≤ 1048576 ∧ (¬ t < 0 → (l.length : Int) ≤ 1048576) ∧ laws_szVoice.f l a1 a2 a3 a4 a5 a = some t := by
  unfold laws_szVoice.f
  rw [sz_ints l h0 h1 hl, Option.bind_some, room_again]
  exact ⟨_, roomLeft_le h1, fun h => by have := (roomLeft_ok h).1; omega, rfl⟩
theorem sz_voices (l : List S25) (hl : l.length ≤ maxLen) (hs : ∀ z ∈ l, z.f0.length ≤ maxLen) {a : Int} (h0 : 0 ≤ a) (h1 : a ≤ 1048576) : ∃ t, t ≤ 1048576 ∧ (¬ t < 0 → (l.length : Int) ≤ 1048576 ∧ ∀ z ∈ l, (z.f0.length : Int) ≤ 1048576) ∧ Ev (fun k => laws_szVoiceS.f k l a) t := by
  unfold laws_szVoiceS.f
  have e := sz_left (n := l.length) h0 h1 hl
  rw [maxLen_eq] at hl
  by_cases hn : wrap64 (a - (l.length : Int)) < 0
  · exact ⟨-1, by omega, by omega, Ev.pos hn (Ev.now _)⟩
  · rw [if_neg hn] at e
    have e := Option.some.inj e
    rw [e] at hn ⊢
    have hr := (roomLeft_ok hn).1
    obtain ⟨t, ht, hts, he⟩ := sizesP_ev (fun z : S25 => (z.f0.length : Int) ≤ 1048576) z25 (fun _ z r => laws_szVoice.f z.f0 z.f1 z.f2 z.f3 z.f4 z.f5 r) laws_szVoiceS.l0 (fun k x r i => laws_szVoiceS.l0.eq_2 x r i k) l (by omega)
      (fun z hz r h0 h1 => by
        obtain ⟨u, u1, u2, u3⟩ := sz_voice z.f0 z.f1 z.f2 z.f3 z.f4 z.f5 (hs z hz) h0 h1
        exact ⟨u, u1, u2, Ev.mk fun _ => u3⟩) (roomLeft l.length a) (by omega) (roomLeft_le h1)
    exact ⟨t, ht, fun h => ⟨by omega, hts h⟩, Ev.neg hn he⟩
def asVoice (b : S25) : Vc := ⟨b.f0, b.f1, b.f2, b.f3, b.f4, b.f5⟩
theorem to_voice (l : List Int) (a1 : Int) (a2 : Bool) (a3 a4 a5 : Int) (hl : (l.length : Int) ≤ 1048576) : Ev (fun k => laws_toVoice.f k l a1 a2 a3 a4 a5) (l, a1, a2, a3, a4, a5) := Ev.bind (to_ints l hl) (Ev.now _)
theorem to_voices (l : List S25) (hl : (l.length : Int) ≤ 1048576) (hs : ∀ z ∈ l, (z.f0.length : Int) ≤ 1048576) : Ev (fun k => laws_toVoiceS.f k l) (l.map asVoice) := by
  have ht := toK_ev z32 asVoice z25 (fun k z => (laws_toVoice.f k z.f0 z.f1 z.f2 z.f3 z.f4 z.f5).bind fun t => some (⟨t.1, t.2.1, t.2.2.1, t.2.2.2.1, t.2.2.2.2.1, t.2.2.2.2.2⟩ : Vc)) laws_toVoiceS.l0 (fun k x y i => by
      rw [laws_toVoiceS.l0]
      split
      · split
        · simp only [Option.bind_assoc, Option.bind_some]; rfl
        · rfl
      · rfl) l (by omega) (fun z hz => Ev.bind (to_voice z.f0 z.f1 z.f2 z.f3 z.f4 z.f5 (hs z hz)) (Ev.now _))
  unfold laws_toVoiceS.f
  exact Ev.pos (by omega) (Ev.pos (by omega) ht)
theorem eq_voice (l : List Int) (a1 : Int) (a2 : Bool) (a3 a4 a5 : Int) (hl : (l.length : Int) ≤ 1048576) : Ev (fun k => laws_eqVoice.f k l a1 a2 a3 a4 a5 l a1 a2 a3 a4 a5) true :=
  Ev.bind (eq_ints l hl) (Ev.pos rfl (Ev.pos rfl (Ev.neg (by simp) (Ev.pos rfl (Ev.pos rfl (Ev.pos rfl (Ev.now _)))))))
theorem eq_voices (l : List Vc) (hl : (l.length : Int) ≤ 1048576) (hs : ∀ z ∈ l, (z.f0.length : Int) ≤ 1048576) : Ev (fun k => laws_eqVoiceS.f k l l) true := by
  unfold laws_eqVoiceS.f
  exact eqK_ev z32 (fun k a b => laws_eqVoice.f k a.f0 a.f1 a.f2 a.f3 a.f4 a.f5 b.f0 b.f1 b.f2 b.f3 b.f4 b.f5) laws_eqVoiceS.l0 (fun k x y i => laws_eqVoiceS.l0.eq_2 x y i k) l (by rw [maxLen_eq]; omega) (fun a ha => eq_voice a.f0 a.f1 a.f2 a.f3 a.f4 a.f5 (hs a ha))
def vmark (n : Nat) (x : Int) : Vc := ⟨marks n x, x + n, Int.tmod (x + n + 1) 3 == 0, x + n + 2, x + n + 3, x + n + 4⟩
def vmarks : List Nat → Int → List Vc
  | [], _ => []
  | n :: ns, x => vmark n x :: vmarks ns (x + n + 5)
def vtot : List Nat → Int → Int
  | [], x => x
  | n :: ns, x => vtot ns (x + n + 5)
theorem vtot_range : ∀ (ns : List Nat) (x : Int), (∀ n ∈ ns, (n : Int) ≤ 1048576) → x ≤ vtot ns x ∧ vtot ns x ≤ x + (ns.length : Int) * 4194304
  | [], x, _ => by simp [vtot]
  | n :: ns, x, h => by
    have h1 := vtot_range ns (x + n + 5) (fun z hz => h z (List.mem_cons_of_mem _ hz))
    have h2 := h n List.mem_cons_self
    rw [vtot, List.length_cons]
    omega
theorem mark_voices : ∀ (l : List Vc) (c : Int), 1 ≤ c → c + (l.length : Int) * 4194304 ≤ 4611686018427387000 → (∀ z ∈ l, (z.f0.length : Int) ≤ 1048576) → Ev (fun k => laws_markVoiceS.f k l c) (vtot (l.map fun z => z.f0.length) c, vmarks (l.map fun z => z.f0.length) c)
  | [], c, _, _, _ => Ev.now _
  | e :: l, c, h1, h2, h => by
    rw [List.length_cons] at h2
    have he := h e List.mem_cons_self
    have hm : Ev (fun k => laws_markIntS.f k e.f0 c) (c + (e.f0.length : Int), marks e.f0.length c) := markInt_ev laws_markIntS.l0 (fun k x c i => laws_markIntS.l0.eq_2 x c i k) c h1 e.f0 (by omega)
    have ih := mark_voices l (c + e.f0.length + 5) (by omega) (by omega) (fun z hz => h z (List.mem_cons_of_mem _ hz))
    have h1 : Ev (fun k => laws_markVoiceS.one k e c) (c + e.f0.length + 5, vmark e.f0.length c) := by
      refine Ev.bind hm (Ev.cast (Ev.now _) ?_)
      rw [w64 (n := c + e.f0.length + 1) (by omega) (by omega), w64 (n := c + e.f0.length + 1 + 1) (by omega) (by omega), w64 (n := c + e.f0.length + 1 + 1 + 1) (by omega) (by omega), w64 (n := c + e.f0.length + 1 + 1 + 1 + 1) (by omega) (by omega), w64 (n := c + e.f0.length + 1 + 1 + 1 + 1 + 1) (by omega) (by omega)]
      rw [show c + (e.f0.length : Int) + 1 + 1 = c + e.f0.length + 2 by omega, show c + (e.f0.length : Int) + 2 + 1 = c + e.f0.length + 3 by omega, show c + (e.f0.length : Int) + 3 + 1 = c + e.f0.length + 4 by omega, show c + (e.f0.length : Int) + 4 + 1 = c + e.f0.length + 5 by omega]
      rfl
    exact Ev.bind h1 (Ev.bind ih (Ev.now _))
theorem held_voices (ns : List Nat) : ∀ (c : Int) (pre : List Vc), 1 ≤ c → c + (ns.length : Int) * 4194304 ≤ 4611686018427387000 → (∀ n ∈ ns, (n : Int) ≤ 1048576) → (pre.length : Int) + ns.length ≤ 4611686018427387000 → Ev (fun k => laws_heldVoiceS.l0 k (pre ++ vmarks ns c) c (pre.length : Int)) (vtot ns c) := by
  induction ns with
  | nil => exact fun c pre _ _ _ hp => Ev.step (fun k => laws_heldVoiceS.l0.eq_2 _ _ _ k) (Ev.neg (by simp [vmarks]) (Ev.now _))
  | cons n ns ih =>
    intro c pre h1 h2 h hp
    rw [List.length_cons] at h2 hp
    have hn := h n List.mem_cons_self
    have hl : (pre ++ vmarks (n :: ns) c).length = pre.length + ((vmarks ns (c + n + 5)).length + 1) := by simp [vmarks]
    have er : rd_T32 (pre ++ vmarks (n :: ns) c) (pre.length : Int) = vmark n c := by
      unfold rd_T32
      rw [Int.toNat_natCast, List.getD_eq_getElem?_getD, List.getElem?_append_right (Nat.le_refl _), Nat.sub_self]
      rfl
    have ih := ih (c + n + 5) (pre ++ [vmark n c]) (by omega) (by omega) (fun z hz => h z (List.mem_cons_of_mem _ hz)) (by simp; omega)
    rw [List.append_assoc, List.length_append, List.length_singleton] at ih
    have hh : Ev (fun k => laws_heldIntS.f k (marks n c) c) (c + (n : Int)) := heldInt_ev laws_heldIntS.l0 (fun k x c i => laws_heldIntS.l0.eq_2 x c i k) n c h1 (by omega)
    refine Ev.step (fun k => laws_heldVoiceS.l0.eq_2 _ _ _ k) (Ev.pos (by rw [hl]; omega) (Ev.pos (by omega) ?_))
    rw [er]
    refine Ev.bind hh (Ev.neg (by omega) (Ev.pos rfl ?_))
    rw [w64 (n := c + n + 1) (by omega) (by omega), w64 (n := c + n + 1 + 1) (by omega) (by omega), w64 (n := c + n + 1 + 1 + 1) (by omega) (by omega), w64 (n := c + n + 1 + 1 + 1 + 1) (by omega) (by omega), w64 (n := c + n + 1 + 1 + 1 + 1 + 1) (by omega) (by omega), w_succ (by omega), show c + (n : Int) + 1 + 1 + 1 + 1 + 1 = c + n + 5 by omega]
    exact Ev.neg (by simp [vmark]) (Ev.pos (by show c + n + 2 = _; omega) (Ev.pos (by show c + n + 3 = _; omega) (Ev.pos (by show c + n + 4 = _; omega) ih)))
theorem held_voiceS (ns : List Nat) (hl : (ns.length : Int) ≤ 1048576) (hs : ∀ n ∈ ns, (n : Int) ≤ 1048576) : Ev (fun k => laws_heldVoiceS.f k (vmarks ns 1) 1) (vtot ns 1) := held_voices ns 1 [] (by omega) (by omega) hs (by simp; omega)
theorem own_spec (l : List Int) (a1 : Int) (a2 : Bool) (a3 a4 a5 : Int) (hl : l.length ≤ 200) : spec_l15Own.f l a1 a2 a3 a4 a5 = some (l, a1, a2, a3, a4, a5) := by
  unfold spec_l15Own.f
  rw [Option.bind_some, if_pos (by simp; omega), List.nil_append]
theorem clone_impl (l : List Int) (hl : l.length ≤ 200) : slices_Clone_int_int.f l = some l := by
  unfold slices_Clone_int_int.f
  rw [Option.bind_some, if_pos (by simp; omega), List.nil_append]
theorem take_next {l : List Vc} {i : Nat} (h : i < l.length) : l.take i ++ [rV l (i : Int)] = l.take (i + 1) := by rw [rV_get h, List.take_succ_eq_append_getElem h]
theorem copy_impl (l : List Vc) (hl : l.length ≤ 8) (hs : ∀ z ∈ l, z.f0.length ≤ 200) : Ev (fun k => impl_copyVoices.f k l) l := by
  have key : ∀ m i : Nat, i + m = l.length → Ev (fun k => impl_copyVoices.l0 k (l.take i) l (l.length : Int) (i : Int)) l := by
    intro m
    induction m with
    | zero => exact fun i hi => Ev.step (fun k => impl_copyVoices.l0.eq_2 _ _ _ _ k) (Ev.neg (by omega) (Ev.cast (Ev.now _) (by rw [List.take_of_length_le (by omega)])))
    | succ m ih =>
      intro i hi
      have hi' : i < l.length := by omega
      have hz := hs _ (List.getElem_mem hi')
      rw [← rV_get hi'] at hz
      refine Ev.step (fun k => impl_copyVoices.l0.eq_2 _ _ _ _ k) (Ev.pos (by omega) (Ev.pos (by omega) (Ev.pos (by omega) (Ev.const_bind (clone_impl _ hz) (Ev.pos (by rw [List.length_take]; omega) ?_)))))
      rw [w_succ (by omega)]
      have e : l.take i ++ [(⟨(rd_T32 l (i : Int)).f0, (rd_T32 l (i : Int)).f1, (rd_T32 l (i : Int)).f2, (rd_T32 l (i : Int)).f3, (rd_T32 l (i : Int)).f4, (rd_T32 l (i : Int)).f5⟩ : Vc)] = l.take (i + 1) := take_next hi'
      rw [e]
      exact ih (i + 1) (by omega)
  exact key l.length 0 (by omega)
theorem copy_spec (l : List Vc) (hl : l.length ≤ 8) (hs : ∀ z ∈ l, z.f0.length ≤ 200) (s : List Int) (a1 : Int) (a2 : Bool) (a3 a4 a5 : Int) {r : List Vc × Int × Bool}
    (hE : Ev (fun k => if (l.length : Int) < 8 then ((spec_l15Own.f s a1 a2 a3 a4 a5).bind fun bt => (if l.length < 2199023255552 then (some ((l ++ [(⟨bt.1, bt.2.1, bt.2.2.1, bt.2.2.2.1, bt.2.2.2.2.1, bt.2.2.2.2.2⟩ : Vc)]), (-1), true)) else (none))) else (spec_TakeVoice.l1 k l 0 l (l.length : Int) 0 s a1 a2 a3 a4 a5)) r) :
    Ev (fun k => spec_TakeVoice.l0 k [] l (l.length : Int) 0 s a1 a2 a3 a4 a5) r := by
  have key : ∀ m i : Nat, i + m = l.length → Ev (fun k => spec_TakeVoice.l0 k (l.take i) l (l.length : Int) (i : Int) s a1 a2 a3 a4 a5) r := by
    intro m
    induction m with
    | zero =>
      intro i hi
      refine Ev.step (fun k => spec_TakeVoice.l0.eq_2 _ _ _ _ _ _ _ _ _ _ k) (Ev.neg (by omega) ?_)
      rw [List.take_of_length_le (by omega)]
      exact hE
    | succ m ih =>
      intro i hi
      have hi' : i < l.length := by omega
      have hz := hs _ (List.getElem_mem hi')
      rw [← rV_get hi'] at hz
      refine Ev.step (fun k => spec_TakeVoice.l0.eq_2 _ _ _ _ _ _ _ _ _ _ k) (Ev.pos (by omega) (Ev.pos (by omega) (Ev.pos (by omega) (Ev.const_bind (own_spec _ _ _ _ _ _ hz) (Ev.pos (by rw [List.length_take]; omega) ?_)))))
      rw [w_succ (by omega)]
      have e : l.take i ++ [(⟨(rd_T32 l (i : Int)).f0, (rd_T32 l (i : Int)).f1, (rd_T32 l (i : Int)).f2, (rd_T32 l (i : Int)).f3, (rd_T32 l (i : Int)).f4, (rd_T32 l (i : Int)).f5⟩ : Vc)] = l.take (i + 1) := take_next hi'
      rw [e]
      exact ih (i + 1) (by omega)
  exact key l.length 0 (by omega)
def ROk (r : List Vc × Int × Bool) : Prop := r.1.length ≤ 9 ∧ ∀ z ∈ r.1, z.f0.length ≤ 200
theorem find_both (l : List Vc) (hl : l.length ≤ 8) (hs : ∀ z ∈ l, z.f0.length ≤ 200) (s : List Int) (a1 : Int) (a2 : Bool) (a3 a4 a5 : Int) (h2 : s.length ≤ 200) : ∀ (m i q : Nat), i + m = l.length → q < l.length →
    Both ROk (fun k => spec_TakeVoice.l1 k l (q : Int) l (l.length : Int) (i : Int) s a1 a2 a3 a4 a5) (fun k => impl_TakeVoice.l0 k l (q : Int) (l.length : Int) (i : Int) s a1 a2 a3 a4 a5) := by
  intro m
  induction m with
  | zero =>
    intro i q hi hq
    refine Both.step (fun k => spec_TakeVoice.l1.eq_2 _ _ _ _ _ _ _ _ _ _ _ k) (fun k => impl_TakeVoice.l0.eq_2 _ _ _ _ _ _ _ _ _ _ k) (Both.neg (by omega) (by omega) (Both.pos (by omega) (by omega) (Both.pos (by omega) (by omega) (Both.ite (fun _ => Both.now _ ⟨by show l.length ≤ 9; omega, hs⟩) (fun _ => ?_)))))
    refine ⟨_, ?_, Ev.const_bind (own_spec _ _ _ _ _ _ h2) (Ev.now _), Ev.now _⟩
    refine ⟨by show (l.set _ _).length ≤ 9; rw [List.length_set]; omega, fun z hz => ?_⟩
    rcases List.mem_or_eq_of_mem_set hz with h | rfl
    · exact hs z h
    · exact h2
  | succ m ih =>
    intro i q hi hq
    refine Both.step (fun k => spec_TakeVoice.l1.eq_2 _ _ _ _ _ _ _ _ _ _ _ k) (fun k => impl_TakeVoice.l0.eq_2 _ _ _ _ _ _ _ _ _ _ k) (Both.pos (by omega) (by omega) (Both.pos (by omega) (by omega) (Both.pos (by omega) (by omega) (Both.pos (by omega) (by omega) (Both.pos (by omega) (by omega) ?_)))))
    rw [w_succ (by omega)]
    exact Both.ite (fun _ => ih (i + 1) i (by omega) (by omega)) (fun _ => ih (i + 1) q (by omega) hq)
theorem both (l : List Vc) (s : List Int) (a1 : Int) (a2 : Bool) (a3 a4 a5 : Int) (hl : l.length ≤ maxLen) (hs : ∀ z ∈ l, z.f0.length ≤ maxLen) (h2 : s.length ≤ maxLen) : Both ROk (fun k => spec_TakeVoice.f k l s a1 a2 a3 a4 a5) (fun k => impl_TakeVoice.f k l s a1 a2 a3 a4 a5) := by
  have no : ROk ([], 0, false) := ⟨by simp, by simp⟩
  have sT : Ev (fun k => spec_TakeVoice.j0 k l true s a1 a2 a3 a4 a5) ([], 0, false) := Ev.step (fun k => spec_TakeVoice.j0.eq_2 _ _ _ _ _ _ _ _ k) (Ev.pos rfl (Ev.now _))
  have iT : Ev (fun k => impl_TakeVoice.j0 k l true s a1 a2 a3 a4 a5) ([], 0, false) := Ev.step (fun k => impl_TakeVoice.j0.eq_2 _ _ _ _ _ _ _ _ k) (Ev.pos rfl (Ev.now _))
  have c1 := voices_spec l hl hs
  have c2 := voices_impl l hl hs
  have d1 := voice_spec s a1 a2 a3 a4 a5 h2
  have d2 := voice_impl s a1 a2 a3 a4 a5 h2
  unfold spec_TakeVoice.f impl_TakeVoice.f
  cases hv : voicesOk l with
  | false => rw [hv] at c1 c2; exact ⟨_, no, Ev.bind c1 (Ev.neg (by decide) sT), Ev.bind c2 (Ev.neg (by decide) iT)⟩
  | true =>
    rw [hv] at c1 c2
    cases hw : voiceOk s a1 a3 a4 a5 with
    | false => rw [hw] at d1 d2; exact ⟨_, no, Ev.bind c1 (Ev.pos rfl (Ev.bind d1 sT)), Ev.bind c2 (Ev.pos rfl (Ev.bind d2 iT))⟩
    | true =>
      rw [hw] at d1 d2
      obtain ⟨l8, ls⟩ := voices_yes hv
      have s2 : s.length ≤ 200 := by simp only [voiceOk, Bool.and_eq_true, decide_eq_true_eq] at hw; exact hw.1.2
      have S : ∀ {r}, Ev (fun k => if (l.length : Int) < 8 then ((spec_l15Own.f s a1 a2 a3 a4 a5).bind fun bt => (if l.length < 2199023255552 then (some ((l ++ [(⟨bt.1, bt.2.1, bt.2.2.1, bt.2.2.2.1, bt.2.2.2.2.1, bt.2.2.2.2.2⟩ : Vc)]), (-1), true)) else (none))) else (spec_TakeVoice.l1 k l 0 l (l.length : Int) 0 s a1 a2 a3 a4 a5)) r → Ev (fun k => (spec_l15Voices.f k l).bind fun t => if t = true then ((spec_GoodVoice.f k s a1 a2 a3 a4 a5).bind fun t2 => spec_TakeVoice.j0 k l (!t2) s a1 a2 a3 a4 a5) else spec_TakeVoice.j0 k l true s a1 a2 a3 a4 a5) r := fun h =>
        Ev.bind c1 (Ev.pos rfl (Ev.bind d1 (Ev.step (fun k => spec_TakeVoice.j0.eq_2 _ _ _ _ _ _ _ _ k) (Ev.neg (by decide) (copy_spec l l8 ls s a1 a2 a3 a4 a5 h)))))
      have I : ∀ {r}, Ev (fun k => if (l.length : Int) < 8 then (if l.length < 2199023255552 then (some ((l ++ [(⟨s, a1, a2, a3, a4, a5⟩ : Vc)]), (-1), true)) else (none)) else (impl_TakeVoice.l0 k l 0 (l.length : Int) 0 s a1 a2 a3 a4 a5)) r → Ev (fun k => (impl_areVoices.f k l).bind fun t => if t = true then ((impl_GoodVoice.f k s a1 a2 a3 a4 a5).bind fun t2 => impl_TakeVoice.j0 k l (!t2) s a1 a2 a3 a4 a5) else impl_TakeVoice.j0 k l true s a1 a2 a3 a4 a5) r := fun h =>
        Ev.bind c2 (Ev.pos rfl (Ev.bind d2 (Ev.step (fun k => impl_TakeVoice.j0.eq_2 _ _ _ _ _ _ _ _ k) (Ev.neg (by decide) (Ev.bind (copy_impl l l8 ls) (Ev.const_bind (clone_impl s s2) h))))))
      by_cases h8 : (l.length : Int) < 8
      · refine ⟨(l ++ [⟨s, a1, a2, a3, a4, a5⟩], -1, true), ⟨by show (l ++ _).length ≤ 9; simp; omega, fun z hz => ?_⟩, S (Ev.pos h8 (Ev.const_bind (own_spec _ _ _ _ _ _ s2) (Ev.pos (by omega) (Ev.now _)))), I (Ev.pos h8 (Ev.pos (by omega) (Ev.now _)))⟩
        rcases List.mem_append.1 hz with h | h
        · exact ls z h
        · rw [List.mem_singleton] at h; subst h; exact s2
      · obtain ⟨r, hr, h1, h3⟩ := find_both l l8 ls s a1 a2 a3 a4 a5 s2 l.length 0 0 (by omega) (by omega)
        exact ⟨r, hr, S (Ev.neg h8 h1), I (Ev.neg h8 h3)⟩
theorem FnExactTakeVoice : laws_FnExactTakeVoice.Pure := by
  intro l s a1 a2 a3 a4 a5 ⟨hl, hs⟩ ⟨h2, _⟩ _ _ _ _
  have hs' : ∀ z ∈ l, z.f0.length ≤ maxLen := fun z hz => (hs z hz).1.1
  refine Ev.rounds (r := true) ?_
  unfold laws_FnExactTakeVoice.f
  obtain ⟨t, t1, t2, he⟩ := sz_voices l hl hs' (a := 1048576) (by omega) (by omega)
  refine Ev.bind he (Ev.ite (fun _ => Ev.now _) (fun h => ?_))
  obtain ⟨u, u1, u2, hu⟩ := sz_voice s a1 a2 a3 a4 a5 h2 (a := t) (by omega) t1
  refine Ev.const_bind hu (Ev.ite (fun _ => Ev.now _) (fun hh => ?_))
  obtain ⟨n1, n2⟩ := t2 h
  have n3 := u2 hh
  have tk := to_voices l n1 n2
  have ts := to_voice s a1 a2 a3 a4 a5 n3
  have x1 : ((l.map asVoice).length : Int) ≤ 1048576 := by rw [List.length_map]; exact n1
  have x2 : ∀ z ∈ l.map asVoice, (z.f0.length : Int) ≤ 1048576 := by
    intro z hz
    obtain ⟨y, hy, rfl⟩ := List.mem_map.1 hz
    exact n2 y hy
  generalize l.map asVoice = X at tk x1 x2
  obtain ⟨⟨r0, r1, r2⟩, ⟨q1, q2⟩, s1, s2⟩ := both X s a1 a2 a3 a4 a5 (by rw [maxLen_eq]; omega) (fun z hz => by have := x2 z hz; rw [maxLen_eq]; omega) (by rw [maxLen_eq]; omega)
  have q1 : r0.length ≤ 9 := q1
  have q3 : ∀ z ∈ r0, (z.f0.length : Int) ≤ 1048576 := fun z hz => by have : z.f0.length ≤ 200 := q2 z hz; omega
  have hq := eq_voices r0 (by omega) q3
  have m1 := mark_voices X 1 (by omega) (by omega) x2
  have v1 := vtot_range (X.map fun z => z.f0.length) 1 (by intro n hn; obtain ⟨y, hy, rfl⟩ := List.mem_map.1 hn; exact x2 y hy)
  rw [List.length_map] at v1
  generalize vtot (X.map fun z => z.f0.length) 1 = c at m1 v1
  have m2 : Ev (fun k => laws_markVoice.f k s a1 a2 a3 a4 a5 c) (c + (s.length : Int), marks s.length c) := Ev.bind (markInt_ev laws_markIntS.l0 (fun k x c i => laws_markIntS.l0.eq_2 x c i k) c (by omega) s (by omega)) (Ev.now _)
  have m3 := mark_voices r0 1 (by omega) (by omega) q3
  have q4 : ∀ n ∈ List.map (fun z : Vc => z.f0.length) r0, ((n : Nat) : Int) ≤ 1048576 := by intro n hn; obtain ⟨y, hy, rfl⟩ := List.mem_map.1 hn; exact q3 y hy
  have v3 := vtot_range (r0.map fun z => z.f0.length) 1 q4
  have m4 := held_voiceS (r0.map fun z => z.f0.length) (by rw [List.length_map]; omega) q4
  generalize vtot (r0.map fun z => z.f0.length) 1 = d at m3 m4 v3
  generalize vmarks (r0.map fun z => z.f0.length) 1 = zs at m3 m4
  exact Ev.bind tk (Ev.bind ts (Ev.bind s1 (Ev.bind tk (Ev.bind ts (Ev.bind s2 (Ev.bind hq (Ev.pos rfl (Ev.pos rfl (Ev.pos rfl (Ev.bind tk (Ev.bind (eq_voices X x1 x2) (Ev.pos rfl (Ev.bind ts (Ev.bind (eq_voice s a1 a2 a3 a4 a5 n3) (Ev.pos rfl (Ev.bind m1 (Ev.bind m2 (Ev.pos (by show ¬ c + (s.length : Int) < 0; omega) (Ev.bind hq (Ev.pos rfl (Ev.pos rfl (Ev.pos rfl (Ev.bind m3 (Ev.bind m4 (Ev.pos (by omega) (Ev.pos rfl (Ev.bind tk (Ev.bind ts (Ev.bind s2 (Ev.bind hq (Ev.pos rfl (Ev.pos rfl (Ev.pos rfl (Ev.bind m4 (Ev.pos (by omega) (Ev.pos rfl (Ev.now _)))))))))))))))))))))))))))))))))))))

end Go.Proofs.Ytbnbgmpkemlfbaa.Pure
