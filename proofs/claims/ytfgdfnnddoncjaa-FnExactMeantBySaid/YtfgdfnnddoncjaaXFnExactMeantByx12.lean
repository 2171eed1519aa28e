/- What the Go functions that this law comes to compute, each walked; written by a program of this session. -/
import Derived.Shelf.RegionOpenPlain
import Derived.Lib.Overlaps
import Derived.Lib.AppendZerosOnto
import Derived.Laws.CopyRow
import Derived.Test.YtfgdfnnddoncjaaXShort
import Derived.Test.YtfgdfnnddoncjaaXMark
import Derived.Test.YtfgdfnnddoncjaaXFnExactMeantByx0
import Derived.Test.YtfgdfnnddoncjaaXFnExactMeantByx10
import Derived.Test.YtfgdfnnddoncjaaXFnExactMeantByx11
namespace Go.Proofs.Ytfgdfnnddoncjaa.XFnExactMeantBy
open Go.RowKit Go.Proofs.YtfgdfnnddoncjaaW.PrintWords Go.Proofs.YtfgdfnnddoncjaaW.PrintLast Go.Proofs.YtfgdfnnddoncjaaW.PrintMore
attribute [local go_sem] str_geq max2_int min2_int max_two min_two max_three min_three max_four min_four   -- for this text's walks alone
set_option linter.unusedVariables false
set_option linter.unusedSimpArgs false

/-! ### impl_MeantBy: function 18 -/
/-! impl.MeantBy: the keys that are down lie in a block of 100 cells; it is read by closures and written between -/
def impl_MeantBy.hd (H : List Bool) (x : Int) : Bool := H.getD x.toNat false
def impl_MeantBy.all (H : List Bool) (l : List Int) : Bool := l.all (impl_MeantBy.hd H)
def impl_MeantBy.longer (H : List Bool) (b o : S53) : Bool := decide (o.f1.length > b.f1.length) && (impl_MeantBy.all H o.f1 && b.f1.all (fun x => o.f1.contains x))
def impl_MeantBy.holds (H : List Bool) (l : List S53) : List Bool := l.map fun b => impl_MeantBy.all H b.f1 && !(l.any (impl_MeantBy.longer H b))
def impl_MeantBy.inKeys (l : List Int) : Bool := l.all fun x => decide (0 ≤ x) && decide (x ≤ 99)
theorem impl_MeantBy.in_ {l : List Int} (h : impl_MeantBy.inKeys l = true) {x : Int} (hx : x ∈ l) : 0 ≤ x ∧ x ≤ 99 := by
  have := List.all_eq_true.1 h x hx
  simpa using this
/-- The block of the keys. -/
def impl_MeantBy.Kb (w : World) (g : Nat) (H : List Bool) : Prop := H.length = 100 ∧ w.heap[g]? = some (.cells (H.map Value.bool).toArray 74 (0, 0))
theorem impl_MeantBy.Kb_below {w w' : World} {g : Nat} {H : List Bool} (h : impl_MeantBy.Kb w g H) (hb : Below w.heap.size w w') : impl_MeantBy.Kb w' g H := ⟨h.1, blk_below h.2 hb⟩
theorem impl_MeantBy.Kb_at {w : World} {g : Nat} {H : List Bool} (h : impl_MeantBy.Kb w g H) (x : Int) (h0 : 0 ≤ x) (h1 : x ≤ 99) : w.cell? ⟨g, x.toNat, none⟩ = some (.bool (impl_MeantBy.hd H x)) := by
  refine (blk_cell h.2 _).trans ?_
  have hl : x.toNat < H.length := by rw [h.1]; omega
  simp [impl_MeantBy.hd, List.getD_eq_getElem?_getD, hl]
set_option maxHeartbeats 8000000 in
set_option maxRecDepth 100000 in
theorem impl_MeantBy.c76 (H : List Bool) (g gb : Nat) (x : Int) (w : World) (h0 : 0 ≤ x) (h1 : x ≤ 99) (hK : impl_MeantBy.Kb w g H) (hp : w.cell? ⟨gb, 0, none⟩ = some (.pointer (some ⟨g, 0, none⟩))) :
    Calls Try.prog 76 #[.int .i64 x, .pointer (some ⟨gb, 0, none⟩)] w fun e w' => e = .returned (.bool (!(impl_MeantBy.hd H x))) ∧ Below w.heap.size w w' := by
  have hc := impl_MeantBy.Kb_at hK x h0 h1
  have p0 := eq_true h0
  have p1 := eq_true (show x < 100 by omega)
  have hu := Try.underlying74
  go_enter Try.func76, Try.ntmps76
  go_wp2_with (fail "x")
  go_ret
  exact ⟨rfl, Below.refl _ _⟩
set_option maxHeartbeats 8000000 in
set_option maxRecDepth 100000 in
/-- The keys of a chord are gone through: whether one is not down. -/
theorem impl_MeantBy.c77 (H : List Bool) (g gb : Nat) (A0 : Option Addr) (c0 : Nat) (l0 : List Int) (w : World) (hr0 : Kd.C (Kd.int .i64) w A0 l0.length l0) (hin : impl_MeantBy.inKeys l0 = true) (hK : impl_MeantBy.Kb w g H) (hp : w.cell? ⟨gb, 0, none⟩ = some (.pointer (some ⟨g, 0, none⟩))) :
    Calls Try.prog 77 #[.slice A0 l0.length c0, .func (.func 76) #[] #[.pointer (some ⟨gb, 0, none⟩)]] w fun e w' => (∃ r : Int, e = .returned (.int .i64 r) ∧ decide (r ≥ 0) = !(impl_MeantBy.all H l0)) ∧ Below w.heap.size w w' := by
  have HR0 := am_ hr0
  have HKB := am_ hK
  have HP := am_ hp
  have hmax := Kd.C_max hr0
  clear hr0 hK hp
  go_enter Try.func77, Try.ntmps77
  go_wp2_with (fail "x")
  go_loopg [8] l0.length (fun kq v8 w' => ∃ (x : Int) (j : Nat), v8 = .int .i64 x ∧ Aside0 (x = (j : Int)) ∧ Aside0 (j + kq = l0.length) ∧ Aside0 (impl_MeantBy.all H (l0.take j) = true) ∧ Aside0 (Below w.heap.size w w'))
  case atStart => exact ⟨0, 0, rfl, ⟨rfl⟩, ⟨by omega⟩, ⟨rfl⟩, ⟨Below.refl _ _⟩⟩
  case round =>
    obtain ⟨x, j, rfl, HX, HK, HA, HB⟩ := hrel
    by_cases hj : j < l0.length
    · obtain ⟨k2, rfl⟩ : ∃ k2, gk = k2 + 1 := ⟨gk - 1, by have := HK.out; omega⟩
      obtain ⟨ad, e0, hx_0⟩ := Kd.at_int HR0.out x (by have := HX.out; omega) (by have := HX.out; omega)
      cases e0
      replace hx_0 := hc_ HB.out hx_0
      have hwj : wrap64 (x + 1) = ((j + 1 : Nat) : Int) := by have := HX.out; unfold wrap64; omega
      have p0 := eq_true (show 0 ≤ x by have := HX.out; omega)
      have q0 := eq_true (show x < (l0.length : Int) by have := HX.out; omega)
      have c0b : decide (x < (l0.length : Int)) = true := decide_eq_true (by have := HX.out; omega)
      have hrd : rd l0 x = l0[j] := by
        rw [HX.out]
        unfold rd
        rw [Int.toNat_natCast, List.getD_eq_getElem?_getD, List.getElem?_eq_getElem hj, Option.getD_some]
      have HM := am_ (impl_MeantBy.in_ hin (x := rd l0 x) (by rw [hrd]; exact List.getElem_mem hj))
      have hsn : impl_MeantBy.all H (l0.take (j + 1)) = impl_MeantBy.hd H (rd l0 x) := by
        have := HA.out
        unfold impl_MeantBy.all at this ⊢
        rw [List.take_succ_eq_append_getElem hj, List.all_append, this, hrd]
        simp
      have HSN := am_ hsn
      clear hsn hrd
      obtain ⟨b, hb⟩ : ∃ b, impl_MeantBy.hd H (rd l0 x) = b := ⟨_, rfl⟩
      have HBB := am_ hb
      clear hb
      cases b with
      | true =>
        go_wp2_with (go_at_call 76; refine (impl_MeantBy.c76 H g gb (rd l0 x) _ HM.out.1 HM.out.2 (impl_MeantBy.Kb_below HKB.out HB.out) ((HB.out.cell (World.block_lt_of_cell? w _ HP.out)).trans HP.out)).mono ?_; rw [HBB.out]; rintro e w8 ⟨rfl, hb⟩; have n0_ := am_ (below_step HB.out hb); replace HB := n0_; clear n0_ hb)
        go_roundg k2
        case measure => omega
        case rel => exact ⟨_, j + 1, rfl, ⟨by first | exact hwj | omega⟩, ⟨by have := HK.out; omega⟩, ⟨HSN.out.trans HBB.out⟩, ⟨HB.out⟩⟩
      | false =>
        go_wp2_with (go_at_call 76; refine (impl_MeantBy.c76 H g gb (rd l0 x) _ HM.out.1 HM.out.2 (impl_MeantBy.Kb_below HKB.out HB.out) ((HB.out.cell (World.block_lt_of_cell? w _ HP.out)).trans HP.out)).mono ?_; rw [HBB.out]; rintro e w8 ⟨rfl, hb⟩; have n0_ := am_ (below_step HB.out hb); replace HB := n0_; clear n0_ hb)
        go_ret
        refine ⟨⟨_, rfl, ?_⟩, HB.out⟩
        have h1 := HSN.out.trans HBB.out
        have h2 : impl_MeantBy.all H l0 = false := by
          unfold impl_MeantBy.all at h1 ⊢
          refine Bool.eq_false_iff.2 fun h3 => ?_
          have h4 : (l0.take (j + 1)).all (impl_MeantBy.hd H) = true := List.all_eq_true.2 fun z hz => List.all_eq_true.1 h3 z (List.mem_of_mem_take hz)
          rw [h1] at h4
          cases h4
        rw [h2]
        exact decide_eq_true (by have := HX.out; omega)
    · have hjl : j = l0.length := by have := HK.out; omega
      have c0b : decide (x < (l0.length : Int)) = false := decide_eq_false (by have := HX.out; omega)
      go_wp2_with (fail "x")
      go_ret
      refine ⟨⟨_, rfl, ?_⟩, HB.out⟩
      have := HA.out
      rw [hjl, List.take_length] at this
      rw [this]
      rfl
set_option maxHeartbeats 8000000 in
set_option maxRecDepth 100000 in
theorem impl_MeantBy.c68 (H : List Bool) (g gb : Nat) (A0 : Option Addr) (c0 : Nat) (l0 : List Int) (w : World) (hr0 : Kd.C (Kd.int .i64) w A0 l0.length l0) (hin : impl_MeantBy.inKeys l0 = true) (hK : impl_MeantBy.Kb w g H) (hp : w.cell? ⟨gb, 0, none⟩ = some (.pointer (some ⟨g, 0, none⟩))) :
    Calls Try.prog 68 #[.slice A0 l0.length c0, .func (.func 76) #[] #[.pointer (some ⟨gb, 0, none⟩)]] w fun e w' => e = .returned (.bool (!(impl_MeantBy.all H l0))) ∧ Below w.heap.size w w' := by
  have HR0 := am_ hr0
  have HKB := am_ hK
  have HP := am_ hp
  clear hr0 hK hp
  go_enter Try.func68, Try.ntmps68
  go_wp2_with (go_at_call 77; refine (impl_MeantBy.c77 H g gb A0 c0 l0 _ HR0.out hin HKB.out HP.out).mono ?_; rintro e w8 ⟨⟨r, rfl, hr⟩, hb⟩; have HRR := am_ hr; clear hr)
  go_ret
  exact ⟨by rw [← HRR.out]; rfl, hb⟩
set_option maxHeartbeats 8000000 in
set_option maxRecDepth 100000 in
/-- (*held).all -/
theorem impl_MeantBy.c67 (H : List Bool) (g : Nat) (A0 : Option Addr) (c0 : Nat) (l0 : List Int) (w : World) (hr0 : Kd.C (Kd.int .i64) w A0 l0.length l0) (hin : impl_MeantBy.inKeys l0 = true) (hK : impl_MeantBy.Kb w g H) :
    Calls Try.prog 67 #[.pointer (some ⟨g, 0, none⟩), .slice A0 l0.length c0] w fun e w' => e = .returned (.bool (impl_MeantBy.all H l0)) ∧ Below w.heap.size w w' := by
  have HR0 := am_ hr0
  have HKB := am_ hK
  have HB := am_ (Below.refl w.heap.size w)
  clear hr0 hK
  go_enter Try.func67, Try.ntmps67
  go_wp2_with (first | ((with_reducible refine gate_dst (N := 2) rfl ?_); refine bx_ 2 #[.pointer (some ⟨g, 0, none⟩)] 72 ?_; intro gb hg w4 hbox hb; have n0_ := am_ (below_step HB.out hb); replace HB := n0_; have BX := am_ hbox; clear hb hbox hg n0_) | (go_at_call 68; refine (impl_MeantBy.c68 H g gb A0 c0 l0 _ (Kd.C_below HR0.out HB.out) hin (impl_MeantBy.Kb_below HKB.out HB.out) (blk_cell BX.out 0)).mono ?_; rintro e w8 ⟨rfl, hb⟩; have n0_ := am_ (below_step HB.out hb); replace HB := n0_; clear n0_ hb))
  go_ret
  exact ⟨by simp, HB.out⟩
theorem impl_MeantBy.rd_ {l : List Int} {i : Nat} (h : i < l.length) : rd l (i : Int) = l[i] := by
  unfold rd
  rw [Int.toNat_natCast, List.getD_eq_getElem?_getD, List.getElem?_eq_getElem h, Option.getD_some]
theorem impl_MeantBy.next_ {i : Nat} (h : i < 9223372036854775807) : wrap64 ((i : Int) + 1) = ((i + 1 : Nat) : Int) := by unfold wrap64; omega
theorem impl_MeantBy.idx (l : List Int) (x : Int) (hl : l.length ≤ 9223372036854775807) : ∀ m i : Nat, i + m = l.length → ∀ k, m + 1 ≤ k → ∃ r, slices_Index_int_int.l0 k l x (l.length : Int) (i : Int) = some r ∧ decide (r ≥ 0) = (l.drop i).contains x := by
  intro m
  induction m with
  | zero =>
    intro i hi k hk
    obtain ⟨k', rfl⟩ : ∃ k', k = k' + 1 := ⟨k - 1, by omega⟩
    refine ⟨-1, ?_, ?_⟩
    · rw [slices_Index_int_int.l0, if_neg (by omega)]
    · rw [List.drop_of_length_le (by omega)]; rfl
  | succ m ih =>
    intro i hi k hk
    obtain ⟨k', rfl⟩ : ∃ k', k = k' + 1 := ⟨k - 1, by omega⟩
    have hi' : i < l.length := by omega
    obtain ⟨r, h1, h2⟩ := ih (i + 1) (by omega) k' (by omega)
    rw [List.drop_eq_getElem_cons hi']
    by_cases hx : x = l[i]
    · refine ⟨i, ?_, ?_⟩
      · rw [slices_Index_int_int.l0, if_pos (by omega), if_pos (by omega), if_pos (by omega), impl_MeantBy.rd_ hi', if_pos hx]
      · rw [List.contains_cons, ← hx]
        simp
    · refine ⟨r, ?_, ?_⟩
      · rw [slices_Index_int_int.l0, if_pos (by omega), if_pos (by omega), if_pos (by omega), impl_MeantBy.rd_ hi', if_neg hx, impl_MeantBy.next_ (by omega)]
        exact h1
      · rw [h2, List.contains_cons]
        simp [hx]
theorem impl_MeantBy.cont (l : List Int) (x : Int) (hl : l.length ≤ 9223372036854775807) (k : Nat) (hk : l.length + 1 ≤ k) : slices_Contains_int_int.f k l x = some (l.contains x) := by
  obtain ⟨r, h1, h2⟩ := impl_MeantBy.idx l x hl l.length 0 (by omega) k hk
  unfold slices_Contains_int_int.f slices_Index_int_int.f
  have h3 : slices_Index_int_int.l0 k l x (l.length : Int) 0 = some r := h1
  rw [h3, Option.bind_some, h2, List.drop_zero]
theorem impl_MeantBy.idxF (l L : List Int) (a : ByteArray) (hl : l.length ≤ 9223372036854775807) (hL : L.length ≤ 9223372036854775807) : ∀ m i : Nat, i + m = l.length → ∀ k, m + L.length + 2 ≤ k → ∃ r, slices_IndexFunc_int_int_at_impl_held_holds_1_1.l0 a L k l (l.length : Int) (i : Int) = some r ∧ decide (r ≥ 0) = !((l.drop i).all fun x => L.contains x) := by
  intro m
  induction m with
  | zero =>
    intro i hi k hk
    obtain ⟨k', rfl⟩ : ∃ k', k = k' + 1 := ⟨k - 1, by omega⟩
    refine ⟨-1, ?_, ?_⟩
    · rw [slices_IndexFunc_int_int_at_impl_held_holds_1_1.l0, if_neg (by omega)]
    · rw [List.drop_of_length_le (by omega)]; rfl
  | succ m ih =>
    intro i hi k hk
    obtain ⟨k', rfl⟩ : ∃ k', k = k' + 1 := ⟨k - 1, by omega⟩
    have hi' : i < l.length := by omega
    obtain ⟨r, h1, h2⟩ := ih (i + 1) (by omega) k' (by omega)
    have hc : impl_held_holds_1_1_captured.f k' l[i] a L = some (!(L.contains l[i])) := by
      unfold impl_held_holds_1_1_captured.f
      rw [impl_MeantBy.cont L _ hL k' (by omega)]
      rfl
    rw [List.drop_eq_getElem_cons hi', List.all_cons]
    cases hx : L.contains l[i] with
    | false =>
      refine ⟨i, ?_, ?_⟩
      · rw [slices_IndexFunc_int_int_at_impl_held_holds_1_1.l0, if_pos (by omega), if_pos (by omega), if_pos (by omega), impl_MeantBy.rd_ hi', hc, hx]
        rfl
      · simp
    | true =>
      refine ⟨r, ?_, ?_⟩
      · rw [slices_IndexFunc_int_int_at_impl_held_holds_1_1.l0, if_pos (by omega), if_pos (by omega), if_pos (by omega), impl_MeantBy.rd_ hi', hc, hx, impl_MeantBy.next_ (by omega)]
        exact h1
      · rw [h2]; simp
theorem impl_MeantBy.subs (l L : List Int) (a : ByteArray) (hl : l.length ≤ 9223372036854775807) (hL : L.length ≤ 9223372036854775807) : ∃ k, slices_ContainsFunc_int_int_at_impl_held_holds_1_1.f k l a L = some (!(l.all fun x => L.contains x)) := by
  obtain ⟨r, h1, h2⟩ := impl_MeantBy.idxF l L a hl hL l.length 0 (by omega) (l.length + L.length + 2) (Nat.le_refl _)
  refine ⟨l.length + L.length + 2, ?_⟩
  unfold slices_ContainsFunc_int_int_at_impl_held_holds_1_1.f slices_IndexFunc_int_int_at_impl_held_holds_1_1.f
  have h3 : slices_IndexFunc_int_int_at_impl_held_holds_1_1.l0 a L (l.length + L.length + 2) l (l.length : Int) 0 = some r := h1
  rw [h3, Option.bind_some, h2, List.drop_zero]
set_option maxHeartbeats 8000000 in
set_option maxRecDepth 100000 in
/-- Whether another bind is longer and holds. -/
theorem impl_MeantBy.c66 (H : List Bool) (g gb gh : Nat) (o b : S53) (Ao Ab : Option Addr) (co cb : Nat) (w : World) (hro : Kd.C (Kd.int .i64) w Ao o.f1.length o.f1) (hco : o.f1.length ≤ co) (hrb : Kd.C (Kd.int .i64) w Ab b.f1.length b.f1) (hcb : b.f1.length ≤ cb) (hin : impl_MeantBy.inKeys o.f1 = true) (hK : impl_MeantBy.Kb w g H)
    (hb0 : w.cell? ⟨gb, 0, none⟩ = some (.string b.f0)) (hb1 : w.cell? ⟨gb, 1, none⟩ = some (.slice Ab b.f1.length cb)) (hp : w.cell? ⟨gh, 0, none⟩ = some (.pointer (some ⟨g, 0, none⟩))) :
    Calls Try.prog 66 #[.agg #[.string o.f0, .slice Ao o.f1.length co], .pointer (some ⟨gb, 0, none⟩), .pointer (some ⟨gh, 0, none⟩)] w fun e w' => e = .returned (.bool (impl_MeantBy.longer H b o)) ∧ Below w.heap.size w w' := by
  have hmo := Kd.C_max hro
  have hmb := Kd.C_max hrb
  obtain ⟨k, hk⟩ := impl_MeantBy.subs b.f1 o.f1 o.f0 hmb hmo
  have HS := am_ hk
  have HRO := am_ hro
  have HRB := am_ hrb
  have HCO := am_ hco
  have HCB := am_ hcb
  have HKB := am_ hK
  have HB := am_ (Below.refl w.heap.size w)
  have H0 := am_ hb0
  have H1 := am_ hb1
  have HP := am_ hp
  clear hk hro hrb hco hcb hK hmo hmb hb0 hb1 hp
  have hu := Try.underlying53
  obtain ⟨ra, hra⟩ : ∃ ra, ra = impl_MeantBy.all H o.f1 := ⟨_, rfl⟩
  obtain ⟨rs, hrs⟩ : ∃ rs, rs = (b.f1.all fun x => o.f1.contains x) := ⟨_, rfl⟩
  have HRA := am_ hra
  have HRS := am_ hrs
  rw [← hrs] at HS
  have hL : impl_MeantBy.longer H b o = (decide (o.f1.length > b.f1.length) && (ra && rs)) := by rw [hra, hrs]; rfl
  rw [hL]
  clear hra hrs hL
  by_cases c1 : b.f1.length < o.f1.length
  all_goals
    have c1b : decide ((b.f1.length : Int) < (o.f1.length : Int)) = decide (b.f1.length < o.f1.length) := decide_eq_decide.2 (by omega)
    cases ra
    all_goals
      simp only [c1, decide_true, decide_false] at c1b
      go_enter Try.func66, Try.ntmps66
      go_wp2_with (first | ((with_reducible refine gate_dst (N := 3) rfl ?_); refine bx_ 3 #[.string o.f0, .slice Ao o.f1.length co] 53 ?_; intro gx hg w4 hbox hb; have n0_ := am_ (below_step HB.out hb); replace HB := n0_; have BX := am_ hbox; clear hb hbox hg n0_; have hz1 := hc_ HB.out H1.out; have hzp := hc_ HB.out HP.out; have hzx0 := cz_ BX.out 0; have hzx1 := cz_ BX.out 1) | (go_at_call 67; refine (impl_MeantBy.c67 H g Ao co o.f1 _ (Kd.C_below HRO.out HB.out) hin (impl_MeantBy.Kb_below HKB.out HB.out)).mono ?_; rw [← HRA.out]; rintro e w8 ⟨rfl, hb⟩; have n0_ := am_ (below_step HB.out hb); have n1_ := am_ (blk_below BX.out hb); clear HB BX hz1 hzp hzx0 hzx1; have HB := n0_; have BX := n1_; clear hb n0_ n1_; have hz1 := hc_ HB.out H1.out; have hzx0 := cz_ BX.out 0; have hzx1 := cz_ BX.out 1) | (go_at_call 68; refine (slices_ContainsFunc_int_int_at_impl_held_holds_1_1.calls k Ab cb b.f1 gx o.f0 Ao co o.f1 (!rs) _ (Kd.C_below HRB.out HB.out) HCB.out (Kd.C_below HRO.out HB.out) HCO.out (cz_ BX.out 0) (cz_ BX.out 1) HS.out).mono ?_; rintro e w9 ⟨rfl, ⟨nd, rfl⟩⟩; have n0_ := am_ (pw_below_drewN HB.out nd); replace HB := n0_; clear n0_))
      go_ret
      exact ⟨by simp [c1], HB.out⟩
set_option maxHeartbeats 8000000 in
set_option maxRecDepth 100000 in
theorem impl_MeantBy.c71 (H : List Bool) (g gb gh : Nat) (b : S53) (A0 Ab : Option Addr) (c0 cb : Nat) (l0 : List S53) (w : World) (hr0 : Kd.C k53 w A0 l0.length l0) (hrb : Kd.C (Kd.int .i64) w Ab b.f1.length b.f1) (hcb : b.f1.length ≤ cb) (hin : ∀ o ∈ l0, impl_MeantBy.inKeys o.f1 = true) (hK : impl_MeantBy.Kb w g H)
    (hb0 : w.cell? ⟨gb, 0, none⟩ = some (.string b.f0)) (hb1 : w.cell? ⟨gb, 1, none⟩ = some (.slice Ab b.f1.length cb)) (hp : w.cell? ⟨gh, 0, none⟩ = some (.pointer (some ⟨g, 0, none⟩))) :
    Calls Try.prog 71 #[.slice A0 l0.length c0, .func (.func 66) #[] #[.pointer (some ⟨gb, 0, none⟩), .pointer (some ⟨gh, 0, none⟩)]] w fun e w' => (∃ r : Int, e = .returned (.int .i64 r) ∧ decide (r ≥ 0) = l0.any (impl_MeantBy.longer H b)) ∧ Below w.heap.size w w' := by
  have HR0 := am_ hr0
  have HRB := am_ hrb
  have HCB := am_ hcb
  have HKB := am_ hK
  have H0 := am_ hb0
  have H1 := am_ hb1
  have HP := am_ hp
  have hmax := Kd.C_max hr0
  clear hr0 hK hp hrb hcb hb0 hb1
  have hu := Try.underlying53
  go_enter Try.func71, Try.ntmps71
  go_wp2_with (fail "x")
  go_loopg [8] l0.length (fun kq v8 w' => ∃ (x : Int) (j : Nat), v8 = .int .i64 x ∧ Aside0 (x = (j : Int)) ∧ Aside0 (j + kq = l0.length) ∧ Aside0 ((l0.take j).any (impl_MeantBy.longer H b) = false) ∧ Aside0 (Below w.heap.size w w'))
  case atStart => exact ⟨0, 0, rfl, ⟨rfl⟩, ⟨by omega⟩, ⟨rfl⟩, ⟨Below.refl _ _⟩⟩
  case round =>
    obtain ⟨x, j, rfl, HX, HK, HA, HB⟩ := hrel
    by_cases hj : j < l0.length
    · obtain ⟨k2, rfl⟩ : ∃ k2, gk = k2 + 1 := ⟨gk - 1, by have := HK.out; omega⟩
      obtain ⟨ad, Ao, co, e0, hx_0, hx_1, hco, hro⟩ := at_T53 HR0.out x (by have := HX.out; omega) (by have := HX.out; omega)
      cases e0
      replace hx_0 := hc_ HB.out hx_0
      replace hx_1 := hc_ HB.out hx_1
      have hwj : wrap64 (x + 1) = ((j + 1 : Nat) : Int) := by have := HX.out; unfold wrap64; omega
      have p0 := eq_true (show 0 ≤ x by have := HX.out; omega)
      have q0 := eq_true (show x < (l0.length : Int) by have := HX.out; omega)
      have c0b : decide (x < (l0.length : Int)) = true := decide_eq_true (by have := HX.out; omega)
      have hrd : rd_T53 l0 x = l0[j] := by
        rw [HX.out]
        unfold rd_T53
        rw [Int.toNat_natCast, List.getD_eq_getElem?_getD, List.getElem?_eq_getElem hj, Option.getD_some]
      have HRO := am_ hro
      have HCO := am_ hco
      have HM := am_ (hin (rd_T53 l0 x) (by rw [hrd]; exact List.getElem_mem hj))
      have hsn : (l0.take (j + 1)).any (impl_MeantBy.longer H b) = impl_MeantBy.longer H b (rd_T53 l0 x) := by
        rw [List.take_succ_eq_append_getElem hj, List.any_append, HA.out, hrd]
        simp
      have HSN := am_ hsn
      clear hsn hrd hro hco
      obtain ⟨r, hr⟩ : ∃ r, impl_MeantBy.longer H b (rd_T53 l0 x) = r := ⟨_, rfl⟩
      have HBB := am_ hr
      clear hr
      cases r with
      | false =>
        go_wp2_with (go_at_call 66; refine (impl_MeantBy.c66 H g gb gh (rd_T53 l0 x) b Ao Ab co cb _ (Kd.C_below HRO.out HB.out) HCO.out (Kd.C_below HRB.out HB.out) HCB.out HM.out (impl_MeantBy.Kb_below HKB.out HB.out) (hc_ HB.out H0.out) (hc_ HB.out H1.out) (hc_ HB.out HP.out)).mono ?_; rw [HBB.out]; rintro e w8 ⟨rfl, hb⟩; have n0_ := am_ (below_step HB.out hb); replace HB := n0_; clear n0_ hb)
        go_roundg k2
        case measure => omega
        case rel => exact ⟨_, j + 1, rfl, ⟨by first | exact hwj | omega⟩, ⟨by have := HK.out; omega⟩, ⟨HSN.out.trans HBB.out⟩, ⟨HB.out⟩⟩
      | true =>
        go_wp2_with (go_at_call 66; refine (impl_MeantBy.c66 H g gb gh (rd_T53 l0 x) b Ao Ab co cb _ (Kd.C_below HRO.out HB.out) HCO.out (Kd.C_below HRB.out HB.out) HCB.out HM.out (impl_MeantBy.Kb_below HKB.out HB.out) (hc_ HB.out H0.out) (hc_ HB.out H1.out) (hc_ HB.out HP.out)).mono ?_; rw [HBB.out]; rintro e w8 ⟨rfl, hb⟩; have n0_ := am_ (below_step HB.out hb); replace HB := n0_; clear n0_ hb)
        go_ret
        refine ⟨⟨_, rfl, ?_⟩, HB.out⟩
        have h1 := HSN.out.trans HBB.out
        have h2 : l0.any (impl_MeantBy.longer H b) = true := by
          obtain ⟨z, hz, hz2⟩ := List.any_eq_true.1 h1
          exact List.any_eq_true.2 ⟨z, List.mem_of_mem_take hz, hz2⟩
        rw [h2]
        exact decide_eq_true (by have := HX.out; omega)
    · have hjl : j = l0.length := by have := HK.out; omega
      have c0b : decide (x < (l0.length : Int)) = false := decide_eq_false (by have := HX.out; omega)
      go_wp2_with (fail "x")
      go_ret
      refine ⟨⟨_, rfl, ?_⟩, HB.out⟩
      have := HA.out
      rw [hjl, List.take_length] at this
      rw [this]
      rfl
set_option maxHeartbeats 8000000 in
set_option maxRecDepth 100000 in
theorem impl_MeantBy.c65 (H : List Bool) (g gb gh : Nat) (b : S53) (A0 Ab : Option Addr) (c0 cb : Nat) (l0 : List S53) (w : World) (hr0 : Kd.C k53 w A0 l0.length l0) (hrb : Kd.C (Kd.int .i64) w Ab b.f1.length b.f1) (hcb : b.f1.length ≤ cb) (hin : ∀ o ∈ l0, impl_MeantBy.inKeys o.f1 = true) (hK : impl_MeantBy.Kb w g H)
    (hb0 : w.cell? ⟨gb, 0, none⟩ = some (.string b.f0)) (hb1 : w.cell? ⟨gb, 1, none⟩ = some (.slice Ab b.f1.length cb)) (hp : w.cell? ⟨gh, 0, none⟩ = some (.pointer (some ⟨g, 0, none⟩))) :
    Calls Try.prog 65 #[.slice A0 l0.length c0, .func (.func 66) #[] #[.pointer (some ⟨gb, 0, none⟩), .pointer (some ⟨gh, 0, none⟩)]] w fun e w' => e = .returned (.bool (l0.any (impl_MeantBy.longer H b))) ∧ Below w.heap.size w w' := by
  have HR0 := am_ hr0
  have HRB := am_ hrb
  have HCB := am_ hcb
  have HKB := am_ hK
  have H0 := am_ hb0
  have H1 := am_ hb1
  have HP := am_ hp
  clear hr0 hK hp hrb hcb hb0 hb1
  go_enter Try.func65, Try.ntmps65
  go_wp2_with (go_at_call 71; refine (impl_MeantBy.c71 H g gb gh b A0 Ab c0 cb l0 _ HR0.out HRB.out HCB.out hin HKB.out H0.out H1.out HP.out).mono ?_; rintro e w8 ⟨⟨r, rfl, hr⟩, hb⟩; have HRR := am_ hr; clear hr)
  go_ret
  exact ⟨by rw [← HRR.out]; rfl, hb⟩
set_option maxHeartbeats 8000000 in
set_option maxRecDepth 100000 in
/-- (*held).holds -/
theorem impl_MeantBy.c47 (H : List Bool) (g : Nat) (A0 : Option Addr) (c0 : Nat) (l0 : List S53) (w : World) (hr0 : Kd.C k53 w A0 l0.length l0) (hlen : l0.length ≤ 1000) (hin : ∀ o ∈ l0, impl_MeantBy.inKeys o.f1 = true) (hK : impl_MeantBy.Kb w g H) :
    Calls Try.prog 47 #[.pointer (some ⟨g, 0, none⟩), .slice A0 l0.length c0] w fun e w' => ∃ v0_ : Value, e = .returned v0_ ∧ Kd.R Kd.bool 4 w' w.heap.size (fun _ => True) v0_ (impl_MeantBy.holds H l0) ∧ Below w.heap.size w w' := by
  have HR0 := am_ hr0
  have HKB := am_ hK
  have hmax := Kd.C_max hr0
  clear hr0 hK
  have HB := am_ (Below.refl w.heap.size w)
  have hu := Try.underlying53
  go_enter Try.func47, Try.ntmps47
  go_wp2_with (first | ((with_reducible refine gate_dst (N := 2) rfl ?_); refine bx_ 2 #[.pointer (some ⟨g, 0, none⟩)] 72 ?_; intro gh hg w4 hbox hb; have n0_ := am_ (below_step HB.out hb); have n2_ := am_ (gs_ hg (bw_ HB.out)); replace HB := n0_; have BH := am_ hbox; have GH := n2_; clear hb hbox hg n0_ n2_) | ((with_reducible refine gate_dst (N := 9) rfl ?_); refine Kd.R_lit Kd.bool _ 4 ?hg (N := 9) ?hd (xs := ([] : List Bool)) (inner := []) (ok := fun _ => True) (okp := fun _ => True) ?hr ?hp (fun _ hk => hk) trivial HB.out (below_size HB.out) (by simp) ?_; (case hd => rfl); (case hg => rfl); (case hr => first | (go_simp; done) | (go_simp; rfl)); (case hp => exact (Reps.none _ _)); intro v9 w3 ho hb3 hg_ hnew_; have n0_ := am_ (blk_grown BH.out hg_ (by simp)); replace BH := n0_; clear hg_ hnew_ n0_))
  have HO := am_ ho
  clear HB
  have HB := am_ hb3
  clear hb3 ho
  go_loopg [5, 12] l0.length (fun kq v5 v12 w' => ∃ (x : Int) (j : Nat) (o : List Bool), v12 = .int .i64 x ∧ Aside0 (x = (j : Int)) ∧ Aside0 (j + kq = l0.length) ∧ Aside0 (o = (impl_MeantBy.holds H l0).take j) ∧ Aside0 (o.length ≤ 1000) ∧ Aside0 (Kd.R Kd.bool 4 w' w.heap.size (fun _ => True) v5 o) ∧ Aside0 (w'.heap[gh]? = some (.cells #[.pointer (some ⟨g, 0, none⟩)] 72 (0, 0))) ∧ Aside0 (Below w.heap.size w w'))
  case atStart => exact ⟨0, 0, [], rfl, ⟨rfl⟩, ⟨by omega⟩, ⟨by rw [List.take_zero]⟩, ⟨by simp⟩, ⟨HO.out⟩, ⟨BH.out⟩, ⟨HB.out⟩⟩
  case round =>
    clear HO BH HB
    obtain ⟨x, j, o, rfl, HX, HK, HA, HL, HO, BH, HB⟩ := hrel
    by_cases hj : j < l0.length
    · obtain ⟨k2, rfl⟩ : ∃ k2, gk = k2 + 1 := ⟨gk - 1, by have := HK.out; omega⟩
      obtain ⟨ad, Ab, cb, e0, hx_0, hx_1, hcb, hrb⟩ := at_T53 HR0.out x (by have := HX.out; omega) (by have := HX.out; omega)
      cases e0
      replace hx_0 := hc_ HB.out hx_0
      replace hx_1 := hc_ HB.out hx_1
      have hwj : wrap64 (x + 1) = ((j + 1 : Nat) : Int) := by have := HX.out; unfold wrap64; omega
      have p0 := eq_true (show 0 ≤ x by have := HX.out; omega)
      have q0 := eq_true (show x < (l0.length : Int) by have := HX.out; omega)
      have c0b : decide (x < (l0.length : Int)) = true := decide_eq_true (by have := HX.out; omega)
      have hrd : rd_T53 l0 x = l0[j] := by
        rw [HX.out]
        unfold rd_T53
        rw [Int.toNat_natCast, List.getD_eq_getElem?_getD, List.getElem?_eq_getElem hj, Option.getD_some]
      have HRB := am_ hrb
      have HCB := am_ hcb
      have HM := am_ (hin (rd_T53 l0 x) (by rw [hrd]; exact List.getElem_mem hj))
      have hsn : (impl_MeantBy.holds H l0).take (j + 1) = o ++ [impl_MeantBy.all H (rd_T53 l0 x).f1 && !(l0.any (impl_MeantBy.longer H (rd_T53 l0 x)))] := by
        rw [HA.out, hrd]
        unfold impl_MeantBy.holds
        rw [List.take_succ_eq_append_getElem (by rw [List.length_map]; exact hj), List.getElem_map]
      obtain ⟨ra, hra⟩ : ∃ ra, impl_MeantBy.all H (rd_T53 l0 x).f1 = ra := ⟨_, rfl⟩
      obtain ⟨rl, hrl⟩ : ∃ rl, l0.any (impl_MeantBy.longer H (rd_T53 l0 x)) = rl := ⟨_, rfl⟩
      rw [hra, hrl] at hsn
      have HSN := am_ hsn
      have HAL := am_ hra
      have HLN := am_ hrl
      clear hsn hrd hrb hcb hra hrl
      cases ra with
      | false =>
        go_wp2_with (first | ((with_reducible refine gate_dst (N := 7) rfl ?_); refine bx_ 7 #[.string (⟨#[]⟩ : ByteArray), .slice none 0 0] 53 ?_; intro gx hg w4 hbox hb; have n0_ := am_ (below_step HB.out hb); have n1_ := am_ (Kd.R_below HO.out hb); have n2_ := am_ (gs_ hg (bw_ HB.out)); have n3_ := am_ (blk_below BH.out hb); clear HB HO BH; have HB := n0_; have HO := n1_; have GX := n2_; have BH := n3_; have BX := am_ hbox; clear hb hbox hg n0_ n1_ n2_ n3_; have hnb := blk_ne BH.out BX.out (by decide); have hcz0 := cz_ BX.out 0; have hcz1 := cz_ BX.out 1; have hfz0 := blk_frozen BX.out 0; have hfz1 := blk_frozen BX.out 1) | ((with_reducible refine gate_store (t := 53) (p := 7) rfl ?_); refine se_ 53 7 ((w4.setCell ⟨gx, 0, none⟩ (.string (rd_T53 l0 x).f0)).setCell ⟨gx, 1, none⟩ (.slice Ab (rd_T53 l0 x).f1.length cb)) ?_; intro w5 hw; have n0_ := am_ (show Below w.heap.size w w5 by rw [hw]; exact below_set (below_set HB.out GX.out) GX.out); have n1_ : Aside0 (Kd.R Kd.bool 4 w5 w.heap.size (fun _ => True) u5 o) := ⟨by rw [hw]; exact Kd.R_mono (Kd.R_far (p := ⟨gx, 1, none⟩) (Kd.R_far (p := ⟨gx, 0, none⟩) (Kd.R_types HO.out BX.out (by decide)) (fun _ hk => hk.2) _) (fun _ hk => hk.2) _) (fun _ _ => trivial)⟩; have n2_ : Aside0 (w5.heap[gx]? = some (.cells #[.string (rd_T53 l0 x).f0, .slice Ab (rd_T53 l0 x).f1.length cb] 53 (0, 0))) := ⟨by rw [hw]; exact blk_set (blk_set BX.out 0 _) 1 _⟩; have n3_ : Aside0 (w5.heap[gh]? = some (.cells #[.pointer (some ⟨g, 0, none⟩)] 72 (0, 0))) := ⟨by rw [hw]; exact blk_far (blk_far BH.out hnb _ (p := ⟨gx, 0, none⟩)) hnb _ (p := ⟨gx, 1, none⟩)⟩; clear HB HO BX BH hw hcz0 hcz1 hfz0 hfz1; have HB := n0_; have HO := n1_; have BX := n2_; have BH := n3_; clear n0_ n1_ n2_ n3_) | (go_at_call 65; refine (impl_MeantBy.c65 H g gx gh (rd_T53 l0 x) _ Ab c0 cb l0 _ (Kd.C_below HR0.out HB.out) (Kd.C_below HRB.out HB.out) HCB.out hin (impl_MeantBy.Kb_below HKB.out HB.out) (cz_ BX.out 0) (cz_ BX.out 1) (cz_ BH.out 0)).mono ?_; rw [HLN.out]; rintro e w8 ⟨rfl, hb⟩; have n0_ := am_ (below_step HB.out hb); have n1_ := am_ (Kd.R_below HO.out hb); have n2_ := am_ (blk_below BX.out hb); have n3_ := am_ (blk_below BH.out hb); clear HB HO BX BH; have HB := n0_; have HO := n1_; have BX := n2_; have BH := n3_; clear n0_ n1_ n2_ n3_ hb; have hcz1 := cz_ BX.out 1; have hczh := cz_ BH.out 0) | (go_at_call 67; refine (impl_MeantBy.c67 H g Ab cb (rd_T53 l0 x).f1 _ (Kd.C_below HRB.out HB.out) HM.out (impl_MeantBy.Kb_below HKB.out HB.out)).mono ?_; rw [HAL.out]; rintro e w9 ⟨rfl, hb⟩; clear hcz1 hczh; have n0_ := am_ (below_step HB.out hb); have n1_ := am_ (Kd.R_below HO.out hb); have n2_ := am_ (blk_below BX.out hb); have n3_ := am_ (blk_below BH.out hb); clear HB HO BX BH; have HB := n0_; have HO := n1_; have BX := n2_; have BH := n3_; clear n0_ n1_ n2_ n3_ hb; have hcz1 := cz_ BX.out 1; have hczh := cz_ BH.out 0) | ((with_reducible refine gate_builtin (b := .append) (xs := #[.tmp 19, .tmp 28]) rfl ?_); at_builtin; refine Kd.R_append Kd.bool (w0 := w) w.heap.size rfl (.tmp 19) (.tmp 28) 63 4 (.bool false) 1 rfl Try.underlying63 info4 rfl (by decide) (by omega) u5 o false [.bool false] (fun _ => True) (fun _ => False) rfl rfl ?aP (fun _ hk => hk.elim) ?aF ?aO ?aB ?aS ?aL ?_; (case aP => exact rfl); (case aB => exact HB.out); (case aF => exact (fun _ _ => trivial)); (case aO => exact HO.out); (case aS => exact below_size HB.out); (case aL => have := HL.out; omega); intro v228 w79 ho hb hg hat; have n2_ := am_ hb; have n3_ := am_ ho; have n4_ := am_ (blk_grown BH.out hg (Kd.R_ne HO.out BH.out (by decide))); clear HB HO BH; have HB := n2_; have HO := n3_; have BH := n4_; clear n2_ n3_ n4_; clear ho hb hg hat))
        go_roundg k2
        case measure => omega
        case rel => exact ⟨_, j + 1, o ++ [false], rfl, ⟨by first | exact hwj | (have := HX.out; omega)⟩, ⟨by have := HK.out; omega⟩, ⟨HSN.out.symm⟩, ⟨by rw [show o ++ [false] = _ from HSN.out.symm, List.length_take]; unfold impl_MeantBy.holds; rw [List.length_map]; omega⟩, ⟨HO.out⟩, ⟨BH.out⟩, ⟨HB.out⟩⟩
      | true =>
        go_wp2_with (first | ((with_reducible refine gate_dst (N := 7) rfl ?_); refine bx_ 7 #[.string (⟨#[]⟩ : ByteArray), .slice none 0 0] 53 ?_; intro gx hg w4 hbox hb; have n0_ := am_ (below_step HB.out hb); have n1_ := am_ (Kd.R_below HO.out hb); have n2_ := am_ (gs_ hg (bw_ HB.out)); have n3_ := am_ (blk_below BH.out hb); clear HB HO BH; have HB := n0_; have HO := n1_; have GX := n2_; have BH := n3_; have BX := am_ hbox; clear hb hbox hg n0_ n1_ n2_ n3_; have hnb := blk_ne BH.out BX.out (by decide); have hcz0 := cz_ BX.out 0; have hcz1 := cz_ BX.out 1; have hfz0 := blk_frozen BX.out 0; have hfz1 := blk_frozen BX.out 1) | ((with_reducible refine gate_store (t := 53) (p := 7) rfl ?_); refine se_ 53 7 ((w4.setCell ⟨gx, 0, none⟩ (.string (rd_T53 l0 x).f0)).setCell ⟨gx, 1, none⟩ (.slice Ab (rd_T53 l0 x).f1.length cb)) ?_; intro w5 hw; have n0_ := am_ (show Below w.heap.size w w5 by rw [hw]; exact below_set (below_set HB.out GX.out) GX.out); have n1_ : Aside0 (Kd.R Kd.bool 4 w5 w.heap.size (fun _ => True) u5 o) := ⟨by rw [hw]; exact Kd.R_mono (Kd.R_far (p := ⟨gx, 1, none⟩) (Kd.R_far (p := ⟨gx, 0, none⟩) (Kd.R_types HO.out BX.out (by decide)) (fun _ hk => hk.2) _) (fun _ hk => hk.2) _) (fun _ _ => trivial)⟩; have n2_ : Aside0 (w5.heap[gx]? = some (.cells #[.string (rd_T53 l0 x).f0, .slice Ab (rd_T53 l0 x).f1.length cb] 53 (0, 0))) := ⟨by rw [hw]; exact blk_set (blk_set BX.out 0 _) 1 _⟩; have n3_ : Aside0 (w5.heap[gh]? = some (.cells #[.pointer (some ⟨g, 0, none⟩)] 72 (0, 0))) := ⟨by rw [hw]; exact blk_far (blk_far BH.out hnb _ (p := ⟨gx, 0, none⟩)) hnb _ (p := ⟨gx, 1, none⟩)⟩; clear HB HO BX BH hw hcz0 hcz1 hfz0 hfz1; have HB := n0_; have HO := n1_; have BX := n2_; have BH := n3_; clear n0_ n1_ n2_ n3_) | (go_at_call 65; refine (impl_MeantBy.c65 H g gx gh (rd_T53 l0 x) _ Ab c0 cb l0 _ (Kd.C_below HR0.out HB.out) (Kd.C_below HRB.out HB.out) HCB.out hin (impl_MeantBy.Kb_below HKB.out HB.out) (cz_ BX.out 0) (cz_ BX.out 1) (cz_ BH.out 0)).mono ?_; rw [HLN.out]; rintro e w8 ⟨rfl, hb⟩; have n0_ := am_ (below_step HB.out hb); have n1_ := am_ (Kd.R_below HO.out hb); have n2_ := am_ (blk_below BX.out hb); have n3_ := am_ (blk_below BH.out hb); clear HB HO BX BH; have HB := n0_; have HO := n1_; have BX := n2_; have BH := n3_; clear n0_ n1_ n2_ n3_ hb; have hcz1 := cz_ BX.out 1; have hczh := cz_ BH.out 0) | (go_at_call 67; refine (impl_MeantBy.c67 H g Ab cb (rd_T53 l0 x).f1 _ (Kd.C_below HRB.out HB.out) HM.out (impl_MeantBy.Kb_below HKB.out HB.out)).mono ?_; rw [HAL.out]; rintro e w9 ⟨rfl, hb⟩; clear hcz1 hczh; have n0_ := am_ (below_step HB.out hb); have n1_ := am_ (Kd.R_below HO.out hb); have n2_ := am_ (blk_below BX.out hb); have n3_ := am_ (blk_below BH.out hb); clear HB HO BX BH; have HB := n0_; have HO := n1_; have BX := n2_; have BH := n3_; clear n0_ n1_ n2_ n3_ hb; have hcz1 := cz_ BX.out 1; have hczh := cz_ BH.out 0) | ((with_reducible refine gate_builtin (b := .append) (xs := #[.tmp 19, .tmp 28]) rfl ?_); at_builtin; refine Kd.R_append Kd.bool (w0 := w) w.heap.size rfl (.tmp 19) (.tmp 28) 63 4 (.bool false) 1 rfl Try.underlying63 info4 rfl (by decide) (by omega) u5 o (!rl) [.bool (!rl)] (fun _ => True) (fun _ => False) rfl rfl ?aP (fun _ hk => hk.elim) ?aF ?aO ?aB ?aS ?aL ?_; (case aP => exact rfl); (case aB => exact HB.out); (case aF => exact (fun _ _ => trivial)); (case aO => exact HO.out); (case aS => exact below_size HB.out); (case aL => have := HL.out; omega); intro v228 w79 ho hb hg hat; have n2_ := am_ hb; have n3_ := am_ ho; have n4_ := am_ (blk_grown BH.out hg (Kd.R_ne HO.out BH.out (by decide))); clear HB HO BH; have HB := n2_; have HO := n3_; have BH := n4_; clear n2_ n3_ n4_; clear ho hb hg hat))
        go_roundg k2
        case measure => omega
        case rel => exact ⟨_, j + 1, o ++ [!rl], rfl, ⟨by first | exact hwj | (have := HX.out; omega)⟩, ⟨by have := HK.out; omega⟩, ⟨HSN.out.symm⟩, ⟨by rw [show o ++ [!rl] = _ from HSN.out.symm, List.length_take]; unfold impl_MeantBy.holds; rw [List.length_map]; omega⟩, ⟨HO.out⟩, ⟨BH.out⟩, ⟨HB.out⟩⟩
    · have hjl : j = l0.length := by have := HK.out; omega
      have c0b : decide (x < (l0.length : Int)) = false := decide_eq_false (by have := HX.out; omega)
      go_wp2_with (fail "x")
      go_ret
      refine ⟨_, rfl, ?_, HB.out⟩
      have h1 := HA.out
      rw [hjl, List.take_of_length_le (by unfold impl_MeantBy.holds; rw [List.length_map]; omega)] at h1
      rw [← h1]
      exact HO.out
set_option maxRecDepth 100000 in
theorem impl_MeantBy.zero : Try.zeroCells74 = ((List.replicate 100 false).map Value.bool).toArray := by kernel_rfl
def impl_MeantBy.changes (e : S65) (l : List S53) (now ahead : List Bool) : Nat → Nat → List S69
  | 0, _ => []
  | n + 1, i => (if (now.getD i false == ahead.getD i false) = true then [] else [⟨e.f0, (rd_T53 l (i : Int)).f0, now.getD i false⟩]) ++ impl_MeantBy.changes e l now ahead n (i + 1)
def impl_MeantBy.step (l : List S53) (s : List Bool × List Bool × List S69) (e : S65) : List Bool × List Bool × List S69 :=
  (s.1.set e.f1.toNat e.f2, impl_MeantBy.holds (s.1.set e.f1.toNat e.f2) l, s.2.2 ++ impl_MeantBy.changes e l (impl_MeantBy.holds (s.1.set e.f1.toNat e.f2) l) s.2.1 l.length 0)
def impl_MeantBy.init (l : List S53) : List Bool × List Bool × List S69 := (List.replicate 100 false, impl_MeantBy.holds (List.replicate 100 false) l, [])
def impl_MeantBy.run (l : List S53) (es : List S65) : List Bool × List Bool × List S69 := es.foldl (impl_MeantBy.step l) (impl_MeantBy.init l)
def impl_MeantBy.fits (l : List S53) (es : List S65) : Bool := decide (l.length ≤ 1000) && (decide (es.length ≤ 1000) && ((l.all fun b => impl_MeantBy.inKeys b.f1) && es.all fun e => decide (0 ≤ e.f1) && decide (e.f1 ≤ 99)))
def impl_MeantBy.f (k : Nat) (l0 : List S53) (l1 : List S65) : Option (List S69 × Bool) := (impl_GoodBinds.f k l0).bind fun t => if t = true then ((impl_areEvents.f k l1).bind fun t2 => if t2 = true then (if impl_MeantBy.fits l0 l1 = true then some ((impl_MeantBy.run l0 l1).2.2, true) else none) else some ([], false)) else some ([], false)
theorem impl_MeantBy.mono : ∀ a0 a1 k, LeO (impl_MeantBy.f k a0 a1) (impl_MeantBy.f (k + 1) a0 a1) := by
  intro a0 a1 k
  unfold impl_MeantBy.f
  refine LeO.bind (impl_GoodBinds.mono _ _) (fun _ => LeO.ite (LeO.bind (impl_areEvents.mono _ _) (fun _ => LeO.refl _)) (LeO.refl _))
theorem impl_MeantBy.changes_len (e : S65) (l : List S53) (now ahead : List Bool) : ∀ n i, (impl_MeantBy.changes e l now ahead n i).length ≤ n
  | 0, _ => Nat.le_refl _
  | n + 1, i => by
    have := impl_MeantBy.changes_len e l now ahead n (i + 1)
    rw [impl_MeantBy.changes, List.length_append]
    split <;> simp <;> omega
theorem impl_MeantBy.changes_true {e : S65} {l : List S53} {now ahead : List Bool} {o R : List S69} {i k : Nat} {x : Int} (hx : x = (i : Int)) (hb : (rdOf false now x == rdOf false ahead x) = true) (h : o ++ impl_MeantBy.changes e l now ahead (k + 1) i = R) : o ++ impl_MeantBy.changes e l now ahead k (i + 1) = R := by
  subst hx
  rw [impl_MeantBy.changes, if_pos (by simpa [rdOf] using hb), List.nil_append] at h
  exact h
theorem impl_MeantBy.changes_false {e : S65} {l : List S53} {now ahead : List Bool} {o R : List S69} {i k : Nat} {x : Int} (hx : x = (i : Int)) (hb : (rdOf false now x == rdOf false ahead x) = false) (h : o ++ impl_MeantBy.changes e l now ahead (k + 1) i = R) : (o ++ [(⟨e.f0, (rd_T53 l x).f0, rdOf false now x⟩ : S69)]) ++ impl_MeantBy.changes e l now ahead k (i + 1) = R := by
  subst hx
  have h2 : ¬ ((now.getD i false == ahead.getD i false) = true) := by
    intro h3
    have h4 : (now.getD i false == ahead.getD i false) = false := by simpa only [rdOf, Int.toNat_natCast] using hb
    rw [h4] at h3
    cases h3
  rw [impl_MeantBy.changes, if_neg h2, ← List.append_assoc] at h
  simpa only [rdOf, Int.toNat_natCast] using h
set_option maxHeartbeats 8000000 in
set_option maxRecDepth 100000 in
theorem impl_MeantBy.calls (k : Nat) (A0 : Option Addr) (c0 : Nat) (l0 : List (S53)) (A1 : Option Addr) (c1 : Nat) (l1 : List (S65)) (r1 : List (S69)) (r2 : Bool) (w : World) (hr0 : Kd.C k53 w A0 l0.length l0) (hc0 : l0.length ≤ c0) (hr1 : Kd.C k65 w A1 l1.length l1) (hc1 : l1.length ≤ c1) (h : impl_MeantBy.f k l0 l1 = some (r1, r2)) :
    Calls Try.prog 18 #[.slice A0 l0.length c0, .slice A1 l1.length c1] w fun e w' => ∃ v0_ : Value, e = .returned (.tuple #[v0_, .bool r2]) ∧ Kd.R k69 69 w' w.heap.size (fun _ => True) v0_ r1 ∧ Below w.heap.size w w' := by
  have hu53 := Try.underlying53
  have hu65 := Try.underlying65
  have HR0 := am_ hr0
  have HC0 := am_ hc0
  have HR1 := am_ hr1
  have HC1 := am_ hc1
  clear hr0 hc0 hr1 hc1
  have HB := am_ (Below.refl w.heap.size w)
  unfold impl_MeantBy.f at h
  obtain ⟨t, ht, h⟩ := Option.bind_eq_some_iff.mp h
  have HT := am_ ht
  clear ht
  have H := am_ h
  clear h
  go_enter Try.func18, Try.ntmps18
  cases t with
  | false =>
    have H := H.out
    rw [if_neg (by decide)] at H
    simp only [Option.some.injEq, Prod.mk.injEq] at H
    obtain ⟨rfl, rfl⟩ := H
    go_wp2_with (go_at_call 30; refine (impl_GoodBinds.calls k _ _ l0 false _ HR0.out HC0.out HT.out).mono ?_; rintro e w1 ⟨rfl, hb1⟩)
    go_ret2
    exact ⟨_, rfl, Kd.R_nil _ _ _ _ _, hb1⟩
  | true =>
    have H := H.out
    rw [if_pos rfl] at H
    obtain ⟨t2, ht2, h⟩ := Option.bind_eq_some_iff.mp H
    have HT2 := am_ ht2
    clear ht2 H
    cases t2 with
    | false =>
      rw [if_neg (by decide)] at h
      simp only [Option.some.injEq, Prod.mk.injEq] at h
      obtain ⟨rfl, rfl⟩ := h
      go_wp2_with (first | (go_at_call 30; refine (impl_GoodBinds.calls k _ _ l0 true _ HR0.out HC0.out HT.out).mono ?_; rintro e w1 ⟨rfl, hb1⟩) | (go_at_call 46; refine (impl_areEvents.calls k _ _ l1 false _ (Kd.C_below HR1.out hb1) HC1.out HT2.out).mono ?_; rintro e w2 ⟨rfl, hb2⟩))
      go_ret2
      exact ⟨_, rfl, Kd.R_nil _ _ _ _ _, below_step hb1 hb2⟩
    | true =>
      rw [if_pos rfl] at h
      split at h
      case isFalse => cases h
      rename_i hfit
      simp only [Option.some.injEq, Prod.mk.injEq] at h
      obtain ⟨rfl, rfl⟩ := h
      unfold impl_MeantBy.fits at hfit
      simp only [Bool.and_eq_true, decide_eq_true_eq] at hfit
      obtain ⟨hl0, hl1, hch, hev⟩ := hfit
      have hch' : ∀ o ∈ l0, impl_MeantBy.inKeys o.f1 = true := fun o ho => List.all_eq_true.1 hch o ho
      have hev' : ∀ e ∈ l1, 0 ≤ e.f1 ∧ e.f1 ≤ 99 := fun e he => by simpa using List.all_eq_true.1 hev e he
      clear hch hev
      clear H h
      go_wp2_with (first | (go_at_call 30; refine (impl_GoodBinds.calls k _ _ l0 true _ HR0.out HC0.out HT.out).mono ?_; rintro e w1 ⟨rfl, hb1⟩; have n0_ := am_ (below_step HB.out hb1); clear HB hb1; have HB := n0_; clear n0_) | (go_at_call 46; refine (impl_areEvents.calls k _ _ l1 true _ (Kd.C_below HR1.out HB.out) HC1.out HT2.out).mono ?_; rintro e w2 ⟨rfl, hb2⟩; have n0_ := am_ (below_step HB.out hb2); clear HB hb2; have HB := n0_; clear n0_) | ((with_reducible refine gate_dst (N := 23) rfl ?_); refine bx_ 23 Try.zeroCells74 74 ?_; intro gb hg w4 hbox hb; rw [impl_MeantBy.zero] at hbox; have n0_ := am_ (below_step HB.out hb); have n1_ := am_ (gs_ hg (bw_ HB.out)); replace HB := n0_; have GB := n1_; have BK := am_ hbox; clear hb hbox hg n0_ n1_) | ((with_reducible refine gate_dst (N := 24) rfl ?_); refine Kd.R_lit k69 _ 69 ?hg (N := 24) ?hd (xs := ([] : List S69)) (inner := []) (ok := fun _ => True) (okp := fun _ => True) ?hr ?hp (fun _ hk => hk) trivial HB.out (below_size HB.out) (by simp) ?_; (case hd => rfl); (case hg => rfl); (case hr => first | (go_simp; done) | (go_simp; rfl)); (case hp => exact (Reps.none _ _)); intro v24 w3 ho hb3 hg_ hnew_; have n0_ := am_ (blk_grown BK.out hg_ (by simp)); clear BK HB; have BK := n0_; have HB := am_ hb3; have HO := am_ ho; clear hg_ hnew_ n0_ ho hb3) | (go_at_call 47; refine (impl_MeantBy.c47 (List.replicate 100 false) gb A0 c0 l0 _ (Kd.C_below HR0.out HB.out) hl0 hch' ⟨List.length_replicate, BK.out⟩).mono ?_; rintro e w5 ⟨v27, rfl, ho, hb⟩; have n0_ := am_ (below_step HB.out hb); have n1_ := am_ (Kd.R_below HO.out hb); have n2_ := am_ (blk_below BK.out hb); have HA := am_ (Kd.R_lower ho (below_size HB.out)); clear HB HO BK; have HB := n0_; have HO := n1_; have BK := n2_; clear n0_ n1_ n2_ ho hb))
      go_loopg [7, 8, 30] l1.length (fun kq v7 v8 v30 w' => ∃ (x : Int) (j : Nat) (s : List Bool × List Bool × List S69), v30 = .int .i64 x ∧ Aside0 (x = (j : Int)) ∧ Aside0 (j + kq = l1.length) ∧ Aside0 (s = impl_MeantBy.run l0 (l1.take j)) ∧ Aside0 (s.2.2.length ≤ j * 1000) ∧ Aside0 (s.2.1.length = l0.length) ∧ Aside0 (impl_MeantBy.Kb w' gb s.1) ∧ Aside0 (Kd.R k69 69 w' w.heap.size (fun _ => True) v7 s.2.2) ∧ Aside0 (Kd.R Kd.bool 4 w' w.heap.size (fun _ => True) v8 s.2.1) ∧ Aside0 (Below w.heap.size w w'))
      case atStart => exact ⟨0, 0, impl_MeantBy.init l0, rfl, ⟨rfl⟩, ⟨by omega⟩, ⟨rfl⟩, ⟨by simp [impl_MeantBy.init]⟩, ⟨by simp [impl_MeantBy.init, impl_MeantBy.holds]⟩, ⟨⟨List.length_replicate, BK.out⟩⟩, ⟨Kd.R_mono HO.out (fun _ _ => trivial)⟩, ⟨Kd.R_mono HA.out (fun _ _ => trivial)⟩, ⟨HB.out⟩⟩
      case round =>
        clear HO HB BK HA
        obtain ⟨x, j, ⟨Hs, As, Os⟩, rfl, HX, HK, HE, HL, HAL, BK, HO, HA, HB⟩ := hrel
        by_cases hj : j < l1.length
        · obtain ⟨k2, rfl⟩ : ∃ k2, gk = k2 + 1 := ⟨gk - 1, by have := HK.out; omega⟩
          obtain ⟨ad, e0, hx_0, hx_1, hx_2⟩ := at_T65 HR1.out x (by have := HX.out; omega) (by have := HX.out; omega)
          cases e0
          replace hx_0 := hc_ HB.out hx_0
          replace hx_1 := hc_ HB.out hx_1
          replace hx_2 := hc_ HB.out hx_2
          have hwj : wrap64 (x + 1) = ((j + 1 : Nat) : Int) := by have := HX.out; unfold wrap64; omega
          have p0 := eq_true (show 0 ≤ x by have := HX.out; omega)
          have q0 := eq_true (show x < (l1.length : Int) by have := HX.out; omega)
          have c0b : decide (x < (l1.length : Int)) = true := decide_eq_true (by have := HX.out; omega)
          have hrd : rd_T65 l1 x = l1[j] := by
            rw [HX.out]
            unfold rd_T65
            rw [Int.toNat_natCast, List.getD_eq_getElem?_getD, List.getElem?_eq_getElem hj, Option.getD_some]
          have hm := hev' (rd_T65 l1 x) (by rw [hrd]; exact List.getElem_mem hj)
          have hst : impl_MeantBy.run l0 (l1.take (j + 1)) = impl_MeantBy.step l0 (Hs, As, Os) (rd_T65 l1 x) := by
            rw [HE.out, hrd]
            unfold impl_MeantBy.run
            rw [List.take_succ_eq_append_getElem hj, List.foldl_append]
            rfl
          have HST := am_ hst
          clear hst hrd
          have p1 := eq_true hm.1
          have q1 := eq_true (show (rd_T65 l1 x).f1 < 100 by omega)
          go_wp2_with (first | ((with_reducible refine gate_dst (N := 10) rfl ?_); refine bx_ 10 #[.int .i64 0, .int .i64 0, .bool false] 65 ?_; intro ge hg w4 hbox hb; have n0_ := am_ (below_step HB.out hb); have n1_ := am_ (Kd.R_below HO.out hb); have n2_ := am_ (gs_ hg (bw_ HB.out)); have n3_ := am_ (impl_MeantBy.Kb_below BK.out hb); have n4_ := am_ (Kd.R_below HA.out hb); clear HB HO BK HA; have HB := n0_; have HO := n1_; have GE := n2_; have BK := n3_; have HA := n4_; have BE := am_ hbox; clear hb hbox hg n0_ n1_ n2_ n3_ n4_; have hnb := blk_ne BK.out.2 BE.out (by decide); have hcz0 := cz_ BE.out 0; have hcz1 := cz_ BE.out 1; have hcz2 := cz_ BE.out 2; have hfz0 := blk_frozen BE.out 0; have hfz1 := blk_frozen BE.out 1; have hfz2 := blk_frozen BE.out 2) | ((with_reducible refine gate_store (t := 65) (p := 10) rfl ?_); refine se_ 65 10 (((w4.setCell ⟨ge, 0, none⟩ (.int .i64 (rd_T65 l1 x).f0)).setCell ⟨ge, 1, none⟩ (.int .i64 (rd_T65 l1 x).f1)).setCell ⟨ge, 2, none⟩ (.bool (rd_T65 l1 x).f2)) ?_; intro w5 hw; have n0_ := am_ (show Below w.heap.size w w5 by rw [hw]; exact below_set (below_set (below_set HB.out GE.out) GE.out) GE.out); have n1_ : Aside0 (Kd.R k69 69 w5 w.heap.size (fun _ => True) u7 Os) := ⟨by rw [hw]; exact Kd.R_mono (Kd.R_far (p := ⟨ge, 2, none⟩) (Kd.R_far (p := ⟨ge, 1, none⟩) (Kd.R_far (p := ⟨ge, 0, none⟩) (Kd.R_types HO.out BE.out (by decide)) (fun _ hk => hk.2) _) (fun _ hk => hk.2) _) (fun _ hk => hk.2) _) (fun _ _ => trivial)⟩; have n4_ : Aside0 (Kd.R Kd.bool 4 w5 w.heap.size (fun _ => True) u8 As) := ⟨by rw [hw]; exact Kd.R_mono (Kd.R_far (p := ⟨ge, 2, none⟩) (Kd.R_far (p := ⟨ge, 1, none⟩) (Kd.R_far (p := ⟨ge, 0, none⟩) (Kd.R_types HA.out BE.out (by decide)) (fun _ hk => hk.2) _) (fun _ hk => hk.2) _) (fun _ hk => hk.2) _) (fun _ _ => trivial)⟩; have n2_ : Aside0 (w5.heap[ge]? = some (.cells #[.int .i64 (rd_T65 l1 x).f0, .int .i64 (rd_T65 l1 x).f1, .bool (rd_T65 l1 x).f2] 65 (0, 0))) := ⟨by rw [hw]; exact blk_set (blk_set (blk_set BE.out 0 _) 1 _) 2 _⟩; have n3_ : Aside0 (impl_MeantBy.Kb w5 gb Hs) := ⟨⟨BK.out.1, by rw [hw]; exact blk_far (blk_far (blk_far BK.out.2 hnb _ (p := ⟨ge, 0, none⟩)) hnb _ (p := ⟨ge, 1, none⟩)) hnb _ (p := ⟨ge, 2, none⟩)⟩⟩; clear HB HO BE BK HA hw hcz0 hcz1 hcz2 hfz0 hfz1 hfz2; have HB := n0_; have HO := n1_; have BE := n2_; have BK := n3_; have HA := n4_; clear n0_ n1_ n2_ n3_ n4_; have hcz0 := cz_ BE.out 0; have hcz1 := cz_ BE.out 1; have hcz2 := cz_ BE.out 2; have hcg := impl_MeantBy.Kb_at BK.out _ hm.1 hm.2; have hfg := blk_frozen BK.out.2 (rd_T65 l1 x).f1.toNat))
          have mixed : Try.prog.follows Departure.mixedOrders = true := by kernel_rfl
          have n0_ := am_ (below_drew1 HB.out)
          have n1_ := am_ (Kd.R_drew HO.out)
          have n2_ := am_ (impl_MeantBy.Kb_below BK.out (below_drew1 (Below.refl _ _)))
          have n3_ := am_ (blk_below BE.out (below_drew1 (Below.refl _ _)))
          have n4_ := am_ (Kd.R_drew HA.out)
          clear HB HO BE BK HA hcz0 hcz1 hcz2 hcg hfg
          have HB := n0_
          have HO := n1_
          have BK := n2_
          have BE := n3_
          have HA := n4_
          clear n0_ n1_ n2_ n3_ n4_
          have hcz1 := cz_ BE.out 1
          have hcz2 := cz_ BE.out 2
          have hcg := impl_MeantBy.Kb_at BK.out _ hm.1 hm.2
          have hfg := blk_frozen BK.out.2 (rd_T65 l1 x).f1.toNat
          go_region
          have hset : ((Hs.map Value.bool).toArray).setIfInBounds (rd_T65 l1 x).f1.toNat (.bool (rd_T65 l1 x).f2) = ((Hs.set (rd_T65 l1 x).f1.toNat (rd_T65 l1 x).f2).map Value.bool).toArray := by simp [List.map_set]
          obtain ⟨Hn, hHn⟩ : ∃ Hn, Hn = Hs.set (rd_T65 l1 x).f1.toNat (rd_T65 l1 x).f2 := ⟨_, rfl⟩
          rw [← hHn] at hset
          have HN := am_ hHn
          have n0_ : Aside0 (Below w.heap.size w (w5.drew.setCell ⟨gb, (rd_T65 l1 x).f1.toNat, none⟩ (.bool (rd_T65 l1 x).f2))) := ⟨below_set HB.out GB.out⟩
          have n1_ : Aside0 (Kd.R k69 69 (w5.drew.setCell ⟨gb, (rd_T65 l1 x).f1.toNat, none⟩ (.bool (rd_T65 l1 x).f2)) w.heap.size (fun _ => True) u7 Os) := ⟨Kd.R_mono (Kd.R_far (p := ⟨gb, (rd_T65 l1 x).f1.toNat, none⟩) (Kd.R_types HO.out BK.out.2 (by decide)) (fun _ hk => hk.2) _) (fun _ _ => trivial)⟩
          have n2_ : Aside0 (impl_MeantBy.Kb (w5.drew.setCell ⟨gb, (rd_T65 l1 x).f1.toNat, none⟩ (.bool (rd_T65 l1 x).f2)) gb Hn) := ⟨⟨by rw [hHn, List.length_set]; exact BK.out.1, by rw [← hset]; exact blk_set BK.out.2 _ _⟩⟩
          have n3_ : Aside0 ((w5.drew.setCell ⟨gb, (rd_T65 l1 x).f1.toNat, none⟩ (.bool (rd_T65 l1 x).f2)).heap[ge]? = some (.cells #[.int .i64 (rd_T65 l1 x).f0, .int .i64 (rd_T65 l1 x).f1, .bool (rd_T65 l1 x).f2] 65 (0, 0))) := ⟨blk_far BE.out hnb.symm _ (p := ⟨gb, (rd_T65 l1 x).f1.toNat, none⟩)⟩
          have n4_ : Aside0 (Kd.R Kd.bool 4 (w5.drew.setCell ⟨gb, (rd_T65 l1 x).f1.toNat, none⟩ (.bool (rd_T65 l1 x).f2)) w.heap.size (fun _ => True) u8 As) := ⟨Kd.R_mono (Kd.R_far (p := ⟨gb, (rd_T65 l1 x).f1.toNat, none⟩) (Kd.R_types HA.out BK.out.2 (by decide)) (fun _ hk => hk.2) _) (fun _ _ => trivial)⟩
          clear HB HO BE BK HA hcz1 hcz2 hcg hfg hset hHn
          generalize hw6 : (w5.setCell ⟨gb, (rd_T65 l1 x).f1.toNat, none⟩ (.bool (rd_T65 l1 x).f2)).drew = w6
          replace hw6 : w5.drew.setCell ⟨gb, (rd_T65 l1 x).f1.toNat, none⟩ (.bool (rd_T65 l1 x).f2) = w6 := hw6
          rw [hw6] at n0_ n1_ n2_ n3_ n4_
          clear hw6
          have HB := n0_
          have HO := n1_
          have BK := n2_
          have BE := n3_
          have HA := n4_
          clear n0_ n1_ n2_ n3_ n4_
          go_wp2_with (go_at_call 47; refine (impl_MeantBy.c47 Hn gb A0 c0 l0 _ (Kd.C_below HR0.out HB.out) hl0 hch' BK.out).mono ?_; rintro e w7 ⟨v43, rfl, ho, hb⟩; have n0_ := am_ (below_step HB.out hb); have n1_ := am_ (Kd.R_below HO.out hb); have n2_ := am_ (impl_MeantBy.Kb_below BK.out hb); have n3_ := am_ (blk_below BE.out hb); have n4_ := am_ (Kd.R_below HA.out hb); have HW := am_ (Kd.R_lower ho (below_size HB.out)); clear HB HO BK BE HA; have HB := n0_; have HO := n1_; have BK := n2_; have BE := n3_; have HA := n4_; clear n0_ n1_ n2_ n3_ n4_ ho hb)
          obtain ⟨Ns, hNs⟩ : ∃ Ns, Ns = impl_MeantBy.holds Hn l0 := ⟨_, rfl⟩
          rw [← hNs] at HW
          have hNl : Ns.length = l0.length := by rw [hNs]; unfold impl_MeantBy.holds; rw [List.length_map]
          have HNS := am_ hNs
          have HNL := am_ hNl
          clear hNs hNl
          go_loopg [7, 46] l0.length (fun kq v7 v46 w' => ∃ (x2 : Int) (i : Nat) (o : List S69), v46 = .int .i64 x2 ∧ Aside0 (x2 = (i : Int)) ∧ Aside0 (i + kq = l0.length) ∧ Aside0 (o ++ impl_MeantBy.changes (rd_T65 l1 x) l0 Ns As kq i = Os ++ impl_MeantBy.changes (rd_T65 l1 x) l0 Ns As l0.length 0) ∧ Aside0 (o.length ≤ j * 1000 + i) ∧ Aside0 (impl_MeantBy.Kb w' gb Hn) ∧ Aside0 (Kd.R k69 69 w' w.heap.size (fun _ => True) v7 o) ∧ Aside0 (Kd.R Kd.bool 4 w' w.heap.size (fun _ => True) u8 As) ∧ Aside0 (Kd.R Kd.bool 4 w' w.heap.size (fun _ => True) v43 Ns) ∧ Aside0 (w'.heap[ge]? = some (.cells #[.int .i64 (rd_T65 l1 x).f0, .int .i64 (rd_T65 l1 x).f1, .bool (rd_T65 l1 x).f2] 65 (0, 0))) ∧ Aside0 (Below w.heap.size w w'))
          case atStart => exact ⟨0, 0, Os, rfl, ⟨rfl⟩, ⟨by omega⟩, ⟨rfl⟩, ⟨by have := HL.out; exact this⟩, ⟨BK.out⟩, ⟨HO.out⟩, ⟨HA.out⟩, ⟨Kd.R_mono HW.out (fun _ _ => trivial)⟩, ⟨BE.out⟩, ⟨HB.out⟩⟩
          case round =>
            clear HO HB BK HA HW BE
            obtain ⟨x2, i, o, rfl, HX2, HK2, HC, HL2, BK, HO, HA, HW, BE, HB⟩ := hrel
            by_cases hi : i < l0.length
            · obtain ⟨k3, rfl⟩ : ∃ k3, gk = k3 + 1 := ⟨gk - 1, by have := HK2.out; omega⟩
              obtain ⟨g8, c8, e8, _, _, _⟩ := Kd.R_form HA.out (by have := HAL.out; show 0 < As.length; have h_ : As.length = l0.length := this; omega)
              obtain ⟨g9, c9, e9, _, _, _⟩ := Kd.R_form HW.out (by have := HNL.out; omega)
              subst e8 e9
              have hAl : As.length = l0.length := HAL.out
              have hNl := HNL.out
              have hx2 := HX2.out
              obtain ⟨ad2, Ab, cb, e0, hy_0, hy_1, hcb, hrb⟩ := at_T53 HR0.out x2 (by omega) (by omega)
              cases e0
              replace hy_0 := hc_ HB.out hy_0
              replace hy_1 := hc_ HB.out hy_1
              have hwi : wrap64 (x2 + 1) = ((i + 1 : Nat) : Int) := by unfold wrap64; omega
              have p2 := eq_true (show 0 ≤ x2 by omega)
              have q2 := eq_true (show x2 < (l0.length : Int) by omega)
              have q3 := eq_true (show x2 < (As.length : Int) by omega)
              have q4 := eq_true (show x2 < (Ns.length : Int) by omega)
              have c2b : decide (x2 < (l0.length : Int)) = true := decide_eq_true (by omega)
              clear hx2 hAl hNl hcb hrb
              go_wp2_with (first | ((with_reducible refine gate_dst (N := 13) rfl ?_); refine bx_ 13 #[.string (⟨#[]⟩ : ByteArray), .slice none 0 0] 53 ?_; intro gx hg w10 hbox hb; have n0_ := am_ (below_step HB.out hb); have n1_ := am_ (Kd.R_below HO.out hb); have n2_ := am_ (gs_ hg (bw_ HB.out)); have n3_ := am_ (impl_MeantBy.Kb_below BK.out hb); have n4_ := am_ (Kd.R_below HA.out hb); have n5_ := am_ (Kd.R_below HW.out hb); have n6_ := am_ (blk_below BE.out hb); clear HB HO BK HA HW BE; have HB := n0_; have HO := n1_; have GX := n2_; have BK := n3_; have HA := n4_; have HW := n5_; have BE := n6_; have BX := am_ hbox; clear hb hbox hg n0_ n1_ n2_ n3_ n4_ n5_ n6_; have hnk := blk_ne BK.out.2 BX.out (by decide); have hne := blk_ne BE.out BX.out (by decide); have hcz0 := cz_ BX.out 0; have hcz1 := cz_ BX.out 1; have hfz0 := blk_frozen BX.out 0; have hfz1 := blk_frozen BX.out 1) | ((with_reducible refine gate_store (t := 53) (p := 13) rfl ?_); refine se_ 53 13 ((w10.setCell ⟨gx, 0, none⟩ (.string (rd_T53 l0 x2).f0)).setCell ⟨gx, 1, none⟩ (.slice Ab (rd_T53 l0 x2).f1.length cb)) ?_; intro w11 hw; have n0_ := am_ (show Below w.heap.size w w11 by rw [hw]; exact below_set (below_set HB.out GX.out) GX.out); have n1_ : Aside0 (Kd.R k69 69 w11 w.heap.size (fun _ => True) u7 o) := ⟨by rw [hw]; exact Kd.R_mono (Kd.R_far (p := ⟨gx, 1, none⟩) (Kd.R_far (p := ⟨gx, 0, none⟩) (Kd.R_types HO.out BX.out (by decide)) (fun _ hk => hk.2) _) (fun _ hk => hk.2) _) (fun _ _ => trivial)⟩; have n4_ : Aside0 (Kd.R Kd.bool 4 w11 w.heap.size (fun _ => True) (.slice (some ⟨g8, 0, none⟩) As.length c8) As) := ⟨by rw [hw]; exact Kd.R_mono (Kd.R_far (p := ⟨gx, 1, none⟩) (Kd.R_far (p := ⟨gx, 0, none⟩) (Kd.R_types HA.out BX.out (by decide)) (fun _ hk => hk.2) _) (fun _ hk => hk.2) _) (fun _ _ => trivial)⟩; have n5_ : Aside0 (Kd.R Kd.bool 4 w11 w.heap.size (fun _ => True) (.slice (some ⟨g9, 0, none⟩) Ns.length c9) Ns) := ⟨by rw [hw]; exact Kd.R_mono (Kd.R_far (p := ⟨gx, 1, none⟩) (Kd.R_far (p := ⟨gx, 0, none⟩) (Kd.R_types HW.out BX.out (by decide)) (fun _ hk => hk.2) _) (fun _ hk => hk.2) _) (fun _ _ => trivial)⟩; have n2_ : Aside0 (w11.heap[gx]? = some (.cells #[.string (rd_T53 l0 x2).f0, .slice Ab (rd_T53 l0 x2).f1.length cb] 53 (0, 0))) := ⟨by rw [hw]; exact blk_set (blk_set BX.out 0 _) 1 _⟩; have n3_ : Aside0 (impl_MeantBy.Kb w11 gb Hn) := ⟨⟨BK.out.1, by rw [hw]; exact blk_far (blk_far BK.out.2 hnk _ (p := ⟨gx, 0, none⟩)) hnk _ (p := ⟨gx, 1, none⟩)⟩⟩; have n6_ : Aside0 (w11.heap[ge]? = some (.cells #[.int .i64 (rd_T65 l1 x).f0, .int .i64 (rd_T65 l1 x).f1, .bool (rd_T65 l1 x).f2] 65 (0, 0))) := ⟨by rw [hw]; exact blk_far (blk_far BE.out hne _ (p := ⟨gx, 0, none⟩)) hne _ (p := ⟨gx, 1, none⟩)⟩; clear HB HO BE BK HA HW BX hw hcz0 hcz1 hfz0 hfz1; have HB := n0_; have HO := n1_; have BX := n2_; have BK := n3_; have HA := n4_; have HW := n5_; have BE := n6_; clear n0_ n1_ n2_ n3_ n4_ n5_ n6_))
              have n0_ := am_ (below_drew1 HB.out)
              have n1_ := am_ (Kd.R_drew HO.out)
              have n2_ := am_ (blk_below BX.out (below_drew1 (Below.refl _ _)))
              have n3_ := am_ (impl_MeantBy.Kb_below BK.out (below_drew1 (Below.refl _ _)))
              have n4_ := am_ (Kd.R_drew HA.out)
              have n5_ := am_ (Kd.R_drew HW.out)
              have n6_ := am_ (blk_below BE.out (below_drew1 (Below.refl _ _)))
              clear HB HO BX BK HA HW BE
              have HB := n0_
              have HO := n1_
              have BX := n2_
              have BK := n3_
              have HA := n4_
              have HW := n5_
              have BE := n6_
              clear n0_ n1_ n2_ n3_ n4_ n5_ n6_
              have hca := (Kd.R_celln false HA.out x2 (by have := HX2.out; omega) (by have := HX2.out; have h_ : As.length = l0.length := HAL.out; omega)).1
              have hcw := (Kd.R_celln false HW.out x2 (by have := HX2.out; omega) (by have := HX2.out; have := HNL.out; omega)).1
              obtain ⟨bq, hbq⟩ : ∃ bq, (rdOf false Ns x2 == rdOf false As x2) = bq := ⟨_, rfl⟩
              have HBQ := am_ hbq
              cases bq with
              | true =>
                go_region
                go_wp2_with (fail "x")
                go_roundg k3
                case measure => omega
                case rel => exact ⟨_, i + 1, o, rfl, ⟨by first | exact hwi | (have := HX2.out; omega)⟩, ⟨by have := HK2.out; omega⟩, ⟨impl_MeantBy.changes_true HX2.out HBQ.out HC.out⟩, ⟨by have := HL2.out; omega⟩, ⟨BK.out⟩, ⟨HO.out⟩, ⟨HA.out⟩, ⟨HW.out⟩, ⟨BE.out⟩, ⟨HB.out⟩⟩
              | false =>
                go_region
                go_wp2_with (fail "x")
                clear hca hcw
                have n0_ := am_ (below_drew1 HB.out)
                have n1_ := am_ (Kd.R_drew HO.out)
                have n2_ := am_ (blk_below BX.out (below_drew1 (Below.refl _ _)))
                have n3_ := am_ (impl_MeantBy.Kb_below BK.out (below_drew1 (Below.refl _ _)))
                have n4_ := am_ (Kd.R_drew HA.out)
                have n5_ := am_ (Kd.R_drew HW.out)
                have n6_ := am_ (blk_below BE.out (below_drew1 (Below.refl _ _)))
                clear HB HO BX BK HA HW BE
                have HB := n0_
                have HO := n1_
                have BX := n2_
                have BK := n3_
                have HA := n4_
                have HW := n5_
                have BE := n6_
                clear n0_ n1_ n2_ n3_ n4_ n5_ n6_
                have hcw := (Kd.R_celln false HW.out x2 (by have := HX2.out; omega) (by have := HX2.out; have := HNL.out; omega)).1
                have hce := cz_ BE.out 0
                have hcx := cz_ BX.out 0
                go_region_law_o (refine Kd.R_append_step k69 (w0 := w) w.heap.size (by rfl) (.tmp 60) (.tmp 70) 37 69 (.agg #[.int .i64 0, .string ⟨#[]⟩, .bool false]) 32 rfl Try.underlying37 info69 rfl (by decide) (by omega) u7 o (⟨(rd_T65 l1 x).f0, (rd_T53 l0 x2).f0, rdOf false Ns x2⟩ : S69) [.int .i64 (rd_T65 l1 x).f0, .string (rd_T53 l0 x2).f0, .bool (rdOf false Ns x2)] (fun _ => True) (fun _ => False) rfl rfl (k69_mkM _ _ _ (⟨(rd_T65 l1 x).f0, (rd_T53 l0 x2).f0, rdOf false Ns x2⟩ : S69)) (fun _ hk => hk.elim) (fun _ _ => trivial) HO.out HB.out (below_size HB.out) (by have := HL2.out; have := HK.out; have := HK2.out; omega) ?_; intro v71 w71 ho hb hg hat)
                all_goals
                  have n0_ := am_ hb
                  have n1_ := am_ ho
                  have n2_ := am_ (blk_grown BX.out hg (Kd.R_ne HO.out BX.out (by decide)))
                  have n3_ : Aside0 (impl_MeantBy.Kb w71 gb Hn) := ⟨⟨BK.out.1, blk_grown BK.out.2 hg (Kd.R_ne HO.out BK.out.2 (by decide))⟩⟩
                  have n4_ := am_ (Kd.R_over' HA.out (Kd.R_typed HO.out) (by decide) hg)
                  have n5_ := am_ (Kd.R_over' HW.out (Kd.R_typed HO.out) (by decide) hg)
                  have n6_ := am_ (blk_grown BE.out hg (Kd.R_ne HO.out BE.out (by decide)))
                  clear HB HO BX BK HA HW BE ho hb hg hat hcw hce hcx
                  have HB := n0_
                  have HO := n1_
                  have BX := n2_
                  have BK := n3_
                  have HA := n4_
                  have HW := n5_
                  have BE := n6_
                  clear n0_ n1_ n2_ n3_ n4_ n5_ n6_
                  go_wp2_with (fail "x")
                  go_roundg k3
                  case measure => omega
                  case rel => exact ⟨_, i + 1, _, rfl, ⟨by first | exact hwi | (have := HX2.out; omega)⟩, ⟨by have := HK2.out; omega⟩, ⟨impl_MeantBy.changes_false HX2.out HBQ.out HC.out⟩, ⟨by have := HL2.out; rw [List.length_append, List.length_singleton]; omega⟩, ⟨BK.out⟩, ⟨HO.out⟩, ⟨HA.out⟩, ⟨HW.out⟩, ⟨BE.out⟩, ⟨HB.out⟩⟩
            · have hgk : gk = 0 := by have := HK2.out; omega
              subst hgk
              have hC := HC.out
              rw [impl_MeantBy.changes, List.append_nil] at hC
              have hs2 : impl_MeantBy.run l0 (l1.take (j + 1)) = (Hn, Ns, o) := by
                rw [HST.out, impl_MeantBy.step, ← HN.out, ← HNS.out, hC]
              have HS2 := am_ hs2
              clear hs2 hC
              have c2b : decide (x2 < (l0.length : Int)) = false := decide_eq_false (by have := HX2.out; have := HK2.out; omega)
              go_wp2_with (fail "x")
              go_roundg k2
              case measure => omega
              case rel => exact ⟨_, j + 1, (Hn, Ns, o), rfl, ⟨by first | exact hwj | (have := HX.out; omega)⟩, ⟨by have := HK.out; omega⟩, ⟨HS2.out.symm⟩, ⟨by have := HL2.out; have := HK2.out; show o.length ≤ _; omega⟩, ⟨HNL.out⟩, ⟨BK.out⟩, ⟨HO.out⟩, ⟨HW.out⟩, ⟨HB.out⟩⟩
        · have hjl : j = l1.length := by have := HK.out; omega
          have c0b : decide (x < (l1.length : Int)) = false := decide_eq_false (by have := HX.out; omega)
          go_wp2_with (fail "x")
          go_ret2
          have h1 := HE.out
          rw [hjl, List.take_length] at h1
          rw [← h1]
          exact ⟨_, rfl, HO.out, HB.out⟩

/-! ### laws_eqMeant: function 48 -/
def laws_eqMeant.f (a0_0 : Int) (a0_1 : ByteArray) (a0_2 : Bool) (a1_0 : Int) (a1_1 : ByteArray) (a1_2 : Bool) : Option (Bool) := if a0_0 = a1_0 then (if a0_1.toList = a1_1.toList then (if (a0_2 != a1_2) = true then (some false) else (some true)) else (some false)) else (some false)
set_option maxHeartbeats 8000000 in
set_option maxRecDepth 100000 in
theorem laws_eqMeant.calls (a0_0 : Int) (a0_1 : ByteArray) (a0_2 : Bool) (a1_0 : Int) (a1_1 : ByteArray) (a1_2 : Bool) (r : Bool) (w : World) (h : laws_eqMeant.f a0_0 a0_1 a0_2 a1_0 a1_1 a1_2 = some r) :
  Calls Try.prog 48 #[.agg #[.int .i64 a0_0, .string a0_1, .bool a0_2], .agg #[.int .i64 a1_0, .string a1_1, .bool a1_2]] w fun e w' => e = .returned (.bool r) ∧ Below w.heap.size w w' := by
 have hu69 := Try.underlying69
 have HB := am_ (Below.refl w.heap.size w)
 have H : (if a0_0 = a1_0 then (if a0_1.toList = a1_1.toList then (if (a0_2 != a1_2) = true then (some false) else (some true)) else (some false)) else (some false)) = some r := h
 clear h
 by_cases c3 : a0_0 = a1_0
 ·rw [if_pos c3] at H
  have c3b0 : (a0_0 == a1_0) = true := beq_iff_eq.mpr c3
  have c3b1 : (a0_0 != a1_0) = false := bne_eq_false_iff_eq.mpr c3
  clear c3
  by_cases c4 : a0_1.toList = a1_1.toList
  ·rw [if_pos c4] at H
   have c4b0 : (a0_1.toList == a1_1.toList) = true := beq_iff_eq.mpr c4
   have c4b1 : (a0_1.toList != a1_1.toList) = false := bne_eq_false_iff_eq.mpr c4
   clear c4
   by_cases c5 : (a0_2 != a1_2) = true
   ·rw [if_pos c5] at H
    have c5b0 : (a0_2 != a1_2) = true := c5
    (try (have c5b9 : (!(a0_2 == a1_2)) = true := c5b0))
    (try (have c5b1 : decide (a0_2 = a1_2) = false := by simpa using c5))
    (try (have c5b2 : (a0_2 == a1_2) = false := by simpa using c5))
    (try (have c5b3 : ¬ (a0_2 = a1_2) := by simpa using c5))
    clear c5
    obtain rfl := Option.some.inj H
    go_enter Try.func48, Try.ntmps48
    go_wp2_with (first | ((with_reducible refine gate_dst (N := 2) rfl ?_); refine bx_ 2 #[.int .i64 a0_0, .string a0_1, .bool a0_2] 69 ?_; intro gb297 hg w6 hbox hb; have n0_ := am_ (below_step (bw_ HB.out) hb); have n1_ := am_ (hbox); have n2_ := am_ (gs_ hg (bw_ HB.out)); have n3_ := am_ (gs_ hg (bw_ HB.out)); replace HB := n0_; have BK297 := n1_; have GW297 := n2_; have GE297 := n3_; clear n0_ n1_ n2_ n3_; clear hb hbox hg) | ((with_reducible refine gate_dst (N := 3) rfl ?_); refine bx_ 3 #[.int .i64 a1_0, .string a1_1, .bool a1_2] 69 ?_; intro gb298 hg w7 hbox hb; have n0_ := am_ (blk_below (bk_ BK297.out) hb); have n1_ := am_ (below_step (bw_ HB.out) hb); have n2_ := am_ (hbox); have n3_ := am_ (gs_ hg (bw_ HB.out)); have n4_ := am_ (gs_ hg (bw_ HB.out)); have n5_ := am_ (nl_ hg (bk_ BK297.out)); have n6_ := am_ (ng_ hg (bk_ BK297.out)); replace BK297 := n0_; replace HB := n1_; have BK298 := n2_; have GW298 := n3_; have GE298 := n4_; have NB297_298 := n5_; have NB298_297 := n6_; clear n0_ n1_ n2_ n3_ n4_ n5_ n6_; clear hb hbox hg; have hnb8 := NB297_298.out; have hnc8 := NB298_297.out; have hcz9_0 := cz_ BK297.out 0; have hcz9_1 := cz_ BK297.out 1; have hcz9_2 := cz_ BK297.out 2; have hfz9_0 := blk_frozen BK297.out 0; have hfz9_1 := blk_frozen BK297.out 1; have hfz9_2 := blk_frozen BK297.out 2; have hcz10_0 := cz_ BK298.out 0; have hcz10_1 := cz_ BK298.out 1; have hcz10_2 := cz_ BK298.out 2; have hfz10_0 := blk_frozen BK298.out 0; have hfz10_1 := blk_frozen BK298.out 1; have hfz10_2 := blk_frozen BK298.out 2))
    go_ret
    exact ⟨by first | rfl | (simp [errW_none, errW_some] <;> rfl) | (simp [*, errW_none, errW_some] <;> rfl), bw_ HB.out⟩
   ·rw [if_neg c5] at H
    have c5b0 : (a0_2 != a1_2) = false := by simpa using c5
    (try (have c5b9 : (!(a0_2 == a1_2)) = false := c5b0))
    (try (have c5b1 : decide (a0_2 = a1_2) = true := by simpa using c5))
    (try (have c5b2 : (a0_2 == a1_2) = true := by simpa using c5))
    clear c5
    obtain rfl := Option.some.inj H
    go_enter Try.func48, Try.ntmps48
    go_wp2_with (first | ((with_reducible refine gate_dst (N := 2) rfl ?_); refine bx_ 2 #[.int .i64 a0_0, .string a0_1, .bool a0_2] 69 ?_; intro gb297 hg w11 hbox hb; have n0_ := am_ (below_step (bw_ HB.out) hb); have n1_ := am_ (hbox); have n2_ := am_ (gs_ hg (bw_ HB.out)); have n3_ := am_ (gs_ hg (bw_ HB.out)); replace HB := n0_; have BK297 := n1_; have GW297 := n2_; have GE297 := n3_; clear n0_ n1_ n2_ n3_; clear hb hbox hg) | ((with_reducible refine gate_dst (N := 3) rfl ?_); refine bx_ 3 #[.int .i64 a1_0, .string a1_1, .bool a1_2] 69 ?_; intro gb298 hg w12 hbox hb; have n0_ := am_ (blk_below (bk_ BK297.out) hb); have n1_ := am_ (below_step (bw_ HB.out) hb); have n2_ := am_ (hbox); have n3_ := am_ (gs_ hg (bw_ HB.out)); have n4_ := am_ (gs_ hg (bw_ HB.out)); have n5_ := am_ (nl_ hg (bk_ BK297.out)); have n6_ := am_ (ng_ hg (bk_ BK297.out)); replace BK297 := n0_; replace HB := n1_; have BK298 := n2_; have GW298 := n3_; have GE298 := n4_; have NB297_298 := n5_; have NB298_297 := n6_; clear n0_ n1_ n2_ n3_ n4_ n5_ n6_; clear hb hbox hg; have hnb13 := NB297_298.out; have hnc13 := NB298_297.out; have hcz14_0 := cz_ BK297.out 0; have hcz14_1 := cz_ BK297.out 1; have hcz14_2 := cz_ BK297.out 2; have hfz14_0 := blk_frozen BK297.out 0; have hfz14_1 := blk_frozen BK297.out 1; have hfz14_2 := blk_frozen BK297.out 2; have hcz15_0 := cz_ BK298.out 0; have hcz15_1 := cz_ BK298.out 1; have hcz15_2 := cz_ BK298.out 2; have hfz15_0 := blk_frozen BK298.out 0; have hfz15_1 := blk_frozen BK298.out 1; have hfz15_2 := blk_frozen BK298.out 2))
    go_ret
    exact ⟨by first | rfl | (simp [errW_none, errW_some] <;> rfl) | (simp [*, errW_none, errW_some] <;> rfl), bw_ HB.out⟩
  ·rw [if_neg c4] at H
   have c4b0 : (a0_1.toList == a1_1.toList) = false := beq_eq_false_iff_ne.mpr c4
   have c4b1 : (a0_1.toList != a1_1.toList) = true := bne_iff_ne.mpr c4
   obtain rfl := Option.some.inj H
   go_enter Try.func48, Try.ntmps48
   go_wp2_with (first | ((with_reducible refine gate_dst (N := 2) rfl ?_); refine bx_ 2 #[.int .i64 a0_0, .string a0_1, .bool a0_2] 69 ?_; intro gb297 hg w16 hbox hb; have n0_ := am_ (below_step (bw_ HB.out) hb); have n1_ := am_ (hbox); have n2_ := am_ (gs_ hg (bw_ HB.out)); have n3_ := am_ (gs_ hg (bw_ HB.out)); replace HB := n0_; have BK297 := n1_; have GW297 := n2_; have GE297 := n3_; clear n0_ n1_ n2_ n3_; clear hb hbox hg) | ((with_reducible refine gate_dst (N := 3) rfl ?_); refine bx_ 3 #[.int .i64 a1_0, .string a1_1, .bool a1_2] 69 ?_; intro gb298 hg w17 hbox hb; have n0_ := am_ (blk_below (bk_ BK297.out) hb); have n1_ := am_ (below_step (bw_ HB.out) hb); have n2_ := am_ (hbox); have n3_ := am_ (gs_ hg (bw_ HB.out)); have n4_ := am_ (gs_ hg (bw_ HB.out)); have n5_ := am_ (nl_ hg (bk_ BK297.out)); have n6_ := am_ (ng_ hg (bk_ BK297.out)); replace BK297 := n0_; replace HB := n1_; have BK298 := n2_; have GW298 := n3_; have GE298 := n4_; have NB297_298 := n5_; have NB298_297 := n6_; clear n0_ n1_ n2_ n3_ n4_ n5_ n6_; clear hb hbox hg; have hnb18 := NB297_298.out; have hnc18 := NB298_297.out; have hcz19_0 := cz_ BK297.out 0; have hcz19_1 := cz_ BK297.out 1; have hcz19_2 := cz_ BK297.out 2; have hfz19_0 := blk_frozen BK297.out 0; have hfz19_1 := blk_frozen BK297.out 1; have hfz19_2 := blk_frozen BK297.out 2; have hcz20_0 := cz_ BK298.out 0; have hcz20_1 := cz_ BK298.out 1; have hcz20_2 := cz_ BK298.out 2; have hfz20_0 := blk_frozen BK298.out 0; have hfz20_1 := blk_frozen BK298.out 1; have hfz20_2 := blk_frozen BK298.out 2))
   go_ret
   exact ⟨by first | rfl | (simp [errW_none, errW_some] <;> rfl) | (simp [*, errW_none, errW_some] <;> rfl), bw_ HB.out⟩
 ·rw [if_neg c3] at H
  have c3b0 : (a0_0 == a1_0) = false := beq_eq_false_iff_ne.mpr c3
  have c3b1 : (a0_0 != a1_0) = true := bne_iff_ne.mpr c3
  obtain rfl := Option.some.inj H
  go_enter Try.func48, Try.ntmps48
  go_wp2_with (first | ((with_reducible refine gate_dst (N := 2) rfl ?_); refine bx_ 2 #[.int .i64 a0_0, .string a0_1, .bool a0_2] 69 ?_; intro gb297 hg w21 hbox hb; have n0_ := am_ (below_step (bw_ HB.out) hb); have n1_ := am_ (hbox); have n2_ := am_ (gs_ hg (bw_ HB.out)); have n3_ := am_ (gs_ hg (bw_ HB.out)); replace HB := n0_; have BK297 := n1_; have GW297 := n2_; have GE297 := n3_; clear n0_ n1_ n2_ n3_; clear hb hbox hg) | ((with_reducible refine gate_dst (N := 3) rfl ?_); refine bx_ 3 #[.int .i64 a1_0, .string a1_1, .bool a1_2] 69 ?_; intro gb298 hg w22 hbox hb; have n0_ := am_ (blk_below (bk_ BK297.out) hb); have n1_ := am_ (below_step (bw_ HB.out) hb); have n2_ := am_ (hbox); have n3_ := am_ (gs_ hg (bw_ HB.out)); have n4_ := am_ (gs_ hg (bw_ HB.out)); have n5_ := am_ (nl_ hg (bk_ BK297.out)); have n6_ := am_ (ng_ hg (bk_ BK297.out)); replace BK297 := n0_; replace HB := n1_; have BK298 := n2_; have GW298 := n3_; have GE298 := n4_; have NB297_298 := n5_; have NB298_297 := n6_; clear n0_ n1_ n2_ n3_ n4_ n5_ n6_; clear hb hbox hg; have hnb23 := NB297_298.out; have hnc23 := NB298_297.out; have hcz24_0 := cz_ BK297.out 0; have hcz24_1 := cz_ BK297.out 1; have hcz24_2 := cz_ BK297.out 2; have hfz24_0 := blk_frozen BK297.out 0; have hfz24_1 := blk_frozen BK297.out 1; have hfz24_2 := blk_frozen BK297.out 2; have hcz25_0 := cz_ BK298.out 0; have hcz25_1 := cz_ BK298.out 1; have hcz25_2 := cz_ BK298.out 2; have hfz25_0 := blk_frozen BK298.out 0; have hfz25_1 := blk_frozen BK298.out 1; have hfz25_2 := blk_frozen BK298.out 2))
  go_ret
  exact ⟨by first | rfl | (simp [errW_none, errW_some] <;> rfl) | (simp [*, errW_none, errW_some] <;> rfl), bw_ HB.out⟩

end Go.Proofs.Ytfgdfnnddoncjaa.XFnExactMeantBy
