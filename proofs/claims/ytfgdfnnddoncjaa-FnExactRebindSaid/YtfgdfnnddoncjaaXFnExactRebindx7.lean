/- What the Go functions that this law comes to compute, each walked; written by a program of this session. -/
import Derived.Shelf.RegionOpenPlain
import Derived.Lib.Overlaps
import Derived.Lib.AppendZerosOnto
import Derived.Laws.CopyRow
import Derived.Test.YtfgdfnnddoncjaaXShort
import Derived.Lib.Bytealg
import Derived.Test.YtfgdfnnddoncjaaXMark
import Derived.Test.YtfgdfnnddoncjaaXFnExactRebindx0
namespace Go.Proofs.Ytfgdfnnddoncjaa.XFnExactRebind
open Go.RowKit Go.Proofs.YtfgdfnnddoncjaaW.PrintWords Go.Proofs.YtfgdfnnddoncjaaW.PrintLast Go.Proofs.YtfgdfnnddoncjaaW.PrintMore
attribute [local go_sem] str_geq max2_int min2_int max_two min_two max_three min_three max_four min_four   -- for this text's walks alone
set_option linter.unusedVariables false
set_option linter.unusedSimpArgs false

/-! ### slices_Clone_int_int: function 34 -/
def slices_Clone_int_int.f (l0 : List Int) : Option (List Int) := (some (([] : List Int) : List Int)).bind fun y205 => (if y205.length + l0.length < 17592186044416 then (some (y205 ++ l0)) else (none))
theorem eqlNil23 (w : World) (A : Option Addr) (n c m k : Nat) : (binOp .eql 23 (.slice A n c) (.slice none m k)).run Try.prog w = .ok (.bool A.isNone) w := eqlNil_of Try.underlying23 w A n c m k
attribute [local go_sem high] eqlNil23
set_option maxHeartbeats 8000000 in
set_option maxRecDepth 100000 in
theorem slices_Clone_int_int.calls (A0 : Option Addr) (c0 : Nat) (l0 : List Int) (r : List Int) (w : World) (hr0 : Kd.C (Kd.int .i64) w A0 l0.length l0) (hc0 : l0.length ≤ c0) (h : slices_Clone_int_int.f l0 = some r) :
  Calls Try.prog 34 #[.slice A0 l0.length c0] w fun e w' => ∃ v0_ : Value, e = .returned (v0_) ∧ Kd.R (Kd.int .i64) 3 w' w.heap.size (fun _ => True) v0_ r ∧ Below w.heap.size w w' := by
 have HR0 := am_ hr0
 have HC0 := am_ hc0
 clear hr0 hc0
 have HB := am_ (Below.refl w.heap.size w)
 have H : ((some (([] : List Int) : List Int)).bind fun y205 => (if y205.length + l0.length < 17592186044416 then (some (y205 ++ l0)) else (none))) = some r := h
 clear h
 rcases A0 with _ | ad0_
 ·have e0_ : l0 = [] := List.eq_nil_of_length_eq_zero (Nat.eq_zero_of_not_pos fun hp_ => by obtain ⟨ad_, ha_, _⟩ := HR0.out.2.2 hp_; cases ha_)
  subst e0_
  have e1_ : r = [] := by simpa using H.symm
  subst e1_
  go_enter Try.func34, Try.ntmps34
  go_wp2
  go_ret
  exact ⟨_, by first | rfl | (simp; done), Kd.R_nil _ _ _ _ _, bw_ HB.out⟩
 obtain ⟨y205, hy205⟩ : ∃ y_ : List Int, y_ = (([] : List Int)) := ⟨_, rfl⟩
 replace H : (if y205.length + l0.length < 17592186044416 then (some (y205 ++ l0)) else (none)) = some r := by first | (rw [hy205]; with_reducible exact H) | (have H2_ := (Option.bind_some _ _).symm.trans H; rw [hy205]; with_reducible exact H2_) | (have H2_ := (Option.bind_some _ _).symm.trans H; with_reducible exact H2_) | with_reducible exact H | (rw [hy205]; exact H) | exact H
 have Ny205 := am_ hy205
 clear hy205
 obtain ⟨c2, H⟩ := ifn_ H
 have LMc2 := am_ c2
 clear c2
 obtain ⟨y208, hy208⟩ : ∃ y_ : List Int, y_ = (y205 ++ l0) := ⟨_, rfl⟩
 replace H : (some y208) = some r := by first | (rw [hy208]; with_reducible exact H) | (have H2_ := (Option.bind_some _ _).symm.trans H; rw [hy208]; with_reducible exact H2_) | (have H2_ := (Option.bind_some _ _).symm.trans H; with_reducible exact H2_) | with_reducible exact H | (rw [hy208]; exact H) | exact H
 have Ny208 := am_ hy208
 clear hy208
 obtain rfl := Option.some.inj H
 go_enter Try.func34, Try.ntmps34
 go_wp2_with (first | ((with_reducible refine gate_dst (N := 5) rfl ?_); refine Kd.R_lit (Kd.int .i64) _ 3 ?hg (N := 5) ?hd (xs := ([] : List Int)) (inner := []) (ok := fun _ => True) (okp := fun _ => True) ?hr ?hp (fun _ hk => hk) trivial (Below.refl _ _) (Nat.le_refl _) (by simp) ?_; (case hd => rfl); (case hg => rfl); (case hr => first | (go_simp; done) | (go_simp; rfl)); (case hp => exact (Reps.none _ _)); intro v206 w3 ho4 hb hg_ hnew_; clear hg_ hnew_; (first | rw [← Ny205.out] at ho4 | (simp only [Int.reduceToNat] at ho4; rw [← Ny205.out] at ho4)); have n0_ := am_ (Kd.R_lower ho4 (below_size (bw_ HB.out))); have n1_ := am_ (below_step (bw_ HB.out) hb); have HO207 := n0_; replace HB := n1_; clear n0_ n1_; clear hb ho4) | ((with_reducible refine gate_builtin (b := .append) (xs := #[.tmp 5, .tmp 6]) rfl ?_); at_builtin; refine Kd.R_append_rows (Kd.int .i64) (w0 := w) w.heap.size rfl (.tmp 5) (.tmp 6) 23 3 (.int .i64 0) 8 rfl Try.underlying23 info3 rfl (by decide) (by omega) v206 y205 l0 _ _ _ (fun _ => True) (fun _ => False) rfl rfl ?aO ?aR (fun _ _ h => h) (fun _ h => h.elim) ?aF ?aB ?aS ?aL ?_; (case aR => repeat (first | exact (Kd.C_below HR0.out HB.out) | (with_reducible refine Kd.C_alloc ?_ _) | (with_reducible refine Kd.C_drewN ?_ _) | (with_reducible refine Kd.C_drew ?_))); (case aB => exact (bw_ HB.out)); (case aF => exact (fun _ _ => trivial)); (case aO => exact (ra_ HO207.out)); (case aS => exact (below_size (bw_ HB.out))); (case aL => have := LMc2.out; omega); intro v209 w5 ho hb hg hat; rw [← Ny208.out] at ho; have n0_ := am_ (hb); have n1_ := am_ (ho); clear HO207; replace HB := n0_; have HO210 := n1_; clear n0_ n1_; clear ho hb hg hat))
 go_ret
 exact ⟨_, by first | rfl | (simp [errW_none, errW_some] <;> rfl) | (simp [*, errW_none, errW_some] <;> rfl), ra_ HO210.out, bw_ HB.out⟩
-- NOT PRINTED: function 35 (impl_Bind_string)

-- NOT PRINTED: function 73 (bytealg_abigen_runtime_cmpstring)

-- NOT PRINTED: function 59 (bytealg_CompareString)

/-! ### strings_Compare: function 37 -/
/-! strings.Compare: bytealg.CompareString's entry of the model's table is run -/
def strings_Compare.f (a0 a1 : ByteArray) : Option Int := some (Lib.compareBytes a0.data.toList a1.data.toList)
theorem strings_Compare.ext (s t : ByteArray) (w : World) : (callFunc 73 #[.string s, .string t]).run Try.prog w = .ok (.value (.int .i64 (Lib.compareBytes s.data.toList t.data.toList))) w := by
  rw [run_callFunc_extern Try.func73 (by kernel_rfl) (by kernel_rfl) (by kernel_rfl) (e := Extern.BytealgCompare.compare) (by kernel_rfl), Lib.run_compareString]
  rfl
set_option maxRecDepth 100000 in
theorem strings_Compare.low (a0 a1 : ByteArray) (w : World) :
    Calls Try.prog 59 #[.string a0, .string a1] w fun e w' => e = .returned (.int .i64 (Lib.compareBytes a0.data.toList a1.data.toList)) ∧ Drawn0 w w' := by
  have hx := strings_Compare.ext a0 a1
  go_enter Try.func59, Try.ntmps59
  go_wp2_with (simp only [hx])
  go_ret
  exact ⟨rfl, 0, rfl⟩
set_option maxRecDepth 100000 in
theorem strings_Compare.calls (a0 a1 : ByteArray) (r : Int) (w : World) (h : strings_Compare.f a0 a1 = some r) :
    Calls Try.prog 37 #[.string a0, .string a1] w fun e w' => e = .returned (.int .i64 r) ∧ Drawn0 w w' := by
  obtain rfl := Option.some.inj h
  go_enter Try.func37, Try.ntmps37
  go_wp2_with (go_at_call 59; refine (strings_Compare.low a0 a1 _).mono ?_; rintro e w1 ⟨rfl, hd⟩)
  go_ret
  exact ⟨rfl, hd⟩

/-! ### impl_Rebind_1: function 36 -/
def impl_Rebind_1.f (a0_0 : ByteArray) (l0_1 : List Int) (a1 : ByteArray) : Option (Int) := (strings_Compare.f a0_0 a1).bind fun t212 => (some t212)
set_option maxHeartbeats 8000000 in
set_option maxRecDepth 100000 in
theorem impl_Rebind_1.calls (a0_0 : ByteArray) (A0_1 : Option Addr) (c0_1 : Nat) (l0_1 : List Int) (a1 : ByteArray) (r : Int) (w : World) (hr0_1 : Kd.C (Kd.int .i64) w A0_1 l0_1.length l0_1) (hc0_1 : l0_1.length ≤ c0_1) (h : impl_Rebind_1.f a0_0 l0_1 a1 = some r) :
  Calls Try.prog 36 #[.agg #[.string a0_0, .slice A0_1 l0_1.length c0_1], .string a1] w fun e w' => e = .returned (.int .i64 r) ∧ Below w.heap.size w w' := by
 have hu53 := Try.underlying53
 have HR0_1 := am_ hr0_1
 have HC0_1 := am_ hc0_1
 clear hr0_1 hc0_1
 have HB := am_ (Below.refl w.heap.size w)
 have H : ((strings_Compare.f a0_0 a1).bind fun t212 => (some t212)) = some r := h
 clear h
 obtain ⟨t212, A30, H⟩ := bE_ H
 have A3 := am_ A30
 clear A30
 obtain rfl := Option.some.inj H
 go_enter Try.func36, Try.ntmps36
 go_wp2_with (first | ((with_reducible refine gate_dst (N := 2) rfl ?_); refine bx_ 2 #[.string a0_0, .slice A0_1 l0_1.length c0_1] 53 ?_; intro gb211 hg w4 hbox hb; have n0_ := am_ (below_step (bw_ HB.out) hb); have n1_ := am_ (hbox); have n2_ := am_ (gs_ hg (bw_ HB.out)); have n3_ := am_ (gs_ hg (bw_ HB.out)); replace HB := n0_; have BK211 := n1_; have GW211 := n2_; have GE211 := n3_; clear n0_ n1_ n2_ n3_; clear hb hbox hg; have hcz5_0 := cz_ BK211.out 0; have hcz5_1 := cz_ BK211.out 1; have hfz5_0 := blk_frozen BK211.out 0; have hfz5_1 := blk_frozen BK211.out 1) | ((with_reducible refine gate_callee (f := 37) rfl ?_); refine goesL_ (some 8) rfl rfl Try.func37 (by kernel_rfl) rfl #[.string a0_0, .string a1] rfl (by (try simp only [List.map_toArray, List.map_cons, List.map_nil]); first | done | rfl | (simp only [List.length_drop, List.length_take]; rfl)) ?_; (with_reducible refine (strings_Compare.calls a0_0 a1 t212 _ A3.out).mono ?_); rintro e w' ⟨rfl, ⟨nd, rfl⟩⟩; refine ⟨_, rfl, ?_⟩))
 go_ret
 exact ⟨by first | rfl | (simp [errW_none, errW_some] <;> rfl) | (simp [*, errW_none, errW_some] <;> rfl), bw_ HB.out⟩

-- NOT PRINTED: function 60 (impl_Bind_60)

-- NOT PRINTED: function 79 (impl_Bind_79)

-- NOT PRINTED: function 74 (impl_Bind_74)

-- NOT PRINTED: function 61 (impl_Bind_61)

/-! ### impl_Bind_38: function 38 -/
/-! slices.Insert at a row of the call's own: one element comes in at place i; the row may grow -/
theorem impl_Bind_38.copy {P : Program} (w : World) (dT sT ty elem : TypeId) (size g o dLen dCap : Nat) (a : Addr) (sLen sCap : Nat) (cur : Array Value) (t : TypeId) (cs : List Value)
    (hu : P.underlying dT = some (.slice elem)) (hs : (P.info? elem).map (·.size) = some size)
    (hg : w.heap[g]? = some (.cells cur t (0, 0))) (hn : cs.length = Nat.min sLen dLen * size)
    (hsrc : ∀ j v, cs[j]? = some v → w.cell? (a.add j) = some v) (hfit : o + cs.length ≤ cur.size) (h1 : ∀ v ∈ cs, v.oneCell' = true) :
    (Builtin.copy_ #[dT, sT] ty #[.slice (some ⟨g, o, none⟩) dLen dCap, .slice (some a) sLen sCap]).run P w =
      .ok (goInt (Nat.min sLen dLen)) (w.setRow g (cur.toList.take o ++ cs ++ cur.toList.drop (o + cs.length)).toArray) := by
  have hl := run_firstCells_some (P := P) w size (Nat.min sLen dLen) a sLen sCap cs hn hsrc
  have hst := run_storeCells_at P g o t cs 0 cur w hg (by simpa using hfit) h1
  cases hq : P.info? elem with
  | none => simp [hq] at hs
  | some i =>
    have hi : i.size = size := by simpa [hq] using hs
    subst hi
    simp [Builtin.copy_, run_underlying hu, Builtin.lenOf, sizeOf, typeInfo, hq, hl, hst]
theorem impl_Bind_38.wlist {P : Program} (w : World) {ops : Array Oper} {rest : List Oper} {o : Oper} {a : Act} {Q : Exit → Act → World → Prop} (hgd : o.guard = none) (d s : Operand) (t t' : TypeId)
    (ho : o.op = .call { callee := .builtin .copy, args := #[d, s], argTypes := #[t, t'] }) (v u : Value) (hd : a.eval d = v) (hs : a.eval s = u) {v' : Value} {w' : World}
    (hr : (Builtin.copy_ #[t, t'] o.type #[v, u]).run P w = .ok v' w') (h : wpList P ops Q rest (a.put o.dst v') w') : wpList P ops Q (o :: rest) a w := by
  refine wpList_plain hgd fun _ hK => ?_
  unfold Oper.wp execOp
  simp only [ho, resolve, invoke, builtin, Sem.run_bind, Sem.run_pure, Result.andThen_ok, List.map_toArray, List.map_cons, List.map_nil, hd, hs, hr]
  exact hK _ _ h
theorem impl_Bind_38.step {P : Program} {ops : Array Oper} {o : Oper} {a : Act} {w : World} {K : Act → World → Prop} {Q : Exit → Act → World → Prop} {E : Prop}
    (hg : o.guard = none) (d x : Operand) (dT sT : TypeId) (hop : o.op = Op.call { callee := Callee.builtin Builtin.copy, args := #[d, x], argTypes := #[dT, sT] })
    (v u : Value) (hd : a.eval d = v) (hx : a.eval x = u) {v' : Value} {w' : World} (hr : (Builtin.copy_ #[dT, sT] o.type #[v, u]).run P w = .ok v' w') (hK : K (a.put o.dst v') w') :
    if Region.wanted o (yielded ops a.tmps) = true then Oper.wp P o a w K Q else E := by
  have hw : Region.wanted o (yielded ops a.tmps) = true := by simp [Region.wanted, hg]
  rw [if_pos hw]
  unfold Oper.wp
  simp [execOp, hop, resolve, invoke, builtin, hd, hx, hr, Result.andThen]
  exact hK
theorem impl_Bind_38.wgrow {P : Program} (w : World) {ops : Array Oper} {rest : List Oper} {o : Oper} {a : Act} {Q : Exit → Act → World → Prop} (hgd : o.guard = none) (d s : Operand) (t t' : TypeId)
    (ho : o.op = .call { callee := .builtin .append, args := #[d, s], argTypes := #[t, t'] }) (v u : Value) (hd : a.eval d = v) (hs : a.eval s = u) {v' : Value} {w' : World}
    (hr : (Builtin.append_ #[t, t'] o.type #[v, u]).run P w = .ok v' w') (h : wpList P ops Q rest (a.put o.dst v') w') : wpList P ops Q (o :: rest) a w := by
  refine wpList_plain hgd fun _ hK => ?_
  unfold Oper.wp execOp
  simp only [ho, resolve, invoke, builtin, Sem.run_bind, Sem.run_pure, Result.andThen_ok, List.map_toArray, List.map_cons, List.map_nil, hd, hs, hr]
  exact hK _ _ h
/-- The cells of the three roads. -/
theorem impl_Bind_38.cells {sz i n : Nat} {row inner cs : List Value} (hi : i < n) (hin : inner.length = n * sz) (hcs : cs.length = sz) (hrow : row.take (i * sz) = inner.take (i * sz)) (hr : (n + 1) * sz ≤ row.length) :
    ∃ r1 r2 : List Value, r1 = row.take ((i + 1) * sz) ++ inner.drop (i * sz) ++ row.drop ((i + 1) * sz + (inner.drop (i * sz)).length) ∧ r1.length = row.length ∧ r2 = r1.take (i * sz) ++ cs ++ r1.drop (i * sz + cs.length) ∧ r2.length = row.length ∧ r2.take ((n + 1) * sz) = inner.take (i * sz) ++ cs ++ inner.drop (i * sz) := by
  refine ⟨_, _, rfl, ?_, rfl, ?_, ?_⟩
  all_goals
    have e1 : (i + 1) * sz = i * sz + sz := by rw [Nat.add_mul, Nat.one_mul]
    have e2 : (n + 1) * sz = n * sz + sz := by rw [Nat.add_mul, Nat.one_mul]
    have e3 : i * sz + sz ≤ n * sz := by rw [← e1]; exact Nat.mul_le_mul_right _ hi
  · simp only [List.length_append, List.length_take, List.length_drop]
    omega
  · simp only [List.length_append, List.length_take, List.length_drop]
    omega
  · apply List.ext_getElem?
    intro j
    simp only [List.getElem?_take, List.getElem?_append, List.getElem?_drop, List.length_append, List.length_take, List.length_drop]
    have h0 : ∀ k, k < i * sz → row[k]? = inner[k]? := fun k hk => by
      have := congrArg (fun l : List Value => l[k]?) hrow
      simpa [List.getElem?_take, hk] using this
    by_cases c1 : j < i * sz
    · have a1 : j < (n + 1) * sz := by omega
      have a2 : j < min (i * sz) (min ((i + 1) * sz) row.length + (inner.length - i * sz) + (row.length - ((i + 1) * sz + (inner.length - i * sz)))) := by omega
      have a3 : j < min (i * sz) inner.length := by omega
      have a4 : j < min ((i + 1) * sz) row.length := by omega
      have a5 : j < (i + 1) * sz := by omega
      have a6 : j < min (i * sz) (min ((i + 1) * sz) row.length + (inner.length - i * sz) + (row.length - ((i + 1) * sz + (inner.length - i * sz)))) + cs.length := by omega
      have a7 : j < min (i * sz) inner.length + cs.length := by omega
      have a8 : j < min ((i + 1) * sz) row.length + (inner.length - i * sz) := by omega
      simp only [a1, a2, a3, a4, a5, a6, a7, a8, c1, if_true, h0 j c1]
    · by_cases c2 : j < i * sz + sz
      · have a1 : j < (n + 1) * sz := by omega
        have b2 : min (i * sz) (min ((i + 1) * sz) row.length + (inner.length - i * sz) + (row.length - ((i + 1) * sz + (inner.length - i * sz)))) = i * sz := by omega
        have b3 : min (i * sz) inner.length = i * sz := by omega
        simp only [b2, b3, a1, if_true, if_neg c1, if_pos (show j < i * sz + cs.length by omega)]
      · have b2 : min (i * sz) (min ((i + 1) * sz) row.length + (inner.length - i * sz) + (row.length - ((i + 1) * sz + (inner.length - i * sz)))) = i * sz := by omega
        have b3 : min (i * sz) inner.length = i * sz := by omega
        have c3 : ¬ j < i * sz + cs.length := by omega
        simp only [b2, b3, if_neg c3]
        have e4 : i * sz + cs.length + (j - (i * sz + cs.length)) = j := by omega
        rw [e4]
        have c4 : ¬ j < min ((i + 1) * sz) row.length := by omega
        by_cases c5 : j < (n + 1) * sz
        · rw [if_pos c5, if_pos (by omega), if_neg c4]
          congr 1
          omega
        · rw [if_neg c5, List.getElem?_eq_none (by omega)]
theorem impl_Bind_38.cellsG {sz i n : Nat} {row inner cs : List Value} (hi : i < n) (hin : inner.length = n * sz) (hcs : cs.length = sz) (hrow : row.take (i * sz) = inner.take (i * sz)) (hr : (n + 1) * sz ≤ row.length) :
    ∃ r1 r2 : List Value, r1 = row.take (i * sz) ++ cs ++ row.drop (i * sz + cs.length) ∧ r1.length = row.length ∧ r2 = r1.take ((i + 1) * sz) ++ inner.drop (i * sz) ++ r1.drop ((i + 1) * sz + (inner.drop (i * sz)).length) ∧ r2.length = row.length ∧ r2.take ((n + 1) * sz) = inner.take (i * sz) ++ cs ++ inner.drop (i * sz) := by
  have e1 : (i + 1) * sz = i * sz + sz := by rw [Nat.add_mul, Nat.one_mul]
  have e2 : (n + 1) * sz = n * sz + sz := by rw [Nat.add_mul, Nat.one_mul]
  have e3 : i * sz + sz ≤ n * sz := by rw [← e1]; exact Nat.mul_le_mul_right _ hi
  have hl1 : (row.take (i * sz) ++ cs ++ row.drop (i * sz + cs.length)).length = row.length := by
    simp only [List.length_append, List.length_take, List.length_drop]
    omega
  have ht1 : (row.take (i * sz) ++ cs ++ row.drop (i * sz + cs.length)).take ((i + 1) * sz) = inner.take (i * sz) ++ cs := by
    rw [hrow, List.take_append_of_le_length (by simp only [List.length_append, List.length_take]; omega), List.take_of_length_le (by simp only [List.length_append, List.length_take]; omega)]
  refine ⟨_, _, rfl, hl1, rfl, ?_, ?_⟩
  · simp only [List.length_append, List.length_take, List.length_drop]
    omega
  · rw [ht1, List.take_append_of_le_length (by simp only [List.length_append, List.length_take, List.length_drop]; omega), List.take_of_length_le (by simp only [List.length_append, List.length_take, List.length_drop]; omega)]
theorem impl_Bind_38.fresh {w w' : World} {g h : Nat} (hs : w.heap.size ≤ h) (hw : w'.os = w.os ∧ w'.tape = w.tape ∧ w'.output = w.output ∧ w.heap.size ≤ w'.heap.size) (hb : ∀ k, k < w.heap.size → k ≠ h → w'.heap[k]? = w.heap[k]?) : w.grownBy w' (some g) :=
  ⟨hw.1, hw.2.1, hw.2.2.1, hw.2.2.2, fun k hk _ => hb k hk (by omega)⟩
set_option maxHeartbeats 8000000 in
set_option maxRecDepth 100000 in
theorem impl_Bind_38.raw (base n : Nat) (v : Value) (inner cs : List Value) (i : Nat) (hi : i ≤ n) (W : World) (hcs : cs.length = 2) (h1 : ∀ u ∈ cs, u.oneCell' = true) (h1i : ∀ u ∈ inner, u.oneCell' = true) (hown : W.ownsRow base 53 2 v n inner) (hbase : base ≤ W.heap.size) (hl : (n + 1) * 40 ≤ 140737488355328) :
    Calls Try.prog 38 #[v, .int .i64 (i : Int), .slice (some ⟨W.heap.size, 0, none⟩) 1 1] (W.alloc (.cells cs.toArray 53)) fun e w' => ∃ v1, e = .returned v1 ∧ w'.ownsRow base 53 2 v1 (n + 1) (inner.take (i * 2) ++ cs ++ inner.drop (i * 2)) ∧ W.grownBy w' v.ownBlock ∧ (v1.ownBlock = v.ownBlock ∨ ∃ b, v1.ownBlock = some b ∧ W.heap.size ≤ b) := by
  have hu := Try.underlying25
  have mixed : Try.prog.follows Departure.mixedOrders = true := by kernel_rfl
  obtain ⟨i0, hi0, hz0, hzs, hzb⟩ := info_parts info53
  have hsz : (Try.prog.info? 53).map (·.size) = some 2 := by rw [hi0]; simp [hzs]
  have hil : inner.length = n * 2 := hown.1
  have hga := World.grownBy_alloc W (.cells cs.toArray 53) v.ownBlock
  have hbx : (W.alloc (.cells cs.toArray 53)).heap[W.heap.size]? = some (.cells cs.toArray 53 (0, 0)) := heap_alloc_new W _
  have hown2 := hown.alloc (.cells cs.toArray 53)
  by_cases hin : i = n
  · subst hin
    have hle : ∀ W0 : World, (W0.heap.size) + 1 = (W0.alloc (.cells cs.toArray 53)).heap.size := fun _ => by simp
    have hsize := hle W
    generalize hX : W.alloc (.cells cs.toArray 53) = X at hga hbx hown2 hsize ⊢
    obtain ⟨ob, hob⟩ : ∃ ob, ob = v.ownBlock := ⟨_, rfl⟩
    rw [← hob] at hga ⊢
    obtain ⟨A, c, rfl⟩ := own_slice hown
    by_cases hci : c = i
    all_goals
      try subst c
      go_enter Try.func38, Try.ntmps38
      go_wp2_with (at_builtin; refine wpList_append_own_at _ rfl _ _ 25 rfl base 53 i0 _ 2 40 hu hi0 hz0 hzs hzb rfl (by decide) _ i inner rfl hown2 ⟨W.heap.size, 0, none⟩ 1 1 cs rfl (by rw [hcs]) (World.news_of_block hbx) h1 (by simp only [maxLen]; omega) hl (by omega) ?_; intro v1 w1 ho1 hg1 _ hat)
      go_ret
      have hg2 : X.grownBy w1 ob := by rw [hob]; exact hg1
      have hat2 : v1.ownBlock = ob ∨ v1.ownBlock = some X.heap.size := by rw [hob]; exact hat
      refine ⟨v1, rfl, ?_, World.grownBy.trans hga hg2, ?_⟩
      · rw [← hil, List.take_length, List.drop_length, List.append_nil]; exact ho1
      · rcases hat2 with hat | hat
        · exact .inl hat
        · exact .inr ⟨_, hat, by omega⟩
  · rcases hown.2 with ⟨rfl, h0⟩ | ⟨g, cap, cur, rfl, hbg, hg, hnc, hcm, hcsz, htake⟩
    · omega
    have hlt : i < n := by omega
    have hcm63 : cap ≤ 9223372036854775807 := by simp only [maxLen] at hcm; omega
    have hgW : g < W.heap.size := (Array.getElem?_eq_some_iff.1 hg).1
    have hgX : (W.alloc (.cells cs.toArray 53)).heap[g]? = some (.cells cur 53 (0, 0)) := (heap_alloc_old W _ hgW).trans hg
    have hsX : (W.alloc (.cells cs.toArray 53)).heap.size = W.heap.size + 1 := by simp
    generalize hX : W.alloc (.cells cs.toArray 53) = X at hga hbx hown2 hgX hsX ⊢
    have hw1 : IntKind.i64.wrap ((i : Int) + 1) = (i : Int) + 1 := by rw [IntKind.wrap_i64]; omega
    have hw2 : IntKind.i64.wrap ((n : Int) + 1) = (n : Int) + 1 := by rw [IntKind.wrap_i64]; omega
    have hw3 : IntKind.i64.wrap ((n : Int) + 1 - (i : Int)) = (n : Int) + 1 - (i : Int) := by rw [IntKind.wrap_i64]; omega
    have hz2 : ¬ ((i : Int) = (n : Int)) := by omega
    have hsrc : ∀ j u, (inner.drop (i * 2))[j]? = some u → X.cell? ((⟨g, i * 2, none⟩ : Addr).add j) = some u := fun j u hj => by
      have := hown2.cells (g := g) rfl (i * 2 + j) u (by rwa [List.getElem?_drop] at hj)
      rw [Addr.add_lit, Nat.zero_add] at this
      rw [Addr.add_lit]
      exact this
    have hnew : ∀ j u, cs[j]? = some u → X.cell? ((⟨W.heap.size, 0, none⟩ : Addr).add j) = some u := fun j u hj => World.news_of_block hbx j u (by simpa using hj)
    have hdl : (inner.drop (i * 2)).length = (n - i) * 2 := by rw [List.length_drop, hil]; omega
    have h1d : ∀ u ∈ inner.drop (i * 2), u.oneCell' = true := fun u hu => h1i u (List.mem_of_mem_drop hu)
    by_cases hroom : n + 1 ≤ cap
    · have hz3 : ¬ ((cap : Int) < (n : Int) + 1) := by omega
      have hb4 : ¬ (cap = i) := by omega
      have hb5 : ¬ (cap = i + 1) := by omega
      have htn : ((i : Int) + 1).toNat = i + 1 := by omega
      have hb1 : (0 : Int) ≤ (i : Int) + 1 := by omega
      have hb3 : (i : Int) ≤ (n : Int) + 1 := by omega
      obtain ⟨r1, r2, er1, lr1, er2, lr2, hres⟩ := impl_Bind_38.cells (sz := 2) (row := cur.toList) (inner := inner) (cs := cs) hlt hil hcs (by rw [← htake, List.take_take]; congr 1; omega) (by rw [Array.length_toList, hcsz]; omega)
      have hc1 : ∀ W' : World, W'.heap = X.heap → ∀ ty dc sc, (Builtin.copy_ #[25, 25] ty #[.slice (some ⟨g, (i + 1) * 2, none⟩) (n - i) dc, .slice (some ⟨g, i * 2, none⟩) (n + 1 - i) sc]).run Try.prog W' = .ok (goInt (Nat.min (n + 1 - i) (n - i))) (W'.setRow g r1.toArray) := fun W' hW' ty dc sc => by
        rw [er1]
        exact impl_Bind_38.copy W' _ _ ty 53 2 g ((i + 1) * 2) _ dc _ _ sc cur 53 (inner.drop (i * 2)) hu hsz (by rw [hW']; exact hgX) (by rw [hdl]; congr 1; simp only [Nat.min_def]; split <;> omega) (fun j u hj => (World.cell?_of_block (by rw [hW'])).trans (hsrc j u hj)) (by rw [hdl, hcsz]; omega) h1d
      have hov : ∀ lb cb, (callFunc 60 #[.slice (some ⟨W.heap.size, 0, none⟩) 1 1, .slice (some ⟨g, (i + 1) * 2, none⟩) lb cb]).run Try.prog X = .ok (.value (.bool false)) X := fun lb cb => by
        rw [run_callFunc_extern Try.func60 (by kernel_rfl) (by kernel_rfl) (by kernel_rfl) (e := Extern.SlicesOverlaps.overlaps #[25, 25] #[4]) (by kernel_rfl),
          Lib.run_overlaps_apart X 25 4 53 hu 2 (fun w => by kernel_rfl) ⟨W.heap.size, 0, none⟩ ⟨g, (i + 1) * 2, none⟩ 1 1 lb cb (by show W.heap.size ≠ g; omega) 53 53 cs.length cur.size (by simp [World.shape?, hbx]) (by simp [World.shape?, hgX]) (by omega) (by simp [World.frozen?, hbx]) (by simp [World.frozen?, hbx])]
        rfl
      have hgX2 : ∀ W' : World, W'.heap = X.heap → (W'.setRow g r1.toArray).heap[g]? = some (.cells r1.toArray 53 (0, 0)) := fun W' h => setRow_heap W' _ _ _ _ _ (by rw [h]; exact hgX)
      have hc2 : ∀ W' : World, W'.heap = X.heap → ∀ ty dc, (Builtin.copy_ #[25, 25] ty #[.slice (some ⟨g, i * 2, none⟩) (n + 1 - i) dc, .slice (some ⟨W.heap.size, 0, none⟩) 1 1]).run Try.prog (W'.setRow g r1.toArray) = .ok (goInt (Nat.min 1 (n + 1 - i))) ((W'.setRow g r1.toArray).setRow g r2.toArray) := fun W' hW' ty dc => by
        rw [er2]
        exact impl_Bind_38.copy _ _ _ ty 53 2 g (i * 2) _ dc _ _ 1 r1.toArray 53 cs hu hsz (hgX2 W' hW') (by rw [hcs]; simp only [Nat.min_def]; split <;> omega) (fun j u hj => (World.cell?_of_block (by rw [Addr.add_lit]; exact (setRow_other W' g _ _ (by show W.heap.size ≠ g; omega)).trans (by rw [hW']))).trans (hnew j u hj)) (by rw [hcs, List.size_toArray, lr1, Array.length_toList, hcsz]; omega) h1
      clear er1 er2
      go_enter Try.func38, Try.ntmps38
      go_wp2_with (simp only [hov])
      go_region_law_o (refine impl_Bind_38.step rfl _ _ 25 25 rfl (.slice (some ⟨g, (i + 1) * 2, none⟩) (n - i) (cap - (i + 1))) (.slice (some ⟨g, i * 2, none⟩) (n + 1 - i) (cap - i)) (by simp [Act.eval, Act.put]) (by simp [Act.eval, Act.put]) (hc1 X.drew rfl _ _ _) ?_)
      have hc2d := hc2 X.drew rfl
      go_wp2_with (simp only [hc2d])
      go_ret
      refine ⟨_, rfl, ⟨?_, .inr ⟨g, cap, r2.toArray, rfl, hbg, setRow_heap _ _ _ _ _ _ (hgX2 X.drew rfl), hroom, hcm, ?_, ?_⟩⟩, ⟨?_, ?_, ?_, ?_, ?_⟩, .inl rfl⟩
      · simp only [List.length_append, List.length_take, hcs, hdl, hil]; omega
      · rw [List.size_toArray, lr2, Array.length_toList, hcsz]
      · exact hres
      · rw [← hX]; rfl
      · rw [← hX]; rfl
      · rw [← hX]; rfl
      · show W.heap.size ≤ ((X.drew.setRow g r1.toArray).setRow g r2.toArray).heap.size
        simp only [World.setRow, Array.size_modify]
        show W.heap.size ≤ X.heap.size
        omega
      · intro k hk hne
        have hkg : k ≠ g := fun e => hne (by rw [e]; rfl)
        rw [setRow_other _ _ _ _ hkg, setRow_other _ _ _ _ hkg]
        rw [← hX]
        exact heap_alloc_old W _ hk
    · have hz3 : ((cap : Int) < (n : Int) + 1) := by omega
      obtain ⟨G, hG⟩ : ∃ G, G = grownCap X (n + 1) cap 53 := ⟨_, rfl⟩
      have hGn : n + 1 ≤ G := by rw [hG]; exact grownCap_ge X _ _ _
      have hGm : G ≤ maxLen := by rw [hG]; exact grownCap_le_maxLen X _ _ _ (by simp only [maxLen]; omega)
      have hG63 : G ≤ 9223372036854775807 := by simp only [maxLen] at hGm; omega
      have hGi : ¬ (G = i) := by omega
      have hGim : ¬ (G = i + 1) := by omega
      have htn : ((i : Int) + 1).toNat = i + 1 := by omega
      have hb1 : (0 : Int) ≤ (i : Int) + 1 := by omega
      have hb3 : (i : Int) ≤ (n : Int) + 1 := by omega
      have hb4 : ¬ (cap = i) := by omega
      have hold : (Builtin.firstCells i0.size i (.slice (some ⟨g, 0, none⟩) i cap)).run Try.prog X.drew = .ok (inner.take (i * 2)).toArray X.drew := by
        rw [hzs]
        exact run_firstCells_some X.drew 2 i ⟨g, 0, none⟩ i cap (inner.take (i * 2)) (by rw [List.length_take]; omega) (fun j v hj => by
          rw [List.getElem?_take] at hj
          split at hj
          · exact hown2.cells (g := g) rfl j v hj
          · cases hj)
      obtain ⟨ROW, hROW⟩ : ∃ ROW : Array Value, ROW = (inner.take (i * 2)).toArray ++ Builtin.zeroCells (Value.agg #[.string ⟨#[]⟩, .slice none 0 0]).cells (n + 1 - i) ++ Builtin.zeroCells (Value.agg #[.string ⟨#[]⟩, .slice none 0 0]).cells (G - (n + 1)) := ⟨_, rfl⟩
      have hRl : ROW.size = G * 2 := by
        rw [hROW]
        simp only [Array.size_append, List.size_toArray, List.length_take, size_zeroCells, Value.cells, List.size_toArray, List.length_cons, List.length_nil]
        omega
      obtain ⟨W1, hW1⟩ : ∃ W1, W1 = X.drew.alloc (.cells ROW 53) := ⟨_, rfl⟩
      have hrz : ∀ ty, (Builtin.append_ #[25, 3] ty #[.slice (some ⟨g, 0, none⟩) i cap, .int .i64 ((n : Int) + 1 - (i : Int))]).run Try.prog X = .ok (.slice (some ⟨X.heap.size, 0, none⟩) (n + 1) G) W1 := fun ty => by
        have h := Lib.run_append_grow_zeros X 25 3 ty 53 i0 _ .i64 .i64 hu Try.underlying3 hi0 hz0 (some ⟨g, 0, none⟩) i cap (inner.take (i * 2)) hold (n + 1 - i) (by omega) (by omega) (by omega) (by omega) (by rw [hzb]; omega) (by rw [hzb, show i + (n + 1 - i) = n + 1 by omega]; exact growslice_fits (by omega) hl)
        rw [show i + (n + 1 - i) = n + 1 by omega, ← hG, ← hROW, ← hW1, show (((n + 1 - i : Nat) : Int)) = (n : Int) + 1 - (i : Int) by omega] at h
        exact h
      obtain ⟨r1, r2, er1, lr1, er2, lr2, hres⟩ := impl_Bind_38.cellsG (sz := 2) (row := ROW.toList) (inner := inner) (cs := cs) hlt hil hcs (by rw [hROW]; simp only [Array.toList_append, List.append_assoc]; rw [List.take_append_of_le_length (by simp; omega), List.take_of_length_le (by simp; omega)]) (by rw [Array.length_toList, hRl]; omega)
      have hgN : W1.heap[X.heap.size]? = some (.cells ROW 53 (0, 0)) := by rw [hW1]; exact heap_alloc_new X.drew _
      have hgO : ∀ k, k < X.heap.size → W1.heap[k]? = X.heap[k]? := fun k hk => by rw [hW1]; exact heap_alloc_old X.drew _ hk
      have hgX1 : g < X.heap.size := (Array.getElem?_eq_some_iff.1 hgX).1
      have hcA : ∀ ty dc, (Builtin.copy_ #[25, 25] ty #[.slice (some ⟨X.heap.size, i * 2, none⟩) (n + 1 - i) dc, .slice (some ⟨W.heap.size, 0, none⟩) 1 1]).run Try.prog W1 = .ok (goInt (Nat.min 1 (n + 1 - i))) (W1.setRow X.heap.size r1.toArray) := fun ty dc => by
        rw [er1]
        exact impl_Bind_38.copy W1 _ _ ty 53 2 _ (i * 2) _ dc _ _ 1 ROW 53 cs hu hsz hgN (by rw [hcs]; simp only [Nat.min_def]; split <;> omega) (fun j u hj => (World.cell?_of_block (by rw [Addr.add_lit]; exact hgO _ (by show W.heap.size < X.heap.size; omega))).trans (hnew j u hj)) (by rw [hcs, hRl]; omega) h1
      have hgN2 : (W1.setRow X.heap.size r1.toArray).heap[X.heap.size]? = some (.cells r1.toArray 53 (0, 0)) := setRow_heap W1 _ _ _ _ _ hgN
      have hgO2 : ∀ k, k < X.heap.size → (W1.setRow X.heap.size r1.toArray).heap[k]? = X.heap[k]? := fun k hk => (setRow_other W1 _ k _ (by omega)).trans (hgO k hk)
      have hsO2 : (W1.setRow X.heap.size r1.toArray).os = X.os ∧ (W1.setRow X.heap.size r1.toArray).tape = X.tape ∧ (W1.setRow X.heap.size r1.toArray).output = X.output ∧ (W1.setRow X.heap.size r1.toArray).heap.size = X.heap.size + 1 := by
        rw [hW1]
        exact ⟨rfl, rfl, rfl, by simp [World.setRow]⟩
      generalize hW2 : W1.setRow X.heap.size r1.toArray = W2 at hcA hgN2 hgO2 hsO2
      have hcB : ∀ W' : World, W'.heap = W2.heap → ∀ ty dc sc, (Builtin.copy_ #[25, 25] ty #[.slice (some ⟨X.heap.size, (i + 1) * 2, none⟩) (n - i) dc, .slice (some ⟨g, i * 2, none⟩) (n - i) sc]).run Try.prog W' = .ok (goInt (Nat.min (n - i) (n - i))) (W'.setRow X.heap.size r2.toArray) := fun W' hW' ty dc sc => by
        rw [er2]
        exact impl_Bind_38.copy W' _ _ ty 53 2 _ ((i + 1) * 2) _ dc _ _ sc r1.toArray 53 (inner.drop (i * 2)) hu hsz (by rw [hW']; exact hgN2) (by rw [hdl]; congr 1; simp only [Nat.min_def]; split <;> omega) (fun j u hj => (World.cell?_of_block (by rw [hW', Addr.add_lit]; exact hgO2 _ hgX1)).trans (hsrc j u hj)) (by rw [hdl, List.size_toArray, lr1, Array.length_toList, hRl]; omega) h1d
      clear er1 er2 hold hROW
      go_enter Try.func38, Try.ntmps38
      have HSX := am_ hsX
      have HG := am_ hG
      clear hsX hG hW1
      go_wp2_with (first | (at_builtin; refine impl_Bind_38.wgrow _ rfl _ _ 25 3 rfl _ _ rfl rfl (hrz _) ?_) | (at_builtin; refine impl_Bind_38.wlist _ rfl _ _ 25 25 rfl _ _ rfl rfl (hcA _ _) ?_))
      go_region_law_o (refine impl_Bind_38.step rfl _ _ 25 25 rfl (.slice (some ⟨X.heap.size, (i + 1) * 2, none⟩) (n - i) (G - (i + 1))) (.slice (some ⟨g, i * 2, none⟩) (n - i) (cap - i)) (by simp [Act.eval, Act.put]) (by simp [Act.eval, Act.put]) (hcB W2.drew rfl _ _ _) ?_)
      go_wp2_with (fail "x")
      go_ret
      have hsX := HSX.out
      refine ⟨_, rfl, ⟨?_, .inr ⟨X.heap.size, G, r2.toArray, rfl, by omega, setRow_heap _ _ _ _ _ _ (show W2.drew.heap[X.heap.size]? = _ from hgN2), hGn, hGm, ?_, ?_⟩⟩, impl_Bind_38.fresh (h := X.heap.size) (by omega) ⟨?_, ?_, ?_, ?_⟩ ?_, .inr ⟨X.heap.size, rfl, by omega⟩⟩
      · simp only [List.length_append, List.length_take, hcs, hdl, hil]; omega
      · rw [List.size_toArray, lr2, Array.length_toList, hRl]
      · exact hres
      · exact hsO2.1.trans (by rw [← hX]; rfl)
      · exact hsO2.2.1.trans (by rw [← hX]; rfl)
      · exact hsO2.2.2.1.trans (by rw [← hX]; rfl)
      · show W.heap.size ≤ (W2.drew.setRow X.heap.size r2.toArray).heap.size
        simp only [World.setRow, Array.size_modify]
        show W.heap.size ≤ W2.heap.size
        rw [hsO2.2.2.2]
        omega
      · intro k hk hne
        rw [setRow_other _ _ _ _ hne]
        show W2.heap[k]? = _
        rw [hgO2 k (by omega), ← hX]
        exact heap_alloc_old W _ hk
theorem impl_Bind_38.one {α : Type} {M : α → List Value → Prop} {xs : List α} {inner : List Value} (hr : Reps M 2 xs inner) (h1 : ∀ x c, M x c → ∀ u ∈ c, u.oneCell' = true) : ∀ u ∈ inner, u.oneCell' = true := by
  intro u hu
  obtain ⟨q, hq, rfl⟩ := List.mem_iff_getElem.1 hu
  have hl := hr.1
  have hj : q / 2 < xs.length := by omega
  refine h1 _ _ (hr.2 (q / 2) _ (List.getElem?_eq_getElem hj)) _ (List.mem_iff_getElem?.2 ⟨q % 2, ?_⟩)
  rw [List.getElem?_take, if_pos (by omega), List.getElem?_drop, show q / 2 * 2 + q % 2 = q by omega, List.getElem?_eq_getElem hq]
def impl_Bind_38.put (xs : List S53) (i : Int) (p : S53) : List S53 := xs.take i.toNat ++ [p] ++ xs.drop i.toNat
def impl_Bind_38.f (xs : List S53) (i : Int) (p : S53) : Option (List S53) := if 0 ≤ i ∧ i ≤ xs.length then some (impl_Bind_38.put xs i p) else none
theorem impl_Bind_38.eq {xs y : List S53} {i : Int} {p : S53} (h : impl_Bind_38.f xs i p = some y) : 0 ≤ i ∧ i ≤ xs.length ∧ y = impl_Bind_38.put xs i p := by
  unfold impl_Bind_38.f at h
  split at h
  · rename_i c
    exact ⟨c.1, c.2, (Option.some.inj h).symm⟩
  · cases h
open Classical in
theorem impl_Bind_38.calls {w0 W : World} (base : Nat) (v : Value) (xs : List S53) (p : S53) (cs : List Value) (ok okp : Nat → Prop) (i : Int) (h0 : 0 ≤ i) (hi : i ≤ xs.length) (hp : k53.M W base okp p cs) (hokp : ∀ k, okp k → ok k ∧ some k ≠ v.ownBlock) (hfresh : ∀ k, W.heap.size ≤ k → ok k)
    (HO : Kd.S k53 53 W base (fun k => ok k ∧ ¬ okp k) v xs) (HB : Below base w0 W) (hbase : base ≤ W.heap.size) (hl : (xs.length + 1) * 40 ≤ 140737488355328) :
    Calls Try.prog 38 #[v, .int .i64 i, .slice (some ⟨W.heap.size, 0, none⟩) 1 1] (W.alloc (.cells cs.toArray 53)) fun e w' => ∃ v1, e = .returned v1 ∧ Kd.S k53 53 w' base ok v1 (impl_Bind_38.put xs i p) ∧ Below base w0 w' := by
  obtain ⟨m, rfl⟩ := Int.eq_ofNat_of_zero_le h0
  have hm : m ≤ xs.length := by omega
  obtain ⟨f, hv, inner, ho, hr⟩ := HO
  rw [List.length_zipIdx] at ho
  have hcl : cs.length = 2 := k53.K_len (k53.K_of_M hp)
  refine (impl_Bind_38.raw base xs.length v inner cs m hm W hcl (k53.K_one (k53.K_of_M hp)) (impl_Bind_38.one hr (fun x c hc => k53.K_one (k53.K_of_M hc))) ho hbase hl).mono ?_
  rintro e w1 ⟨v1, rfl, ho1, hg, hat⟩
  have hil : inner.length = xs.length * 2 := ho.1
  refine ⟨v1, rfl, ?_, HB.grown hg hbase (own_base ho)⟩
  have hlen : (impl_Bind_38.put xs m p).length = xs.length + 1 := by
    simp only [impl_Bind_38.put, List.length_append, List.length_take, List.length_drop, List.length_singleton, Int.toNat_natCast]
    omega
  have hne : ∀ k, some k ≠ v.ownBlock → k < W.heap.size → some k ≠ v1.ownBlock := by
    intro k hk hlt
    rcases hat with hat | ⟨b, hb, hle⟩
    · rw [hat]; exact hk
    · rw [hb]
      intro he
      injection he with he
      omega
  have step : ∀ {q : S53} {c : List Value} {o o' : Nat → Prop}, k53.M W base o q c → (∀ k, o k → ok k ∧ some k ≠ v.ownBlock) → (∀ k, o k → o' k) → k53.M w1 base (fun k => (ok k ∧ some k ≠ v1.ownBlock) ∧ o' k) q c := by
    intro q c o o' hq ho ho2
    have h1 := k53.M_move (w1 := w1) (fun k hk => hg.block k hk.2.2.1 (ho k hk.1).2) (k53.M_bound hq)
    exact k53.M_mono (fun k hk => ⟨⟨(ho k hk.1).1, hne k (ho k hk.1).2 hk.2.2.1⟩, ho2 k hk.1⟩) h1
  refine ⟨fun k => if okp k then m else if f k < m then f k else f k + 1, fun k hk => ?_, inner.take (m * 2) ++ cs ++ inner.drop (m * 2), by rw [List.length_zipIdx, hlen]; exact ho1, ?_, fun j q hj => ?_⟩
  · rcases hat with hat | ⟨b, hb, hle⟩
    · exact (hv k (hat ▸ hk)).1
    · rw [hb] at hk
      injection hk with hk
      exact hfresh k (by omega)
  · rw [List.length_zipIdx, hlen]
    exact ho1.1
  · rw [List.getElem?_zipIdx, Nat.zero_add] at hj
    obtain ⟨x, hx, rfl⟩ := Option.map_eq_some_iff.1 hj
    have hjl : j < xs.length + 1 := by rw [← hlen]; exact (List.getElem?_eq_some_iff.1 hx).1
    simp only [impl_Bind_38.put, Int.toNat_natCast, List.append_assoc, List.getElem?_append, List.length_take, List.length_singleton, List.getElem?_take, List.getElem?_drop] at hx
    have hsz : (Kd.tag (fun k => if okp k then m else if f k < m then f k else f k + 1) k53).sz = 2 := rfl
    rw [hsz]
    show k53.M w1 base (fun k => (ok k ∧ some k ≠ v1.ownBlock) ∧ (if okp k then m else if f k < m then f k else f k + 1) = j) x _
    have hmin : min m xs.length = m := by omega
    rw [hmin] at hx
    by_cases c1 : j < m
    · rw [if_pos c1, if_pos c1] at hx
      have h2 : k53.M W base _ x ((inner.drop (j * 2)).take 2) := hr.2 j (x, j) (Kd.zip_at hx)
      have e : ((inner.take (m * 2) ++ cs ++ inner.drop (m * 2)).drop (j * 2)).take 2 = (inner.drop (j * 2)).take 2 := by
        rw [List.append_assoc, List.drop_append_of_le_length (by rw [List.length_take]; omega), List.take_append_of_le_length (by rw [List.length_drop, List.length_take]; omega), List.drop_take, List.take_take]
        congr 1
        omega
      rw [e]
      exact step h2 (fun k hk => ⟨hk.1.1.1, hk.1.2⟩) (fun k hk => by
        have h3 : f k = j := hk.2
        rw [if_neg hk.1.1.2, if_pos (by omega)]
        exact h3)
    · rw [if_neg c1] at hx
      by_cases c2 : j = m
      · subst c2
        rw [Nat.sub_self, if_pos (by omega)] at hx
        have hxp : p = x := by simpa using hx
        subst hxp
        have e : ((inner.take (j * 2) ++ cs ++ inner.drop (j * 2)).drop (j * 2)).take 2 = cs := by
          rw [List.append_assoc, List.drop_append, List.drop_of_length_le (by rw [List.length_take]; omega), List.nil_append, List.length_take, show j * 2 - min (j * 2) inner.length = 0 by omega, List.drop_zero, List.take_append_of_le_length (by omega), List.take_of_length_le (by omega)]
        rw [e]
        exact step hp hokp (fun k hk => if_pos hk)
      · rw [if_neg (by omega), show m + (j - m - 1) = j - 1 by omega] at hx
        have h2 : k53.M W base _ x ((inner.drop ((j - 1) * 2)).take 2) := hr.2 (j - 1) (x, j - 1) (Kd.zip_at hx)
        have e : ((inner.take (m * 2) ++ cs ++ inner.drop (m * 2)).drop (j * 2)).take 2 = (inner.drop ((j - 1) * 2)).take 2 := by
          rw [List.drop_append, List.drop_of_length_le (by rw [List.length_append, List.length_take]; omega), List.nil_append, List.length_append, List.length_take, List.drop_drop]
          congr 2
          omega
        rw [e]
        exact step h2 (fun k hk => ⟨hk.1.1.1, hk.1.2⟩) (fun k hk => by
          have h3 : f k = j - 1 := hk.2
          rw [if_neg hk.1.1.2, if_neg (by omega), h3]
          omega)

/-! ### slices_BinarySearchFunc_impl_Bind_impl_Bind_string_at_impl_Rebind_1: function 35 -/
def slices_BinarySearchFunc_impl_Bind_impl_Bind_string_at_impl_Rebind_1.l0 : Nat → List (S53) → ByteArray → Int → Int → Int → Option (Int × Bool)
 | 0, _, _, _, _, _ => none
 | k + 1, x0, x1, x8, x9, x10 => if x9 < x10 then (if 0 ≤ (wrap64 ((IntKind.u64.wrap (wrap64 (x9 + x10))) / 2)) then (if (wrap64 ((IntKind.u64.wrap (wrap64 (x9 + x10))) / 2)) < (x0.length : Int) then ((impl_Rebind_1.f ((rd_T53 x0 (wrap64 ((IntKind.u64.wrap (wrap64 (x9 + x10))) / 2))).f0) ((rd_T53 x0 (wrap64 ((IntKind.u64.wrap (wrap64 (x9 + x10))) / 2))).f1) x1).bind fun t220 => (if t220 < 0 then (slices_BinarySearchFunc_impl_Bind_impl_Bind_string_at_impl_Rebind_1.l0 k x0 x1 x8 (wrap64 ((wrap64 ((IntKind.u64.wrap (wrap64 (x9 + x10))) / 2)) + 1)) x10) else (slices_BinarySearchFunc_impl_Bind_impl_Bind_string_at_impl_Rebind_1.l0 k x0 x1 x8 x9 (wrap64 ((IntKind.u64.wrap (wrap64 (x9 + x10))) / 2))))) else (none)) else (none)) else (if x9 < x8 then (if 0 ≤ x9 then (if x9 < (x0.length : Int) then ((impl_Rebind_1.f ((rd_T53 x0 x9).f0) ((rd_T53 x0 x9).f1) x1).bind fun t222 => (some (x9, (t222 == 0)))) else (none)) else (none)) else (some (x9, false)))
def slices_BinarySearchFunc_impl_Bind_impl_Bind_string_at_impl_Rebind_1.f (k : Nat) (l0 : List (S53)) (a1 : ByteArray)  : Option (Int × Bool) := slices_BinarySearchFunc_impl_Bind_impl_Bind_string_at_impl_Rebind_1.l0 k l0 a1 (l0.length : Int) 0 (l0.length : Int)
theorem slices_BinarySearchFunc_impl_Bind_impl_Bind_string_at_impl_Rebind_1.mono_l : ∀ k, (∀ y0 y1 y2 y3 y4, LeO (slices_BinarySearchFunc_impl_Bind_impl_Bind_string_at_impl_Rebind_1.l0 k y0 y1 y2 y3 y4) (slices_BinarySearchFunc_impl_Bind_impl_Bind_string_at_impl_Rebind_1.l0 (k + 1) y0 y1 y2 y3 y4))
 | 0 => fun _ _ _ _ _ r h => by simp [slices_BinarySearchFunc_impl_Bind_impl_Bind_string_at_impl_Rebind_1.l0] at h
 | k + 1 => by
  have ih0 := slices_BinarySearchFunc_impl_Bind_impl_Bind_string_at_impl_Rebind_1.mono_l k
  ·intro y0 y1 y2 y3 y4
   unfold slices_BinarySearchFunc_impl_Bind_impl_Bind_string_at_impl_Rebind_1.l0
   repeat' first
   | (with_reducible exact ih0 _ _ _ _ _)
   | (with_reducible exact LeO.refl _)
   | (with_reducible exact LeO.none _)
   | (with_reducible refine LeO.ite ?_ ?_)
   | (with_reducible refine LeO.bind ?_ (fun _ => ?_))
   | exact ih0 _ _ _ _ _
   | exact LeO.none _
   | refine LeO.ite ?_ ?_
   | refine LeO.bind ?_ (fun _ => ?_)
theorem slices_BinarySearchFunc_impl_Bind_impl_Bind_string_at_impl_Rebind_1.mono : ∀ a0 a1 k, LeO (slices_BinarySearchFunc_impl_Bind_impl_Bind_string_at_impl_Rebind_1.f k a0 a1) (slices_BinarySearchFunc_impl_Bind_impl_Bind_string_at_impl_Rebind_1.f (k + 1) a0 a1) := by
 intro a0 a1 k
 have ih0 := slices_BinarySearchFunc_impl_Bind_impl_Bind_string_at_impl_Rebind_1.mono_l k
 unfold slices_BinarySearchFunc_impl_Bind_impl_Bind_string_at_impl_Rebind_1.f
 repeat' first
   | (with_reducible exact ih0 _ _ _ _ _)
   | (with_reducible exact LeO.refl _)
   | (with_reducible exact LeO.none _)
   | (with_reducible refine LeO.ite ?_ ?_)
   | (with_reducible refine LeO.bind ?_ (fun _ => ?_))
   | exact ih0 _ _ _ _ _
   | exact LeO.none _
   | refine LeO.ite ?_ ?_
   | refine LeO.bind ?_ (fun _ => ?_)
set_option maxHeartbeats 8000000 in
set_option maxRecDepth 100000 in
theorem slices_BinarySearchFunc_impl_Bind_impl_Bind_string_at_impl_Rebind_1.calls (k : Nat) (A0 : Option Addr) (c0 : Nat) (l0 : List (S53)) (a1 : ByteArray)  (r1 : Int) (r2 : Bool) (w : World) (hr0 : Kd.C k53 w A0 l0.length l0) (hc0 : l0.length ≤ c0) (h : slices_BinarySearchFunc_impl_Bind_impl_Bind_string_at_impl_Rebind_1.f k l0 a1 = some (r1, r2)) :
  Calls Try.prog 35 #[.slice A0 l0.length c0, .string a1, .func (.func 36) #[] #[]] w fun e w' => e = .returned (.tuple #[.int .i64 r1, .bool r2]) ∧ Below w.heap.size w w' := by
 have hu53 := Try.underlying53
 have HR0 := am_ hr0
 have HC0 := am_ hc0
 clear hr0 hc0
 have HB := am_ (Below.refl w.heap.size w)
 have H : (slices_BinarySearchFunc_impl_Bind_impl_Bind_string_at_impl_Rebind_1.l0 k l0 a1 (l0.length : Int) 0 (l0.length : Int)) = some (r1, r2) := h
 clear h
 have H' := am_ H
 clear H
 go_enter Try.func35, Try.ntmps35
 go_wp2
 go_loopg [9, 10] k (fun kq v9 v10 w' => ∃ (x9_1 : Int) (x10_1 : Int), v9 = .int .i64 x9_1 ∧ v10 = .int .i64 x10_1 ∧ Aside0 (slices_BinarySearchFunc_impl_Bind_impl_Bind_string_at_impl_Rebind_1.l0 kq l0 a1 (l0.length : Int) x9_1 x10_1 = some (r1, r2)) ∧ Aside0 (kq ≤ k) ∧ Aside0 (Below w.heap.size w w'))
 case atStart => exact ⟨(0), ((l0.length : Int)), sq_, sq_, H', ⟨Nat.le_refl _⟩, ⟨bw_ HB.out⟩⟩
 case round =>
  clear H'
  obtain ⟨x9_1, x10_1, rfl, rfl, HA, HK1, HB⟩ := hrel
  cases gk with
  | zero => exact absurd HA.out (by simp [slices_BinarySearchFunc_impl_Bind_impl_Bind_string_at_impl_Rebind_1.l0])
  | succ k1 =>
   have H := HA.out
   clear HA
   simp only [slices_BinarySearchFunc_impl_Bind_impl_Bind_string_at_impl_Rebind_1.l0] at H
   by_cases c4 : x9_1 < x10_1
   ·rw [if_pos c4] at H
    have c4b0 : decide (x9_1 < x10_1) = true := decide_eq_true c4
    clear c4
    obtain ⟨ji5, hji5⟩ : ∃ j_ : Int, (wrap64 ((IntKind.u64.wrap (wrap64 (x9_1 + x10_1))) / 2)) = j_ := ⟨_, rfl⟩
    replace H : (if 0 ≤ (ji5) then (if (ji5) < (l0.length : Int) then ((impl_Rebind_1.f ((rd_T53 l0 (ji5)).f0) ((rd_T53 l0 (ji5)).f1) a1).bind fun t220 => (if t220 < 0 then (slices_BinarySearchFunc_impl_Bind_impl_Bind_string_at_impl_Rebind_1.l0 k1 l0 a1 (l0.length : Int) (wrap64 ((ji5) + 1)) x10_1) else (slices_BinarySearchFunc_impl_Bind_impl_Bind_string_at_impl_Rebind_1.l0 k1 l0 a1 (l0.length : Int) x9_1 ji5))) else (none)) else (none)) = some (r1, r2) := by first | (rw [hji5] at H; exact H) | (simp only [hji5] at H ⊢; exact H)
    have hji5w : (IntKind.i64.wrap ((IntKind.u64.wrap (wrap64 (x9_1 + x10_1))) / 2)) = ji5 := (i64_w _).trans hji5
    obtain ⟨c6, H⟩ := ifn_ H
    have c6b0 : decide (0 ≤ (ji5)) = true := decide_eq_true c6
    clear c6
    obtain ⟨c7, H⟩ := ifn_ H
    have c7b0 : decide ((ji5) < (l0.length : Int)) = true := decide_eq_true c7
    clear c7
    obtain ⟨t220, A80, H⟩ := bE_ H
    have A8 := am_ A80
    clear A80
    by_cases c9 : t220 < 0
    ·rw [if_pos c9] at H
     have c9b0 : decide (t220 < 0) = true := decide_eq_true c9
     clear c9
     have H' := am_ H
     clear H
     have p219 : 0 ≤ ((ji5) : Int) := od_
     have q219 : (ji5) < (l0.length : Int) := od_
     obtain ⟨ad219, A219_1, c219_1, e219, hx219_0, hx219_1, hl219_1, hi219_1⟩ := at_T53 HR0.out (ji5) p219 q219
     cases e219
     (try replace hx219_0 := hc_ HB.out hx219_0)
     (try replace hx219_1 := hc_ HB.out hx219_1)
     have HR219_1 := am_ hi219_1
     have HC219_1 := am_ hl219_1
     clear hi219_1 hl219_1
     replace p219 := eq_true p219
     replace q219 := eq_true q219
     go_wp2_with (first | (go_at_call 36; (with_reducible refine (impl_Rebind_1.calls ((rd_T53 l0 (ji5)).f0) _ _ ((rd_T53 l0 (ji5)).f1) a1 t220 _ ?side1 ?side2 A8.out).mono ?_); (case side1 => repeat (first | exact (Kd.C_below HR219_1.out HB.out) | (with_reducible refine Kd.C_alloc ?_ _) | (with_reducible refine Kd.C_drewN ?_ _) | (with_reducible refine Kd.C_drew ?_))); (case side2 => exact HC219_1.out); rintro e w10 ⟨rfl, hb⟩; have n0_ := am_ (below_step (bw_ HB.out) hb); replace HB := n0_; clear n0_; (try clear hb); (try clear hb2); (try clear hk); (try clear hi)))
     go_roundg k1
     case measure => have := HK1.out; omega
     case rel => exact ⟨(wrap64 ((ji5) + 1)), (x10_1), (by first | rfl | (simp; done) | (simp only [← hji5] <;> (first | rfl | simp)) | (simp [*]; done)), sq_, H', ⟨by have := HK1.out; omega⟩, ⟨bw_ HB.out⟩⟩
    ·rw [if_neg c9] at H
     have c9b0 : decide (t220 < 0) = false := decide_eq_false c9
     clear c9
     have H' := am_ H
     clear H
     have p219 : 0 ≤ ((ji5) : Int) := od_
     have q219 : (ji5) < (l0.length : Int) := od_
     obtain ⟨ad219, A219_1, c219_1, e219, hx219_0, hx219_1, hl219_1, hi219_1⟩ := at_T53 HR0.out (ji5) p219 q219
     cases e219
     (try replace hx219_0 := hc_ HB.out hx219_0)
     (try replace hx219_1 := hc_ HB.out hx219_1)
     have HR219_1 := am_ hi219_1
     have HC219_1 := am_ hl219_1
     clear hi219_1 hl219_1
     replace p219 := eq_true p219
     replace q219 := eq_true q219
     go_wp2_with (first | (go_at_call 36; (with_reducible refine (impl_Rebind_1.calls ((rd_T53 l0 (ji5)).f0) _ _ ((rd_T53 l0 (ji5)).f1) a1 t220 _ ?side1 ?side2 A8.out).mono ?_); (case side1 => repeat (first | exact (Kd.C_below HR219_1.out HB.out) | (with_reducible refine Kd.C_alloc ?_ _) | (with_reducible refine Kd.C_drewN ?_ _) | (with_reducible refine Kd.C_drew ?_))); (case side2 => exact HC219_1.out); rintro e w11 ⟨rfl, hb⟩; have n0_ := am_ (below_step (bw_ HB.out) hb); replace HB := n0_; clear n0_; (try clear hb); (try clear hb2); (try clear hk); (try clear hi)))
     go_roundg k1
     case measure => have := HK1.out; omega
     case rel => exact ⟨(x9_1), (ji5), sq_, (by first | rfl | (simp; done) | (simp only [← hji5] <;> (first | rfl | simp)) | (simp [*]; done)), H', ⟨by have := HK1.out; omega⟩, ⟨bw_ HB.out⟩⟩
   ·rw [if_neg c4] at H
    have c4b0 : decide (x9_1 < x10_1) = false := decide_eq_false c4
    clear c4
    by_cases c12 : x9_1 < (l0.length : Int)
    ·rw [if_pos c12] at H
     have c12b0 : decide (x9_1 < (l0.length : Int)) = true := decide_eq_true c12
     clear c12
     obtain ⟨c13, H⟩ := ifn_ H
     have c13b0 : decide (0 ≤ x9_1) = true := decide_eq_true c13
     clear c13
     obtain ⟨c14, H⟩ := ifn_ H
     have c14b0 : decide (x9_1 < (l0.length : Int)) = true := decide_eq_true c14
     clear c14
     obtain ⟨t222, A150, H⟩ := bE_ H
     have A15 := am_ A150
     clear A150
     simp only [Option.some.injEq, Prod.mk.injEq] at H
     obtain ⟨rfl, rfl⟩ := H
     have p221 : 0 ≤ (x9_1 : Int) := od_
     have q221 : x9_1 < (l0.length : Int) := od_
     obtain ⟨ad221, A221_1, c221_1, e221, hx221_0, hx221_1, hl221_1, hi221_1⟩ := at_T53 HR0.out x9_1 p221 q221
     cases e221
     (try replace hx221_0 := hc_ HB.out hx221_0)
     (try replace hx221_1 := hc_ HB.out hx221_1)
     have HR221_1 := am_ hi221_1
     have HC221_1 := am_ hl221_1
     clear hi221_1 hl221_1
     replace p221 := eq_true p221
     replace q221 := eq_true q221
     go_wp2_with (first | (go_at_call 36; (with_reducible refine (impl_Rebind_1.calls ((rd_T53 l0 x9_1).f0) _ _ ((rd_T53 l0 x9_1).f1) a1 t222 _ ?side1 ?side2 A15.out).mono ?_); (case side1 => repeat (first | exact (Kd.C_below HR221_1.out HB.out) | (with_reducible refine Kd.C_alloc ?_ _) | (with_reducible refine Kd.C_drewN ?_ _) | (with_reducible refine Kd.C_drew ?_))); (case side2 => exact HC221_1.out); rintro e w16 ⟨rfl, hb⟩; have n0_ := am_ (below_step (bw_ HB.out) hb); replace HB := n0_; clear n0_; (try clear hb); (try clear hb2); (try clear hk); (try clear hi)))
     go_ret2
     exact ⟨by first | rfl | (simp [errW_none, errW_some] <;> rfl) | (simp [*, errW_none, errW_some] <;> rfl), bw_ HB.out⟩
    ·rw [if_neg c12] at H
     have c12b0 : decide (x9_1 < (l0.length : Int)) = false := decide_eq_false c12
     clear c12
     simp only [Option.some.injEq, Prod.mk.injEq] at H
     obtain ⟨rfl, rfl⟩ := H
     go_wp2
     go_ret2
     exact ⟨by first | rfl | (simp [errW_none, errW_some] <;> rfl) | (simp [*, errW_none, errW_some] <;> rfl), bw_ HB.out⟩

end Go.Proofs.Ytfgdfnnddoncjaa.XFnExactRebind
