/- A call of a function that a slot holds, as one step of a region: as the print's goes_ and goesL_, the callee read out of the slot. -/
import Derived.Test.YtfgdfnnddoncjaaXWords
namespace Go.Proofs.YtfgdfnnddoncjaaW.PrintMore
open Go.RowKit Go.Proofs.YtfgdfnnddoncjaaW.PrintWords Go.Proofs.YtfgdfnnddoncjaaW.PrintLast
section
variable {P : Program} {ops : Array Oper} {Q : Exit → Act → World → Prop}
theorem goesV_ {oi : Oper} {N : Option Tmp} {a : Act} {w : World} {K : Act → World → Prop} {f : FuncId} {fn : Func} {c : Operand} {as : Array Operand} {ts : Array TypeId} {caps : Array Value} (hf : P.funcs[f]? = some fn) (hname : (fn.name == "runtime.NumGoroutine") = false) (hb : fn.body.isSome = true) (args : Array Value)
    (hw : Region.wanted oi (yielded ops a.tmps) = true) (hN : oi.dst = N) (hop : oi.op = .call { callee := .value c, args := as, argTypes := ts }) (hc : a.eval c = .func (.func f) #[] caps) (hargs : as.map a.eval ++ caps = args)
    (h : Calls P f args w fun e w' => ∃ v, e = .returned v ∧ K (a.put N v) w') : if Region.wanted oi (yielded ops a.tmps) = true then Oper.wp P oi a w K Q else K (a.put N undef) w := by
  refine call_ f args hw hN ?_ h
  have he := enters_ hf hname hb args w
  unfold execOp
  simp [hop, resolve, Deferred.ofValue, invoke, hc, hargs, he]
theorem goesVL_ {rest : List Oper} {oi : Oper} {a : Act} {w : World} (N : Option Tmp) (hd : oi.dst = N) (hg : oi.guard = none) {f : FuncId} {fn : Func} {c : Operand} {as : Array Operand} {ts : Array TypeId} {caps : Array Value} (hf : P.funcs[f]? = some fn) (hname : (fn.name == "runtime.NumGoroutine") = false) (hb : fn.body.isSome = true) (args : Array Value)
    (hop : oi.op = .call { callee := .value c, args := as, argTypes := ts }) (hc : a.eval c = .func (.func f) #[] caps) (hargs : as.map a.eval ++ caps = args)
    (h : Calls P f args w fun e w' => ∃ v, e = .returned v ∧ wpList P ops Q rest (a.put N v) w') : wpList P ops Q (oi :: rest) a w := by
  refine wpList_plain hg fun K hK => ?_
  have he := enters_ hf hname hb args w
  have hrun : (execOp a.eval oi).run P w = .ok (.enter f args) w := by
    unfold execOp
    simp [hop, resolve, Deferred.ofValue, invoke, hc, hargs, he]
  unfold Oper.wp
  rw [hrun, Oper.upon_enter]
  refine h.mono fun e w'' hh => ?_
  obtain ⟨v, rfl, hk⟩ := hh
  exact hK _ _ (by rw [hd]; exact hk)
end
/-- Texts compared by '>='. -/
theorem str_geq (t : TypeId) (a b : ByteArray) : binOp .geq t (.string a) (.string b) = pure (.bool !(Op.bytesLess a.toList b.toList)) := by simp [binOp, Op.stringOp]
/-- A row read at an address that is told apart. -/
theorem C_at {α : Type} {k : Kd α} {w : World} {A A' : Option Addr} {n : Nat} {xs : List α} (e : Aside0 (A = A')) (h : k.C w A' n xs) : k.C w A n xs := e.out ▸ h
theorem eqNil_of {P : Program} {T e : TypeId} (h : P.underlying T = some (.slice e)) (d : Nat) (w : World) (A : Option Addr) (n c m k : Nat) : (Op.equalIn (d + 1) T (.slice A n c) (.slice none m k)).run P w = .ok A.isNone w := by
  cases A <;> simp [Op.equalIn, run_underlying h]
/-- A slice compared with nil. -/
theorem eqlNil_of {P : Program} {T e : TypeId} (h : P.underlying T = some (.slice e)) (w : World) (A : Option Addr) (n c m k : Nat) : (binOp .eql T (.slice A n c) (.slice none m k)).run P w = .ok (.bool A.isNone) w := by
  simp only [binOp]
  simp [show (Op.equal T (.slice A n c) (.slice none m k)).run P w = .ok A.isNone w from eqNil_of h 9999 w A n c m k]
end Go.Proofs.YtfgdfnnddoncjaaW.PrintMore
