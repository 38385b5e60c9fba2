/-
  Calls through a parameter that holds one known function of the program with nothing captured: the words of the print for such a call.
-/
import Derived.Test.YteakcggbolfelaaDoorWLast
import Derived.Test.YteakcggbolfelaaDoorWMore
import Derived.Test.YteakcggbolfelaaDoorWFoot
namespace Go.Proofs.YteakcggbolfelaaDoor
open Go.RowKit Go.Proofs.YteakcggbolfelaaDoorW.PrintWords Go.Proofs.YteakcggbolfelaaDoorW.PrintLast
section
variable {P : Program} {ops : Array Oper} {Q : Exit → Act → World → Prop} {md : Region.Mode} {S : World → Prop} {ds : List Nat}
theorem goesT_ {oi : Oper} {N : Option Tmp} {a : Act} {w : World} {K : Act → World → Prop} {f : FuncId} {fn : Func} {t : Tmp} {as : Array Operand} {ts : Array TypeId} (hf : P.funcs[f]? = some fn) (hname : (fn.name == "runtime.NumGoroutine") = false) (hb : fn.body.isSome = true) (args : Array Value)
    (hw : Region.wanted oi (yielded ops a.tmps) = true) (hN : oi.dst = N) (hop : oi.op = .call { callee := .value (.tmp t), args := as, argTypes := ts }) (hv : a.eval (.tmp t) = .func (.func f) #[] #[]) (hargs : as.map a.eval = args)
    (h : Calls P f args w fun e w' => ∃ v, e = .returned v ∧ K (a.put N v) w') : if Region.wanted oi (yielded ops a.tmps) = true then Oper.wp P oi a w K Q else K (a.put N undef) w := by
  refine call_ f args hw hN ?_ h
  have he := enters_ hf hname hb args w
  unfold execOp
  simp [hop, resolve, Deferred.ofValue, invoke, hv, hargs, he]
theorem goesTL_ {rest : List Oper} {oi : Oper} {a : Act} {w : World} (N : Option Tmp) (hd : oi.dst = N) (hg : oi.guard = none) {f : FuncId} {fn : Func} {t : Tmp} {as : Array Operand} {ts : Array TypeId} (hf : P.funcs[f]? = some fn) (hname : (fn.name == "runtime.NumGoroutine") = false) (hb : fn.body.isSome = true) (args : Array Value)
    (hop : oi.op = .call { callee := .value (.tmp t), args := as, argTypes := ts }) (hv : a.eval (.tmp t) = .func (.func f) #[] #[]) (hargs : as.map a.eval = args)
    (h : Calls P f args w fun e w' => ∃ v, e = .returned v ∧ wpList P ops Q rest (a.put N v) w') : wpList P ops Q (oi :: rest) a w := by
  refine wpList_plain hg fun K hK => ?_
  have he := enters_ hf hname hb args w
  have hrun : (execOp a.eval oi).run P w = .ok (.enter f args) w := by
    unfold execOp
    simp [hop, resolve, Deferred.ofValue, invoke, hv, hargs, he]
  unfold Oper.wp
  rw [hrun, Oper.upon_enter]
  refine h.mono fun e w'' hh => ?_
  obtain ⟨v, rfl, hk⟩ := hh
  subst hd
  exact hK _ _ hk
end
section
variable {P : Program} {ops : Array Oper} {rest : List Oper} {o : Oper} {a : Act} {Q : Exit → Act → World → Prop} {W : World}
theorem gate_calleeT {t : Tmp} {as : Array Operand} {ts : Array TypeId} (_ho : o.op = .call { callee := .value (.tmp t), args := as, argTypes := ts }) (h : wpList P ops Q (o :: rest) a W) : wpList P ops Q (o :: rest) a W := h
end
/-- A value of one cell, carried as it is. -/
abbrev Vl := { v : Value // v.oneCell' = true }
def zvl : Vl := ⟨.bool false, rfl⟩
def kvl : Kd Vl := Kd.scalar (fun v : Vl => v.1) (fun v => v.2)
theorem kvl_heap : Kd.Heap kvl := Kd.heap_scalar
theorem run_store_vl {P : Program} {w : World} {a : Addr} {m : Mode} (v : Vl) : (store a v.1 m).run P w = stored P w a v.1 m := run_store P w a _ m v.2
/-- Errors: a number; a number about a name; a number about a place. -/
inductive Er where
  | num (c : Int)
  | lack (s : ByteArray) (c : Int)
  | off (o : Int) (c : Int)
def erT : Er → Nat
  | .num _ => 61
  | .lack _ _ => 74
  | .off _ _ => 0
def erV : Er → Value
  | .num c => .int .i64 c
  | .lack s c => .agg #[.string s, .iface 61 (.int .i64 c)]
  | .off o c => .agg #[.int .i64 o, .iface 61 (.int .i64 c)]
def errW : Option Er → Value
  | none => .nilIface
  | some e => .iface (erT e) (erV e)
theorem errW_none : errW none = .nilIface := rfl
theorem errW_some (e : Er) : errW (some e) = .iface (erT e) (erV e) := rfl
end Go.Proofs.YteakcggbolfelaaDoor
