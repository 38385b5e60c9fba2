/-
  errors.As of a number about something, at a target of that type.
-/
import Derived.Test.YteakcggbolfelaaDoorEs
import Derived.RowKitTokens
namespace Go.Proofs.YteakcggbolfelaaDoor.Es
open Go.RowKit Go.Extern.Stop Go.Stop Go.Extern
set_option linter.unusedVariables false
set_option linter.unusedSimpArgs false
theorem valueOfP (t : Addr) (w : World) : (ReflectliteValue.unpack (.iface 76 (.pointer (some t)))).run Tryd.prog w
    = .ok (.agg #[.pointer (some ⟨4, 76, none⟩), .pointer (some ⟨w.heap.size, 0, none⟩), .int .u64 150]) (w.alloc (.cells #[.pointer (some t)] 76)) := by kernel_rfl
theorem typeP (a : Addr) (w : World) : (ReflectliteValue.methodAny (ReflectliteValue.valueError "reflectlite.Value.Type" 0) (fun t _ _ _ => ReflectliteType.toType t) #[.agg #[.pointer (some ⟨4, 76, none⟩), .pointer (some a), .int .u64 150]]).run Tryd.prog w
    = .ok (.iface 106 (.agg #[.pointer (some ⟨4, 76, none⟩)])) w := by kernel_rfl
theorem methodKind (h : Value) (w : World) : (Go.method 263 106 (.agg #[h]) "Kind").run Tryd.prog w = .ok (102, h) w := by kernel_rfl
theorem kindP (w : World) : ((ReflectliteType.abiMethod fun t => (fun a : Nat => Value.int IntKind.u8 (a : Int)) <$> Rtype.kind t) #[.pointer (some ⟨4, 76, none⟩)]).run Tryd.prog w = .ok (.int .u8 22) w := by kernel_rfl
theorem kindL (w : World) : ((ReflectliteType.abiMethod fun t => (fun a : Nat => Value.int IntKind.u8 (a : Int)) <$> Rtype.kind t) #[.pointer (some ⟨4, 74, none⟩)]).run Tryd.prog w = .ok (.int .u8 25) w := by kernel_rfl
theorem rlm (z : Sem Value) (f : TypeId → Addr → Nat → Nat → Sem Value) (v : Value) :
    ReflectliteValue.method z f #[v] = (do match ← ReflectliteValue.parts v with | none => z | some (t, a, fl) => f t a fl (fl % 32)) := rfl
theorem partsP (a : Addr) (w : World) : (ReflectliteValue.parts (.agg #[.pointer (some ⟨4, 76, none⟩), .pointer (some a), .int .u64 150])).run Tryd.prog w = .ok (some (76, a, 150)) w := by kernel_rfl
theorem isNilP (a p : Addr) (W : World) (ha : W.cell? a = some (.pointer (some p))) :
    (ReflectliteValue.method (ReflectliteValue.valueError "reflectlite.Value.IsNil" 0) ReflectliteValue.isNil #[.agg #[.pointer (some ⟨4, 76, none⟩), .pointer (some a), .int .u64 150]]).run Tryd.prog W = .ok (.bool false) W := by
  rw [rlm]
  simp only [Sem.run_bind, partsP, Result.andThen]
  simp [ReflectliteValue.isNil, loadVar, isAgg, underlying, Tryd.underlying76, ha, Result.andThen]
theorem methodElem (h : Value) (w : World) : (Go.method 263 106 (.agg #[h]) "Elem").run Tryd.prog w = .ok (114, .agg #[h]) w := by kernel_rfl
theorem methodImplements (h : Value) (w : World) : (Go.method 263 106 (.agg #[h]) "Implements").run Tryd.prog w = .ok (115, .agg #[h]) w := by kernel_rfl
theorem methodAssignableTo (h : Value) (w : World) : (Go.method 263 106 (.agg #[h]) "AssignableTo").run Tryd.prog w = .ok (112, .agg #[h]) w := by kernel_rfl
theorem elemP (w : World) : (ReflectliteType.method ReflectliteType.elem #[.agg #[.pointer (some ⟨4, 76, none⟩)]]).run Tryd.prog w = .ok (.iface 106 (.agg #[.pointer (some ⟨4, 74, none⟩)])) w := by kernel_rfl
theorem implementsL (w : World) : (ReflectliteType.relation "Implements" ReflectliteType.implements_ #[.agg #[.pointer (some ⟨4, 74, none⟩)], .iface 106 (.agg #[.pointer (some ⟨4, 31, none⟩)])]).run Tryd.prog w = .ok (.bool true) w := by kernel_rfl
theorem typeOfL (v : Value) (w : World) : (ReflectliteType.typeOf #[.iface 74 v]).run Tryd.prog w = .ok (.iface 106 (.agg #[.pointer (some ⟨4, 74, none⟩)])) w := by kernel_rfl
theorem assignableL (w : World) : (ReflectliteType.relation "AssignableTo" ReflectliteType.assignableTo #[.agg #[.pointer (some ⟨4, 74, none⟩)], .iface 106 (.agg #[.pointer (some ⟨4, 74, none⟩)])]).run Tryd.prog w = .ok (.bool true) w := by kernel_rfl
theorem valueOfL (x y : Value) (w : World) : (ReflectliteValue.unpack (.iface 74 (.agg #[x, y]))).run Tryd.prog w
    = .ok (.agg #[.pointer (some ⟨4, 74, none⟩), .pointer (some ⟨w.heap.size, 0, none⟩), .int .u64 153]) (w.alloc (.cells #[x, y] 74)) := by kernel_rfl
theorem elemOfP (w : World) : (Rtype.elem? 76).run Tryd.prog w = .ok (some 74) w := by kernel_rfl
theorem mkL (p : Addr) (w : World) : (ReflectliteValue.mk 74 p ReflectliteValue.flagAddr).run Tryd.prog w = .ok (.agg #[.pointer (some ⟨4, 74, none⟩), .pointer (some p), .int .u64 409]) w := by kernel_rfl
theorem elemVP (a p : Addr) (W : World) (ha : W.cell? a = some (.pointer (some p))) :
    (ReflectliteValue.method (ReflectliteValue.valueError "reflectlite.Value.Elem" 0) ReflectliteValue.elem #[.agg #[.pointer (some ⟨4, 76, none⟩), .pointer (some a), .int .u64 150]]).run Tryd.prog W
      = .ok (.agg #[.pointer (some ⟨4, 74, none⟩), .pointer (some p), .int .u64 409]) W := by
  rw [rlm]
  simp only [Sem.run_bind, partsP, Result.andThen]
  simp [ReflectliteValue.elem, loadVar, isAgg, underlying, Tryd.underlying76, ha, Result.andThen, elemOfP, mkL]
theorem rls (v x : Value) : ReflectliteValue.set #[v, x] = (do
    let (some (dst, a, fl), some (src, b, _)) := (← ReflectliteValue.parts v, ← ReflectliteValue.parts x)
      | unsupported (.noEntry "extern/(internal/reflectlite.Value).Set.zeroValue")
    if fl / ReflectliteValue.flagAddr % 2 == 0 then unsupported (.noEntry "extern/(internal/reflectlite.Value).Set.unaddressable")
    let val ← loadVar src b
    if ← Rtype.directlyAssignable dst src then storeVar dst a val
    else if ← Rtype.implements dst src then
      if (← Rtype.kind src) == 20 then
        match val with
        | .nilIface => unsupported (.noEntry "extern/reflectlite: a nil value of one interface type handed on as a value of another")
        | _ => storeVar dst a val
      else storeVar dst a (.iface src val)
    else panicString ("reflectlite.Set: value of type " ++ (← Rtype.spelt src) ++ " is not assignable to type " ++ (← Rtype.spelt dst))
    pure (.tuple #[])) := rfl
theorem partsLa (a : Addr) (w : World) : (ReflectliteValue.parts (.agg #[.pointer (some ⟨4, 74, none⟩), .pointer (some a), .int .u64 409])).run Tryd.prog w = .ok (some (74, a, 409)) w := by kernel_rfl
theorem partsL (a : Addr) (w : World) : (ReflectliteValue.parts (.agg #[.pointer (some ⟨4, 74, none⟩), .pointer (some a), .int .u64 153])).run Tryd.prog w = .ok (some (74, a, 153)) w := by kernel_rfl
theorem directL (w : World) : (Rtype.directlyAssignable 74 74).run Tryd.prog w = .ok true w := by kernel_rfl
/-- (Value).Set: the variable at block g gets what block h holds. -/
theorem setL (g h : Nat) (s : ByteArray) (c : Int) (o0 o1 : Value) (W : World) (hb0 : W.cell? ⟨h, 0, none⟩ = some (.string s)) (hb1 : W.cell? ⟨h, 1, none⟩ = some (.iface 61 (.int .i64 c))) (ht0 : W.cell? ⟨g, 0, none⟩ = some o0) (ht1 : W.cell? ⟨g, 1, none⟩ = some o1)
    (hf0 : W.frozen? ⟨g, 0, none⟩ = false) (hf1 : W.frozen? ⟨g, 1, none⟩ = false) :
    (ReflectliteValue.set #[.agg #[.pointer (some ⟨4, 74, none⟩), .pointer (some ⟨g, 0, none⟩), .int .u64 409], .agg #[.pointer (some ⟨4, 74, none⟩), .pointer (some ⟨h, 0, none⟩), .int .u64 153]]).run Tryd.prog W
      = .ok (.tuple #[]) ((W.setCell ⟨g, 0, none⟩ (.string s)).setCell ⟨g, 1, none⟩ (.iface 61 (.int .i64 c))) := by
  have hl : (loadVar 74 ⟨h, 0, none⟩).run Tryd.prog W = .ok (.agg #[.string s, .iface 61 (.int .i64 c)]) W := by
    go_simp
  have hst : (storeVar 74 ⟨g, 0, none⟩ (.agg #[.string s, .iface 61 (.int .i64 c)])).run Tryd.prog W = .ok () ((W.setCell ⟨g, 0, none⟩ (.string s)).setCell ⟨g, 1, none⟩ (.iface 61 (.int .i64 c))) := by
    go_simp
  rw [rls]
  simp only [Sem.run_bind, partsLa, partsL, Result.andThen]
  simp [ReflectliteValue.flagAddr, hl, Result.andThen, directL, hst]
abbrev asW (w : World) (g : Nat) (x y : Value) : World := (((w.alloc (.cells #[.pointer (some ⟨g, 0, none⟩)] 76)).alloc (.cells #[.pointer (some ⟨4, 76, none⟩), .pointer (some ⟨w.heap.size, 0, none⟩), .int .u64 150] 92)).alloc (.cells #[.pointer (some ⟨4, 76, none⟩), .pointer (some ⟨w.heap.size, 0, none⟩), .int .u64 150] 92)).alloc (.cells #[x, y] 74)
set_option maxRecDepth 100000 in
set_option maxHeartbeats 4000000 in
theorem as_hit (g : Nat) (s : ByteArray) (c : Int) (o0 o1 : Value) (w : World) (hg : w.cell? ⟨0, 0, none⟩ = some (.iface 106 (.agg #[.pointer (some ⟨4, 31, none⟩)]))) (ht0 : w.cell? ⟨g, 0, none⟩ = some o0) (ht1 : w.cell? ⟨g, 1, none⟩ = some o1) (hf0 : w.frozen? ⟨g, 0, none⟩ = false) (hf1 : w.frozen? ⟨g, 1, none⟩ = false) :
    Calls Tryd.prog 45 #[.iface 74 (.agg #[.string s, .iface 61 (.int .i64 c)]), .iface 76 (.pointer (some ⟨g, 0, none⟩))] w fun ev w' => ev = .returned (.bool true) ∧ w' = ((asW w g (.string s) (.iface 61 (.int .i64 c))).setCell ⟨g, 0, none⟩ (.string s)).setCell ⟨g, 1, none⟩ (.iface 61 (.int .i64 c)) := by
  have h6 := @run_callFunc_extern Tryd.prog 58 _ (fun args => ReflectliteValue.unpack (args.getD 0 (.tuple #[]))) Tryd.func58 (by kernel_rfl) (by kernel_rfl) (by kernel_rfl) (by kernel_rfl)
  have h7 := @run_callFunc_extern Tryd.prog 59 _ (ReflectliteValue.methodAny (ReflectliteValue.valueError "reflectlite.Value.Type" 0) (fun t _ _ _ => ReflectliteType.toType t)) Tryd.func59 (by kernel_rfl) (by kernel_rfl) (by kernel_rfl) (by kernel_rfl)
  have h8 := @run_callFunc_extern Tryd.prog 60 _ (ReflectliteValue.method (ReflectliteValue.valueError "reflectlite.Value.IsNil" 0) ReflectliteValue.isNil) Tryd.func60 (by kernel_rfl) (by kernel_rfl) (by kernel_rfl) (by kernel_rfl)
  have h27 := @run_callFunc_extern Tryd.prog 102 _ (ReflectliteType.abiMethod fun t => do pure (.int .u8 (← Rtype.kind t))) Tryd.func102 (by kernel_rfl) (by kernel_rfl) (by kernel_rfl) (by kernel_rfl)
  have h37 := @run_callFunc_extern Tryd.prog 114 _ (ReflectliteType.method ReflectliteType.elem) Tryd.func114 (by kernel_rfl) (by kernel_rfl) (by kernel_rfl) (by kernel_rfl)
  have h38 := @run_callFunc_extern Tryd.prog 115 _ (ReflectliteType.relation "Implements" ReflectliteType.implements_) Tryd.func115 (by kernel_rfl) (by kernel_rfl) (by kernel_rfl) (by kernel_rfl)
  have h10 := @run_callFunc_extern Tryd.prog 56 _ ReflectliteType.typeOf Tryd.func56 (by kernel_rfl) (by kernel_rfl) (by kernel_rfl) (by kernel_rfl)
  have h35 := @run_callFunc_extern Tryd.prog 112 _ (ReflectliteType.relation "AssignableTo" ReflectliteType.assignableTo) Tryd.func112 (by kernel_rfl) (by kernel_rfl) (by kernel_rfl) (by kernel_rfl)
  have h11 := @run_callFunc_extern Tryd.prog 71 _ (ReflectliteValue.method (ReflectliteValue.valueError "reflectlite.Value.Elem" 0) ReflectliteValue.elem) Tryd.func71 (by kernel_rfl) (by kernel_rfl) (by kernel_rfl) (by kernel_rfl)
  have h12 := @run_callFunc_extern Tryd.prog 72 _ ReflectliteValue.set Tryd.func72 (by kernel_rfl) (by kernel_rfl) (by kernel_rfl) (by kernel_rfl)
  have tO := typeOfL
  have mA := methodAssignableTo
  have a25 := assignableL
  have v25 := valueOfL
  have f6 := valueOfP
  have f7 := typeP
  have mK := methodKind
  have mE := methodElem
  have mI := methodImplements
  have k27 := kindP
  have k25 := kindL
  have e27 := elemP
  have i25 := implementsL
  have n8 := isNilP ⟨w.heap.size, 0, none⟩ ⟨g, 0, none⟩ ((w.alloc (.cells #[.pointer (some ⟨g, 0, none⟩)] 76)).alloc (.cells #[.pointer (some ⟨4, 76, none⟩), .pointer (some ⟨w.heap.size, 0, none⟩), .int .u64 150] 92)) (by simp)
  have hlt : 0 < w.heap.size := World.block_lt_of_cell? w _ hg
  have hg2 : ((w.alloc (.cells #[.pointer (some ⟨g, 0, none⟩)] 76)).alloc (.cells #[.pointer (some ⟨4, 76, none⟩), .pointer (some ⟨w.heap.size, 0, none⟩), .int .u64 150] 92)).cell? ⟨0, 0, none⟩ = some (.iface 106 (.agg #[.pointer (some ⟨4, 31, none⟩)])) := by
    rw [World.cell?_alloc_lt _ _ ⟨0, 0, none⟩ (by simp), World.cell?_alloc_lt _ _ ⟨0, 0, none⟩ hlt]; exact hg
  have htl : g < w.heap.size := World.block_lt_of_cell? w _ ht0
  have el := elemVP ⟨w.heap.size, 0, none⟩ ⟨g, 0, none⟩ (((w.alloc (.cells #[.pointer (some ⟨g, 0, none⟩)] 76)).alloc (.cells #[.pointer (some ⟨4, 76, none⟩), .pointer (some ⟨w.heap.size, 0, none⟩), .int .u64 150] 92)).alloc (.cells #[.pointer (some ⟨4, 76, none⟩), .pointer (some ⟨w.heap.size, 0, none⟩), .int .u64 150] 92)) (by rw [World.cell?_alloc_lt _ _ ⟨w.heap.size, 0, none⟩ (by simp; omega)]; simp)
  have old : ∀ j, (asW w g (.string s) (.iface 61 (.int .i64 c))).cell? ⟨g, j, none⟩ = w.cell? ⟨g, j, none⟩ := fun j => by
    unfold asW
    rw [World.cell?_alloc_lt _ _ ⟨g, j, none⟩ (by simp; omega), World.cell?_alloc_lt _ _ ⟨g, j, none⟩ (by simp; omega), World.cell?_alloc_lt _ _ ⟨g, j, none⟩ (by simp; omega), World.cell?_alloc_lt _ _ ⟨g, j, none⟩ htl]
  have oldf : ∀ j, (asW w g (.string s) (.iface 61 (.int .i64 c))).frozen? ⟨g, j, none⟩ = w.frozen? ⟨g, j, none⟩ := fun j => by
    unfold asW
    rw [World.frozen?_alloc_old _ _ ⟨g, j, none⟩ (by simp; omega), World.frozen?_alloc_old _ _ ⟨g, j, none⟩ (by simp; omega), World.frozen?_alloc_old _ _ ⟨g, j, none⟩ (by simp; omega), World.frozen?_alloc_old _ _ ⟨g, j, none⟩ (Nat.ne_of_lt htl)]
  have st := setL g (w.heap.size + 1 + 1 + 1) s c o0 o1 (asW w g (.string s) (.iface 61 (.int .i64 c)))
    (by unfold asW; rw [World.cell?_alloc_at _ _ _ _ (by simp)]; rfl) (by unfold asW; rw [World.cell?_alloc_at _ _ _ _ (by simp)]; rfl)
    ((old 0).trans ht0) ((old 1).trans ht1) ((oldf 0).trans hf0) ((oldf 1).trans hf1)
  clear old oldf
  unfold asW at st ⊢
  go_enter Tryd.func45, Tryd.ntmps45
  go_wp2
  refine wp_loop_rounds 1 ?_
  rw [rounds_succ]
  go_wp2
  go_ret
  exact ⟨rfl, rfl⟩
end Go.Proofs.YteakcggbolfelaaDoor.Es
