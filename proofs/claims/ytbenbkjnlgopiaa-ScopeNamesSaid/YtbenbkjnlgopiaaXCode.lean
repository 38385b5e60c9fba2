/-
  The contract of 'cavillaw01.Code' over errors.Is, where an error is nil or an api.Errno: which of the 25 errors one is; -1 for another number, 0 for none.
-/
import Derived.Test.YtbenbkjnlgopiaaX0
import Derived.Stop.Asserts
import Derived.LaidEql

namespace Go.Proofs.Ytbenbkjnlgopiaa.X
open Go.RowKit Go.Extern.Stop Go.Stop Go.Extern Go.Proofs.YtbenbkjnlgopiaaW.PrintWords
set_option linter.unusedVariables false
set_option linter.unusedSimpArgs false

theorem equalIn_iface_int {P : Program} (w : World) (d : Nat) {ti tn : TypeId} {ms : Array (String × TypeId)} {i : TypeInfo} {k : IntKind} (a b : Int)
    (hi : P.underlying ti = some (.interface ms)) (hn : P.underlying tn = some (.int k)) (hinfo : P.info? tn = some i) (hcomp : i.comparable = true) :
    (Op.equalIn (d + 2) ti (.iface tn (.int k a)) (.iface tn (.int k b))).run P w = .ok (a == b) w := by
  simp [Op.equalIn, run_underlying hi, run_underlying hn, typeInfo, hinfo, hcomp]
theorem eql_iface_int {P : Program} (w : World) {ti tn : TypeId} {ms : Array (String × TypeId)} {i : TypeInfo} {k : IntKind} (a b : Int)
    (hi : P.underlying ti = some (.interface ms)) (hn : P.underlying tn = some (.int k)) (hinfo : P.info? tn = some i) (hcomp : i.comparable = true) :
    (binOp .eql ti (.iface tn (.int k a)) (.iface tn (.int k b))).run P w = .ok (.bool (a == b)) w := by
  simp only [binOp]
  simp [Op.equal, Op.maxDepth, equalIn_iface_int w 9998 a b hi hn hinfo hcomp]

theorem isTypeOf (v : Value) (w : World) : (Extern.ReflectliteType.typeOf #[.iface 50 v]).run Try.prog w = .ok (.iface 80 (.agg #[.pointer (some ⟨0, 50, none⟩)])) w := by kernel_rfl
theorem isComparable (w : World) : ((Extern.ReflectliteType.method fun t => do Go.Extern.Rtype.noPackHeld "Comparable" t; (fun a => Value.bool a.comparable) <$> typeInfo t) #[.agg #[.pointer (some ⟨0, 50, none⟩)]]).run Try.prog w = .ok (.bool true) w := by kernel_rfl
theorem isMethodComparable (v : Value) (w : World) : (Go.method 232 80 v "Comparable").run Try.prog w = .ok (65, v) w := by kernel_rfl
theorem isComp : (Try.prog.info? 50).map (·.comparable) = some true := by kernel_rfl
theorem noIs (v : Value) (xT : TypeId) (w : World) : (Instr.typeAssert (.iface 50 v) xT 82 true).run Try.prog w = .ok (.tuple #[.nilIface, .bool false]) w := run_typeAssert_lacksB Try.underlying82 (by kernel_rfl) (by kernel_rfl) v xT w
theorem noUnwrap (v : Value) (xT : TypeId) (w : World) : (Instr.typeAssert (.iface 50 v) xT 85 true).run Try.prog w = .ok (.tuple #[.nilIface, .bool false]) w := run_typeAssert_lacksB Try.underlying85 (by kernel_rfl) (by kernel_rfl) v xT w
theorem noUnwraps (v : Value) (xT : TypeId) (w : World) : (Instr.typeAssert (.iface 50 v) xT 87 true).run Try.prog w = .ok (.tuple #[.nilIface, .bool false]) w := run_typeAssert_lacksB Try.underlying87 (by kernel_rfl) (by kernel_rfl) v xT w

/-- errors.Is of two numbers: are they the same. -/
theorem errors_Is_int (a b : Int) (w : World) :
    Calls Try.prog 20 #[.iface 50 (.int .i64 a), .iface 50 (.int .i64 b)] w fun e w' => e = .returned (.bool (a == b)) ∧ w = w' := by
  obtain ⟨i, hi, hcmp⟩ := Option.map_eq_some_iff.1 isComp
  have h23 := @run_callFunc_extern Try.prog 25 _ Extern.ReflectliteType.typeOf Try.func25 (by kernel_rfl) (by kernel_rfl) (by kernel_rfl) (by kernel_rfl)
  have h44 := @run_callFunc_extern Try.prog 65 _ (Extern.ReflectliteType.method fun t => do Go.Extern.Rtype.noPackHeld "Comparable" t; pure (.bool (← typeInfo t).comparable)) Try.func65 (by kernel_rfl) (by kernel_rfl) (by kernel_rfl) (by kernel_rfl)
  have tT := isTypeOf
  have cT := isComparable
  have mR := isMethodComparable
  have nI := noIs
  have nU := noUnwrap
  have nV := noUnwraps
  have heq := eql_iface_int (P := Try.prog) w a b Try.underlying34 Try.underlying50 hi hcmp
  cases hab : a == b <;> rw [hab] at heq
  all_goals
    clear hab
    go_enter Try.func20, Try.ntmps20
    go_wp2
    refine wp_loop_rounds 1 ?_
    rw [rounds_succ]
    go_wp2
    go_ret
    exact ⟨rfl, rfl⟩

def errC : Option Int → Value
  | none => .nilIface
  | some c => .iface 50 (.int .i64 c)
theorem errC_none : errC none = .nilIface := rfl
theorem errC_some (c : Int) : errC (some c) = .iface 50 (.int .i64 c) := rfl
def cavillaw01_Code.f (a : Option Int) : Option Int := match a with
  | none => some 0
  | some c => if 1 ≤ c ∧ c ≤ 25 then some c else some (-1)
theorem cavillaw01_Code.calls (a0 : Option Int) (r : Int) (w : World) (h : cavillaw01_Code.f a0 = some r) :
    Calls Try.prog 15 #[errC a0] w fun e w' => e = .returned (.int .i64 r) ∧ Below w.heap.size w w' := by
  have hu34 := Try.underlying34
  have hu50 := Try.underlying50
  cases a0 with
  | none =>
    obtain rfl : 0 = r := by simpa [cavillaw01_Code.f] using h
    rw [errC_none]
    go_enter Try.func15, Try.ntmps15
    go_wp2_with fail
    go_ret
    exact ⟨rfl, Below.refl _ _⟩
  | some c =>
    rw [errC_some]
    have HR : Aside0 (cavillaw01_Code.f (some c) = some r) := ⟨h⟩
    clear h
    go_enter Try.func15, Try.ntmps15
    go_wp2_with fail
    go_loop [3] (fun i => ∃ k : Int, 1 ≤ k ∧ k ≤ 26 ∧ i = .int .i64 k ∧ Aside0 (c < 1 ∨ k ≤ c)) (fun i => (26 - intOf i).toNat)
    case atStart => exact ⟨1, by omega, by omega, rfl, ⟨by omega⟩⟩
    case round =>
      obtain ⟨k, hk1, hk2, rfl, hc⟩ := hrel
      by_cases hle : k ≤ 25
      · by_cases e : c = k
        · have eb : (c == k) = true := beq_iff_eq.2 e
          have EB := Aside0.mk eb
          have E := Aside0.mk e
          clear eb e
          go_wp2_with fail
          refine (errors_Is_int c k _).mono ?_
          rintro e2 w2 ⟨rfl, rfl⟩
          rw [EB.out]
          go_wp2_with fail
          go_ret
          refine ⟨?_, Below.refl _ _⟩
          have h := HR.out
          have e := E.out
          subst e
          simp only [cavillaw01_Code.f] at h
          rw [if_pos ⟨hk1, hle⟩] at h
          rw [Option.some.inj h]; rfl
        · have eb : (c == k) = false := beq_eq_false_iff_ne.2 e
          have EB := Aside0.mk eb
          have E := Aside0.mk e
          clear eb e
          go_wp2_with fail
          refine (errors_Is_int c k _).mono ?_
          rintro e2 w2 ⟨rfl, rfl⟩
          rw [EB.out]
          go_wp2_with fail
          go_round
          case rel => exact ⟨k + 1, by omega, by omega, rfl, ⟨by have := hc.out; have := E.out; omega⟩⟩
          case measure => simp [intOf]; omega
      · go_wp2_with fail
        go_ret
        refine ⟨?_, Below.refl _ _⟩
        have h := HR.out
        have := hc.out
        simp only [cavillaw01_Code.f] at h
        rw [if_neg (by omega)] at h
        rw [Option.some.inj h]; rfl
end Go.Proofs.Ytbenbkjnlgopiaa.X
