/- The statement ScopeInnerSaid is proved: for every input that the row speaks of the law returns true, and what came in reads as before; no condition beyond the row's own. (Row text written by a program of this session.) -/
import Derived.Test.YtbenbkjnlgopiaaRows
import Derived.Test.YtbenbkjnlgopiaaInner
import Derived.Test.YtbenbkjnlgopiaaRd
import Derived.WalkKit
import Derived.ProofKit
import Derived.OpenShut
import Derived.ShutString
import Derived.ChangeOld
import Derived.Below
import Derived.SizedLaws
import Derived.Test.YtbenbkjnlgopiaaWSized
namespace Go.Proofs.Ytbenbkjnlgopiaa.scopeInner
open Go.ChangeShapes Go.WideShapes Go.ChangeAt Go.RowKit Go.Proofs.YtbenbkjnlgopiaaW Go.Proofs.YtbenbkjnlgopiaaW.PrintWords Go.Proofs.Ytbenbkjnlgopiaa.Rd Go.Proofs.Ytbenbkjnlgopiaa.X
open Go.ChangeMaps (open_string shut_string)
set_option linter.unusedVariables false
theorem own : ownKnob Try.prog.godebug = none := by kernel_rfl
theorem laidOut : laidOutB Try.prog = true := by kernel_rfl
theorem rds0 : Rds Try.prog 22 (Kd.slice 24 k24) (fun l => (l.length ≤ maxLen ∧ ∀ e0 ∈ l, ((Lit.int .u8 e0.f0).wf = true ∧ e0.f1.size ≤ maxLen ∧ (Lit.int .i64 e0.f2).wf = true))) := (Rds.slice (e := 24) Try.underlying22 (by kernel_rfl) (Rds.struct3 (f := fun x : S24 => (x.f0, x.f1, x.f2)) Try.underlying24 rfl rfl rfl (by kernel_rfl) (by kernel_rfl) (by kernel_rfl) (by kernel_rfl) (Rds.int Try.underlying5) (Rds.string Try.underlying9) (Rds.int Try.underlying3) (fun a b c => (⟨a, b, c⟩ : S24)) (fun _ _ _ => rfl)))
theorem rds1 : Rds Try.prog 24 (Kd.iso (Kd.pair (Kd.int .u8) (Kd.pair Kd.string (Kd.int .i64))) (fun x : Int × ByteArray × Int => x)) (fun x : Int × ByteArray × Int => (Lit.int .u8 x.1).wf = true ∧ x.2.1.size ≤ maxLen ∧ (Lit.int .i64 x.2.2).wf = true) := Rds.struct3 (f := fun x => x) Try.underlying24 rfl rfl rfl (by kernel_rfl) (by kernel_rfl) (by kernel_rfl) (by kernel_rfl) (Rds.int Try.underlying5) (Rds.string Try.underlying9) (Rds.int Try.underlying3) (fun a b c => (a, b, c)) (fun _ _ _ => rfl)
set_option maxRecDepth 100000 in
theorem lifted (os : Os) (started : os.Started) (H : Type) (enc : TypeId × Value → H) :
    ReturnsInHanded {} Try.checked os 3 .any (Rows.scopeInnerSpec.pre6 enc Try.prog Try.f3 Rows.scopeInnerRow.domain false) (Rows.scopeInnerSpec.post enc Try.prog Try.f3 false true false false) := by
  refine returnsInHanded_of_change_sized (C := Try.checked) own started (by kernel_rfl) Try.func3
    (ChangeSpec.witness6 (enc := enc) (C := Try.checked) false ⟨#[], #[.slice none 0 0, .agg #[.int .u8 0, .string ByteArray.empty, .int .i64 0], .string ByteArray.empty], []⟩ 8 (by kernel_rfl) (by kernel_rfl) (by kernel_rfl) (by kernel_rfl)) ?_
  intro W base args ds gs before hval0 hW hcnd hsz0 _
  have hsz : (DataW.weightsEach Try.prog (Try.f3.params.toList ++ Rows.scopeInnerSpec.plain.varTypes Try.prog) (ds ++ gs)).all (· ≤ reachBytes) = true := hsz0
  have hval : ∀ (j : Nat) t v, Try.f3.params[j]? = some t → args[j]? = some v → Value.okWide Try.prog W .any base t v := hval0
  have hW' := hW
  obtain ⟨p, q, hA0, hV, rfl, hfz, hnd⟩ := hW
  have hA : DataW.TrodAll enc Try.prog W 0 (fun _ => true) true Try.f3.params.toList args.toList ds p := hA0
  rw [Try.params3] at hA hval hsz
  obtain ⟨v0, vs0, d0, ds0, p0, q0, hargs, rfl, rfl, h0, r0⟩ := trodAll_cons hA
  obtain ⟨v1, vs1, d1, ds1, p1, q1, rfl, rfl, rfl, h1, r1⟩ := trodAll_cons r0
  obtain ⟨v2, vs2, d2, ds2, p2, q2, rfl, rfl, rfl, h2, r2⟩ := trodAll_cons r1
  obtain ⟨rfl, rfl, rfl⟩ := trodAll_nil r2
  obtain rfl : args = #[v0, v1, v2] := by cases args; simp_all
  obtain ⟨rfl, rfl⟩ := trodVars_none hV
  obtain ⟨A0, len0, c0, rfl⟩ := okWide_slice Try.underlying22 (hval 0 22 v0 rfl rfl)
  have k0 := h0
  have lt0 : ∀ x ∈ p0, x.block < W.heap.size := by obtain ⟨m, hm⟩ := k0; exact DataW.trod_lt m _ _ _ hm
  obtain ⟨l0, rfl, hc0, hr0, hq0⟩ := Rds.open_slice rds0 h0
  obtain ⟨cs1, rfl, _⟩ : ∃ cs, v1 = .agg cs ∧ True := by
    have z := (hval 1 24 v1 rfl rfl)
    unfold Value.okWide at z
    rw [Try.underlying24] at z
    obtain ⟨cs, h_, _⟩ := z
    exact ⟨cs, h_, trivial⟩
  have k1 := h1
  have lt1 : ∀ x ∈ p1, x.block < W.heap.size := by obtain ⟨m, hm⟩ := k1; exact DataW.trod_lt m _ _ _ hm
  obtain ⟨x1, kx1, hq1⟩ := Rds.open_agg rds1 h1
  obtain ⟨y1_0, y1_1, y1_2⟩ := x1
  obtain ⟨z1_0, z1_1, hz1, kk1_0, kk1_1⟩ := kx1
  obtain ⟨w1_1, w1_2, hw1, kj1_1, kk1_2⟩ := kk1_1
  have he1_0 : z1_0 = [.int .u8 y1_0] := kk1_0
  have he1_1 : w1_1 = [.string y1_1] := kj1_1
  have he1_2 : w1_2 = [.int .i64 y1_2] := kk1_2
  obtain rfl : cs1 = #[.int .u8 y1_0, .string y1_1, .int .i64 y1_2] := by
    apply Array.ext'
    rw [hz1, hw1, he1_0, he1_1, he1_2]
    rfl
  obtain ⟨a2, rfl, rfl, rfl, y2⟩ := open_string Try.underlying9 (hval 2 9 v2 rfl rfl) h2
  have w2 : a2.size ≤ 140737488351232 := by
    have z := sized_string hsz (j := 2) (t := 9) rfl rfl
    rw [Array.length_toList] at z
    exact z
  clear hA0 hval0 hsz0 hsz
  refine (cavillaw28_ScopeInner.calls A0 c0 l0 y1_0 y1_1 y1_2 a2 W hq0 hq1 w2 hr0 hc0).mono fun e W' ⟨he, bel⟩ => ?_
  subst he
  exact ⟨_, rfl, _, _, _, [], _, [], hW', trodAll_mk1 (shut_bool Try.underlying4 _), (trodAll_cons_mk (Below.trod laidOut (by kernel_rfl) (of_decide_eq_true (by kernel_rfl)) k0 bel lt0) (trodAll_cons_mk (Below.trod laidOut (by kernel_rfl) (of_decide_eq_true (by kernel_rfl)) k1 bel lt1) (trodAll_cons_mk (shut_string Try.underlying9 y2) trodAll_mk0))), rfl, bel.frame _, fun h => by cases h⟩
theorem over : Rows.scopeInnerRow.holds Try.pinned (OpenSpec.ofChange Rows.scopeInnerSpec) :=
  OpenClaim.holds_of_wide 3 Try.f3 rfl rfl rfl rfl rfl rfl rfl ⟨rfl, rfl, rfl, rfl, rfl⟩ rfl rfl rfl rfl rfl (by kernel_rfl) Try.func3 (by kernel_rfl)
    (of_decide_eq_true (by kernel_rfl)) (by unfold Func.isWrapper; first | (rw [if_pos (by decide +kernel)]; kernel_rfl) | (rw [if_neg (by decide +kernel)]; exact ⟨rfl, rfl⟩))
    (fun os started H enc _ => lifted os started H enc)
theorem proved : Rows.ScopeInnerSaid := over
#print axioms proved
end Go.Proofs.Ytbenbkjnlgopiaa.scopeInner
namespace Go.Proofs.Ytbenbkjnlgopiaa
/-- The row, under a short name, for the claim. -/
theorem scopeInner_holds : Rows.ScopeInnerSaid := scopeInner.proved
end Go.Proofs.Ytbenbkjnlgopiaa
