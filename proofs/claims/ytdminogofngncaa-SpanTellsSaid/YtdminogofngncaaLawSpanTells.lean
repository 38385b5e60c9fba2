/- The statement SpanTellsSaid is proved: for every input that the row speaks of the law returns true, and what came in reads as before; no condition beyond the row's own. (Row text written by a program of this session.) -/
import Derived.Test.YtdminogofngncaaRows
import Derived.Test.YtdminogofngncaaXF6
import Derived.Test.YtdminogofngncaaPureSpanTells
import Derived.Test.YtdminogofngncaaRd
import Derived.WalkKit
import Derived.ProofKit
import Derived.OpenShut
import Derived.ShutString
import Derived.ChangeOld
import Derived.Below
import Derived.SizedLaws
import Derived.Test.YtdminogofngncaaWSized
namespace Go.Proofs.Ytdminogofngncaa.spanTells
open Go.ChangeShapes Go.WideShapes Go.ChangeAt Go.RowKit Go.Proofs.YtdminogofngncaaW Go.Proofs.YtdminogofngncaaW.PrintWords Go.Proofs.Ytdminogofngncaa.Rd Go.Proofs.Ytdminogofngncaa.X
open Go.ChangeMaps (open_string shut_string)
set_option linter.unusedVariables false
theorem own : ownKnob Try.prog.godebug = none := by kernel_rfl
theorem laidOut : laidOutB Try.prog = true := by kernel_rfl
theorem rds0 : Rds Try.prog 26 (Kd.iso (Kd.pair (Kd.int .i64) (Kd.int .i64)) (fun x : Int × Int => x)) (fun x : Int × Int => (Lit.int .i64 x.1).wf = true ∧ (Lit.int .i64 x.2).wf = true) := Rds.struct2 (f := fun x => x) Try.underlying26 rfl rfl (by kernel_rfl) (by kernel_rfl) (by kernel_rfl) (Rds.int Try.underlying3) (Rds.int Try.underlying3) (fun a b => (a, b)) (fun _ _ => rfl)
theorem rds1 : Rds Try.prog 26 (Kd.iso (Kd.pair (Kd.int .i64) (Kd.int .i64)) (fun x : Int × Int => x)) (fun x : Int × Int => (Lit.int .i64 x.1).wf = true ∧ (Lit.int .i64 x.2).wf = true) := Rds.struct2 (f := fun x => x) Try.underlying26 rfl rfl (by kernel_rfl) (by kernel_rfl) (by kernel_rfl) (Rds.int Try.underlying3) (Rds.int Try.underlying3) (fun a b => (a, b)) (fun _ _ => rfl)
theorem rds2 : Rds Try.prog 42 (Kd.iso (Kd.pair (Kd.int .i64) (Kd.int .i64)) (fun x : Int × Int => x)) (fun x : Int × Int => (Lit.int .i64 x.1).wf = true ∧ (Lit.int .i64 x.2).wf = true) := Rds.array2 (f := fun x => x) Try.underlying42 (by kernel_rfl) (by kernel_rfl) (Rds.int Try.underlying3) (fun a b => (a, b)) (fun _ _ => rfl)
set_option maxRecDepth 100000 in
theorem lifted (os : Os) (started : os.Started) (H : Type) (enc : TypeId × Value → H) :
    ReturnsInHanded {} Try.checked os 6 .any (Rows.spanTellsSpec.pre6 enc Try.prog Try.f6 Rows.spanTellsRow.domain false) (Rows.spanTellsSpec.post enc Try.prog Try.f6 false true false false) := by
  refine returnsInHanded_of_change_sized (C := Try.checked) own started (by kernel_rfl) Try.func6
    (ChangeSpec.witness6 (enc := enc) (C := Try.checked) false ⟨#[], #[.agg #[.int .i64 0, .int .i64 0], .agg #[.int .i64 0, .int .i64 0], .agg #[.int .i64 0, .int .i64 0]], []⟩ 8 (by kernel_rfl) (by kernel_rfl) (by kernel_rfl) (by kernel_rfl)) ?_
  intro W base args ds gs before hval0 hW hcnd hsz0 _
  have hsz : (DataW.weightsEach Try.prog (Try.f6.params.toList ++ Rows.spanTellsSpec.plain.varTypes Try.prog) (ds ++ gs)).all (· ≤ reachBytes) = true := hsz0
  have hval : ∀ (j : Nat) t v, Try.f6.params[j]? = some t → args[j]? = some v → Value.okWide Try.prog W .any base t v := hval0
  have hW' := hW
  obtain ⟨p, q, hA0, hV, rfl, hfz, hnd⟩ := hW
  have hA : DataW.TrodAll enc Try.prog W 0 (fun _ => true) true Try.f6.params.toList args.toList ds p := hA0
  rw [Try.params6] at hA hval hsz
  obtain ⟨v0, vs0, d0, ds0, p0, q0, hargs, rfl, rfl, h0, r0⟩ := trodAll_cons hA
  obtain ⟨v1, vs1, d1, ds1, p1, q1, rfl, rfl, rfl, h1, r1⟩ := trodAll_cons r0
  obtain ⟨v2, vs2, d2, ds2, p2, q2, rfl, rfl, rfl, h2, r2⟩ := trodAll_cons r1
  obtain ⟨rfl, rfl, rfl⟩ := trodAll_nil r2
  obtain rfl : args = #[v0, v1, v2] := by cases args; simp_all
  obtain ⟨rfl, rfl⟩ := trodVars_none hV
  obtain ⟨cs0, rfl, _⟩ : ∃ cs, v0 = .agg cs ∧ True := by
    have z := (hval 0 26 v0 rfl rfl)
    unfold Value.okWide at z
    rw [Try.underlying26] at z
    obtain ⟨cs, h_, _⟩ := z
    exact ⟨cs, h_, trivial⟩
  have k0 := h0
  have lt0 : ∀ x ∈ p0, x.block < W.heap.size := by obtain ⟨m, hm⟩ := k0; exact DataW.trod_lt m _ _ _ hm
  obtain ⟨x0, kx0, hq0⟩ := Rds.open_agg rds0 h0
  obtain ⟨y0_0, y0_1⟩ := x0
  obtain ⟨z0_0, z0_1, hz0, kk0_0, kk0_1⟩ := kx0
  have he0_0 : z0_0 = [.int .i64 y0_0] := kk0_0
  have he0_1 : z0_1 = [.int .i64 y0_1] := kk0_1
  obtain rfl : cs0 = #[.int .i64 y0_0, .int .i64 y0_1] := by
    apply Array.ext'
    rw [hz0, he0_0, he0_1]
    rfl
  obtain ⟨cs1, rfl, _⟩ : ∃ cs, v1 = .agg cs ∧ True := by
    have z := (hval 1 26 v1 rfl rfl)
    unfold Value.okWide at z
    rw [Try.underlying26] at z
    obtain ⟨cs, h_, _⟩ := z
    exact ⟨cs, h_, trivial⟩
  have k1 := h1
  have lt1 : ∀ x ∈ p1, x.block < W.heap.size := by obtain ⟨m, hm⟩ := k1; exact DataW.trod_lt m _ _ _ hm
  obtain ⟨x1, kx1, hq1⟩ := Rds.open_agg rds1 h1
  obtain ⟨y1_0, y1_1⟩ := x1
  obtain ⟨z1_0, z1_1, hz1, kk1_0, kk1_1⟩ := kx1
  have he1_0 : z1_0 = [.int .i64 y1_0] := kk1_0
  have he1_1 : z1_1 = [.int .i64 y1_1] := kk1_1
  obtain rfl : cs1 = #[.int .i64 y1_0, .int .i64 y1_1] := by
    apply Array.ext'
    rw [hz1, he1_0, he1_1]
    rfl
  obtain ⟨cs2, rfl, _⟩ : ∃ cs, v2 = .agg cs ∧ True := by
    have z := (hval 2 42 v2 rfl rfl)
    unfold Value.okWide at z
    rw [Try.underlying42] at z
    obtain ⟨cs, h_, _⟩ := z
    exact ⟨cs, h_, trivial⟩
  have k2 := h2
  have lt2 : ∀ x ∈ p2, x.block < W.heap.size := by obtain ⟨m, hm⟩ := k2; exact DataW.trod_lt m _ _ _ hm
  obtain ⟨x2, kx2, hq2⟩ := Rds.open_agg rds2 h2
  obtain ⟨y2_0, y2_1⟩ := x2
  obtain ⟨z2_0, z2_1, hz2, kk2_0, kk2_1⟩ := kx2
  have he2_0 : z2_0 = [.int .i64 y2_0] := kk2_0
  have he2_1 : z2_1 = [.int .i64 y2_1] := kk2_1
  obtain rfl : cs2 = #[.int .i64 y2_0, .int .i64 y2_1] := by
    apply Array.ext'
    rw [hz2, he2_0, he2_1]
    rfl
  clear hA0 hval0 hsz0 hsz
  obtain ⟨k, hk⟩ := Pure.SpanTells y0_0 y0_1 y1_0 y1_1 y2_0 y2_1 hq0 hq1 hq2
  refine (cavillaw03_SpanTells.calls k y0_0 y0_1 y1_0 y1_1 y2_0 y2_1 true W  hk).mono fun e W' ⟨he, bel⟩ => ?_
  subst he
  exact ⟨_, rfl, _, _, _, [], _, [], hW', trodAll_mk1 (shut_bool Try.underlying4 _), (trodAll_cons_mk (Below.trod laidOut (by kernel_rfl) (of_decide_eq_true (by kernel_rfl)) k0 bel lt0) (trodAll_cons_mk (Below.trod laidOut (by kernel_rfl) (of_decide_eq_true (by kernel_rfl)) k1 bel lt1) (trodAll_cons_mk (Below.trod laidOut (by kernel_rfl) (of_decide_eq_true (by kernel_rfl)) k2 bel lt2) trodAll_mk0))), rfl, bel.frame _, fun h => by cases h⟩
theorem over : Rows.spanTellsRow.holds Try.pinned (OpenSpec.ofChange Rows.spanTellsSpec) :=
  OpenClaim.holds_of_wide 6 Try.f6 rfl rfl rfl rfl rfl rfl rfl ⟨rfl, rfl, rfl, rfl, rfl⟩ rfl rfl rfl rfl rfl (by kernel_rfl) Try.func6 (by kernel_rfl)
    (of_decide_eq_true (by kernel_rfl)) (by unfold Func.isWrapper; first | (rw [if_pos (by decide +kernel)]; kernel_rfl) | (rw [if_neg (by decide +kernel)]; exact ⟨rfl, rfl⟩))
    (fun os started H enc _ => lifted os started H enc)
theorem proved : Rows.SpanTellsSaid := over
#print axioms proved
end Go.Proofs.Ytdminogofngncaa.spanTells
namespace Go.Proofs.Ytdminogofngncaa
/-- The row, under a short name, for the claim. -/
theorem spanTells_holds : Rows.SpanTellsSaid := spanTells.proved
end Go.Proofs.Ytdminogofngncaa
