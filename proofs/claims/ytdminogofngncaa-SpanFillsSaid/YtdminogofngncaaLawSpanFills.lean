/- The statement SpanFillsSaid is proved: for every input that the row speaks of the law returns true, and what came in reads as before; no condition beyond the row's own. (Row text written by a program of this session.) -/
import Derived.Test.YtdminogofngncaaRows
import Derived.Test.YtdminogofngncaaXF4
import Derived.Test.YtdminogofngncaaPureSpanFills
import Derived.Test.YtdminogofngncaaRd
import Derived.WalkKit
import Derived.ProofKit
import Derived.OpenShut
import Derived.ShutString
import Derived.ChangeOld
import Derived.Below
import Derived.SizedLaws
import Derived.Test.YtdminogofngncaaWSized
namespace Go.Proofs.Ytdminogofngncaa.spanFills
open Go.ChangeShapes Go.WideShapes Go.ChangeAt Go.RowKit Go.Proofs.YtdminogofngncaaW Go.Proofs.YtdminogofngncaaW.PrintWords Go.Proofs.Ytdminogofngncaa.Rd Go.Proofs.Ytdminogofngncaa.X
open Go.ChangeMaps (open_string shut_string)
set_option linter.unusedVariables false
theorem own : ownKnob Try.prog.godebug = none := by kernel_rfl
theorem laidOut : laidOutB Try.prog = true := by kernel_rfl
theorem rds0 : Rds Try.prog 22 (Kd.slice 26 k26) (fun l => (l.length ≤ maxLen ∧ ∀ e0 ∈ l, ((Lit.int .i64 e0.f0).wf = true ∧ (Lit.int .i64 e0.f1).wf = true))) := (Rds.slice (e := 26) Try.underlying22 (by kernel_rfl) (Rds.struct2 (f := fun x : S26 => (x.f0, x.f1)) Try.underlying26 rfl rfl (by kernel_rfl) (by kernel_rfl) (by kernel_rfl) (Rds.int Try.underlying3) (Rds.int Try.underlying3) (fun a b => (⟨a, b⟩ : S26)) (fun _ _ => rfl)))
set_option maxRecDepth 100000 in
theorem lifted (os : Os) (started : os.Started) (H : Type) (enc : TypeId × Value → H) :
    ReturnsInHanded {} Try.checked os 4 .any (Rows.spanFillsSpec.pre6 enc Try.prog Try.f4 Rows.spanFillsRow.domain false) (Rows.spanFillsSpec.post enc Try.prog Try.f4 false true false false) := by
  refine returnsInHanded_of_change_sized (C := Try.checked) own started (by kernel_rfl) Try.func4
    (ChangeSpec.witness6 (enc := enc) (C := Try.checked) false ⟨#[], #[.slice none 0 0, .int .u8 0], []⟩ 8 (by kernel_rfl) (by kernel_rfl) (by kernel_rfl) (by kernel_rfl)) ?_
  intro W base args ds gs before hval0 hW hcnd hsz0 _
  have hsz : (DataW.weightsEach Try.prog (Try.f4.params.toList ++ Rows.spanFillsSpec.plain.varTypes Try.prog) (ds ++ gs)).all (· ≤ reachBytes) = true := hsz0
  have hval : ∀ (j : Nat) t v, Try.f4.params[j]? = some t → args[j]? = some v → Value.okWide Try.prog W .any base t v := hval0
  have hW' := hW
  obtain ⟨p, q, hA0, hV, rfl, hfz, hnd⟩ := hW
  have hA : DataW.TrodAll enc Try.prog W 0 (fun _ => true) true Try.f4.params.toList args.toList ds p := hA0
  rw [Try.params4] at hA hval hsz
  obtain ⟨v0, vs0, d0, ds0, p0, q0, hargs, rfl, rfl, h0, r0⟩ := trodAll_cons hA
  obtain ⟨v1, vs1, d1, ds1, p1, q1, rfl, rfl, rfl, h1, r1⟩ := trodAll_cons r0
  obtain ⟨rfl, rfl, rfl⟩ := trodAll_nil r1
  obtain rfl : args = #[v0, v1] := by cases args; simp_all
  obtain ⟨rfl, rfl⟩ := trodVars_none hV
  obtain ⟨A0, len0, c0, rfl⟩ := okWide_slice Try.underlying22 (hval 0 22 v0 rfl rfl)
  have k0 := h0
  have lt0 : ∀ x ∈ p0, x.block < W.heap.size := by obtain ⟨m, hm⟩ := k0; exact DataW.trod_lt m _ _ _ hm
  obtain ⟨l0, rfl, hc0, hr0, hq0⟩ := Rds.open_slice rds0 h0
  obtain ⟨a1, rfl, rfl, rfl, w1⟩ := open_int Try.underlying5 (hval 1 5 v1 rfl rfl) h1
  clear hA0 hval0 hsz0 hsz
  obtain ⟨k, hk⟩ := Pure.SpanFills l0 a1 hq0 w1
  refine (cavillaw03_SpanFills.calls k A0 c0 l0 a1 true W hr0 hc0 hk).mono fun e W' ⟨he, bel⟩ => ?_
  subst he
  exact ⟨_, rfl, _, _, _, [], _, [], hW', trodAll_mk1 (shut_bool Try.underlying4 _), (trodAll_cons_mk (Below.trod laidOut (by kernel_rfl) (of_decide_eq_true (by kernel_rfl)) k0 bel lt0) (trodAll_cons_mk (shut_int Try.underlying5 w1) trodAll_mk0)), rfl, bel.frame _, fun h => by cases h⟩
theorem over : Rows.spanFillsRow.holds Try.pinned (OpenSpec.ofChange Rows.spanFillsSpec) :=
  OpenClaim.holds_of_wide 4 Try.f4 rfl rfl rfl rfl rfl rfl rfl ⟨rfl, rfl, rfl, rfl, rfl⟩ rfl rfl rfl rfl rfl (by kernel_rfl) Try.func4 (by kernel_rfl)
    (of_decide_eq_true (by kernel_rfl)) (by unfold Func.isWrapper; first | (rw [if_pos (by decide +kernel)]; kernel_rfl) | (rw [if_neg (by decide +kernel)]; exact ⟨rfl, rfl⟩))
    (fun os started H enc _ => lifted os started H enc)
theorem proved : Rows.SpanFillsSaid := over
#print axioms proved
end Go.Proofs.Ytdminogofngncaa.spanFills
namespace Go.Proofs.Ytdminogofngncaa
/-- The row, under a short name, for the claim. -/
theorem spanFills_holds : Rows.SpanFillsSaid := spanFills.proved
end Go.Proofs.Ytdminogofngncaa
