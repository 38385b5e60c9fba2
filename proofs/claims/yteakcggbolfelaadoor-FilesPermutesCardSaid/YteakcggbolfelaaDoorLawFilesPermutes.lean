/- The statement FilesPermutesSaid is proved: for every input that the row speaks of the law returns true, and what came in reads as before; no condition beyond the row's own. (Row text written by a program of this session.) -/
import Derived.Test.YteakcggbolfelaaDoorCards
import Derived.Test.YteakcggbolfelaaDoorTie
import Derived.Test.YteakcggbolfelaaDoorFrame
import Derived.Test.YteakcggbolfelaaDoorPermutes
import Derived.Test.YteakcggbolfelaaDoorRd
import Derived.WalkKit
import Derived.ProofKit
import Derived.OpenShut
import Derived.ShutString
import Derived.ChangeOld
import Derived.Below
import Derived.SizedLaws
import Derived.Test.YteakcggbolfelaaDoorWSized
namespace Go.Proofs.YteakcggbolfelaaDoor.filesPermutes
open Go.ChangeShapes Go.WideShapes Go.ChangeAt Go.RowKit Go.Proofs.YteakcggbolfelaaDoorW Go.Proofs.YteakcggbolfelaaDoorW.PrintWords Go.Proofs.YteakcggbolfelaaDoor.Rd Go.Proofs.YteakcggbolfelaaDoor.Y
open Go.ChangeMaps (open_string shut_string)
set_option linter.unusedVariables false
theorem own : ownKnob Tryd.prog.godebug = none := by kernel_rfl
theorem laidOut : laidOutB Tryd.prog = true := by kernel_rfl
theorem rds0 : Rds Tryd.prog 25 (Kd.slice 47 k47) (fun l => (l.length ≤ maxLen ∧ ∀ e0 ∈ l, (e0.f0.size ≤ maxLen ∧ (e0.f1.length ≤ maxLen ∧ ∀ e1 ∈ e0.f1, (e1.f0.size ≤ maxLen ∧ (e1.f1.length ≤ maxLen ∧ ∀ e2 ∈ e1.f1, (Lit.int .u8 e2).wf = true)))))) := (Rds.slice (e := 47) Tryd.underlying25 (by kernel_rfl) (Rds.struct2 (f := fun x : S47 => (x.f0, x.f1)) Tryd.underlying47 rfl rfl (by kernel_rfl) (by kernel_rfl) (by kernel_rfl) (Rds.string Tryd.underlying9) (Rds.slice (e := 37) Tryd.underlying45 (by kernel_rfl) (Rds.struct2 (f := fun x : S37 => (x.f0, x.f1)) Tryd.underlying37 rfl rfl (by kernel_rfl) (by kernel_rfl) (by kernel_rfl) (Rds.string Tryd.underlying9) (Rds.slice (e := 5) Tryd.underlying35 (by kernel_rfl) (Rds.int Tryd.underlying5)) (fun a b => (⟨a, b⟩ : S37)) (fun _ _ => rfl))) (fun a b => (⟨a, b⟩ : S47)) (fun _ _ => rfl)))
theorem rds1 : Rds Tryd.prog 26 (Kd.slice 3 (Kd.int .i64)) (fun l => (l.length ≤ maxLen ∧ ∀ e0 ∈ l, (Lit.int .i64 e0).wf = true)) := (Rds.slice (e := 3) Tryd.underlying26 (by kernel_rfl) (Rds.int Tryd.underlying3))
set_option maxRecDepth 100000 in
theorem lifted (os : Os) (started : os.Started) (H : Type) (enc : TypeId × Value → H) :
    ReturnsInHanded {} Tryd.checked os 4 .any (fun w args => (Rows.filesPermutesSpec.pre enc Tryd.prog Tryd.f4 [] false w args ∧ laidMetH Tryd.prog Rows.filesPermutesRow.laid w) ∧ sizedMet enc Tryd.prog Tryd.f4 (OpenSpec.ofChange Rows.filesPermutesSpec) false w args) (Rows.filesPermutesSpec.post enc Tryd.prog Tryd.f4 false true false false) := by
  refine returnsInHanded_of_change_and_shaped (C := Tryd.checked) (X := fun w _ => laidMetH Tryd.prog Rows.filesPermutesRow.laid w) (fun _ _ _ hh h => h.of_heap hh) own started (by kernel_rfl) Tryd.func4
    (ChangeSpec.witness_shaped (enc := enc) (C := Tryd.checked) (os := os) (X := fun w _ => laidMetH Tryd.prog Rows.filesPermutesRow.laid w) false (World.laidAll Tryd.prog os Rows.filesPermutesRow.laid) #[.slice none 0 0, .slice none 0 0] 8 (World.laidAll_os _ _ _)
      (World.shaped_of_ZipB (by kernel_rfl) (by kernel_rfl)) (by kernel_rfl) (by kernel_rfl) (by kernel_rfl)
      (by rw [MakeChecks.laidMetH_plain _ _ _ (by kernel_rfl)]; exact laidMet_laidAll _ (by kernel_rfl) (by kernel_rfl))) ?_
  intro W base args ds gs before hval0 hW hcnd hsz0 _ hsh _
  have hsz : (DataW.weightsEach Tryd.prog (Tryd.f4.params.toList ++ Rows.filesPermutesSpec.plain.varTypes Tryd.prog) (ds ++ gs)).all (· ≤ reachBytes) = true := hsz0
  have hval : ∀ (j : Nat) t v, Tryd.f4.params[j]? = some t → args[j]? = some v → Value.okWide Tryd.prog W .any base t v := hval0
  obtain ⟨ml, hml⟩ := cell_of_shapedOpen_int (P := Tryd.prog) (g := 1) (t := 3) (zero := #[.int .i64 0]) hsh (of_decide_eq_true (by kernel_rfl)) (by kernel_rfl) rfl (by kernel_rfl) (by kernel_rfl) Tryd.underlying3
  have hW' := hW
  obtain ⟨p, q, hA0, hV, rfl, hfz, hnd⟩ := hW
  have hA : DataW.TrodAll enc Tryd.prog W 0 (fun _ => true) true Tryd.f4.params.toList args.toList ds p := hA0
  rw [Tryd.params4] at hA hval hsz
  obtain ⟨v0, vs0, d0, ds0, p0, q0, hargs, rfl, rfl, h0, r0⟩ := trodAll_cons hA
  obtain ⟨v1, vs1, d1, ds1, p1, q1, rfl, rfl, rfl, h1, r1⟩ := trodAll_cons r0
  obtain ⟨rfl, rfl, rfl⟩ := trodAll_nil r1
  obtain rfl : args = #[v0, v1] := by cases args; simp_all
  obtain ⟨rfl, rfl⟩ := trodVars_none hV
  obtain ⟨A0, len0, c0, rfl⟩ := okWide_slice Tryd.underlying25 (hval 0 25 v0 rfl rfl)
  have k0 := h0
  have lt0 : ∀ x ∈ p0, x.block < W.heap.size := by obtain ⟨m, hm⟩ := k0; exact DataW.trod_lt m _ _ _ hm
  obtain ⟨l0, rfl, hc0, hr0, hq0⟩ := Rds.open_slice rds0 h0
  obtain ⟨A1, len1, c1, rfl⟩ := okWide_slice Tryd.underlying26 (hval 1 26 v1 rfl rfl)
  have k1 := h1
  have lt1 : ∀ x ∈ p1, x.block < W.heap.size := by obtain ⟨m, hm⟩ := k1; exact DataW.trod_lt m _ _ _ hm
  obtain ⟨l1, rfl, hc1, hr1, hq1⟩ := Rds.open_slice rds1 h1
  clear hA0 hval0 hsz0 hsz
  refine (cavillaw05_FilesPermutes.calls A0 c0 l0 A1 c1 l1 W hq0 hq1 hr0 hc0 hr1 hc1 ml hml).mono fun e W' ⟨he, bel⟩ => ?_
  subst he
  exact ⟨_, rfl, _, _, _, [], _, [], hW', trodAll_mk1 (shut_bool Tryd.underlying4 _), (trodAll_cons_mk (Below.trod laidOut (by kernel_rfl) (of_decide_eq_true (by kernel_rfl)) k0 bel lt0) (trodAll_cons_mk (Below.trod laidOut (by kernel_rfl) (of_decide_eq_true (by kernel_rfl)) k1 bel lt1) trodAll_mk0)), rfl, bel.frame _, fun h => by cases h⟩
theorem over : Rows.filesPermutesRow.holds Tryd.pinned (OpenSpec.ofChange Rows.filesPermutesSpec) :=
  OpenClaim.holds_of_wide 4 Tryd.f4 rfl rfl rfl rfl rfl rfl rfl ⟨rfl, rfl, rfl, rfl, rfl⟩ rfl rfl rfl rfl rfl (by kernel_rfl) Tryd.func4 (by kernel_rfl)
    (of_decide_eq_true (by kernel_rfl)) (by unfold Func.isWrapper; first | (rw [if_pos (by decide +kernel)]; kernel_rfl) | (rw [if_neg (by decide +kernel)]; exact ⟨rfl, rfl⟩))
    (fun os started H enc _ => lifted os started H enc)
theorem card : Rows.FilesPermutesCardSaid :=
  Claim7.holds_tied_plain_at .later [] [.data, .pinned] true (true, "9784589d359dd75b57f5c18852d1fd7182604635ff9998e0f45546fd1054a173") true over (fun _ h => by cases h) (by kernel_rfl) (fun _ h => by cases h) filesPermutes_row_tie rfl ⟨rfl, rfl⟩ (by kernel_rfl) rfl
    (fun f fn hf hfn => by
      obtain rfl : f = 4 := Option.some.inj ((show Tryd.prog.funcNamed "cavil/cavillaw05.FilesPermutes" = some 4 by kernel_rfl).symm.trans hf) |>.symm
      obtain rfl : fn = Tryd.f4 := (Option.some.inj (Tryd.func4.symm.trans hfn)).symm
      exact ⟨by kernel_rfl, fun j t ht => by
        rw [Tryd.params4] at ht
        have hm : t ∈ [25, 26] := by simpa using Array.mem_of_getElem? ht
        have hall : ([25, 26].all fun u => !Tryd.prog.wantsStandIn u) = true := by kernel_rfl
        exact (show Tryd.prog.wantsStandIn t = false by simpa using List.all_eq_true.1 hall t hm)⟩)
    (by kernel_rfl)
#print axioms card
end Go.Proofs.YteakcggbolfelaaDoor.filesPermutes
namespace Go.Proofs.YteakcggbolfelaaDoor
/-- The card, under a short name, for the claim. -/
theorem filesPermutes_holds : Rows.FilesPermutesCardSaid := filesPermutes.card
end Go.Proofs.YteakcggbolfelaaDoor
