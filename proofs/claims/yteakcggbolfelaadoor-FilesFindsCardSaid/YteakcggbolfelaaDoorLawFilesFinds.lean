/- The statement FilesFindsSaid is proved: for every input that the row speaks of the law returns true, and what came in reads as before; no condition beyond the row's own. (Row text written by a program of this session.) -/
import Derived.Test.YteakcggbolfelaaDoorCards
import Derived.Test.YteakcggbolfelaaDoorTie
import Derived.Test.YteakcggbolfelaaDoorFrame
import Derived.Test.YteakcggbolfelaaDoorFinds
import Derived.Test.YteakcggbolfelaaDoorRd
import Derived.WalkKit
import Derived.ProofKit
import Derived.OpenShut
import Derived.ShutString
import Derived.ChangeOld
import Derived.Below
import Derived.SizedLaws
import Derived.Test.YteakcggbolfelaaDoorWSized
namespace Go.Proofs.YteakcggbolfelaaDoor.filesFinds
open Go.ChangeShapes Go.WideShapes Go.ChangeAt Go.RowKit Go.Proofs.YteakcggbolfelaaDoorW Go.Proofs.YteakcggbolfelaaDoorW.PrintWords Go.Proofs.YteakcggbolfelaaDoor.Rd Go.Proofs.YteakcggbolfelaaDoor.Y
open Go.ChangeMaps (open_string shut_string)
set_option linter.unusedVariables false
theorem own : ownKnob Tryd.prog.godebug = none := by kernel_rfl
theorem laidOut : laidOutB Tryd.prog = true := by kernel_rfl
theorem rds0 : Rds Tryd.prog 25 (Kd.slice 47 k47) (fun l => (l.length ≤ maxLen ∧ ∀ e0 ∈ l, (e0.f0.size ≤ maxLen ∧ (e0.f1.length ≤ maxLen ∧ ∀ e1 ∈ e0.f1, (e1.f0.size ≤ maxLen ∧ (e1.f1.length ≤ maxLen ∧ ∀ e2 ∈ e1.f1, (Lit.int .u8 e2).wf = true)))))) := (Rds.slice (e := 47) Tryd.underlying25 (by kernel_rfl) (Rds.struct2 (f := fun x : S47 => (x.f0, x.f1)) Tryd.underlying47 rfl rfl (by kernel_rfl) (by kernel_rfl) (by kernel_rfl) (Rds.string Tryd.underlying9) (Rds.slice (e := 37) Tryd.underlying45 (by kernel_rfl) (Rds.struct2 (f := fun x : S37 => (x.f0, x.f1)) Tryd.underlying37 rfl rfl (by kernel_rfl) (by kernel_rfl) (by kernel_rfl) (Rds.string Tryd.underlying9) (Rds.slice (e := 5) Tryd.underlying35 (by kernel_rfl) (Rds.int Tryd.underlying5)) (fun a b => (⟨a, b⟩ : S37)) (fun _ _ => rfl))) (fun a b => (⟨a, b⟩ : S47)) (fun _ _ => rfl)))
theorem rds1 : Rds Tryd.prog 34 (Kd.iso (Kd.pair Kd.string Kd.string) (fun x : ByteArray × ByteArray => x)) (fun x : ByteArray × ByteArray => x.1.size ≤ maxLen ∧ x.2.size ≤ maxLen) := Rds.array2 (f := fun x : ByteArray × ByteArray => x) Tryd.underlying34 (by kernel_rfl) (by kernel_rfl) (Rds.string Tryd.underlying9) (fun a b => (a, b)) (fun _ _ => rfl)
theorem rds2 : Rds Tryd.prog 35 (Kd.slice 5 (Kd.int .u8)) (fun l => (l.length ≤ maxLen ∧ ∀ e0 ∈ l, (Lit.int .u8 e0).wf = true)) := (Rds.slice (e := 5) Tryd.underlying35 (by kernel_rfl) (Rds.int Tryd.underlying5))
set_option maxRecDepth 100000 in
theorem lifted (os : Os) (started : os.Started) (H : Type) (enc : TypeId × Value → H) :
    ReturnsInHanded {} Tryd.checked os 5 .any (fun w args => (Rows.filesFindsSpec.pre enc Tryd.prog Tryd.f5 [] false w args ∧ laidMetH Tryd.prog Rows.filesFindsRow.laid w) ∧ sizedMet enc Tryd.prog Tryd.f5 (OpenSpec.ofChange Rows.filesFindsSpec) false w args) (Rows.filesFindsSpec.post enc Tryd.prog Tryd.f5 false true false false) := by
  refine returnsInHanded_of_change_and_shaped (C := Tryd.checked) (X := fun w _ => laidMetH Tryd.prog Rows.filesFindsRow.laid w) (fun _ _ _ hh h => h.of_heap hh) own started (by kernel_rfl) Tryd.func5
    (ChangeSpec.witness_shaped (enc := enc) (C := Tryd.checked) (os := os) (X := fun w _ => laidMetH Tryd.prog Rows.filesFindsRow.laid w) false (World.laidAll Tryd.prog os Rows.filesFindsRow.laid) #[.slice none 0 0, .agg #[.string ByteArray.empty, .string ByteArray.empty], .slice none 0 0] 8 (World.laidAll_os _ _ _)
      (World.shaped_of_ZipB (by kernel_rfl) (by kernel_rfl)) (by kernel_rfl) (by kernel_rfl) (by kernel_rfl)
      (by rw [MakeChecks.laidMetH_plain _ _ _ (by kernel_rfl)]; exact laidMet_laidAll _ (by kernel_rfl) (by kernel_rfl))) ?_
  intro W base args ds gs before hval0 hW hcnd hsz0 _ hsh _
  have hsz : (DataW.weightsEach Tryd.prog (Tryd.f5.params.toList ++ Rows.filesFindsSpec.plain.varTypes Tryd.prog) (ds ++ gs)).all (· ≤ reachBytes) = true := hsz0
  have hval : ∀ (j : Nat) t v, Tryd.f5.params[j]? = some t → args[j]? = some v → Value.okWide Tryd.prog W .any base t v := hval0
  obtain ⟨ml, hml⟩ := cell_of_shapedOpen_int (P := Tryd.prog) (g := 1) (t := 3) (zero := #[.int .i64 0]) hsh (of_decide_eq_true (by kernel_rfl)) (by kernel_rfl) rfl (by kernel_rfl) (by kernel_rfl) Tryd.underlying3
  have hW' := hW
  obtain ⟨p, q, hA0, hV, rfl, hfz, hnd⟩ := hW
  have hA : DataW.TrodAll enc Tryd.prog W 0 (fun _ => true) true Tryd.f5.params.toList args.toList ds p := hA0
  rw [Tryd.params5] at hA hval hsz
  obtain ⟨v0, vs0, d0, ds0, p0, q0, hargs, rfl, rfl, h0, r0⟩ := trodAll_cons hA
  obtain ⟨v1, vs1, d1, ds1, p1, q1, rfl, rfl, rfl, h1, r1⟩ := trodAll_cons r0
  obtain ⟨v2, vs2, d2, ds2, p2, q2, rfl, rfl, rfl, h2, r2⟩ := trodAll_cons r1
  obtain ⟨rfl, rfl, rfl⟩ := trodAll_nil r2
  obtain rfl : args = #[v0, v1, v2] := by cases args; simp_all
  obtain ⟨rfl, rfl⟩ := trodVars_none hV
  obtain ⟨A0, len0, c0, rfl⟩ := okWide_slice Tryd.underlying25 (hval 0 25 v0 rfl rfl)
  have k0 := h0
  have lt0 : ∀ x ∈ p0, x.block < W.heap.size := by obtain ⟨m, hm⟩ := k0; exact DataW.trod_lt m _ _ _ hm
  obtain ⟨l0, rfl, hc0, hr0, hq0⟩ := Rds.open_slice rds0 h0
  obtain ⟨cs1, rfl, _⟩ : ∃ cs, v1 = .agg cs ∧ True := by
    have z := (hval 1 34 v1 rfl rfl)
    unfold Value.okWide at z
    rw [Tryd.underlying34] at z
    obtain ⟨cs, h_, _⟩ := z
    exact ⟨cs, h_, trivial⟩
  have k1 := h1
  have lt1 : ∀ x ∈ p1, x.block < W.heap.size := by obtain ⟨m, hm⟩ := k1; exact DataW.trod_lt m _ _ _ hm
  obtain ⟨x1, kx1, hq1⟩ := Rds.open_agg rds1 h1
  obtain ⟨y1_0, y1_1⟩ := x1
  obtain ⟨z1_0, z1_1, hz1, kk1_0, kk1_1⟩ := kx1
  have he1_0 : z1_0 = [.string y1_0] := kk1_0
  have he1_1 : z1_1 = [.string y1_1] := kk1_1
  obtain rfl : cs1 = #[.string y1_0, .string y1_1] := by
    apply Array.ext'
    rw [hz1, he1_0, he1_1]
    rfl
  obtain ⟨A2, len2, c2, rfl⟩ := okWide_slice Tryd.underlying35 (hval 2 35 v2 rfl rfl)
  have k2 := h2
  have lt2 : ∀ x ∈ p2, x.block < W.heap.size := by obtain ⟨m, hm⟩ := k2; exact DataW.trod_lt m _ _ _ hm
  obtain ⟨l2, rfl, hc2, hr2, hq2⟩ := Rds.open_slice rds2 h2
  clear hA0 hval0 hsz0 hsz
  refine (cavillaw05_FilesFinds.calls A0 c0 l0 y1_0 y1_1 A2 c2 l2 W hq0 hq1 hq2 hr0 hc0 hr2 hc2 ml hml).mono fun e W' ⟨he, bel⟩ => ?_
  subst he
  exact ⟨_, rfl, _, _, _, [], _, [], hW', trodAll_mk1 (shut_bool Tryd.underlying4 _), (trodAll_cons_mk (Below.trod laidOut (by kernel_rfl) (of_decide_eq_true (by kernel_rfl)) k0 bel lt0) (trodAll_cons_mk (Below.trod laidOut (by kernel_rfl) (of_decide_eq_true (by kernel_rfl)) k1 bel lt1) (trodAll_cons_mk (Below.trod laidOut (by kernel_rfl) (of_decide_eq_true (by kernel_rfl)) k2 bel lt2) trodAll_mk0))), rfl, bel.frame _, fun h => by cases h⟩
theorem over : Rows.filesFindsRow.holds Tryd.pinned (OpenSpec.ofChange Rows.filesFindsSpec) :=
  OpenClaim.holds_of_wide 5 Tryd.f5 rfl rfl rfl rfl rfl rfl rfl ⟨rfl, rfl, rfl, rfl, rfl⟩ rfl rfl rfl rfl rfl (by kernel_rfl) Tryd.func5 (by kernel_rfl)
    (of_decide_eq_true (by kernel_rfl)) (by unfold Func.isWrapper; first | (rw [if_pos (by decide +kernel)]; kernel_rfl) | (rw [if_neg (by decide +kernel)]; exact ⟨rfl, rfl⟩))
    (fun os started H enc _ => lifted os started H enc)
theorem card : Rows.FilesFindsCardSaid :=
  Claim7.holds_tied_plain_at .later [] [.data, .pinned] true (true, "9784589d359dd75b57f5c18852d1fd7182604635ff9998e0f45546fd1054a173") true over (fun _ h => by cases h) (by kernel_rfl) (fun _ h => by cases h) filesFinds_row_tie rfl ⟨rfl, rfl⟩ (by kernel_rfl) rfl
    (fun f fn hf hfn => by
      obtain rfl : f = 5 := Option.some.inj ((show Tryd.prog.funcNamed "cavil/cavillaw05.FilesFinds" = some 5 by kernel_rfl).symm.trans hf) |>.symm
      obtain rfl : fn = Tryd.f5 := (Option.some.inj (Tryd.func5.symm.trans hfn)).symm
      exact ⟨by kernel_rfl, fun j t ht => by
        rw [Tryd.params5] at ht
        have hm : t ∈ [25, 34, 35] := by simpa using Array.mem_of_getElem? ht
        have hall : ([25, 34, 35].all fun u => !Tryd.prog.wantsStandIn u) = true := by kernel_rfl
        exact (show Tryd.prog.wantsStandIn t = false by simpa using List.all_eq_true.1 hall t hm)⟩)
    (by kernel_rfl)
#print axioms card
end Go.Proofs.YteakcggbolfelaaDoor.filesFinds
namespace Go.Proofs.YteakcggbolfelaaDoor
/-- The card, under a short name, for the claim. -/
theorem filesFinds_holds : Rows.FilesFindsCardSaid := filesFinds.card
end Go.Proofs.YteakcggbolfelaaDoor
