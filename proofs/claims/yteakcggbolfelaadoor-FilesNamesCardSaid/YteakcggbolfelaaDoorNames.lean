/-
  The law FilesNames answers true at every text.
-/
import Derived.Test.YteakcggbolfelaaDoorWk
namespace Go.Proofs.YteakcggbolfelaaDoor.X
open Go.RowKit Go.Proofs.YteakcggbolfelaaDoorW.PrintWords Go.Proofs.YteakcggbolfelaaDoorW.PrintLast Go.Proofs.YteakcggbolfelaaDoorW.PrintMore
set_option linter.unusedVariables false
set_option linter.unusedSimpArgs false
attribute [local go_sem] max2_int min2_int
set_option maxHeartbeats 4000000 in
theorem cavillaw05_FilesNames.calls (a0 : ByteArray) (W : World) (w0 : a0.size ≤ 140737488351232) (ml : Int) (hml : W.cell? ⟨1, 0, none⟩ = some (.int .i64 ml)) :
    Calls Tryd.prog 3 #[.string a0] W fun e w' => e = .returned (.bool true) ∧ Below W.heap.size W w' := by
  go_enter Tryd.func3, Tryd.ntmps3
  go_wp2_with fail
  have hs : (a0.extract 0 (min (a0.size : Int) 200).toNat).size ≤ maxLen := by
    have h1 : (a0.extract 0 (min (a0.size : Int) 200).toNat).size ≤ a0.size := by rw [ByteArray.size_extract]; omega
    have h2 : (140737488351232 : Nat) ≤ maxLen := by decide
    omega
  generalize a0.extract 0 (min (a0.size : Int) 200).toNat = t at hs ⊢
  have HM := Aside0.mk hml
  have HS := Aside0.mk hs
  obtain ⟨b, hb⟩ : ∃ b, nameOk t true = b := ⟨_, rfl⟩
  obtain ⟨c, hc⟩ : ∃ c, pathOk t = c := ⟨_, rfl⟩
  have h7 := fun w => fname_calls t w hs
  have h8 := fun w => refName_calls t true w hs
  have h10 := fun w => refPath_calls t w hs
  rw [hb] at h7 h8
  rw [hc] at h10
  have HC := Aside0.mk hc
  clear hml hs hb hc
  refine (h7 _).mono ?_
  rintro e w1 ⟨rfl, hb1⟩
  have HB1 := Aside0.mk hb1
  clear hb1
  have hlt := Aside0.mk (World.block_lt_of_cell? W _ HM.out)
  go_wp2_with (first
    | (go_at_call 8; (with_reducible refine (h8 _).mono ?_); rintro e w2 ⟨rfl, hb2⟩; have HB2 := Aside0.mk (HB1.out.trans (hb2.mono HB1.out.size)); clear hb2)
    | (go_at_call 9; refine (path_calls t _ HS.out ml ((HB2.out.cell (p := ⟨1, 0, none⟩) hlt.out).trans HM.out)).mono ?_; rw [HC.out]; rintro e w3 ⟨rfl, hb3⟩; have HB3 := Aside0.mk (HB2.out.trans (hb3.mono HB2.out.size)); clear hb3)
    | (go_at_call 10; (with_reducible refine (h10 _).mono ?_); rintro e w4 ⟨rfl, hb4⟩; have HB4 := Aside0.mk (HB3.out.trans (hb4.mono HB3.out.size)); clear hb4)
    | (go_at_call 11; refine (works_calls _ ml ((HB4.out.cell (p := ⟨1, 0, none⟩) hlt.out).trans HM.out)).mono ?_; rintro e w5 ⟨rfl, hb5⟩; have HB5 := Aside0.mk (HB4.out.trans (hb5.mono HB4.out.size)); clear hb5))
  go_ret
  exact ⟨rfl, HB5.out⟩
end Go.Proofs.YteakcggbolfelaaDoor.X
