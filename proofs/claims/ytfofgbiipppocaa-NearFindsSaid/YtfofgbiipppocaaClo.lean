/-
  The closure of near.Near: is a name to be taken out?
-/
import Derived.Test.YtfofgbiipppocaaXF6
import Derived.RegionTactic
import Derived.Below
namespace Go.Proofs.Ytfofgbiipppocaa.X
open Go.RowKit Go.Proofs.YtfofgbiipppocaaW.PrintWords Go.Proofs.YtfofgbiipppocaaW.PrintLast Go.Proofs.YtfofgbiipppocaaW.PrintMore
set_option linter.unusedVariables false
set_option maxHeartbeats 4000000 in
theorem clo_long (B : Nat) (s o : ByteArray) (W : World) (hc : W.cell? ⟨B, 0, none⟩ = some (.string s)) (ho : decide (64 < (o.size : Int)) = true) :
    Calls Try.prog 15 (#[.string o] ++ #[.pointer (some ⟨B, 0, none⟩)]) W fun e w' => e = .returned (.bool true) ∧ Below W.heap.size W w' := by
  go_enter Try.func15, Try.ntmps15
  go_wp2
  go_ret
  exact ⟨rfl, Below.refl _ _⟩
set_option maxHeartbeats 4000000 in
theorem clo_short (B : Nat) (s o : ByteArray) (W : World) (k : Nat) (r : Int) (hd : near_Distance.f k s o = some r) (hc : W.cell? ⟨B, 0, none⟩ = some (.string s)) (ho : decide (64 < (o.size : Int)) = false) :
    Calls Try.prog 15 (#[.string o] ++ #[.pointer (some ⟨B, 0, none⟩)]) W fun e w' => e = .returned (.bool (r != 1)) ∧ Below W.heap.size W w' := by
  have hcall := near_Distance.calls k s o r W hd
  go_enter Try.func15, Try.ntmps15
  go_wp2_with (go_at_call 6; refine hcall.mono ?_; rintro e w1 ⟨rfl, hb⟩)
  all_goals go_ret
  all_goals exact ⟨by simp, hb⟩
end Go.Proofs.Ytfofgbiipppocaa.X
