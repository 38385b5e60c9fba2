/- Written by a program of this session (wip/xprint) out of the translation: functions of the given program as plain functions, and the walks that show that each call answers what its function says, under the conditions that each theorem states. -/
import Derived.Test.YteakcggbolfelaaDoorUM
namespace Go.Proofs.YteakcggbolfelaaDoor.U
open Go.RowKit Go.Proofs.YteakcggbolfelaaDoorW.PrintWords Go.Proofs.YteakcggbolfelaaDoorW.PrintLast Go.Proofs.YteakcggbolfelaaDoorW.PrintMore
attribute [local go_sem] run_store_vl max2_int min2_int max_two min_two max_three min_three max_four min_four   -- for this text's walks alone
set_option linter.unusedVariables false
set_option linter.unusedSimpArgs false

/-! ### cavilref05_to: function 32 -/
def cavilref05_to.f (a0 : Int) (a1 : Int) (l2 : List Int) : Option (Int) := if a0 ≥ (l2.length : Int) then (some a0) else (if 0 ≤ a0 then (if a0 < (l2.length : Int) then (if (wrap64 (a1 - a0)) = 0 then (none) else (if (Int.tmod (rd l2 a0) (wrap64 (a1 - a0))) < 0 then (some (wrap64 (a0 + (wrap64 ((wrap64 ((Int.tmod (rd l2 a0) (wrap64 (a1 - a0))) + a1)) - a0))))) else (some (wrap64 (a0 + (Int.tmod (rd l2 a0) (wrap64 (a1 - a0)))))))) else (none)) else (none))
set_option maxHeartbeats 8000000 in
set_option maxRecDepth 100000 in
theorem cavilref05_to.calls (a0 : Int) (a1 : Int) (A2 : Option Addr) (c2 : Nat) (l2 : List Int) (r : Int) (w : World) (hr2 : Kd.C (Kd.int .i64) w A2 l2.length l2) (hc2 : l2.length ≤ c2) (h : cavilref05_to.f a0 a1 l2 = some r) :
    Calls Tryd.prog 32 #[.int .i64 a0, .int .i64 a1, .slice A2 l2.length c2] w fun e w' => e = .returned (.int .i64 r) ∧ Drawn0 w w' := by
  have HR2 := Aside0.mk hr2
  have HC2 := Aside0.mk hc2
  clear hr2 hc2
  have H : (if a0 ≥ (l2.length : Int) then (some a0) else (if 0 ≤ a0 then (if a0 < (l2.length : Int) then (if (wrap64 (a1 - a0)) = 0 then (none) else (if (Int.tmod (rd l2 a0) (wrap64 (a1 - a0))) < 0 then (some (wrap64 (a0 + (wrap64 ((wrap64 ((Int.tmod (rd l2 a0) (wrap64 (a1 - a0))) + a1)) - a0))))) else (some (wrap64 (a0 + (Int.tmod (rd l2 a0) (wrap64 (a1 - a0)))))))) else (none)) else (none))) = some r := h
  clear h
  by_cases c4 : a0 ≥ (l2.length : Int)
  · rw [if_pos c4] at H
    have c4b0 : decide ((l2.length : Int) ≤ a0) = true := decide_eq_true c4
    clear c4
    obtain rfl := Option.some.inj H
    go_enter Tryd.func32, Tryd.ntmps32
    go_wp2
    go_ret
    exact ⟨by first | rfl | (simp; done) | (simp [*]; done), by repeat (first | exact Drawn0.refl _ | apply Drawn0.step)⟩
  · rw [if_neg c4] at H
    have c4b0 : decide ((l2.length : Int) ≤ a0) = false := decide_eq_false c4
    clear c4
    by_cases c5 : 0 ≤ a0
    · rw [if_pos c5] at H
      have c5b0 : decide (0 ≤ a0) = true := decide_eq_true c5
      clear c5
      by_cases c6 : a0 < (l2.length : Int)
      · rw [if_pos c6] at H
        have c6b0 : decide (a0 < (l2.length : Int)) = true := decide_eq_true c6
        clear c6
        by_cases c7 : (wrap64 (a1 - a0)) = 0
        · rw [if_pos c7] at H
          exact absurd H (by simp)
        · rw [if_neg c7] at H
          have c7b0 : ((wrap64 (a1 - a0)) == 0) = false := beq_eq_false_iff_ne.mpr c7
          have c7b1 : ((wrap64 (a1 - a0)) != 0) = true := bne_iff_ne.mpr c7
          by_cases c8 : (Int.tmod (rd l2 a0) (wrap64 (a1 - a0))) < 0
          · rw [if_pos c8] at H
            have c8b0 : decide ((Int.tmod (rd l2 a0) (wrap64 (a1 - a0))) < 0) = true := decide_eq_true c8
            clear c8
            obtain rfl := Option.some.inj H
            have p149 : 0 ≤ (a0 : Int) := of_decide_eq_true (by first | (with_reducible assumption) | assumption)
            have q149 : a0 < (l2.length : Int) := of_decide_eq_true (by first | (with_reducible assumption) | assumption)
            obtain ⟨ad149, e149, hx149_0⟩ := Kd.at_int HR2.out a0 p149 q149
            cases e149
            replace p149 := eq_true p149
            replace q149 := eq_true q149
            go_enter Tryd.func32, Tryd.ntmps32
            go_wp2
            go_ret
            exact ⟨by first | rfl | (simp; done) | (simp [*]; done), by repeat (first | exact Drawn0.refl _ | apply Drawn0.step)⟩
          · rw [if_neg c8] at H
            have c8b0 : decide ((Int.tmod (rd l2 a0) (wrap64 (a1 - a0))) < 0) = false := decide_eq_false c8
            clear c8
            obtain rfl := Option.some.inj H
            have p149 : 0 ≤ (a0 : Int) := of_decide_eq_true (by first | (with_reducible assumption) | assumption)
            have q149 : a0 < (l2.length : Int) := of_decide_eq_true (by first | (with_reducible assumption) | assumption)
            obtain ⟨ad149, e149, hx149_0⟩ := Kd.at_int HR2.out a0 p149 q149
            cases e149
            replace p149 := eq_true p149
            replace q149 := eq_true q149
            go_enter Tryd.func32, Tryd.ntmps32
            go_wp2
            go_ret
            exact ⟨by first | rfl | (simp; done) | (simp [*]; done), by repeat (first | exact Drawn0.refl _ | apply Drawn0.step)⟩
      · rw [if_neg c6] at H
        exact absurd H (by simp)
    · rw [if_neg c5] at H
      exact absurd H (by simp)

end Go.Proofs.YteakcggbolfelaaDoor.U
