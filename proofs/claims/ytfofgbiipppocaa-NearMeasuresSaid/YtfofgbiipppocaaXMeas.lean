/-
  NearMeasures, walked: at any two texts it answers true, if the two distances are as the plain part tells.
-/
import Derived.Test.YtfofgbiipppocaaPl
import Derived.Laws.Cover1
import Derived.Outline
namespace Go.Proofs.Ytfofgbiipppocaa.X
open Go.RowKit Go.Proofs.YtfofgbiipppocaaW.PrintWords Go.Proofs.YtfofgbiipppocaaW.PrintLast Go.Proofs.YtfofgbiipppocaaW.PrintMore Go.Proofs.Ytfofgbiipppocaa.Near Go.Proofs.Ytfofgbiipppocaa.XR
attribute [local go_sem] max2_int min2_int max_two min_two max_three min_three max_four min_four   -- for this text's walks alone
set_option linter.unusedVariables false
set_option linter.unusedSimpArgs false
set_option maxHeartbeats 4000000 in
theorem meas_calls (k : Nat) (a0 a1 a b : ByteArray) (d : Int) (w : World) (ha : a = a0.extract 0 (mn (a0.size : Int) 100).toNat) (hb : b = a1.extract 0 (mn (a1.size : Int) 100).toNat)
    (h1 : near_Distance.f k a b = some d) (h2 : near_Distance.f k b a = some d) (hw : cavillaw34_works.f k = some true) (hz : (d == 0) = (a.toList == b.toList)) (hd : d ≤ a.size ∨ d ≤ b.size) (hl : (a.size : Int) ≤ b.size + d ∧ (b.size : Int) ≤ a.size + d) :
    Calls Try.prog 5 #[.string a0, .string a1] w fun e w' => e = .returned (.bool true) ∧ Below w.heap.size w w' := by
  have A1 := Aside0.mk h1
  have A2 := Aside0.mk h2
  have A3 := Aside0.mk hw
  have HB := Aside0.mk (Below.refl w.heap.size w)
  obtain ⟨ji3, hji3⟩ : ∃ j_ : Int, (mn (a0.size : Int) 100) = j_ := ⟨_, rfl⟩
  obtain ⟨ji6, hji6⟩ : ∃ j_ : Int, (mn (a1.size : Int) 100) = j_ := ⟨_, rfl⟩
  rw [hji3] at ha
  rw [hji6] at hb
  have i1 : 0 ≤ ji3 ∧ ji3 ≤ 100 ∧ ji3 ≤ (a0.size : Int) := by rw [← hji3]; unfold mn; split <;> omega
  have i2 : 0 ≤ ji6 ∧ ji6 ≤ 100 ∧ ji6 ≤ (a1.size : Int) := by rw [← hji6]; unfold mn; split <;> omega
  have sa : a.size ≤ 100 := by rw [ha, ByteArray.size_extract]; omega
  have sb : b.size ≤ 100 := by rw [hb, ByteArray.size_extract]; omega
  have c10b0 : ((d == 0) == (a.toList == b.toList)) = true := by rw [hz]; simp
  have c10b1 : decide ((d == 0) = (a.toList == b.toList)) = true := decide_eq_true hz
  have c12b0 : (d == d) = true := by simp
  have HA := Aside0.mk ha
  have HBb := Aside0.mk hb
  have hji3_ : (if 100 < (a0.size : Int) then 100 else (a0.size : Int)) = ji3 := hji3
  have hji6_ : (if 100 < (a1.size : Int) then 100 else (a1.size : Int)) = ji6 := hji6
  have c4b0 := eq_true i1.1
  have c4b1 := decide_eq_true i1.1
  have c5b0 := eq_true i1.2.2
  have c5b1 := decide_eq_true i1.2.2
  have c7b0 := eq_true i2.1
  have c7b1 := decide_eq_true i2.1
  have c8b0 := eq_true i2.2.2
  have c8b1 := decide_eq_true i2.2.2
  have w1 : wrap64 ((a.size : Int) - b.size) = (a.size : Int) - b.size := by unfold wrap64; omega
  have w2 : wrap64 ((b.size : Int) - a.size) = (b.size : Int) - a.size := by unfold wrap64; omega
  have w3 : IntKind.i64.wrap ((a.size : Int) - b.size) = (a.size : Int) - b.size := by rw [i64_w]; exact w1
  have w4 : IntKind.i64.wrap ((b.size : Int) - a.size) = (b.size : Int) - a.size := by rw [i64_w]; exact w2
  clear h1 h2 hw hz ha hb hji3 hji6 i1 i2
  by_cases hlt : a.size < b.size
  · have f1 : decide ((a.size : Int) < (b.size : Int)) = true := decide_eq_true (by omega)
    have f1' : ((a.size : Int) < (b.size : Int)) = True := eq_true (by omega)
    have f1n : (a.size < b.size) = True := eq_true (by omega)
    have f2 : decide (d ≤ (b.size : Int)) = true := decide_eq_true (by omega)
    have f4 : decide ((a.size : Int) - b.size < (b.size : Int) - a.size) = true := decide_eq_true (by omega)
    have f4' : ((a.size : Int) - b.size < (b.size : Int) - a.size) = True := eq_true (by omega)
    have f5 : decide ((b.size : Int) - a.size ≤ d) = true := decide_eq_true (by omega)
    clear hd hl sa sb hlt
    go_enter Try.func5, Try.ntmps5
    go_wp2_with (go_at_call 6; fail)
    go_quiet (fail)
    go_wp2_with (go_at_call 6; fail)
    rw [← HA.out, ← HBb.out]
    go_wp2_with (first | (go_at_call 6; (with_reducible refine (near_Distance.calls k a b d _ A1.out).mono ?_); rintro e w18 ⟨rfl, hb⟩; have n0_ := Aside0.mk (below_step (by repeat (first | (with_reducible first | exact HB.out | apply below_alloc | apply pw_below_drewN | apply below_drew1) | exact HB.out)) hb); clear HB; have HB := n0_; clear n0_; (try clear hb)) | (go_at_call 6; (with_reducible refine (near_Distance.calls k b a d _ A2.out).mono ?_); rintro e w19 ⟨rfl, hb⟩; have n0_ := Aside0.mk (below_step (by repeat (first | (with_reducible first | exact HB.out | apply below_alloc | apply pw_below_drewN | apply below_drew1) | exact HB.out)) hb); clear HB; have HB := n0_; clear n0_; (try clear hb)) | (go_at_call 8; (with_reducible refine (cavillaw34_works.calls k true _ A3.out).mono ?_); rintro e w19 ⟨rfl, hb⟩; have n0_ := Aside0.mk (below_step (by repeat (first | (with_reducible first | exact HB.out | apply below_alloc | apply pw_below_drewN | apply below_drew1) | exact HB.out)) hb); clear HB; have HB := n0_; clear n0_; (try clear hb)))
    go_ret
    exact ⟨rfl, HB.out⟩
  · have f1 : decide ((a.size : Int) < (b.size : Int)) = false := decide_eq_false (by omega)
    have f1' : ((a.size : Int) < (b.size : Int)) = False := eq_false (by omega)
    have f1n : (a.size < b.size) = False := eq_false (by omega)
    have f2 : decide (d ≤ (a.size : Int)) = true := decide_eq_true (by omega)
    have f4 : decide ((a.size : Int) - b.size < (b.size : Int) - a.size) = false := decide_eq_false (by omega)
    have f4' : ((a.size : Int) - b.size < (b.size : Int) - a.size) = False := eq_false (by omega)
    have f5 : decide ((a.size : Int) - b.size ≤ d) = true := decide_eq_true (by omega)
    clear hd hl sa sb hlt
    go_enter Try.func5, Try.ntmps5
    go_wp2_with (go_at_call 6; fail)
    go_quiet (fail)
    go_wp2_with (go_at_call 6; fail)
    rw [← HA.out, ← HBb.out]
    go_wp2_with (first | (go_at_call 6; (with_reducible refine (near_Distance.calls k a b d _ A1.out).mono ?_); rintro e w18 ⟨rfl, hb⟩; have n0_ := Aside0.mk (below_step (by repeat (first | (with_reducible first | exact HB.out | apply below_alloc | apply pw_below_drewN | apply below_drew1) | exact HB.out)) hb); clear HB; have HB := n0_; clear n0_; (try clear hb)) | (go_at_call 6; (with_reducible refine (near_Distance.calls k b a d _ A2.out).mono ?_); rintro e w19 ⟨rfl, hb⟩; have n0_ := Aside0.mk (below_step (by repeat (first | (with_reducible first | exact HB.out | apply below_alloc | apply pw_below_drewN | apply below_drew1) | exact HB.out)) hb); clear HB; have HB := n0_; clear n0_; (try clear hb)) | (go_at_call 8; (with_reducible refine (cavillaw34_works.calls k true _ A3.out).mono ?_); rintro e w19 ⟨rfl, hb⟩; have n0_ := Aside0.mk (below_step (by repeat (first | (with_reducible first | exact HB.out | apply below_alloc | apply pw_below_drewN | apply below_drew1) | exact HB.out)) hb); clear HB; have HB := n0_; clear n0_; (try clear hb)))
    go_ret
    exact ⟨rfl, HB.out⟩
/-- The statement over plain texts. -/
theorem meas_walk (a0 a1 : ByteArray) (w : World) : Calls Try.prog 5 #[.string a0, .string a1] w fun e w' => e = .returned (.bool true) ∧ Below w.heap.size w w' := by
  obtain ⟨a, ha⟩ : ∃ a, a = a0.extract 0 (mn (a0.size : Int) 100).toNat := ⟨_, rfl⟩
  obtain ⟨b, hb⟩ : ∃ b, b = a1.extract 0 (mn (a1.size : Int) 100).toNat := ⟨_, rfl⟩
  have cut : ∀ x : ByteArray, (x.extract 0 (mn (x.size : Int) 100).toNat).size ≤ 100 := fun x => by
    have : mn (x.size : Int) 100 ≤ 100 := by unfold mn; split <;> omega
    rw [ByteArray.size_extract]; omega
  have sa : a.size ≤ 100 := by rw [ha]; exact cut a0
  have sb : b.size ≤ 100 := by rw [hb]; exact cut a1
  have E1 := dist_ev a b (by omega) (by omega)
  have E2 := dist_ev b a (by omega) (by omega)
  rw [dst_symm (BL b) (BL a)] at E2
  obtain ⟨k1, h1⟩ := E1
  obtain ⟨k2, h2⟩ := E2
  obtain ⟨k3, h3⟩ := works
  have g1 := dst_most (BL a) (BL b)
  have g2 := dst_least (BL a) (BL b)
  rw [BL_len, BL_len] at g1 g2
  refine meas_calls (k1 + k2 + k3) a0 a1 a b _ w ha hb (h1 _ (by omega)) (h2 _ (by omega)) (h3 _ (by omega)) ?_ (by omega) (by omega)
  rw [Bool.eq_iff_iff, beq_iff_eq, beq_iff_eq, ← BL_eq, ← dst_zero]
  omega
end Go.Proofs.Ytfofgbiipppocaa.X
