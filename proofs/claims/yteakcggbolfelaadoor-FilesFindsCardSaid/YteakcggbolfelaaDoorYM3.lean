/- Written by a program of this session (wip/xprint) out of the translation. -/
import Derived.Test.YteakcggbolfelaaDoorYM

section
/- Written by a program of this session (wip/xprint) out of the translation: functions of the given program as plain functions, and the walks that show that each call answers what its function says, under the conditions that each theorem states. -/
namespace Go.Proofs.YteakcggbolfelaaDoor.Y
open Go.RowKit Go.Proofs.YteakcggbolfelaaDoorW.PrintWords Go.Proofs.YteakcggbolfelaaDoorW.PrintLast Go.Proofs.YteakcggbolfelaaDoorW.PrintMore
attribute [local go_sem] max2_int min2_int max_two min_two max_three min_three max_four min_four   -- for this text's walks alone
set_option linter.unusedVariables false
set_option linter.unusedSimpArgs false

/-! ### cavilref05_Find: function 19 -/
mutual
def cavilref05_Find.l0 : Nat → List (S47) → ByteArray → ByteArray → Int → Option (Int × Int)
 | 0, _, _, _, _ => none
 | k + 1, x0, x1, x2, x8 => if x8 < (x0.length : Int) then (if 0 ≤ x8 then (if ((rd_T47 x0 x8).f0).toList = x1.toList then (cavilref05_Find.l1 k x0 x2 x8 0) else (cavilref05_Find.l0 k x0 x1 x2 (wrap64 (x8 + 1)))) else (none)) else (some ((-1), (-1)))
def cavilref05_Find.l1 : Nat → List (S47) → ByteArray → Int → Int → Option (Int × Int)
 | 0, _, _, _, _ => none
 | k + 1, x0, x2, x8, x9 => if 0 ≤ x8 then (if x8 < (x0.length : Int) then (if x9 < (((rd_T47 x0 x8).f1).length : Int) then (if 0 ≤ x9 then (if ((rd_T37 ((rd_T47 x0 x8).f1) x9).f0).toList = x2.toList then (some (x8, x9)) else (cavilref05_Find.l1 k x0 x2 x8 (wrap64 (x9 + 1)))) else (none)) else (some ((-1), (-1)))) else (none)) else (none)
end
def cavilref05_Find.f (k : Nat) (l0 : List (S47)) (a1 : ByteArray) (a2 : ByteArray) : Option (Int × Int) := cavilref05_Find.l0 k l0 a1 a2 0
theorem cavilref05_Find.mono_l : ∀ k, (∀ y0 y1 y2 y3, LeO (cavilref05_Find.l0 k y0 y1 y2 y3) (cavilref05_Find.l0 (k + 1) y0 y1 y2 y3)) ∧ (∀ y0 y1 y2 y3, LeO (cavilref05_Find.l1 k y0 y1 y2 y3) (cavilref05_Find.l1 (k + 1) y0 y1 y2 y3))
 | 0 => ⟨fun _ _ _ _ r h => by simp [cavilref05_Find.l0] at h, fun _ _ _ _ r h => by simp [cavilref05_Find.l1] at h⟩
 | k + 1 => by
  obtain ⟨ih0, ih1⟩ := cavilref05_Find.mono_l k
  refine ⟨?_, ?_⟩
  ·intro y0 y1 y2 y3
   unfold cavilref05_Find.l0
   repeat' first
   | (with_reducible exact ih0 _ _ _ _)
   | (with_reducible exact ih1 _ _ _ _)
   | (with_reducible exact LeO.refl _)
   | (with_reducible exact LeO.none _)
   | (with_reducible refine LeO.ite ?_ ?_)
   | (with_reducible refine LeO.bind ?_ (fun _ => ?_))
   | exact ih0 _ _ _ _
   | exact ih1 _ _ _ _
   | exact LeO.none _
   | refine LeO.ite ?_ ?_
   | refine LeO.bind ?_ (fun _ => ?_)
  ·intro y0 y1 y2 y3
   unfold cavilref05_Find.l1
   repeat' first
   | (with_reducible exact ih0 _ _ _ _)
   | (with_reducible exact ih1 _ _ _ _)
   | (with_reducible exact LeO.refl _)
   | (with_reducible exact LeO.none _)
   | (with_reducible refine LeO.ite ?_ ?_)
   | (with_reducible refine LeO.bind ?_ (fun _ => ?_))
   | exact ih0 _ _ _ _
   | exact ih1 _ _ _ _
   | exact LeO.none _
   | refine LeO.ite ?_ ?_
   | refine LeO.bind ?_ (fun _ => ?_)
theorem cavilref05_Find.mono : ∀ a0 a1 a2 k, LeO (cavilref05_Find.f k a0 a1 a2) (cavilref05_Find.f (k + 1) a0 a1 a2) := by
 intro a0 a1 a2 k
 obtain ⟨ih0, ih1⟩ := cavilref05_Find.mono_l k
 unfold cavilref05_Find.f
 repeat' first
   | (with_reducible exact ih0 _ _ _ _)
   | (with_reducible exact ih1 _ _ _ _)
   | (with_reducible exact LeO.refl _)
   | (with_reducible exact LeO.none _)
   | (with_reducible refine LeO.ite ?_ ?_)
   | (with_reducible refine LeO.bind ?_ (fun _ => ?_))
   | exact ih0 _ _ _ _
   | exact ih1 _ _ _ _
   | exact LeO.none _
   | refine LeO.ite ?_ ?_
   | refine LeO.bind ?_ (fun _ => ?_)
set_option maxHeartbeats 8000000 in
set_option maxRecDepth 100000 in
theorem cavilref05_Find.calls (k : Nat) (A0 : Option Addr) (c0 : Nat) (l0 : List (S47)) (a1 : ByteArray) (a2 : ByteArray) (r1 : Int) (r2 : Int) (w : World) (hr0 : Kd.C k47 w A0 l0.length l0) (hc0 : l0.length ≤ c0) (h : cavilref05_Find.f k l0 a1 a2 = some (r1, r2)) :
  Calls Tryd.prog 19 #[.slice A0 l0.length c0, .string a1, .string a2] w fun e w' => e = .returned (.tuple #[.int .i64 r1, .int .i64 r2]) ∧ Drawn0 w w' := by
 have HR0 := Aside0.mk hr0
 have HC0 := Aside0.mk hc0
 clear hr0 hc0
 have H : (cavilref05_Find.l0 k l0 a1 a2 0) = some (r1, r2) := h
 clear h
 have H' := Aside0.mk H
 clear H
 go_enter Tryd.func19, Tryd.ntmps19
 go_wp2
 (try simp only [Act.put, List.setIfInBounds_toArray, List.set_cons_zero, List.set_cons_succ])
 go_loopg [8] k (fun kq v8 w' => ∃ (x8_1 : Int), v8 = .int .i64 x8_1 ∧ Aside0 (cavilref05_Find.l0 kq l0 a1 a2 x8_1 = some (r1, r2)) ∧ Aside0 (kq ≤ k) ∧ Drawn0 w w')
 case atStart => exact ⟨(0), (by first | rfl | (simp; done) | (simp [*]; done)), H', ⟨Nat.le_refl _⟩, by repeat (first | exact Drawn0.refl _ | apply Drawn0.step)⟩
 case round =>
  clear H'
  try clear c1
  try clear p2
  obtain ⟨x8_1, rfl, HA, HK1, ⟨m1, rfl⟩⟩ := hrel
  cases gk with
  | zero => exact absurd HA.out (by simp [cavilref05_Find.l0])
  | succ k1 =>
   have H := HA.out
   clear HA
   simp only [cavilref05_Find.l0] at H
   by_cases c4 : x8_1 < (l0.length : Int)
   ·rw [if_pos c4] at H
    have c4b0 : decide (x8_1 < (l0.length : Int)) = true := decide_eq_true c4
    clear c4
    by_cases c5 : 0 ≤ x8_1
    ·rw [if_pos c5] at H
     have c5b0 : decide (0 ≤ x8_1) = true := decide_eq_true c5
     clear c5
     by_cases c6 : ((rd_T47 l0 x8_1).f0).toList = a1.toList
     ·rw [if_pos c6] at H
      have c6b0 : (((rd_T47 l0 x8_1).f0).toList == a1.toList) = true := beq_iff_eq.mpr c6
      have c6b1 : (((rd_T47 l0 x8_1).f0).toList != a1.toList) = false := bne_eq_false_iff_eq.mpr c6
      clear c6
      have H' := Aside0.mk H
      clear H
      have p199 : 0 ≤ (x8_1 : Int) := of_decide_eq_true (by first | (with_reducible assumption) | assumption)
      have q199 : x8_1 < (l0.length : Int) := of_decide_eq_true (by first | (with_reducible assumption) | assumption)
      obtain ⟨ad199, A199_1, c199_1, e199, hx199_0, hx199_1, hl199_1, hi199_1⟩ := at_T47 HR0.out x8_1 p199 q199
      cases e199
      have HR199_1 := Aside0.mk hi199_1
      have HC199_1 := Aside0.mk hl199_1
      clear hi199_1 hl199_1
      replace p199 := eq_true p199
      replace q199 := eq_true q199
      go_wp2
      (try simp only [Act.put, List.setIfInBounds_toArray, List.set_cons_zero, List.set_cons_succ])
      go_loopg [9] k1 (fun kq v9 w' => ∃ (x9_2 : Int), v9 = .int .i64 x9_2 ∧ Aside0 (cavilref05_Find.l1 kq l0 a2 x8_1 x9_2 = some (r1, r2)) ∧ Aside0 (kq ≤ k1) ∧ Drawn0 w w')
      case atStart => exact ⟨(0), (by first | rfl | (simp; done) | (simp [*]; done)), H', ⟨Nat.le_refl _⟩, by repeat (first | exact Drawn0.refl _ | apply Drawn0.step)⟩
      case round =>
       clear H'
       try clear c1
       try clear p1
       try clear q1
       try clear hx1
       try clear p2
       try clear c4
       try clear c4b0
       try clear c5
       try clear c5b0
       try clear c6
       try clear c6b0
       try clear c6b1
       try clear hx199_0
       try clear hx199_1
       try clear p199
       try clear p2
       try clear q199
       obtain ⟨x9_2, rfl, HA, HK2, ⟨m2, rfl⟩⟩ := hrel
       cases gk with
       | zero => exact absurd HA.out (by simp [cavilref05_Find.l1])
       | succ k2 =>
        have H := HA.out
        clear HA
        simp only [cavilref05_Find.l1] at H
        by_cases c7 : 0 ≤ x8_1
        ·rw [if_pos c7] at H
         have c7b0 : decide (0 ≤ x8_1) = true := decide_eq_true c7
         clear c7
         by_cases c8 : x8_1 < (l0.length : Int)
         ·rw [if_pos c8] at H
          have c8b0 : decide (x8_1 < (l0.length : Int)) = true := decide_eq_true c8
          clear c8
          by_cases c9 : x9_2 < (((rd_T47 l0 x8_1).f1).length : Int)
          ·rw [if_pos c9] at H
           have c9b0 : decide (x9_2 < (((rd_T47 l0 x8_1).f1).length : Int)) = true := decide_eq_true c9
           clear c9
           by_cases c10 : 0 ≤ x9_2
           ·rw [if_pos c10] at H
            have c10b0 : decide (0 ≤ x9_2) = true := decide_eq_true c10
            clear c10
            by_cases c11 : ((rd_T37 ((rd_T47 l0 x8_1).f1) x9_2).f0).toList = a2.toList
            ·rw [if_pos c11] at H
             have c11b0 : (((rd_T37 ((rd_T47 l0 x8_1).f1) x9_2).f0).toList == a2.toList) = true := beq_iff_eq.mpr c11
             have c11b1 : (((rd_T37 ((rd_T47 l0 x8_1).f1) x9_2).f0).toList != a2.toList) = false := bne_eq_false_iff_eq.mpr c11
             clear c11
             simp only [Option.some.injEq, Prod.mk.injEq] at H
             obtain ⟨rfl, rfl⟩ := H
             have p200 : 0 ≤ (x8_1 : Int) := of_decide_eq_true (by first | (with_reducible assumption) | assumption)
             have q200 : x8_1 < (l0.length : Int) := of_decide_eq_true (by first | (with_reducible assumption) | assumption)
             obtain ⟨ad200, A200_1, c200_1, e200, hx200_0, hx200_1, hl200_1, hi200_1⟩ := at_T47 HR0.out x8_1 p200 q200
             obtain rfl : ad199 = ad200 := (by injection e200)
             have HR200_1 := Aside0.mk hi200_1
             have HC200_1 := Aside0.mk hl200_1
             clear hi200_1 hl200_1
             replace p200 := eq_true p200
             replace q200 := eq_true q200
             have p201 : 0 ≤ (x8_1 : Int) := of_decide_eq_true (by first | (with_reducible assumption) | assumption)
             have q201 : x8_1 < (l0.length : Int) := of_decide_eq_true (by first | (with_reducible assumption) | assumption)
             obtain ⟨ad201, A201_1, c201_1, e201, hx201_0, hx201_1, hl201_1, hi201_1⟩ := at_T47 HR0.out x8_1 p201 q201
             obtain rfl : ad199 = ad201 := (by injection e201)
             have HR201_1 := Aside0.mk hi201_1
             have HC201_1 := Aside0.mk hl201_1
             clear hi201_1 hl201_1
             replace p201 := eq_true p201
             replace q201 := eq_true q201
             have ea_ := Option.some.inj (hx200_1.symm.trans hx201_1)
             injection ea_ with ea_ en_ ec_
             subst ea_
             subst ec_
             clear en_
             have p202 : 0 ≤ (x9_2 : Int) := of_decide_eq_true (by first | (with_reducible assumption) | assumption)
             have q202 : x9_2 < (((rd_T47 l0 x8_1).f1).length : Int) := of_decide_eq_true (by first | (with_reducible assumption) | assumption)
             obtain ⟨ad202, A202_1, c202_1, e202, hx202_0, hx202_1, hl202_1, hi202_1⟩ := at_T37 HR201_1.out x9_2 p202 q202
             cases e202
             have HR202_1 := Aside0.mk hi202_1
             have HC202_1 := Aside0.mk hl202_1
             clear hi202_1 hl202_1
             replace p202 := eq_true p202
             replace q202 := eq_true q202
             go_wp2
             go_ret2
             exact ⟨by first | rfl | (simp; done) | (simp [*]; done), by repeat (first | exact Drawn0.refl _ | apply Drawn0.step)⟩
            ·rw [if_neg c11] at H
             have c11b0 : (((rd_T37 ((rd_T47 l0 x8_1).f1) x9_2).f0).toList == a2.toList) = false := beq_eq_false_iff_ne.mpr c11
             have c11b1 : (((rd_T37 ((rd_T47 l0 x8_1).f1) x9_2).f0).toList != a2.toList) = true := bne_iff_ne.mpr c11
             have H' := Aside0.mk H
             clear H
             have p200 : 0 ≤ (x8_1 : Int) := of_decide_eq_true (by first | (with_reducible assumption) | assumption)
             have q200 : x8_1 < (l0.length : Int) := of_decide_eq_true (by first | (with_reducible assumption) | assumption)
             obtain ⟨ad200, A200_1, c200_1, e200, hx200_0, hx200_1, hl200_1, hi200_1⟩ := at_T47 HR0.out x8_1 p200 q200
             obtain rfl : ad199 = ad200 := (by injection e200)
             have HR200_1 := Aside0.mk hi200_1
             have HC200_1 := Aside0.mk hl200_1
             clear hi200_1 hl200_1
             replace p200 := eq_true p200
             replace q200 := eq_true q200
             have p201 : 0 ≤ (x8_1 : Int) := of_decide_eq_true (by first | (with_reducible assumption) | assumption)
             have q201 : x8_1 < (l0.length : Int) := of_decide_eq_true (by first | (with_reducible assumption) | assumption)
             obtain ⟨ad201, A201_1, c201_1, e201, hx201_0, hx201_1, hl201_1, hi201_1⟩ := at_T47 HR0.out x8_1 p201 q201
             obtain rfl : ad199 = ad201 := (by injection e201)
             have HR201_1 := Aside0.mk hi201_1
             have HC201_1 := Aside0.mk hl201_1
             clear hi201_1 hl201_1
             replace p201 := eq_true p201
             replace q201 := eq_true q201
             have ea_ := Option.some.inj (hx200_1.symm.trans hx201_1)
             injection ea_ with ea_ en_ ec_
             subst ea_
             subst ec_
             clear en_
             have p202 : 0 ≤ (x9_2 : Int) := of_decide_eq_true (by first | (with_reducible assumption) | assumption)
             have q202 : x9_2 < (((rd_T47 l0 x8_1).f1).length : Int) := of_decide_eq_true (by first | (with_reducible assumption) | assumption)
             obtain ⟨ad202, A202_1, c202_1, e202, hx202_0, hx202_1, hl202_1, hi202_1⟩ := at_T37 HR201_1.out x9_2 p202 q202
             cases e202
             have HR202_1 := Aside0.mk hi202_1
             have HC202_1 := Aside0.mk hl202_1
             clear hi202_1 hl202_1
             replace p202 := eq_true p202
             replace q202 := eq_true q202
             go_wp2
             go_roundg k2
             case measure => have := HK1.out; have := HK2.out; omega
             case rel => exact ⟨(wrap64 (x9_2 + 1)), (by first | rfl | (simp; done) | (simp [*]; done)), H', ⟨by have := HK1.out; have := HK2.out; omega⟩, by repeat (first | exact Drawn0.refl _ | apply Drawn0.step)⟩
           ·rw [if_neg c10] at H
            exact absurd H (by simp)
          ·rw [if_neg c9] at H
           have c9b0 : decide (x9_2 < (((rd_T47 l0 x8_1).f1).length : Int)) = false := decide_eq_false c9
           clear c9
           simp only [Option.some.injEq, Prod.mk.injEq] at H
           obtain ⟨rfl, rfl⟩ := H
           have p200 : 0 ≤ (x8_1 : Int) := of_decide_eq_true (by first | (with_reducible assumption) | assumption)
           have q200 : x8_1 < (l0.length : Int) := of_decide_eq_true (by first | (with_reducible assumption) | assumption)
           obtain ⟨ad200, A200_1, c200_1, e200, hx200_0, hx200_1, hl200_1, hi200_1⟩ := at_T47 HR0.out x8_1 p200 q200
           obtain rfl : ad199 = ad200 := (by injection e200)
           have HR200_1 := Aside0.mk hi200_1
           have HC200_1 := Aside0.mk hl200_1
           clear hi200_1 hl200_1
           replace p200 := eq_true p200
           replace q200 := eq_true q200
           go_wp2
           go_ret2
           exact ⟨by first | rfl | (simp; done) | (simp [*]; done), by repeat (first | exact Drawn0.refl _ | apply Drawn0.step)⟩
         ·rw [if_neg c8] at H
          exact absurd H (by simp)
        ·rw [if_neg c7] at H
         exact absurd H (by simp)
     ·rw [if_neg c6] at H
      have c6b0 : (((rd_T47 l0 x8_1).f0).toList == a1.toList) = false := beq_eq_false_iff_ne.mpr c6
      have c6b1 : (((rd_T47 l0 x8_1).f0).toList != a1.toList) = true := bne_iff_ne.mpr c6
      have H' := Aside0.mk H
      clear H
      have p199 : 0 ≤ (x8_1 : Int) := of_decide_eq_true (by first | (with_reducible assumption) | assumption)
      have q199 : x8_1 < (l0.length : Int) := of_decide_eq_true (by first | (with_reducible assumption) | assumption)
      obtain ⟨ad199, A199_1, c199_1, e199, hx199_0, hx199_1, hl199_1, hi199_1⟩ := at_T47 HR0.out x8_1 p199 q199
      cases e199
      have HR199_1 := Aside0.mk hi199_1
      have HC199_1 := Aside0.mk hl199_1
      clear hi199_1 hl199_1
      replace p199 := eq_true p199
      replace q199 := eq_true q199
      go_wp2
      go_roundg k1
      case measure => have := HK1.out; omega
      case rel => exact ⟨(wrap64 (x8_1 + 1)), (by first | rfl | (simp; done) | (simp [*]; done)), H', ⟨by have := HK1.out; omega⟩, by repeat (first | exact Drawn0.refl _ | apply Drawn0.step)⟩
    ·rw [if_neg c5] at H
     exact absurd H (by simp)
   ·rw [if_neg c4] at H
    have c4b0 : decide (x8_1 < (l0.length : Int)) = false := decide_eq_false c4
    clear c4
    simp only [Option.some.injEq, Prod.mk.injEq] at H
    obtain ⟨rfl, rfl⟩ := H
    go_wp2
    go_ret2
    exact ⟨by first | rfl | (simp; done) | (simp [*]; done), by repeat (first | exact Drawn0.refl _ | apply Drawn0.step)⟩

end Go.Proofs.YteakcggbolfelaaDoor.Y
end

