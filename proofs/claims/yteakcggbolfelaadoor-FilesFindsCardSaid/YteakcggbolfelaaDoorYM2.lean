/- Several texts of this session in one: YteakcggbolfelaaDoorYF14, YteakcggbolfelaaDoorYF12, YteakcggbolfelaaDoorYF19, YteakcggbolfelaaDoorYF22. -/
import Derived.Test.YteakcggbolfelaaDoorYM

section
/- Written by a program of this session (wip/xprint) out of the translation: functions of the given program as plain functions, and the walks that show that each call answers what its function says, under the conditions that each theorem states. -/
namespace Go.Proofs.YteakcggbolfelaaDoor.Y
open Go.RowKit Go.Proofs.YteakcggbolfelaaDoorW.PrintWords Go.Proofs.YteakcggbolfelaaDoorW.PrintLast Go.Proofs.YteakcggbolfelaaDoorW.PrintMore
attribute [local go_sem] max2_int min2_int max_two min_two max_three min_three max_four min_four   -- for this text's walks alone
set_option linter.unusedVariables false
set_option linter.unusedSimpArgs false

/-! ### cavilref05_Same: function 14 -/
mutual
def cavilref05_Same.l0 : Nat → List (S47) → List (S47) → Int → Option (Bool)
 | 0, _, _, _ => none
 | k + 1, x0, x1, x5 => if x5 < (x0.length : Int) then (if 0 ≤ x5 then (if x5 < (x1.length : Int) then (if ((rd_T47 x0 x5).f0).toList = ((rd_T47 x1 x5).f0).toList then (cavilref05_Same.j1 k x0 x1 x5 ((((rd_T47 x0 x5).f1).length : Int) != (((rd_T47 x1 x5).f1).length : Int))) else (cavilref05_Same.j1 k x0 x1 x5 true)) else (none)) else (none)) else (some true)
def cavilref05_Same.j1 : Nat → List (S47) → List (S47) → Int → Bool → Option (Bool)
 | 0, _, _, _, _ => none
 | k + 1, x0, x1, x5, x43 => if x43 = true then (some false) else (cavilref05_Same.l1 k x0 x1 x5 0)
def cavilref05_Same.l1 : Nat → List (S47) → List (S47) → Int → Int → Option (Bool)
 | 0, _, _, _, _ => none
 | k + 1, x0, x1, x5, x6 => if 0 ≤ x5 then (if x5 < (x0.length : Int) then (if x6 < (((rd_T47 x0 x5).f1).length : Int) then (if 0 ≤ x6 then (if x5 < (x1.length : Int) then (if x6 < (((rd_T47 x1 x5).f1).length : Int) then (if ((rd_T37 ((rd_T47 x0 x5).f1) x6).f0).toList = ((rd_T37 ((rd_T47 x1 x5).f1) x6).f0).toList then (if (strOfNums ((rd_T37 ((rd_T47 x0 x5).f1) x6).f1)).toList = (strOfNums ((rd_T37 ((rd_T47 x1 x5).f1) x6).f1)).toList then (cavilref05_Same.l1 k x0 x1 x5 (wrap64 (x6 + 1))) else (some false)) else (some false)) else (none)) else (none)) else (none)) else (cavilref05_Same.l0 k x0 x1 (wrap64 (x5 + 1)))) else (none)) else (none)
end
def cavilref05_Same.f (k : Nat) (l0 : List (S47)) (l1 : List (S47)) : Option (Bool) := if (l0.length : Int) = (l1.length : Int) then (cavilref05_Same.l0 k l0 l1 0) else (some false)
theorem cavilref05_Same.mono_l : ∀ k, (∀ y0 y1 y2, LeO (cavilref05_Same.l0 k y0 y1 y2) (cavilref05_Same.l0 (k + 1) y0 y1 y2)) ∧ (∀ y0 y1 y2 y3, LeO (cavilref05_Same.j1 k y0 y1 y2 y3) (cavilref05_Same.j1 (k + 1) y0 y1 y2 y3)) ∧ (∀ y0 y1 y2 y3, LeO (cavilref05_Same.l1 k y0 y1 y2 y3) (cavilref05_Same.l1 (k + 1) y0 y1 y2 y3))
 | 0 => ⟨fun _ _ _ r h => by simp [cavilref05_Same.l0] at h, fun _ _ _ _ r h => by simp [cavilref05_Same.j1] at h, fun _ _ _ _ r h => by simp [cavilref05_Same.l1] at h⟩
 | k + 1 => by
  obtain ⟨ih0, ih1, ih2⟩ := cavilref05_Same.mono_l k
  refine ⟨?_, ?_, ?_⟩
  ·intro y0 y1 y2
   unfold cavilref05_Same.l0
   repeat' first
   | (with_reducible exact ih0 _ _ _)
   | (with_reducible exact ih1 _ _ _ _)
   | (with_reducible exact ih2 _ _ _ _)
   | (with_reducible exact LeO.refl _)
   | (with_reducible exact LeO.none _)
   | (with_reducible refine LeO.ite ?_ ?_)
   | (with_reducible refine LeO.bind ?_ (fun _ => ?_))
   | exact ih0 _ _ _
   | exact ih1 _ _ _ _
   | exact ih2 _ _ _ _
   | exact LeO.none _
   | refine LeO.ite ?_ ?_
   | refine LeO.bind ?_ (fun _ => ?_)
  ·intro y0 y1 y2 y3
   unfold cavilref05_Same.j1
   repeat' first
   | (with_reducible exact ih0 _ _ _)
   | (with_reducible exact ih1 _ _ _ _)
   | (with_reducible exact ih2 _ _ _ _)
   | (with_reducible exact LeO.refl _)
   | (with_reducible exact LeO.none _)
   | (with_reducible refine LeO.ite ?_ ?_)
   | (with_reducible refine LeO.bind ?_ (fun _ => ?_))
   | exact ih0 _ _ _
   | exact ih1 _ _ _ _
   | exact ih2 _ _ _ _
   | exact LeO.none _
   | refine LeO.ite ?_ ?_
   | refine LeO.bind ?_ (fun _ => ?_)
  ·intro y0 y1 y2 y3
   unfold cavilref05_Same.l1
   repeat' first
   | (with_reducible exact ih0 _ _ _)
   | (with_reducible exact ih1 _ _ _ _)
   | (with_reducible exact ih2 _ _ _ _)
   | (with_reducible exact LeO.refl _)
   | (with_reducible exact LeO.none _)
   | (with_reducible refine LeO.ite ?_ ?_)
   | (with_reducible refine LeO.bind ?_ (fun _ => ?_))
   | exact ih0 _ _ _
   | exact ih1 _ _ _ _
   | exact ih2 _ _ _ _
   | exact LeO.none _
   | refine LeO.ite ?_ ?_
   | refine LeO.bind ?_ (fun _ => ?_)
theorem cavilref05_Same.mono : ∀ a0 a1 k, LeO (cavilref05_Same.f k a0 a1) (cavilref05_Same.f (k + 1) a0 a1) := by
 intro a0 a1 k
 obtain ⟨ih0, ih1, ih2⟩ := cavilref05_Same.mono_l k
 unfold cavilref05_Same.f
 repeat' first
   | (with_reducible exact ih0 _ _ _)
   | (with_reducible exact ih1 _ _ _ _)
   | (with_reducible exact ih2 _ _ _ _)
   | (with_reducible exact LeO.refl _)
   | (with_reducible exact LeO.none _)
   | (with_reducible refine LeO.ite ?_ ?_)
   | (with_reducible refine LeO.bind ?_ (fun _ => ?_))
   | exact ih0 _ _ _
   | exact ih1 _ _ _ _
   | exact ih2 _ _ _ _
   | exact LeO.none _
   | refine LeO.ite ?_ ?_
   | refine LeO.bind ?_ (fun _ => ?_)
set_option maxHeartbeats 8000000 in
set_option maxRecDepth 100000 in
theorem cavilref05_Same.calls (k : Nat) (A0 : Option Addr) (c0 : Nat) (l0 : List (S47)) (A1 : Option Addr) (c1 : Nat) (l1 : List (S47)) (r : Bool) (w : World) (hr0 : Kd.C k47 w A0 l0.length l0) (hc0 : l0.length ≤ c0) (hr1 : Kd.C k47 w A1 l1.length l1) (hc1 : l1.length ≤ c1) (h : cavilref05_Same.f k l0 l1 = some r) :
  Calls Tryd.prog 14 #[.slice A0 l0.length c0, .slice A1 l1.length c1] w fun e w' => e = .returned (.bool r) ∧ Drawn0 w w' := by
 have HR0 := Aside0.mk hr0
 have HC0 := Aside0.mk hc0
 clear hr0 hc0
 have HR1 := Aside0.mk hr1
 have HC1 := Aside0.mk hc1
 clear hr1 hc1
 have H : (if (l0.length : Int) = (l1.length : Int) then (cavilref05_Same.l0 k l0 l1 0) else (some false)) = some r := h
 clear h
 by_cases c3 : (l0.length : Int) = (l1.length : Int)
 ·rw [if_pos c3] at H
  have c3b0 : ((l0.length : Int) == (l1.length : Int)) = true := beq_iff_eq.mpr c3
  have c3b1 : ((l0.length : Int) != (l1.length : Int)) = false := bne_eq_false_iff_eq.mpr c3
  have c3b2 : (l0.length == l1.length) = true := by first | simpa using c3 | (simp at c3 ⊢; omega)
  clear c3
  have H' := Aside0.mk H
  clear H
  go_enter Tryd.func14, Tryd.ntmps14
  go_wp2
  repeat (go_quiet (fail); try go_wp2)
  (try simp only [Act.put, List.setIfInBounds_toArray, List.set_cons_zero, List.set_cons_succ])
  go_loopg [5] k (fun kq v5 w' => ∃ (x5_1 : Int), v5 = .int .i64 x5_1 ∧ Aside0 (cavilref05_Same.l0 kq l0 l1 x5_1 = some r) ∧ Aside0 (kq ≤ k) ∧ Drawn0 w w')
  case atStart => exact ⟨(0), (by first | rfl | (simp; done) | (simp [*]; done)), H', ⟨Nat.le_refl _⟩, by repeat (first | exact Drawn0.refl _ | apply Drawn0.step)⟩
  case round =>
   clear H'
   try clear c1
   try clear p2
   try clear c3
   try clear c3b0
   try clear c3b1
   try clear c3b2
   obtain ⟨x5_1, rfl, HA, HK1, ⟨m1, rfl⟩⟩ := hrel
   cases gk with
   | zero => exact absurd HA.out (by simp [cavilref05_Same.l0])
   | succ k1 =>
    have H := HA.out
    clear HA
    simp only [cavilref05_Same.l0] at H
    by_cases c4 : x5_1 < (l0.length : Int)
    ·rw [if_pos c4] at H
     have c4b0 : decide (x5_1 < (l0.length : Int)) = true := decide_eq_true c4
     clear c4
     have HC5 := Aside0.mk H
     clear H
     go_upto_region 6 with (fail)
     repeat (go_quiet (fail); go_upto_region 6 with (fail))
     go_cut [43] (fun v43 wc => ∃ (kq : Nat) (x43_4 : Bool), v43 = .bool x43_4 ∧ Aside0 (cavilref05_Same.j1 kq l0 l1 x5_1 x43_4 = some r) ∧ Aside0 (kq ≤ k1) ∧ Drawn0 w wc)
     case first =>
      have H := HC5.out
      clear HC5
      by_cases c6 : 0 ≤ x5_1
      ·rw [if_pos c6] at H
       have c6b0 : decide (0 ≤ x5_1) = true := decide_eq_true c6
       clear c6
       (first | rw [c6b0] | (simp only [i64_w, i32_w]; rw [c6b0]) | skip)
       by_cases c7 : x5_1 < (l1.length : Int)
       ·rw [if_pos c7] at H
        have c7b0 : decide (x5_1 < (l1.length : Int)) = true := decide_eq_true c7
        clear c7
        by_cases c8 : ((rd_T47 l0 x5_1).f0).toList = ((rd_T47 l1 x5_1).f0).toList
        ·rw [if_pos c8] at H
         have c8b0 : (((rd_T47 l0 x5_1).f0).toList == ((rd_T47 l1 x5_1).f0).toList) = true := beq_iff_eq.mpr c8
         have c8b1 : (((rd_T47 l0 x5_1).f0).toList != ((rd_T47 l1 x5_1).f0).toList) = false := bne_eq_false_iff_eq.mpr c8
         clear c8
         have H' := Aside0.mk H
         clear H
         have p122 : 0 ≤ (x5_1 : Int) := of_decide_eq_true (by first | (with_reducible assumption) | assumption)
         have q122 : x5_1 < (l0.length : Int) := of_decide_eq_true (by first | (with_reducible assumption) | assumption)
         obtain ⟨ad122, A122_1, c122_1, e122, hx122_0, hx122_1, hl122_1, hi122_1⟩ := at_T47 HR0.out x5_1 p122 q122
         cases e122
         have HR122_1 := Aside0.mk hi122_1
         have HC122_1 := Aside0.mk hl122_1
         clear hi122_1 hl122_1
         replace p122 := eq_true p122
         replace q122 := eq_true q122
         have p123 : 0 ≤ (x5_1 : Int) := of_decide_eq_true (by first | (with_reducible assumption) | assumption)
         have q123 : x5_1 < (l1.length : Int) := of_decide_eq_true (by first | (with_reducible assumption) | assumption)
         obtain ⟨ad123, A123_1, c123_1, e123, hx123_0, hx123_1, hl123_1, hi123_1⟩ := at_T47 HR1.out x5_1 p123 q123
         cases e123
         have HR123_1 := Aside0.mk hi123_1
         have HC123_1 := Aside0.mk hl123_1
         clear hi123_1 hl123_1
         replace p123 := eq_true p123
         replace q123 := eq_true q123
         have p124 : 0 ≤ (x5_1 : Int) := of_decide_eq_true (by first | (with_reducible assumption) | assumption)
         have q124 : x5_1 < (l0.length : Int) := of_decide_eq_true (by first | (with_reducible assumption) | assumption)
         obtain ⟨ad124, A124_1, c124_1, e124, hx124_0, hx124_1, hl124_1, hi124_1⟩ := at_T47 HR0.out x5_1 p124 q124
         obtain rfl : ad122 = ad124 := (by injection e124)
         have HR124_1 := Aside0.mk hi124_1
         have HC124_1 := Aside0.mk hl124_1
         clear hi124_1 hl124_1
         replace p124 := eq_true p124
         replace q124 := eq_true q124
         have ea_ := Option.some.inj (hx122_1.symm.trans hx124_1)
         injection ea_ with ea_ en_ ec_
         subst ea_
         subst ec_
         clear en_
         have p125 : 0 ≤ (x5_1 : Int) := of_decide_eq_true (by first | (with_reducible assumption) | assumption)
         have q125 : x5_1 < (l1.length : Int) := of_decide_eq_true (by first | (with_reducible assumption) | assumption)
         obtain ⟨ad125, A125_1, c125_1, e125, hx125_0, hx125_1, hl125_1, hi125_1⟩ := at_T47 HR1.out x5_1 p125 q125
         obtain rfl : ad123 = ad125 := (by injection e125)
         have HR125_1 := Aside0.mk hi125_1
         have HC125_1 := Aside0.mk hl125_1
         clear hi125_1 hl125_1
         replace p125 := eq_true p125
         replace q125 := eq_true q125
         have ea_ := Option.some.inj (hx123_1.symm.trans hx125_1)
         injection ea_ with ea_ en_ ec_
         subst ea_
         subst ec_
         clear en_
         go_wp2
         repeat (go_quiet (fail); try go_wp2)
         go_meet
         case rel => exact ⟨_, (((((rd_T47 l0 x5_1).f1).length : Int) != (((rd_T47 l1 x5_1).f1).length : Int))), (by first | rfl | (simp; done) | (simp [*]; done)), H', ⟨by have := HK1.out; first | omega | exact Nat.le_refl _⟩, by repeat (first | exact Drawn0.refl _ | apply Drawn0.step)⟩
        ·rw [if_neg c8] at H
         have c8b0 : (((rd_T47 l0 x5_1).f0).toList == ((rd_T47 l1 x5_1).f0).toList) = false := beq_eq_false_iff_ne.mpr c8
         have c8b1 : (((rd_T47 l0 x5_1).f0).toList != ((rd_T47 l1 x5_1).f0).toList) = true := bne_iff_ne.mpr c8
         have H' := Aside0.mk H
         clear H
         have p122 : 0 ≤ (x5_1 : Int) := of_decide_eq_true (by first | (with_reducible assumption) | assumption)
         have q122 : x5_1 < (l0.length : Int) := of_decide_eq_true (by first | (with_reducible assumption) | assumption)
         obtain ⟨ad122, A122_1, c122_1, e122, hx122_0, hx122_1, hl122_1, hi122_1⟩ := at_T47 HR0.out x5_1 p122 q122
         cases e122
         have HR122_1 := Aside0.mk hi122_1
         have HC122_1 := Aside0.mk hl122_1
         clear hi122_1 hl122_1
         replace p122 := eq_true p122
         replace q122 := eq_true q122
         have p123 : 0 ≤ (x5_1 : Int) := of_decide_eq_true (by first | (with_reducible assumption) | assumption)
         have q123 : x5_1 < (l1.length : Int) := of_decide_eq_true (by first | (with_reducible assumption) | assumption)
         obtain ⟨ad123, A123_1, c123_1, e123, hx123_0, hx123_1, hl123_1, hi123_1⟩ := at_T47 HR1.out x5_1 p123 q123
         cases e123
         have HR123_1 := Aside0.mk hi123_1
         have HC123_1 := Aside0.mk hl123_1
         clear hi123_1 hl123_1
         replace p123 := eq_true p123
         replace q123 := eq_true q123
         go_wp2
         repeat (go_quiet (fail); try go_wp2)
         go_meet
         case rel => exact ⟨_, (true), (by first | rfl | (simp; done) | (simp [*]; done)), H', ⟨by have := HK1.out; first | omega | exact Nat.le_refl _⟩, by repeat (first | exact Drawn0.refl _ | apply Drawn0.step)⟩
       ·rw [if_neg c7] at H
        exact absurd H (by simp)
      ·rw [if_neg c6] at H
       exact absurd H (by simp)
     case rest =>
      clear HC5
      try clear c1
      try clear p1
      try clear q1
      try clear hx1
      try clear p2
      try clear c3
      try clear c3b0
      try clear c3b1
      try clear c3b2
      try clear c4
      try clear c4b0
      try clear c6
      try clear c6b0
      try clear c7
      try clear c7b0
      try clear c8
      try clear c8b0
      try clear c8b1
      try clear hx122_0
      try clear hx122_1
      try clear hx123_0
      try clear hx123_1
      try clear hx124_0
      try clear hx124_1
      try clear hx125_0
      try clear hx125_1
      try clear p122
      try clear p123
      try clear p124
      try clear p125
      try clear p2
      try clear q122
      try clear q123
      try clear q124
      try clear q125
      obtain ⟨kq, x43_4, rfl, HA, HJ4, ⟨mc4, rfl⟩⟩ := hcut
      cases kq with
      | zero => exact absurd HA.out (by simp [cavilref05_Same.j1])
      | succ kj4 =>
       have H := HA.out
       clear HA
       simp only [cavilref05_Same.j1] at H
       by_cases c9 : x43_4 = true
       ·subst c9
        have H1 : (some false) = some r := by rw [if_pos rfl] at H; exact H
        clear H
        have H := H1
        clear H1
        obtain rfl := Option.some.inj H
        go_wp2
        repeat (go_quiet (fail); try go_wp2)
        go_ret
        exact ⟨by first | rfl | (simp; done) | (simp [*]; done), by repeat (first | exact Drawn0.refl _ | apply Drawn0.step)⟩
       ·replace c9 := Bool.eq_false_iff.mpr c9
        subst c9
        have H1 : (cavilref05_Same.l1 kj4 l0 l1 x5_1 0) = some r := by rw [if_neg (show ¬ (false = true) by decide)] at H; exact H
        clear H
        have H := H1
        clear H1
        have H' := Aside0.mk H
        clear H
        go_wp2
        repeat (go_quiet (fail); try go_wp2)
        (try simp only [Act.put, List.setIfInBounds_toArray, List.set_cons_zero, List.set_cons_succ])
        go_loopg [6] kj4 (fun kq v6 w' => ∃ (x6_3 : Int), v6 = .int .i64 x6_3 ∧ Aside0 (cavilref05_Same.l1 kq l0 l1 x5_1 x6_3 = some r) ∧ Aside0 (kq ≤ kj4) ∧ Drawn0 w w')
        case atStart => exact ⟨(0), (by first | rfl | (simp; done) | (simp [*]; done)), H', ⟨Nat.le_refl _⟩, by repeat (first | exact Drawn0.refl _ | apply Drawn0.step)⟩
        case round =>
         clear H'
         try clear c1
         try clear p1
         try clear q1
         try clear hx1
         try clear p2
         try clear c3
         try clear c3b0
         try clear c3b1
         try clear c3b2
         try clear c4
         try clear c4b0
         try clear c6
         try clear c6b0
         try clear c7
         try clear c7b0
         try clear c8
         try clear c8b0
         try clear c8b1
         try clear c9
         try clear hx122_0
         try clear hx122_1
         try clear hx123_0
         try clear hx123_1
         try clear hx124_0
         try clear hx124_1
         try clear hx125_0
         try clear hx125_1
         try clear p1
         try clear p122
         try clear p123
         try clear p124
         try clear p125
         try clear p2
         try clear q1
         try clear q122
         try clear q123
         try clear q124
         try clear q125
         obtain ⟨x6_3, rfl, HA, HK3, ⟨m3, rfl⟩⟩ := hrel
         cases gk with
         | zero => exact absurd HA.out (by simp [cavilref05_Same.l1])
         | succ k3 =>
          have H := HA.out
          clear HA
          simp only [cavilref05_Same.l1] at H
          by_cases c10 : 0 ≤ x5_1
          ·rw [if_pos c10] at H
           have c10b0 : decide (0 ≤ x5_1) = true := decide_eq_true c10
           clear c10
           by_cases c11 : x5_1 < (l0.length : Int)
           ·rw [if_pos c11] at H
            have c11b0 : decide (x5_1 < (l0.length : Int)) = true := decide_eq_true c11
            clear c11
            by_cases c12 : x6_3 < (((rd_T47 l0 x5_1).f1).length : Int)
            ·rw [if_pos c12] at H
             have c12b0 : decide (x6_3 < (((rd_T47 l0 x5_1).f1).length : Int)) = true := decide_eq_true c12
             clear c12
             by_cases c13 : 0 ≤ x6_3
             ·rw [if_pos c13] at H
              have c13b0 : decide (0 ≤ x6_3) = true := decide_eq_true c13
              clear c13
              by_cases c14 : x5_1 < (l1.length : Int)
              ·rw [if_pos c14] at H
               have c14b0 : decide (x5_1 < (l1.length : Int)) = true := decide_eq_true c14
               clear c14
               by_cases c15 : x6_3 < (((rd_T47 l1 x5_1).f1).length : Int)
               ·rw [if_pos c15] at H
                have c15b0 : decide (x6_3 < (((rd_T47 l1 x5_1).f1).length : Int)) = true := decide_eq_true c15
                clear c15
                by_cases c16 : ((rd_T37 ((rd_T47 l0 x5_1).f1) x6_3).f0).toList = ((rd_T37 ((rd_T47 l1 x5_1).f1) x6_3).f0).toList
                ·rw [if_pos c16] at H
                 have c16b0 : (((rd_T37 ((rd_T47 l0 x5_1).f1) x6_3).f0).toList == ((rd_T37 ((rd_T47 l1 x5_1).f1) x6_3).f0).toList) = true := beq_iff_eq.mpr c16
                 have c16b1 : (((rd_T37 ((rd_T47 l0 x5_1).f1) x6_3).f0).toList != ((rd_T37 ((rd_T47 l1 x5_1).f1) x6_3).f0).toList) = false := bne_eq_false_iff_eq.mpr c16
                 clear c16
                 by_cases c17 : (strOfNums ((rd_T37 ((rd_T47 l0 x5_1).f1) x6_3).f1)).toList = (strOfNums ((rd_T37 ((rd_T47 l1 x5_1).f1) x6_3).f1)).toList
                 ·rw [if_pos c17] at H
                  have c17b0 : ((strOfNums ((rd_T37 ((rd_T47 l0 x5_1).f1) x6_3).f1)).toList == (strOfNums ((rd_T37 ((rd_T47 l1 x5_1).f1) x6_3).f1)).toList) = true := beq_iff_eq.mpr c17
                  have c17b1 : ((strOfNums ((rd_T37 ((rd_T47 l0 x5_1).f1) x6_3).f1)).toList != (strOfNums ((rd_T37 ((rd_T47 l1 x5_1).f1) x6_3).f1)).toList) = false := bne_eq_false_iff_eq.mpr c17
                  clear c17
                  have H' := Aside0.mk H
                  clear H
                  have p126 : 0 ≤ (x5_1 : Int) := of_decide_eq_true (by first | (with_reducible assumption) | assumption)
                  have q126 : x5_1 < (l0.length : Int) := of_decide_eq_true (by first | (with_reducible assumption) | assumption)
                  obtain ⟨ad126, A126_1, c126_1, e126, hx126_0, hx126_1, hl126_1, hi126_1⟩ := at_T47 HR0.out x5_1 p126 q126
                  cases e126
                  have HR126_1 := Aside0.mk hi126_1
                  have HC126_1 := Aside0.mk hl126_1
                  clear hi126_1 hl126_1
                  replace p126 := eq_true p126
                  replace q126 := eq_true q126
                  have p127 : 0 ≤ (x5_1 : Int) := of_decide_eq_true (by first | (with_reducible assumption) | assumption)
                  have q127 : x5_1 < (l0.length : Int) := of_decide_eq_true (by first | (with_reducible assumption) | assumption)
                  obtain ⟨ad127, A127_1, c127_1, e127, hx127_0, hx127_1, hl127_1, hi127_1⟩ := at_T47 HR0.out x5_1 p127 q127
                  obtain rfl : ad126 = ad127 := (by injection e127)
                  have HR127_1 := Aside0.mk hi127_1
                  have HC127_1 := Aside0.mk hl127_1
                  clear hi127_1 hl127_1
                  replace p127 := eq_true p127
                  replace q127 := eq_true q127
                  have ea_ := Option.some.inj (hx126_1.symm.trans hx127_1)
                  injection ea_ with ea_ en_ ec_
                  subst ea_
                  subst ec_
                  clear en_
                  have p128 : 0 ≤ (x6_3 : Int) := of_decide_eq_true (by first | (with_reducible assumption) | assumption)
                  have q128 : x6_3 < (((rd_T47 l0 x5_1).f1).length : Int) := of_decide_eq_true (by first | (with_reducible assumption) | assumption)
                  obtain ⟨ad128, A128_1, c128_1, e128, hx128_0, hx128_1, hl128_1, hi128_1⟩ := at_T37 HR127_1.out x6_3 p128 q128
                  cases e128
                  have HR128_1 := Aside0.mk hi128_1
                  have HC128_1 := Aside0.mk hl128_1
                  clear hi128_1 hl128_1
                  replace p128 := eq_true p128
                  replace q128 := eq_true q128
                  have p129 : 0 ≤ (x5_1 : Int) := of_decide_eq_true (by first | (with_reducible assumption) | assumption)
                  have q129 : x5_1 < (l1.length : Int) := of_decide_eq_true (by first | (with_reducible assumption) | assumption)
                  obtain ⟨ad129, A129_1, c129_1, e129, hx129_0, hx129_1, hl129_1, hi129_1⟩ := at_T47 HR1.out x5_1 p129 q129
                  cases e129
                  have HR129_1 := Aside0.mk hi129_1
                  have HC129_1 := Aside0.mk hl129_1
                  clear hi129_1 hl129_1
                  replace p129 := eq_true p129
                  replace q129 := eq_true q129
                  have p130 : 0 ≤ (x6_3 : Int) := of_decide_eq_true (by first | (with_reducible assumption) | assumption)
                  have q130 : x6_3 < (((rd_T47 l1 x5_1).f1).length : Int) := of_decide_eq_true (by first | (with_reducible assumption) | assumption)
                  obtain ⟨ad130, A130_1, c130_1, e130, hx130_0, hx130_1, hl130_1, hi130_1⟩ := at_T37 HR129_1.out x6_3 p130 q130
                  cases e130
                  have HR130_1 := Aside0.mk hi130_1
                  have HC130_1 := Aside0.mk hl130_1
                  clear hi130_1 hl130_1
                  replace p130 := eq_true p130
                  replace q130 := eq_true q130
                  (try (have ea_ := Option.some.inj (hx130_1.symm.trans hx128_1); injection ea_ with ea_ en_ ec_; subst ea_; subst ec_; clear en_))
                  have p131 : 0 ≤ (x5_1 : Int) := of_decide_eq_true (by first | (with_reducible assumption) | assumption)
                  have q131 : x5_1 < (l0.length : Int) := of_decide_eq_true (by first | (with_reducible assumption) | assumption)
                  obtain ⟨ad131, A131_1, c131_1, e131, hx131_0, hx131_1, hl131_1, hi131_1⟩ := at_T47 HR0.out x5_1 p131 q131
                  obtain rfl : ad126 = ad131 := (by injection e131)
                  have HR131_1 := Aside0.mk hi131_1
                  have HC131_1 := Aside0.mk hl131_1
                  clear hi131_1 hl131_1
                  replace p131 := eq_true p131
                  replace q131 := eq_true q131
                  have ea_ := Option.some.inj (hx126_1.symm.trans hx131_1)
                  injection ea_ with ea_ en_ ec_
                  subst ea_
                  subst ec_
                  clear en_
                  have p132 : 0 ≤ (x6_3 : Int) := of_decide_eq_true (by first | (with_reducible assumption) | assumption)
                  have q132 : x6_3 < (((rd_T47 l0 x5_1).f1).length : Int) := of_decide_eq_true (by first | (with_reducible assumption) | assumption)
                  obtain ⟨ad132, A132_1, c132_1, e132, hx132_0, hx132_1, hl132_1, hi132_1⟩ := at_T37 HR131_1.out x6_3 p132 q132
                  cases e132
                  have HR132_1 := Aside0.mk hi132_1
                  have HC132_1 := Aside0.mk hl132_1
                  clear hi132_1 hl132_1
                  replace p132 := eq_true p132
                  replace q132 := eq_true q132
                  (try (have ea_ := Option.some.inj (hx132_1.symm.trans hx128_1); injection ea_ with ea_ en_ ec_; subst ea_; subst ec_; clear en_))
                  (try (have ea_ := Option.some.inj (hx132_1.symm.trans hx130_1); injection ea_ with ea_ en_ ec_; subst ea_; subst ec_; clear en_))
                  have hcv18 := fun (a_ : Nat) => Kd.C_string (P := Tryd.prog) (A := A132_1) (c := c132_1) Tryd.underlying35 Tryd.underlying5 Tryd.underlying9 (Kd.C_drewN HR132_1.out a_)
                  have p133 : 0 ≤ (x5_1 : Int) := of_decide_eq_true (by first | (with_reducible assumption) | assumption)
                  have q133 : x5_1 < (l1.length : Int) := of_decide_eq_true (by first | (with_reducible assumption) | assumption)
                  obtain ⟨ad133, A133_1, c133_1, e133, hx133_0, hx133_1, hl133_1, hi133_1⟩ := at_T47 HR1.out x5_1 p133 q133
                  obtain rfl : ad129 = ad133 := (by injection e133)
                  have HR133_1 := Aside0.mk hi133_1
                  have HC133_1 := Aside0.mk hl133_1
                  clear hi133_1 hl133_1
                  replace p133 := eq_true p133
                  replace q133 := eq_true q133
                  have ea_ := Option.some.inj (hx129_1.symm.trans hx133_1)
                  injection ea_ with ea_ en_ ec_
                  subst ea_
                  subst ec_
                  clear en_
                  have p134 : 0 ≤ (x6_3 : Int) := of_decide_eq_true (by first | (with_reducible assumption) | assumption)
                  have q134 : x6_3 < (((rd_T47 l1 x5_1).f1).length : Int) := of_decide_eq_true (by first | (with_reducible assumption) | assumption)
                  obtain ⟨ad134, A134_1, c134_1, e134, hx134_0, hx134_1, hl134_1, hi134_1⟩ := at_T37 HR133_1.out x6_3 p134 q134
                  cases e134
                  have HR134_1 := Aside0.mk hi134_1
                  have HC134_1 := Aside0.mk hl134_1
                  clear hi134_1 hl134_1
                  replace p134 := eq_true p134
                  replace q134 := eq_true q134
                  (try (have ea_ := Option.some.inj (hx134_1.symm.trans hx130_1); injection ea_ with ea_ en_ ec_; subst ea_; subst ec_; clear en_))
                  (try (have ea_ := Option.some.inj (hx134_1.symm.trans hx132_1); injection ea_ with ea_ en_ ec_; subst ea_; subst ec_; clear en_))
                  have hcv19 := fun (a_ : Nat) => Kd.C_string (P := Tryd.prog) (A := A134_1) (c := c134_1) Tryd.underlying35 Tryd.underlying5 Tryd.underlying9 (Kd.C_drewN HR134_1.out a_)
                  go_wp2
                  repeat (go_quiet (fail); try go_wp2)
                  go_roundg k3
                  case measure => have := HK1.out; have := HJ4.out; have := HK3.out; omega
                  case rel => exact ⟨(wrap64 (x6_3 + 1)), (by first | rfl | (simp; done) | (simp [*]; done)), H', ⟨by have := HK1.out; have := HJ4.out; have := HK3.out; omega⟩, by repeat (first | exact Drawn0.refl _ | apply Drawn0.step)⟩
                 ·rw [if_neg c17] at H
                  have c17b0 : ((strOfNums ((rd_T37 ((rd_T47 l0 x5_1).f1) x6_3).f1)).toList == (strOfNums ((rd_T37 ((rd_T47 l1 x5_1).f1) x6_3).f1)).toList) = false := beq_eq_false_iff_ne.mpr c17
                  have c17b1 : ((strOfNums ((rd_T37 ((rd_T47 l0 x5_1).f1) x6_3).f1)).toList != (strOfNums ((rd_T37 ((rd_T47 l1 x5_1).f1) x6_3).f1)).toList) = true := bne_iff_ne.mpr c17
                  obtain rfl := Option.some.inj H
                  have p126 : 0 ≤ (x5_1 : Int) := of_decide_eq_true (by first | (with_reducible assumption) | assumption)
                  have q126 : x5_1 < (l0.length : Int) := of_decide_eq_true (by first | (with_reducible assumption) | assumption)
                  obtain ⟨ad126, A126_1, c126_1, e126, hx126_0, hx126_1, hl126_1, hi126_1⟩ := at_T47 HR0.out x5_1 p126 q126
                  cases e126
                  have HR126_1 := Aside0.mk hi126_1
                  have HC126_1 := Aside0.mk hl126_1
                  clear hi126_1 hl126_1
                  replace p126 := eq_true p126
                  replace q126 := eq_true q126
                  have p127 : 0 ≤ (x5_1 : Int) := of_decide_eq_true (by first | (with_reducible assumption) | assumption)
                  have q127 : x5_1 < (l0.length : Int) := of_decide_eq_true (by first | (with_reducible assumption) | assumption)
                  obtain ⟨ad127, A127_1, c127_1, e127, hx127_0, hx127_1, hl127_1, hi127_1⟩ := at_T47 HR0.out x5_1 p127 q127
                  obtain rfl : ad126 = ad127 := (by injection e127)
                  have HR127_1 := Aside0.mk hi127_1
                  have HC127_1 := Aside0.mk hl127_1
                  clear hi127_1 hl127_1
                  replace p127 := eq_true p127
                  replace q127 := eq_true q127
                  have ea_ := Option.some.inj (hx126_1.symm.trans hx127_1)
                  injection ea_ with ea_ en_ ec_
                  subst ea_
                  subst ec_
                  clear en_
                  have p128 : 0 ≤ (x6_3 : Int) := of_decide_eq_true (by first | (with_reducible assumption) | assumption)
                  have q128 : x6_3 < (((rd_T47 l0 x5_1).f1).length : Int) := of_decide_eq_true (by first | (with_reducible assumption) | assumption)
                  obtain ⟨ad128, A128_1, c128_1, e128, hx128_0, hx128_1, hl128_1, hi128_1⟩ := at_T37 HR127_1.out x6_3 p128 q128
                  cases e128
                  have HR128_1 := Aside0.mk hi128_1
                  have HC128_1 := Aside0.mk hl128_1
                  clear hi128_1 hl128_1
                  replace p128 := eq_true p128
                  replace q128 := eq_true q128
                  (try (have ea_ := Option.some.inj (hx128_1.symm.trans hx132_1); injection ea_ with ea_ en_ ec_; subst ea_; subst ec_; clear en_))
                  (try (have ea_ := Option.some.inj (hx128_1.symm.trans hx134_1); injection ea_ with ea_ en_ ec_; subst ea_; subst ec_; clear en_))
                  have p129 : 0 ≤ (x5_1 : Int) := of_decide_eq_true (by first | (with_reducible assumption) | assumption)
                  have q129 : x5_1 < (l1.length : Int) := of_decide_eq_true (by first | (with_reducible assumption) | assumption)
                  obtain ⟨ad129, A129_1, c129_1, e129, hx129_0, hx129_1, hl129_1, hi129_1⟩ := at_T47 HR1.out x5_1 p129 q129
                  cases e129
                  have HR129_1 := Aside0.mk hi129_1
                  have HC129_1 := Aside0.mk hl129_1
                  clear hi129_1 hl129_1
                  replace p129 := eq_true p129
                  replace q129 := eq_true q129
                  have p130 : 0 ≤ (x6_3 : Int) := of_decide_eq_true (by first | (with_reducible assumption) | assumption)
                  have q130 : x6_3 < (((rd_T47 l1 x5_1).f1).length : Int) := of_decide_eq_true (by first | (with_reducible assumption) | assumption)
                  obtain ⟨ad130, A130_1, c130_1, e130, hx130_0, hx130_1, hl130_1, hi130_1⟩ := at_T37 HR129_1.out x6_3 p130 q130
                  cases e130
                  have HR130_1 := Aside0.mk hi130_1
                  have HC130_1 := Aside0.mk hl130_1
                  clear hi130_1 hl130_1
                  replace p130 := eq_true p130
                  replace q130 := eq_true q130
                  (try (have ea_ := Option.some.inj (hx130_1.symm.trans hx134_1); injection ea_ with ea_ en_ ec_; subst ea_; subst ec_; clear en_))
                  (try (have ea_ := Option.some.inj (hx130_1.symm.trans hx128_1); injection ea_ with ea_ en_ ec_; subst ea_; subst ec_; clear en_))
                  have p131 : 0 ≤ (x5_1 : Int) := of_decide_eq_true (by first | (with_reducible assumption) | assumption)
                  have q131 : x5_1 < (l0.length : Int) := of_decide_eq_true (by first | (with_reducible assumption) | assumption)
                  obtain ⟨ad131, A131_1, c131_1, e131, hx131_0, hx131_1, hl131_1, hi131_1⟩ := at_T47 HR0.out x5_1 p131 q131
                  obtain rfl : ad126 = ad131 := (by injection e131)
                  have HR131_1 := Aside0.mk hi131_1
                  have HC131_1 := Aside0.mk hl131_1
                  clear hi131_1 hl131_1
                  replace p131 := eq_true p131
                  replace q131 := eq_true q131
                  have ea_ := Option.some.inj (hx126_1.symm.trans hx131_1)
                  injection ea_ with ea_ en_ ec_
                  subst ea_
                  subst ec_
                  clear en_
                  have p132 : 0 ≤ (x6_3 : Int) := of_decide_eq_true (by first | (with_reducible assumption) | assumption)
                  have q132 : x6_3 < (((rd_T47 l0 x5_1).f1).length : Int) := of_decide_eq_true (by first | (with_reducible assumption) | assumption)
                  obtain ⟨ad132, A132_1, c132_1, e132, hx132_0, hx132_1, hl132_1, hi132_1⟩ := at_T37 HR131_1.out x6_3 p132 q132
                  cases e132
                  have HR132_1 := Aside0.mk hi132_1
                  have HC132_1 := Aside0.mk hl132_1
                  clear hi132_1 hl132_1
                  replace p132 := eq_true p132
                  replace q132 := eq_true q132
                  (try (have ea_ := Option.some.inj (hx132_1.symm.trans hx128_1); injection ea_ with ea_ en_ ec_; subst ea_; subst ec_; clear en_))
                  (try (have ea_ := Option.some.inj (hx132_1.symm.trans hx130_1); injection ea_ with ea_ en_ ec_; subst ea_; subst ec_; clear en_))
                  have hcv20 := fun (a_ : Nat) => Kd.C_string (P := Tryd.prog) (A := A132_1) (c := c132_1) Tryd.underlying35 Tryd.underlying5 Tryd.underlying9 (Kd.C_drewN HR132_1.out a_)
                  have p133 : 0 ≤ (x5_1 : Int) := of_decide_eq_true (by first | (with_reducible assumption) | assumption)
                  have q133 : x5_1 < (l1.length : Int) := of_decide_eq_true (by first | (with_reducible assumption) | assumption)
                  obtain ⟨ad133, A133_1, c133_1, e133, hx133_0, hx133_1, hl133_1, hi133_1⟩ := at_T47 HR1.out x5_1 p133 q133
                  obtain rfl : ad129 = ad133 := (by injection e133)
                  have HR133_1 := Aside0.mk hi133_1
                  have HC133_1 := Aside0.mk hl133_1
                  clear hi133_1 hl133_1
                  replace p133 := eq_true p133
                  replace q133 := eq_true q133
                  have ea_ := Option.some.inj (hx129_1.symm.trans hx133_1)
                  injection ea_ with ea_ en_ ec_
                  subst ea_
                  subst ec_
                  clear en_
                  have p134 : 0 ≤ (x6_3 : Int) := of_decide_eq_true (by first | (with_reducible assumption) | assumption)
                  have q134 : x6_3 < (((rd_T47 l1 x5_1).f1).length : Int) := of_decide_eq_true (by first | (with_reducible assumption) | assumption)
                  obtain ⟨ad134, A134_1, c134_1, e134, hx134_0, hx134_1, hl134_1, hi134_1⟩ := at_T37 HR133_1.out x6_3 p134 q134
                  cases e134
                  have HR134_1 := Aside0.mk hi134_1
                  have HC134_1 := Aside0.mk hl134_1
                  clear hi134_1 hl134_1
                  replace p134 := eq_true p134
                  replace q134 := eq_true q134
                  (try (have ea_ := Option.some.inj (hx134_1.symm.trans hx130_1); injection ea_ with ea_ en_ ec_; subst ea_; subst ec_; clear en_))
                  (try (have ea_ := Option.some.inj (hx134_1.symm.trans hx132_1); injection ea_ with ea_ en_ ec_; subst ea_; subst ec_; clear en_))
                  have hcv21 := fun (a_ : Nat) => Kd.C_string (P := Tryd.prog) (A := A134_1) (c := c134_1) Tryd.underlying35 Tryd.underlying5 Tryd.underlying9 (Kd.C_drewN HR134_1.out a_)
                  go_wp2
                  repeat (go_quiet (fail); try go_wp2)
                  go_ret
                  exact ⟨by first | rfl | (simp; done) | (simp [*]; done), by repeat (first | exact Drawn0.refl _ | apply Drawn0.step)⟩
                ·rw [if_neg c16] at H
                 have c16b0 : (((rd_T37 ((rd_T47 l0 x5_1).f1) x6_3).f0).toList == ((rd_T37 ((rd_T47 l1 x5_1).f1) x6_3).f0).toList) = false := beq_eq_false_iff_ne.mpr c16
                 have c16b1 : (((rd_T37 ((rd_T47 l0 x5_1).f1) x6_3).f0).toList != ((rd_T37 ((rd_T47 l1 x5_1).f1) x6_3).f0).toList) = true := bne_iff_ne.mpr c16
                 obtain rfl := Option.some.inj H
                 have p126 : 0 ≤ (x5_1 : Int) := of_decide_eq_true (by first | (with_reducible assumption) | assumption)
                 have q126 : x5_1 < (l0.length : Int) := of_decide_eq_true (by first | (with_reducible assumption) | assumption)
                 obtain ⟨ad126, A126_1, c126_1, e126, hx126_0, hx126_1, hl126_1, hi126_1⟩ := at_T47 HR0.out x5_1 p126 q126
                 cases e126
                 have HR126_1 := Aside0.mk hi126_1
                 have HC126_1 := Aside0.mk hl126_1
                 clear hi126_1 hl126_1
                 replace p126 := eq_true p126
                 replace q126 := eq_true q126
                 have p127 : 0 ≤ (x5_1 : Int) := of_decide_eq_true (by first | (with_reducible assumption) | assumption)
                 have q127 : x5_1 < (l0.length : Int) := of_decide_eq_true (by first | (with_reducible assumption) | assumption)
                 obtain ⟨ad127, A127_1, c127_1, e127, hx127_0, hx127_1, hl127_1, hi127_1⟩ := at_T47 HR0.out x5_1 p127 q127
                 obtain rfl : ad126 = ad127 := (by injection e127)
                 have HR127_1 := Aside0.mk hi127_1
                 have HC127_1 := Aside0.mk hl127_1
                 clear hi127_1 hl127_1
                 replace p127 := eq_true p127
                 replace q127 := eq_true q127
                 have ea_ := Option.some.inj (hx126_1.symm.trans hx127_1)
                 injection ea_ with ea_ en_ ec_
                 subst ea_
                 subst ec_
                 clear en_
                 have p128 : 0 ≤ (x6_3 : Int) := of_decide_eq_true (by first | (with_reducible assumption) | assumption)
                 have q128 : x6_3 < (((rd_T47 l0 x5_1).f1).length : Int) := of_decide_eq_true (by first | (with_reducible assumption) | assumption)
                 obtain ⟨ad128, A128_1, c128_1, e128, hx128_0, hx128_1, hl128_1, hi128_1⟩ := at_T37 HR127_1.out x6_3 p128 q128
                 cases e128
                 have HR128_1 := Aside0.mk hi128_1
                 have HC128_1 := Aside0.mk hl128_1
                 clear hi128_1 hl128_1
                 replace p128 := eq_true p128
                 replace q128 := eq_true q128
                 (try (have ea_ := Option.some.inj (hx128_1.symm.trans hx132_1); injection ea_ with ea_ en_ ec_; subst ea_; subst ec_; clear en_))
                 (try (have ea_ := Option.some.inj (hx128_1.symm.trans hx134_1); injection ea_ with ea_ en_ ec_; subst ea_; subst ec_; clear en_))
                 have p129 : 0 ≤ (x5_1 : Int) := of_decide_eq_true (by first | (with_reducible assumption) | assumption)
                 have q129 : x5_1 < (l1.length : Int) := of_decide_eq_true (by first | (with_reducible assumption) | assumption)
                 obtain ⟨ad129, A129_1, c129_1, e129, hx129_0, hx129_1, hl129_1, hi129_1⟩ := at_T47 HR1.out x5_1 p129 q129
                 cases e129
                 have HR129_1 := Aside0.mk hi129_1
                 have HC129_1 := Aside0.mk hl129_1
                 clear hi129_1 hl129_1
                 replace p129 := eq_true p129
                 replace q129 := eq_true q129
                 have p130 : 0 ≤ (x6_3 : Int) := of_decide_eq_true (by first | (with_reducible assumption) | assumption)
                 have q130 : x6_3 < (((rd_T47 l1 x5_1).f1).length : Int) := of_decide_eq_true (by first | (with_reducible assumption) | assumption)
                 obtain ⟨ad130, A130_1, c130_1, e130, hx130_0, hx130_1, hl130_1, hi130_1⟩ := at_T37 HR129_1.out x6_3 p130 q130
                 cases e130
                 have HR130_1 := Aside0.mk hi130_1
                 have HC130_1 := Aside0.mk hl130_1
                 clear hi130_1 hl130_1
                 replace p130 := eq_true p130
                 replace q130 := eq_true q130
                 (try (have ea_ := Option.some.inj (hx130_1.symm.trans hx134_1); injection ea_ with ea_ en_ ec_; subst ea_; subst ec_; clear en_))
                 (try (have ea_ := Option.some.inj (hx130_1.symm.trans hx128_1); injection ea_ with ea_ en_ ec_; subst ea_; subst ec_; clear en_))
                 go_wp2
                 repeat (go_quiet (fail); try go_wp2)
                 go_ret
                 exact ⟨by first | rfl | (simp; done) | (simp [*]; done), by repeat (first | exact Drawn0.refl _ | apply Drawn0.step)⟩
               ·rw [if_neg c15] at H
                exact absurd H (by simp)
              ·rw [if_neg c14] at H
               exact absurd H (by simp)
             ·rw [if_neg c13] at H
              exact absurd H (by simp)
            ·rw [if_neg c12] at H
             have c12b0 : decide (x6_3 < (((rd_T47 l0 x5_1).f1).length : Int)) = false := decide_eq_false c12
             clear c12
             have H' := Aside0.mk H
             clear H
             have p126 : 0 ≤ (x5_1 : Int) := of_decide_eq_true (by first | (with_reducible assumption) | assumption)
             have q126 : x5_1 < (l0.length : Int) := of_decide_eq_true (by first | (with_reducible assumption) | assumption)
             obtain ⟨ad126, A126_1, c126_1, e126, hx126_0, hx126_1, hl126_1, hi126_1⟩ := at_T47 HR0.out x5_1 p126 q126
             cases e126
             have HR126_1 := Aside0.mk hi126_1
             have HC126_1 := Aside0.mk hl126_1
             clear hi126_1 hl126_1
             replace p126 := eq_true p126
             replace q126 := eq_true q126
             go_wp2
             repeat (go_quiet (fail); try go_wp2)
             go_roundg k3
             case measure => have := HK1.out; have := HJ4.out; have := HK3.out; omega
             case rel => exact ⟨(wrap64 (x5_1 + 1)), (by first | rfl | (simp; done) | (simp [*]; done)), H', ⟨by have := HK1.out; have := HJ4.out; have := HK3.out; omega⟩, by repeat (first | exact Drawn0.refl _ | apply Drawn0.step)⟩
           ·rw [if_neg c11] at H
            exact absurd H (by simp)
          ·rw [if_neg c10] at H
           exact absurd H (by simp)
    ·rw [if_neg c4] at H
     have c4b0 : decide (x5_1 < (l0.length : Int)) = false := decide_eq_false c4
     clear c4
     obtain rfl := Option.some.inj H
     go_wp2
     repeat (go_quiet (fail); try go_wp2)
     go_ret
     exact ⟨by first | rfl | (simp; done) | (simp [*]; done), by repeat (first | exact Drawn0.refl _ | apply Drawn0.step)⟩
 ·rw [if_neg c3] at H
  have c3b0 : ((l0.length : Int) == (l1.length : Int)) = false := beq_eq_false_iff_ne.mpr c3
  have c3b1 : ((l0.length : Int) != (l1.length : Int)) = true := bne_iff_ne.mpr c3
  have c3b2 : (l0.length == l1.length) = false := by first | simpa using c3 | (simp at c3 ⊢; omega)
  obtain rfl := Option.some.inj H
  go_enter Tryd.func14, Tryd.ntmps14
  go_wp2
  repeat (go_quiet (fail); try go_wp2)
  go_ret
  exact ⟨by first | rfl | (simp; done) | (simp [*]; done), by repeat (first | exact Drawn0.refl _ | apply Drawn0.step)⟩

end Go.Proofs.YteakcggbolfelaaDoor.Y
end

section
/- Written by a program of this session (wip/xprint) out of the translation: functions of the given program as plain functions, and the walks that show that each call answers what its function says, under the conditions that each theorem states. -/
namespace Go.Proofs.YteakcggbolfelaaDoor.Y
open Go.RowKit Go.Proofs.YteakcggbolfelaaDoorW.PrintWords Go.Proofs.YteakcggbolfelaaDoorW.PrintLast Go.Proofs.YteakcggbolfelaaDoorW.PrintMore
attribute [local go_sem] max2_int min2_int max_two min_two max_three min_three max_four min_four   -- for this text's walks alone
set_option linter.unusedVariables false
set_option linter.unusedSimpArgs false

/-! ### cavillaw05_Few: function 12 -/
mutual
def cavillaw05_Few.l0 : Nat → List (S47) → List (S47) → Int → Option ((List (S47)))
 | 0, _, _, _ => none
 | k + 1, x0, x3, x4 => if x4 < (x0.length : Int) then (cavillaw05_Few.j1 k x0 x3 x4 (decide (x4 < 8))) else (cavillaw05_Few.j1 k x0 x3 x4 false)
def cavillaw05_Few.j1 : Nat → List (S47) → List (S47) → Int → Bool → Option ((List (S47)))
 | 0, _, _, _, _ => none
 | k + 1, x0, x3, x4, x15 => if x15 = true then (if 0 ≤ x4 then (if x4 < (x0.length : Int) then (if 0 ≤ (mn (((rd_T47 x0 x4).f0).size : Int) 140) then (if (mn (((rd_T47 x0 x4).f0).size : Int) 140) ≤ (((rd_T47 x0 x4).f0).size : Int) then (cavillaw05_Few.l1 k x0 x3 x4 0 (((rd_T47 x0 x4).f0).extract 0 ((mn (((rd_T47 x0 x4).f0).size : Int) 140) : Int).toNat) ([] : List (S37))) else (none)) else (none)) else (none)) else (none)) else (some x3)
def cavillaw05_Few.l1 : Nat → List (S47) → List (S47) → Int → Int → ByteArray → List (S37) → Option ((List (S47)))
 | 0, _, _, _, _, _, _ => none
 | k + 1, x0, x3, x4, x6, x104000, x104001 => if 0 ≤ x4 then (if x4 < (x0.length : Int) then (if x6 < (((rd_T47 x0 x4).f1).length : Int) then (if x6 < 6 then (if 0 ≤ x6 then (if 0 ≤ (mn (((rd_T37 ((rd_T47 x0 x4).f1) x6).f0).size : Int) 70) then (if (mn (((rd_T37 ((rd_T47 x0 x4).f1) x6).f0).size : Int) 70) ≤ (((rd_T37 ((rd_T47 x0 x4).f1) x6).f0).size : Int) then (if 0 ≤ (mn (((rd_T37 ((rd_T47 x0 x4).f1) x6).f1).length : Int) 300) then (if (mn (((rd_T37 ((rd_T47 x0 x4).f1) x6).f1).length : Int) 300) ≤ (((rd_T37 ((rd_T47 x0 x4).f1) x6).f1).length : Int) then (if x104001.length < 3518437208883 then (cavillaw05_Few.l1 k x0 x3 x4 (wrap64 (x6 + 1)) x104000 (x104001 ++ [(⟨((rd_T37 ((rd_T47 x0 x4).f1) x6).f0).extract 0 ((mn (((rd_T37 ((rd_T47 x0 x4).f1) x6).f0).size : Int) 70) : Int).toNat, (((rd_T37 ((rd_T47 x0 x4).f1) x6).f1).take ((mn (((rd_T37 ((rd_T47 x0 x4).f1) x6).f1).length : Int) 300) : Int).toNat)⟩ : S37)])) else (none)) else (none)) else (none)) else (none)) else (none)) else (none)) else (if x3.length < 3518437208883 then (cavillaw05_Few.l0 k x0 (x3 ++ [(⟨x104000, x104001⟩ : S47)]) (wrap64 (x4 + 1))) else (none))) else (if x3.length < 3518437208883 then (cavillaw05_Few.l0 k x0 (x3 ++ [(⟨x104000, x104001⟩ : S47)]) (wrap64 (x4 + 1))) else (none))) else (none)) else (none)
end
def cavillaw05_Few.f (k : Nat) (l0 : List (S47)) : Option ((List (S47))) := cavillaw05_Few.l0 k l0 ([] : List (S47)) 0
theorem cavillaw05_Few.mono_l : ∀ k, (∀ y0 y1 y2, LeO (cavillaw05_Few.l0 k y0 y1 y2) (cavillaw05_Few.l0 (k + 1) y0 y1 y2)) ∧ (∀ y0 y1 y2 y3, LeO (cavillaw05_Few.j1 k y0 y1 y2 y3) (cavillaw05_Few.j1 (k + 1) y0 y1 y2 y3)) ∧ (∀ y0 y1 y2 y3 y4 y5, LeO (cavillaw05_Few.l1 k y0 y1 y2 y3 y4 y5) (cavillaw05_Few.l1 (k + 1) y0 y1 y2 y3 y4 y5))
 | 0 => ⟨fun _ _ _ r h => by simp [cavillaw05_Few.l0] at h, fun _ _ _ _ r h => by simp [cavillaw05_Few.j1] at h, fun _ _ _ _ _ _ r h => by simp [cavillaw05_Few.l1] at h⟩
 | k + 1 => by
  obtain ⟨ih0, ih1, ih2⟩ := cavillaw05_Few.mono_l k
  refine ⟨?_, ?_, ?_⟩
  ·intro y0 y1 y2
   unfold cavillaw05_Few.l0
   repeat' first
   | (with_reducible exact ih0 _ _ _)
   | (with_reducible exact ih1 _ _ _ _)
   | (with_reducible exact ih2 _ _ _ _ _ _)
   | (with_reducible exact LeO.refl _)
   | (with_reducible exact LeO.none _)
   | (with_reducible refine LeO.ite ?_ ?_)
   | (with_reducible refine LeO.bind ?_ (fun _ => ?_))
   | exact ih0 _ _ _
   | exact ih1 _ _ _ _
   | exact ih2 _ _ _ _ _ _
   | exact LeO.none _
   | refine LeO.ite ?_ ?_
   | refine LeO.bind ?_ (fun _ => ?_)
  ·intro y0 y1 y2 y3
   unfold cavillaw05_Few.j1
   repeat' first
   | (with_reducible exact ih0 _ _ _)
   | (with_reducible exact ih1 _ _ _ _)
   | (with_reducible exact ih2 _ _ _ _ _ _)
   | (with_reducible exact LeO.refl _)
   | (with_reducible exact LeO.none _)
   | (with_reducible refine LeO.ite ?_ ?_)
   | (with_reducible refine LeO.bind ?_ (fun _ => ?_))
   | exact ih0 _ _ _
   | exact ih1 _ _ _ _
   | exact ih2 _ _ _ _ _ _
   | exact LeO.none _
   | refine LeO.ite ?_ ?_
   | refine LeO.bind ?_ (fun _ => ?_)
  ·intro y0 y1 y2 y3 y4 y5
   unfold cavillaw05_Few.l1
   repeat' first
   | (with_reducible exact ih0 _ _ _)
   | (with_reducible exact ih1 _ _ _ _)
   | (with_reducible exact ih2 _ _ _ _ _ _)
   | (with_reducible exact LeO.refl _)
   | (with_reducible exact LeO.none _)
   | (with_reducible refine LeO.ite ?_ ?_)
   | (with_reducible refine LeO.bind ?_ (fun _ => ?_))
   | exact ih0 _ _ _
   | exact ih1 _ _ _ _
   | exact ih2 _ _ _ _ _ _
   | exact LeO.none _
   | refine LeO.ite ?_ ?_
   | refine LeO.bind ?_ (fun _ => ?_)
theorem cavillaw05_Few.mono : ∀ a0 k, LeO (cavillaw05_Few.f k a0) (cavillaw05_Few.f (k + 1) a0) := by
 intro a0 k
 obtain ⟨ih0, ih1, ih2⟩ := cavillaw05_Few.mono_l k
 unfold cavillaw05_Few.f
 repeat' first
   | (with_reducible exact ih0 _ _ _)
   | (with_reducible exact ih1 _ _ _ _)
   | (with_reducible exact ih2 _ _ _ _ _ _)
   | (with_reducible exact LeO.refl _)
   | (with_reducible exact LeO.none _)
   | (with_reducible refine LeO.ite ?_ ?_)
   | (with_reducible refine LeO.bind ?_ (fun _ => ?_))
   | exact ih0 _ _ _
   | exact ih1 _ _ _ _
   | exact ih2 _ _ _ _ _ _
   | exact LeO.none _
   | refine LeO.ite ?_ ?_
   | refine LeO.bind ?_ (fun _ => ?_)
def cavillaw05_Few.T5 : Bool × List (List Nat × List Nat) := (true, [([], []), ([], []), ([0, 1], [0, 1]), ([2], [2]), ([3], [3]), ([], []), ([], []), ([5, 6], [5, 6]), ([7], [7]), ([8], [8]), ([9], [9]), ([10], [10]), ([4, 11], [4, 11]), ([12], [12]), ([], []), ([14, 13, 0, 1, 2, 3, 4, 5, 6, 7, 8, 9, 10, 11, 12, 13, 14], [13, 14])])
def cavillaw05_Few.B5 : List Nat := [0, 0, 3, 7, 15, 0, 0, 96, 224, 480, 992, 2016, 4095, 8191, 0, 32767]
theorem cavillaw05_Few.tab5 : rtab .any (opsOf Tryd.f12 5) = cavillaw05_Few.T5 := by kernel_rfl
theorem cavillaw05_Few.bits5 : waitsOk cavillaw05_Few.T5.2 cavillaw05_Few.B5 = true := by kernel_rfl
def cavillaw05_Few.T10 : Bool × List (List Nat × List Nat) := (true, [([], []), ([0], [0]), ([], []), ([2], [2]), ([], []), ([4], [4]), ([5], [5]), ([6], [6]), ([3, 7], [3, 7]), ([], []), ([9], [9]), ([], []), ([11], [11]), ([12], [12]), ([13], [13]), ([10, 14], [10, 14]), ([8, 15], [8, 15]), ([16], [16]), ([1, 17], [1, 17]), ([0, 1, 2, 3, 4, 5, 6, 7, 8, 9, 10, 11, 12, 13, 14, 15, 16, 17, 18], []), ([19, 18, 18, 0, 1, 2, 3, 4, 5, 6, 7, 8, 9, 10, 11, 12, 13, 14, 15, 16, 17, 18], [18, 19])])
def cavillaw05_Few.B10 : List Nat := [0, 1, 0, 4, 0, 16, 48, 112, 252, 0, 512, 0, 2048, 6144, 14336, 32256, 65532, 131068, 262143, 524287, 1048575]
theorem cavillaw05_Few.tab10 : rtab .any (opsOf Tryd.f12 10) = cavillaw05_Few.T10 := by kernel_rfl
theorem cavillaw05_Few.bits10 : waitsOk cavillaw05_Few.T10.2 cavillaw05_Few.B10 = true := by kernel_rfl
set_option maxHeartbeats 8000000 in
set_option maxRecDepth 100000 in
theorem cavillaw05_Few.calls (k : Nat) (P0_ : Nat → Prop) (A0 : Option Addr) (c0 : Nat) (l0 : List (S47)) (r : List (S47)) (w : World) (hs0 : Kd.V k47 47 w w.heap.size (fun k_ => P0_ k_) (.slice A0 l0.length c0) l0) (h : cavillaw05_Few.f k l0 = some r) :
  Calls Tryd.prog 12 #[.slice A0 l0.length c0] w fun e w' => ∃ v0_ : Value, e = .returned (v0_) ∧ Kd.N k47 47 w' w.heap.size (fun k_ => (P0_ k_ ∨ w.heap.size ≤ k_)) v0_ r ∧ Below w.heap.size w w' := by
 have hu47 := Tryd.underlying47
 have hu37 := Tryd.underlying37
 have HO0 := Aside0.mk (show Kd.V k47 47 w w.heap.size (fun k_ => (P0_ k_ ∨ w.heap.size ≤ k_)) (.slice A0 l0.length c0) l0 from Kd.V_mono hs0 (fun k_ hk => .inl hk))
 have HB := Aside0.mk (Below.refl w.heap.size w)
 have H : (cavillaw05_Few.l0 k l0 ([] : List (S47)) 0) = some r := h
 clear h
 have H' := Aside0.mk H
 clear H
 go_enter Tryd.func12, Tryd.ntmps12
 go_wp2
 (try simp only [Act.put, List.setIfInBounds_toArray, List.set_cons_zero, List.set_cons_succ])
 go_loopg [3, 4] k (fun kq v3 v4 w' => ∃ (x3_1 : List (S47)) (x4_1 : Int), v4 = .int .i64 x4_1 ∧ Aside0 (cavillaw05_Few.l0 kq l0 x3_1 x4_1 = some r) ∧ Aside0 (kq ≤ k) ∧ Aside0 (Kd.V k47 47 w' w.heap.size (fun k_ => (P0_ k_ ∨ w.heap.size ≤ k_) ∧ some k_ ≠ (v3 : Value).ownBlock) (.slice A0 l0.length c0) l0) ∧ Aside0 (Kd.N k47 47 w' w.heap.size (fun k_ => (P0_ k_ ∨ w.heap.size ≤ k_)) v3 x3_1) ∧ Aside0 (Below w.heap.size w w'))
 case atStart => exact ⟨(([] : List (S47))), (0), (by first | rfl | (simp; done) | (simp [*]; done)), H', ⟨Nat.le_refl _⟩, ⟨by (with_reducible repeat (first | apply Kd.V_alloc | apply Kd.V_drewN | apply Kd.V_drew)); exact Kd.V_mono HO0.out (fun _ hk => ⟨hk, (by simp [Value.ownBlock])⟩)⟩, ⟨by first | exact Kd.R_nil _ _ _ _ _ | exact Kd.N_nil _ _ _ _ _ | exact Kd.V_nil _ _ _ _ _ | exact Kd.Q_nil _ _ _ _ _ | exact Kd.S_nil _ _ _ _ _⟩, ⟨by repeat (first | (with_reducible first | exact HB.out | apply below_alloc | apply pw_below_drewN | apply below_drew1) | exact HB.out)⟩⟩
 case round =>
  clear H'
  try clear c1
  obtain ⟨x3_1, x4_1, rfl, HA, HK1, HO_0, HO_3, HB⟩ := hrel
  cases gk with
  | zero => exact absurd HA.out (by simp [cavillaw05_Few.l0])
  | succ k1 =>
   have H := HA.out
   clear HA
   simp only [cavillaw05_Few.l0] at H
   have HC2 := Aside0.mk H
   clear H
   go_upto_region 3 with (fail)
   go_cut [15] (fun v15 wc => ∃ (kq : Nat) (x15_1 : Bool), v15 = .bool x15_1 ∧ Aside0 (cavillaw05_Few.j1 kq l0 x3_1 x4_1 x15_1 = some r) ∧ Aside0 (kq ≤ k1) ∧ Aside0 (Kd.V k47 47 wc w.heap.size (fun k_ => (P0_ k_ ∨ w.heap.size ≤ k_) ∧ some k_ ≠ (u3 : Value).ownBlock) (.slice A0 l0.length c0) l0) ∧ Aside0 (Kd.N k47 47 wc w.heap.size (fun k_ => (P0_ k_ ∨ w.heap.size ≤ k_)) u3 x3_1) ∧ Aside0 (Below w.heap.size w wc))
   case first =>
    have H := HC2.out
    clear HC2
    by_cases c3 : x4_1 < (l0.length : Int)
    ·rw [if_pos c3] at H
     have c3b0 : decide (x4_1 < (l0.length : Int)) = true := decide_eq_true c3
     clear c3
     (first | rw [c3b0] | (simp only [i64_w, i32_w]; rw [c3b0]) | skip)
     have H' := Aside0.mk H
     clear H
     go_wp2
     go_meet
     case rel => exact ⟨_, (decide (x4_1 < 8)), (by first | rfl | (simp; done) | (simp [*]; done)), H', ⟨by have := HK1.out; first | omega | exact Nat.le_refl _⟩, ⟨by (with_reducible repeat (first | apply Kd.V_alloc | apply Kd.V_drewN | apply Kd.V_drew)); exact HO_0.out⟩, ⟨by (with_reducible repeat (first | apply Kd.N_alloc | apply Kd.N_drewN | apply Kd.N_drew)); exact HO_3.out⟩, ⟨by repeat (first | (with_reducible first | exact HB.out | apply below_alloc | apply pw_below_drewN | apply below_drew1) | exact HB.out)⟩⟩
    ·rw [if_neg c3] at H
     have c3b0 : decide (x4_1 < (l0.length : Int)) = false := decide_eq_false c3
     clear c3
     (first | rw [c3b0] | (simp only [i64_w, i32_w]; rw [c3b0]) | skip)
     have H' := Aside0.mk H
     clear H
     go_wp2
     go_meet
     case rel => exact ⟨_, (false), (by first | rfl | (simp; done) | (simp [*]; done)), H', ⟨by have := HK1.out; first | omega | exact Nat.le_refl _⟩, ⟨by (with_reducible repeat (first | apply Kd.V_alloc | apply Kd.V_drewN | apply Kd.V_drew)); exact HO_0.out⟩, ⟨by (with_reducible repeat (first | apply Kd.N_alloc | apply Kd.N_drewN | apply Kd.N_drew)); exact HO_3.out⟩, ⟨by repeat (first | (with_reducible first | exact HB.out | apply below_alloc | apply pw_below_drewN | apply below_drew1) | exact HB.out)⟩⟩
   case rest =>
    clear HC2
    try clear c1
    try clear p2
    try clear c3
    try clear c3b0
    obtain ⟨kq, x15_1, rfl, HA, HJ1, HO_0, HO_3, HB⟩ := hcut
    cases kq with
    | zero => exact absurd HA.out (by simp [cavillaw05_Few.j1])
    | succ kj1 =>
     have H := HA.out
     clear HA
     simp only [cavillaw05_Few.j1] at H
     by_cases c4 : x15_1 = true
     ·subst c4
      have H1 : (if 0 ≤ x4_1 then (if x4_1 < (l0.length : Int) then (if 0 ≤ (mn (((rd_T47 l0 x4_1).f0).size : Int) 140) then (if (mn (((rd_T47 l0 x4_1).f0).size : Int) 140) ≤ (((rd_T47 l0 x4_1).f0).size : Int) then (cavillaw05_Few.l1 kj1 l0 x3_1 x4_1 0 (((rd_T47 l0 x4_1).f0).extract 0 ((mn (((rd_T47 l0 x4_1).f0).size : Int) 140) : Int).toNat) ([] : List (S37))) else (none)) else (none)) else (none)) else (none)) = some r := by rw [if_pos rfl] at H; exact H
      clear H
      have H := H1
      clear H1
      by_cases c5 : 0 ≤ x4_1
      ·rw [if_pos c5] at H
       have c5b0 : decide (0 ≤ x4_1) = true := decide_eq_true c5
       clear c5
       by_cases c6 : x4_1 < (l0.length : Int)
       ·rw [if_pos c6] at H
        have c6b0 : decide (x4_1 < (l0.length : Int)) = true := decide_eq_true c6
        clear c6
        obtain ⟨ji7, hji7⟩ : ∃ j_ : Int, (mn (((rd_T47 l0 x4_1).f0).size : Int) 140) = j_ := ⟨_, rfl⟩
        replace H : (if 0 ≤ (ji7) then (if (ji7) ≤ (((rd_T47 l0 x4_1).f0).size : Int) then (cavillaw05_Few.l1 kj1 l0 x3_1 x4_1 0 (((rd_T47 l0 x4_1).f0).extract 0 ((ji7) : Int).toNat) ([] : List (S37))) else (none)) else (none)) = some r := by first | (rw [hji7] at H; exact H) | (simp only [hji7] at H ⊢; exact H)
        have hji7_ : (if 140 < (((rd_T47 l0 x4_1).f0).size : Int) then 140 else (((rd_T47 l0 x4_1).f0).size : Int)) = ji7 := hji7
        by_cases c8 : 0 ≤ (ji7)
        ·rw [if_pos c8] at H
         have c8b0 := eq_true c8
         have c8b1 : decide (0 ≤ (ji7)) = true := decide_eq_true c8
         clear c8
         by_cases c9 : (ji7) ≤ (((rd_T47 l0 x4_1).f0).size : Int)
         ·rw [if_pos c9] at H
          have c9b0 := eq_true c9
          have c9b1 : decide ((ji7) ≤ (((rd_T47 l0 x4_1).f0).size : Int)) = true := decide_eq_true c9
          clear c9
          have H' := Aside0.mk H
          clear H
          try go_wp2
          have n0_ := Aside0.mk (Kd.V_drew HO_0.out)
          have n1_ := Aside0.mk (Kd.N_drew HO_3.out)
          have n2_ := Aside0.mk (below_drew1 HB.out)
          clear HO_0
          clear HO_3
          clear HB
          have HO_0 := n0_
          have HO_3 := n1_
          have HB := n2_
          clear n0_ n1_ n2_
          have p101 : 0 ≤ (x4_1 : Int) := of_decide_eq_true (by first | (with_reducible assumption) | assumption)
          have q101 : x4_1 < (l0.length : Int) := of_decide_eq_true (by first | (with_reducible assumption) | assumption)
          obtain ⟨ad101, A101_1, c101_1, e101, hx101_0, hx101_1, hl101_1, hi101_1⟩ := at_T47 (Kd.V_reads' HO_0.out).2.2 x4_1 p101 q101
          cases e101
          obtain ⟨ce101, hce101, hMe101, hcc101⟩ := Kd.V_get HO_0.out z47 x4_1 p101 (by first | exact q101 | exact of_decide_eq_true (by first | (with_reducible assumption) | assumption) | (have e_ := (Kd.V_reads' HO_0.out).1; omega))
          obtain ⟨ua101_1, uc101_1, rfl, ul101_1, ge101_1⟩ := k47_openF hMe101
          have hv101_1 := hcc101 1 _ rfl
          rw [add_field _ _ 1 (by omega)] at hv101_1
          replace hv101_1 := Option.some.inj (hv101_1.symm.trans hx101_1)
          injection hv101_1 with hva_ hvn_ hvc_
          rw [hva_] at ge101_1
          rw [hvc_] at ul101_1
          have HL101_1 := Aside0.mk (show Kd.V k37 37 _ w.heap.size _ _ ((rd_T47 l0 x4_1).f1) from Kd.V_mk ul101_1 ge101_1)
          clear hva_ hvn_ hvc_ ge101_1 ul101_1
          clear hcc101 hce101
          have HR101_1 := Aside0.mk hi101_1
          have HC101_1 := Aside0.mk hl101_1
          clear hi101_1 hl101_1
          replace p101 := eq_true p101
          replace q101 := eq_true q101
          have p102 : 0 ≤ (x4_1 : Int) := of_decide_eq_true (by first | (with_reducible assumption) | assumption)
          have q102 : x4_1 < (l0.length : Int) := of_decide_eq_true (by first | (with_reducible assumption) | assumption)
          obtain ⟨ad102, A102_1, c102_1, e102, hx102_0, hx102_1, hl102_1, hi102_1⟩ := at_T47 (Kd.V_reads' HO_0.out).2.2 x4_1 p102 q102
          obtain rfl : ad101 = ad102 := (by injection e102)
          obtain ⟨ce102, hce102, hMe102, hcc102⟩ := Kd.V_get HO_0.out z47 x4_1 p102 (by first | exact q102 | exact of_decide_eq_true (by first | (with_reducible assumption) | assumption) | (have e_ := (Kd.V_reads' HO_0.out).1; omega))
          obtain ⟨ua102_1, uc102_1, rfl, ul102_1, ge102_1⟩ := k47_openF hMe102
          have hv102_1 := hcc102 1 _ rfl
          rw [add_field _ _ 1 (by omega)] at hv102_1
          replace hv102_1 := Option.some.inj (hv102_1.symm.trans hx102_1)
          injection hv102_1 with hva_ hvn_ hvc_
          rw [hva_] at ge102_1
          rw [hvc_] at ul102_1
          have HL102_1 := Aside0.mk (show Kd.V k37 37 _ w.heap.size _ _ ((rd_T47 l0 x4_1).f1) from Kd.V_mk ul102_1 ge102_1)
          clear hva_ hvn_ hvc_ ge102_1 ul102_1
          clear hcc102 hce102
          have HR102_1 := Aside0.mk hi102_1
          have HC102_1 := Aside0.mk hl102_1
          clear hi102_1 hl102_1
          replace p102 := eq_true p102
          replace q102 := eq_true q102
          have ea_ := Option.some.inj (hx101_1.symm.trans hx102_1)
          injection ea_ with ea_ en_ ec_
          subst ea_
          subst ec_
          clear en_
          refine start_ (n := 16) (S := fun w' => w'.cell? (ad101.add ((x4_1).toNat * 2)) = some (.string ((rd_T47 l0 x4_1).f0)) ∧ w'.cell? ⟨(ad101.add ((x4_1).toNat * 2)).block, (ad101.add ((x4_1).toNat * 2)).off + 1, none⟩ = some (.slice A101_1 ((rd_T47 l0 x4_1).f1).length c101_1) ∧ w'.cell? (ad101.add ((x4_1).toNat * 2)) = some (.string ((rd_T47 l0 x4_1).f0)) ∧ w'.cell? ⟨(ad101.add ((x4_1).toNat * 2)).block, (ad101.add ((x4_1).toNat * 2)).off + 1, none⟩ = some (.slice A101_1 ((rd_T47 l0 x4_1).f1).length c101_1)) (ds := []) #[false, false, false, false, false, false, false, false, false, false, false, false, false, false, false, false] (by kernel_rfl) rfl rfl ⟨hx101_0, hx101_1, hx102_0, hx102_1⟩ (fun hHeld => ?_); refine with_tabW cavillaw05_Few.tab5 cavillaw05_Few.bits5 (fun HT_ HW_ => ?_)
          generalize wc.drew = w10 at HO_0 HO_3 HB HL101_1 HL102_1 HR101_1 HR102_1 hx101_0 hx101_1 hx102_0 hx102_1 hHeld ⊢
          refine pure_ (i := 0) (N := some 18) (v := ?_) (a' := ?_) #[true, false, false, false, false, false, false, false, false, false, false, false, false, false, false, false] rfl rfl (any_of HT_.out (by kernel_rfl)) (fun _ _ _ h => h) (Or.inl ⟨by rfl, ?_⟩) ?_ ?_
          rotate_left
          ·intro w'
           go_simp
           with_reducible rfl
          rotate_left
          ·simp only [Act.put, List.setIfInBounds_toArray, List.set_cons_zero, List.set_cons_succ, i64_w, i32_w]
           rfl
          refine pure_ (i := 1) (N := some 19) (v := ?_) (a' := ?_) #[true, true, false, false, false, false, false, false, false, false, false, false, false, false, false, false] rfl rfl (any_of HT_.out (by kernel_rfl)) (fun _ _ _ h => h) (Or.inl ⟨by rfl, ?_⟩) ?_ ?_
          rotate_left
          ·intro w'
           go_simp
           with_reducible rfl
          rotate_left
          ·simp only [Act.put, List.setIfInBounds_toArray, List.set_cons_zero, List.set_cons_succ, i64_w, i32_w]
           rfl
          refine pure_ (i := 2) (N := some 20) (v := ?_) (a' := ?_) #[true, true, true, false, false, false, false, false, false, false, false, false, false, false, false, false] rfl rfl (any_of HT_.out (by kernel_rfl)) (fun _ _ _ h => h) (Or.inl ⟨by rfl, ?_⟩) ?_ ?_
          rotate_left
          ·intro w'
           go_simp
           with_reducible rfl
          rotate_left
          ·simp only [Act.put, List.setIfInBounds_toArray, List.set_cons_zero, List.set_cons_succ, i64_w, i32_w]
           rfl
          refine pure_ (i := 3) (N := some 21) (v := ?_) (a' := ?_) #[true, true, true, true, false, false, false, false, false, false, false, false, false, false, false, false] rfl rfl (any_of HT_.out (by kernel_rfl)) (fun _ _ _ h => h) (Or.inl ⟨by rfl, ?_⟩) ?_ ?_
          rotate_left
          ·intro w'
           go_simp
           with_reducible rfl
          rotate_left
          ·simp only [Act.put, List.setIfInBounds_toArray, List.set_cons_zero, List.set_cons_succ, i64_w, i32_w]
           rfl
          refine pure_ (i := 5) (N := some 23) (v := ?_) (a' := ?_) #[true, true, true, true, false, true, false, false, false, false, false, false, false, false, false, false] rfl rfl (any_of HT_.out (by kernel_rfl)) (fun _ _ _ h => h) (Or.inl ⟨by rfl, ?_⟩) ?_ ?_
          rotate_left
          ·intro w'
           go_simp
           with_reducible rfl
          rotate_left
          ·simp only [Act.put, List.setIfInBounds_toArray, List.set_cons_zero, List.set_cons_succ, i64_w, i32_w]
           rfl
          refine pure_ (i := 6) (N := some 24) (v := ?_) (a' := ?_) #[true, true, true, true, false, true, true, false, false, false, false, false, false, false, false, false] rfl rfl (any_of HT_.out (by kernel_rfl)) (fun _ _ _ h => h) (Or.inl ⟨by rfl, ?_⟩) ?_ ?_
          rotate_left
          ·intro w'
           go_simp
           with_reducible rfl
          rotate_left
          ·simp only [Act.put, List.setIfInBounds_toArray, List.set_cons_zero, List.set_cons_succ, i64_w, i32_w]
           rfl
          refine pure_ (i := 7) (N := some 25) (v := ?_) (a' := ?_) #[true, true, true, true, false, true, true, true, false, false, false, false, false, false, false, false] rfl rfl (any_of HT_.out (by kernel_rfl)) (fun _ _ _ h => h) (Or.inl ⟨by rfl, ?_⟩) ?_ ?_
          rotate_left
          ·intro w'
           go_simp
           with_reducible rfl
          rotate_left
          ·simp only [Act.put, List.setIfInBounds_toArray, List.set_cons_zero, List.set_cons_succ, i64_w, i32_w]
           rfl
          refine pure_ (i := 8) (N := some 26) (v := ?_) (a' := ?_) #[true, true, true, true, false, true, true, true, true, false, false, false, false, false, false, false] rfl rfl (any_of HT_.out (by kernel_rfl)) (fun _ _ _ h => h) (Or.inl ⟨by rfl, ?_⟩) ?_ ?_
          rotate_left
          ·intro w'
           go_simp
           with_reducible rfl
          rotate_left
          ·simp only [Act.put, List.setIfInBounds_toArray, List.set_cons_zero, List.set_cons_succ, i64_w, i32_w]
           rfl
          refine take_ (i := 4) (N := some 22) (v := ?_) (a' := ?_) #[true, true, true, true, true, true, true, true, true, false, false, false, false, false, false, false] rfl rfl (take_ofW HT_.out HW_.out (by kernel_rfl)) (fun _ _ _ h => h) (Or.inl ⟨by rfl, ?_⟩) hHeld ?_ ?_
          rotate_left
          ·rintro w' ⟨s0, s1, s2, s3⟩
           go_simp
           with_reducible rfl
          rotate_left
          ·simp only [Act.put, List.setIfInBounds_toArray, List.set_cons_zero, List.set_cons_succ, i64_w, i32_w]
           rfl
          refine take_ (i := 9) (N := some 27) (v := ?_) (a' := ?_) #[true, true, true, true, true, true, true, true, true, true, false, false, false, false, false, false] rfl rfl (take_ofW HT_.out HW_.out (by kernel_rfl)) (fun _ _ _ h => h) (Or.inl ⟨by rfl, ?_⟩) hHeld ?_ ?_
          rotate_left
          ·rintro w' ⟨s0, s1, s2, s3⟩
           go_simp
           with_reducible rfl
          rotate_left
          ·simp only [Act.put, List.setIfInBounds_toArray, List.set_cons_zero, List.set_cons_succ, i64_w, i32_w]
           rfl
          refine pure_ (i := 10) (N := some 28) (v := ?_) (a' := ?_) #[true, true, true, true, true, true, true, true, true, true, true, false, false, false, false, false] rfl rfl (any_of HT_.out (by kernel_rfl)) (fun _ _ _ h => h) (Or.inl ⟨by rfl, ?_⟩) ?_ ?_
          rotate_left
          ·intro w'
           go_simp
           with_reducible rfl
          rotate_left
          ·simp only [Act.put, List.setIfInBounds_toArray, List.set_cons_zero, List.set_cons_succ, i64_w, i32_w]
           rfl
          refine pure_ (i := 11) (N := some 29) (v := ?_) (a' := ?_) #[true, true, true, true, true, true, true, true, true, true, true, true, false, false, false, false] rfl rfl (any_of HT_.out (by kernel_rfl)) (fun _ _ _ h => h) (Or.inl ⟨by rfl, ?_⟩) ?_ ?_
          rotate_left
          ·intro w'
           go_simp
           with_reducible rfl
          rotate_left
          ·simp only [Act.put, List.setIfInBounds_toArray, List.set_cons_zero, List.set_cons_succ, i64_w, i32_w]
           rfl
          refine pure_ (i := 12) (N := some 30) (v := ?_) (a' := ?_) #[true, true, true, true, true, true, true, true, true, true, true, true, true, false, false, false] rfl rfl (any_of HT_.out (by kernel_rfl)) (fun _ _ _ h => h) (Or.inl ⟨by rfl, ?_⟩) ?_ ?_
          rotate_left
          ·intro w'
           go_simp
           with_reducible rfl
          rotate_left
          ·simp only [Act.put, List.setIfInBounds_toArray, List.set_cons_zero, List.set_cons_succ, i64_w, i32_w]
           rfl
          refine pure_ (i := 13) (N := some 31) (v := ?_) (a' := ?_) #[true, true, true, true, true, true, true, true, true, true, true, true, true, true, false, false] rfl rfl (any_of HT_.out (by kernel_rfl)) (fun _ _ _ h => h) (Or.inl ⟨by rfl, ?_⟩) ?_ ?_
          rotate_left
          ·intro w'
           go_simp
           with_reducible rfl
          rotate_left
          ·simp only [Act.put, List.setIfInBounds_toArray, List.set_cons_zero, List.set_cons_succ, i64_w, i32_w]
           rfl
          refine one_ (i := 14) (N := some 5) #[true, true, true, true, true, true, true, true, true, true, true, true, true, true, true, false] rfl rfl (one_of HT_.out (by kernel_rfl)) (by decide) (fun K hK => ?_)
          refine box_step ?hg (N := 5) ?hd (cs := #[.string (⟨#[]⟩ : ByteArray), .slice none 0 0]) (t := 47) ?hr ?_; (case hd => rfl); (case hg => rfl); (case hr => first | (go_simp; done) | (go_simp; rfl))
          intro gb103 hg w11 hbox hb
          have HS0_ := (hb.cell (World.block_lt_of_cell? _ _ (hHeld.1))).trans (hHeld.1)
          have HS1_ := (hb.cell (World.block_lt_of_cell? _ _ (hHeld.2.1))).trans (hHeld.2.1)
          have HS2_ := (hb.cell (World.block_lt_of_cell? _ _ (hHeld.2.2.1))).trans (hHeld.2.2.1)
          have HS3_ := (hb.cell (World.block_lt_of_cell? _ _ (hHeld.2.2.2))).trans (hHeld.2.2.2)
          have NE103 := Aside0.mk (show ad101.block ≠ gb103 from fun e => by have h1 := World.block_lt_of_cell? _ _ (hHeld.1); simp only [add_block] at h1; rw [e, hg] at h1; exact Nat.lt_irrefl _ h1)
          have n0_ := Aside0.mk (Kd.V_below (Kd.V_elderB (by (with_reducible repeat (first | apply Kd.V_alloc | apply Kd.V_drewN | apply Kd.V_drew)); exact HO_0.out) gb103 (Nat.le_of_eq hg.symm)) hb)
          have n1_ := Aside0.mk (Kd.N_below (Kd.N_elderB (by (with_reducible repeat (first | apply Kd.N_alloc | apply Kd.N_drewN | apply Kd.N_drew)); exact HO_3.out) gb103 (Nat.le_of_eq hg.symm)) hb)
          have n2_ := Aside0.mk (Kd.V_below (Kd.V_elderB (by (with_reducible repeat (first | apply Kd.V_alloc | apply Kd.V_drewN | apply Kd.V_drew)); exact HL101_1.out) gb103 (Nat.le_of_eq hg.symm)) hb)
          have n3_ := Aside0.mk (Kd.V_below (Kd.V_elderB (by (with_reducible repeat (first | apply Kd.V_alloc | apply Kd.V_drewN | apply Kd.V_drew)); exact HL102_1.out) gb103 (Nat.le_of_eq hg.symm)) hb)
          have n4_ := Aside0.mk (Kd.C_below (by repeat (first | (with_reducible exact HR101_1.out) | (with_reducible refine Kd.C_alloc ?_ _) | (with_reducible refine Kd.C_drewN ?_ _) | (with_reducible refine Kd.C_drew ?_) | exact HR101_1.out)) hb)
          have n5_ := Aside0.mk (Kd.C_below (by repeat (first | (with_reducible exact HR102_1.out) | (with_reducible refine Kd.C_alloc ?_ _) | (with_reducible refine Kd.C_drewN ?_ _) | (with_reducible refine Kd.C_drew ?_) | exact HR102_1.out)) hb)
          have n6_ := Aside0.mk (below_step (by repeat (first | (with_reducible first | exact HB.out | apply below_alloc | apply pw_below_drewN | apply below_drew1) | exact HB.out)) hb)
          have n7_ := Aside0.mk (hbox)
          have n8_ := Aside0.mk ((by rw [hg]; exact (below_size (by repeat (first | (with_reducible first | exact HB.out | apply below_alloc | apply pw_below_drewN | apply below_drew1) | exact HB.out))) : w.heap.size ≤ gb103))
          have n9_ := Aside0.mk ((by rw [hg]; exact (below_size (by repeat (first | (with_reducible first | exact HB.out | apply below_alloc | apply pw_below_drewN | apply below_drew1) | exact HB.out))) : w.heap.size ≤ gb103))
          clear HO_0
          clear HO_3
          clear HL101_1
          clear HL102_1
          clear HR101_1
          clear HR102_1
          clear HB
          have HO_0 := n0_
          have HO_3 := n1_
          have HL101_1 := n2_
          have HL102_1 := n3_
          have HR101_1 := n4_
          have HR102_1 := n5_
          have HB := n6_
          have BK103 := n7_
          have GW103 := n8_
          have GE103 := n9_
          clear n0_ n1_ n2_ n3_ n4_ n5_ n6_ n7_ n8_ n9_
          clear hb hbox hg
          refine hK.out _ _ ⟨HS0_, HS1_, HS2_, HS3_⟩ (fun hHeld => ?_)
          clear hK K
          refine norm_ (a' := ?_) ?_ ?_
          rotate_left
          ·show Act.put _ (some 5) _ = _
           simp only [Act.put, List.setIfInBounds_toArray, List.set_cons_zero, List.set_cons_succ, i64_w, i32_w]
           rfl
          refine one_ (i := 15) (N := none) #[true, true, true, true, true, true, true, true, true, true, true, true, true, true, true, true] rfl rfl (one_of HT_.out (by kernel_rfl)) (by decide) (fun K hK => ?_)
          have hs12 : w11.cell? ⟨gb103, 0, none⟩ = some (.string (⟨#[]⟩ : ByteArray)) := (blk_cell BK103.out 0).trans rfl
          have hfs12 := blk_frozen BK103.out 0
          have hs13 : w11.cell? ⟨gb103, 1, none⟩ = some (.slice none 0 0) := (blk_cell BK103.out 1).trans rfl
          have hfs13 := blk_frozen BK103.out 1
          refine skip_ (w1 := ?_) (by rfl) rfl ?_ ?_
          rotate_left
          ·go_simp
           rfl
          refine hK.out _ _ ⟨((cell_far (p := ⟨gb103, _, none⟩) (by first | exact NE103.out | (rw [add_block]; exact NE103.out) | (show (Addr.add _ _).block ≠ _; rw [add_block]; exact NE103.out) | (dsimp only; exact NE103.out)) _).trans (((cell_far (p := ⟨gb103, _, none⟩) (by first | exact NE103.out | (rw [add_block]; exact NE103.out) | (show (Addr.add _ _).block ≠ _; rw [add_block]; exact NE103.out) | (dsimp only; exact NE103.out)) _).trans (hHeld.1)))), ((cell_far (p := ⟨gb103, _, none⟩) (by first | exact NE103.out | (rw [add_block]; exact NE103.out) | (show (Addr.add _ _).block ≠ _; rw [add_block]; exact NE103.out) | (dsimp only; exact NE103.out)) _).trans (((cell_far (p := ⟨gb103, _, none⟩) (by first | exact NE103.out | (rw [add_block]; exact NE103.out) | (show (Addr.add _ _).block ≠ _; rw [add_block]; exact NE103.out) | (dsimp only; exact NE103.out)) _).trans (hHeld.2.1)))), ((cell_far (p := ⟨gb103, _, none⟩) (by first | exact NE103.out | (rw [add_block]; exact NE103.out) | (show (Addr.add _ _).block ≠ _; rw [add_block]; exact NE103.out) | (dsimp only; exact NE103.out)) _).trans (((cell_far (p := ⟨gb103, _, none⟩) (by first | exact NE103.out | (rw [add_block]; exact NE103.out) | (show (Addr.add _ _).block ≠ _; rw [add_block]; exact NE103.out) | (dsimp only; exact NE103.out)) _).trans (hHeld.2.2.1)))), ((cell_far (p := ⟨gb103, _, none⟩) (by first | exact NE103.out | (rw [add_block]; exact NE103.out) | (show (Addr.add _ _).block ≠ _; rw [add_block]; exact NE103.out) | (dsimp only; exact NE103.out)) _).trans (((cell_far (p := ⟨gb103, _, none⟩) (by first | exact NE103.out | (rw [add_block]; exact NE103.out) | (show (Addr.add _ _).block ≠ _; rw [add_block]; exact NE103.out) | (dsimp only; exact NE103.out)) _).trans (hHeld.2.2.2))))⟩ (fun hHeld => ?_)
          clear hK K
          refine done_ (done_of HT_.out (by kernel_rfl)) ?_
          try go_wp2
          (try simp only [Act.put, List.setIfInBounds_toArray, List.set_cons_zero, List.set_cons_succ])
          go_loopg [6] kj1 (fun kq v6 w' => ∃ (x6_3 : Int) (x104001_3 : List (S37)) (u104001 : Value), v6 = .int .i64 x6_3 ∧ Aside0 (cavillaw05_Few.l1 kq l0 x3_1 x4_1 x6_3 (((rd_T47 l0 x4_1).f0).extract 0 ((ji7) : Int).toNat) x104001_3 = some r) ∧ Aside0 (kq ≤ kj1) ∧ Aside0 (Kd.V k47 47 w' w.heap.size (fun k_ => (P0_ k_ ∨ w.heap.size ≤ k_) ∧ some k_ ≠ (u3 : Value).ownBlock ∧ some k_ ≠ (u104001 : Value).ownBlock ∧ k_ ≠ gb103) (.slice (some ad101) l0.length c0) l0) ∧ Aside0 (Kd.N k47 47 w' w.heap.size (fun k_ => (P0_ k_ ∨ w.heap.size ≤ k_) ∧ some k_ ≠ (u104001 : Value).ownBlock ∧ k_ ≠ gb103) u3 x3_1) ∧ Aside0 (Kd.N k37 37 w' w.heap.size (fun k_ => (P0_ k_ ∨ w.heap.size ≤ k_) ∧ some k_ ≠ (u3 : Value).ownBlock ∧ k_ ≠ gb103) u104001 x104001_3) ∧ Aside0 (w'.heap[gb103]? = some (.cells #[.string (((rd_T47 l0 x4_1).f0).extract 0 ((ji7) : Int).toNat), u104001] 47 (0, 0))) ∧ Aside0 (Below w.heap.size w w'))
          case atStart => exact ⟨(0), (([] : List (S37))), (.slice none 0 0), (by first | rfl | (simp; done) | (simp [*]; done)), H', ⟨Nat.le_refl _⟩, ⟨by (with_reducible repeat (first | apply Kd.V_alloc | apply Kd.V_drewN | apply Kd.V_drew)); exact Kd.V_mono (Kd.V_far (p := ⟨gb103, 1, none⟩) (Kd.V_far (p := ⟨gb103, 0, none⟩) (Kd.V_mono HO_0.out (fun k_ hk => (⟨hk, hk.2⟩ : _ ∧ k_ ≠ gb103))) (fun _ hk => hk.2) (.string (((rd_T47 l0 x4_1).f0).extract 0 ((ji7) : Int).toNat))) (fun _ hk => hk.2) (.slice none 0 0)) (fun _ hk => ⟨hk.1.1.1, ⟨hk.1.1.2, ⟨(by simp [Value.ownBlock]), hk.1.2⟩⟩⟩)⟩, ⟨by (with_reducible repeat (first | apply Kd.N_alloc | apply Kd.N_drewN | apply Kd.N_drew)); exact Kd.N_mono (Kd.N_far (p := ⟨gb103, 1, none⟩) (Kd.N_far (p := ⟨gb103, 0, none⟩) (Kd.N_mono HO_3.out (fun k_ hk => (⟨hk, hk.2⟩ : _ ∧ k_ ≠ gb103))) (fun _ hk => hk.2) (.string (((rd_T47 l0 x4_1).f0).extract 0 ((ji7) : Int).toNat))) (fun _ hk => hk.2) (.slice none 0 0)) (fun _ hk => ⟨hk.1.1, ⟨(by simp [Value.ownBlock]), hk.1.2⟩⟩)⟩, ⟨by first | exact Kd.S_nil _ _ _ _ _ | exact Kd.N_nil _ _ _ _ _ | exact Kd.V_nil _ _ _ _ _ | exact Kd.Q_nil _ _ _ _ _ | exact Kd.R_nil _ _ _ _ _⟩, ⟨by (with_reducible repeat (first | refine blk_drewN ?_ _ | refine blk_drew ?_ | refine blk_alloc ?_ _)); refine blk_put (cs := #[.string (((rd_T47 l0 x4_1).f0).extract 0 ((ji7) : Int).toNat), .slice none 0 0]) ?_ 1 _ rfl; (with_reducible repeat (first | refine blk_drewN ?_ _ | refine blk_drew ?_ | refine blk_alloc ?_ _)); refine blk_put (cs := #[.string (⟨#[]⟩ : ByteArray), .slice none 0 0]) ?_ 0 _ rfl; (with_reducible repeat (first | refine blk_drewN ?_ _ | refine blk_drew ?_ | refine blk_alloc ?_ _)); exact BK103.out⟩, ⟨by repeat (first | (with_reducible first | exact HB.out | apply below_alloc | apply pw_below_drewN | apply below_drew1 | refine below_set ?_ GE103.out) | exact HB.out)⟩⟩
          case round =>
           clear H'
           try clear c1
           try clear p1
           try clear q1
           try clear hx1
           try clear p2
           try clear c3
           try clear c3b0
           try clear c4
           try clear c5
           try clear c5b0
           try clear c6
           try clear c6b0
           try clear c8
           try clear c8b0
           try clear c8b1
           try clear c9
           try clear c9b0
           try clear c9b1
           try clear c10
           try clear p10
           try clear q10
           try clear hx10
           try clear c12
           try clear hx101_0
           try clear hx101_1
           try clear hx102_0
           try clear hx102_1
           try clear p101
           try clear p102
           try clear p2
           try clear q101
           try clear q102
           obtain ⟨x6_3, x104001_3, u104001, rfl, HA, HK3, HO_0, HO_3, HO_104001, BK103, HB⟩ := hrel
           cases gk with
           | zero => exact absurd HA.out (by simp [cavillaw05_Few.l1])
           | succ k3 =>
            have H := HA.out
            clear HA
            simp only [cavillaw05_Few.l1] at H
            by_cases c14 : 0 ≤ x4_1
            ·rw [if_pos c14] at H
             have c14b0 : decide (0 ≤ x4_1) = true := decide_eq_true c14
             clear c14
             by_cases c15 : x4_1 < (l0.length : Int)
             ·rw [if_pos c15] at H
              have c15b0 : decide (x4_1 < (l0.length : Int)) = true := decide_eq_true c15
              clear c15
              by_cases c16 : x6_3 < (((rd_T47 l0 x4_1).f1).length : Int)
              ·rw [if_pos c16] at H
               have c16b0 : decide (x6_3 < (((rd_T47 l0 x4_1).f1).length : Int)) = true := decide_eq_true c16
               clear c16
               by_cases c17 : x6_3 < 6
               ·rw [if_pos c17] at H
                have c17b0 : decide (x6_3 < 6) = true := decide_eq_true c17
                clear c17
                by_cases c18 : 0 ≤ x6_3
                ·rw [if_pos c18] at H
                 have c18b0 : decide (0 ≤ x6_3) = true := decide_eq_true c18
                 clear c18
                 obtain ⟨ji19, hji19⟩ : ∃ j_ : Int, (mn (((rd_T37 ((rd_T47 l0 x4_1).f1) x6_3).f0).size : Int) 70) = j_ := ⟨_, rfl⟩
                 replace H : (if 0 ≤ (ji19) then (if (ji19) ≤ (((rd_T37 ((rd_T47 l0 x4_1).f1) x6_3).f0).size : Int) then (if 0 ≤ (mn (((rd_T37 ((rd_T47 l0 x4_1).f1) x6_3).f1).length : Int) 300) then (if (mn (((rd_T37 ((rd_T47 l0 x4_1).f1) x6_3).f1).length : Int) 300) ≤ (((rd_T37 ((rd_T47 l0 x4_1).f1) x6_3).f1).length : Int) then (if x104001_3.length < 3518437208883 then (cavillaw05_Few.l1 k3 l0 x3_1 x4_1 (wrap64 (x6_3 + 1)) (((rd_T47 l0 x4_1).f0).extract 0 ((ji7) : Int).toNat) (x104001_3 ++ [(⟨((rd_T37 ((rd_T47 l0 x4_1).f1) x6_3).f0).extract 0 ((ji19) : Int).toNat, (((rd_T37 ((rd_T47 l0 x4_1).f1) x6_3).f1).take ((mn (((rd_T37 ((rd_T47 l0 x4_1).f1) x6_3).f1).length : Int) 300) : Int).toNat)⟩ : S37)])) else (none)) else (none)) else (none)) else (none)) else (none)) = some r := by first | (rw [hji19] at H; exact H) | (simp only [hji19] at H ⊢; exact H)
                 have hji19_ : (if 70 < (((rd_T37 ((rd_T47 l0 x4_1).f1) x6_3).f0).size : Int) then 70 else (((rd_T37 ((rd_T47 l0 x4_1).f1) x6_3).f0).size : Int)) = ji19 := hji19
                 by_cases c20 : 0 ≤ (ji19)
                 ·rw [if_pos c20] at H
                  have c20b0 := eq_true c20
                  have c20b1 : decide (0 ≤ (ji19)) = true := decide_eq_true c20
                  clear c20
                  by_cases c21 : (ji19) ≤ (((rd_T37 ((rd_T47 l0 x4_1).f1) x6_3).f0).size : Int)
                  ·rw [if_pos c21] at H
                   have c21b0 := eq_true c21
                   have c21b1 : decide ((ji19) ≤ (((rd_T37 ((rd_T47 l0 x4_1).f1) x6_3).f0).size : Int)) = true := decide_eq_true c21
                   clear c21
                   obtain ⟨ji22, hji22⟩ : ∃ j_ : Int, (mn (((rd_T37 ((rd_T47 l0 x4_1).f1) x6_3).f1).length : Int) 300) = j_ := ⟨_, rfl⟩
                   replace H : (if 0 ≤ (ji22) then (if (ji22) ≤ (((rd_T37 ((rd_T47 l0 x4_1).f1) x6_3).f1).length : Int) then (if x104001_3.length < 3518437208883 then (cavillaw05_Few.l1 k3 l0 x3_1 x4_1 (wrap64 (x6_3 + 1)) (((rd_T47 l0 x4_1).f0).extract 0 ((ji7) : Int).toNat) (x104001_3 ++ [(⟨((rd_T37 ((rd_T47 l0 x4_1).f1) x6_3).f0).extract 0 ((ji19) : Int).toNat, (((rd_T37 ((rd_T47 l0 x4_1).f1) x6_3).f1).take ((ji22) : Int).toNat)⟩ : S37)])) else (none)) else (none)) else (none)) = some r := by first | (rw [hji22] at H; exact H) | (simp only [hji22] at H ⊢; exact H)
                   have hji22_ : (if 300 < (((rd_T37 ((rd_T47 l0 x4_1).f1) x6_3).f1).length : Int) then 300 else (((rd_T37 ((rd_T47 l0 x4_1).f1) x6_3).f1).length : Int)) = ji22 := hji22
                   by_cases c23 : 0 ≤ (ji22)
                   ·rw [if_pos c23] at H
                    have c23b0 := eq_true c23
                    have c23b1 : decide (0 ≤ (ji22)) = true := decide_eq_true c23
                    clear c23
                    by_cases c24 : (ji22) ≤ (((rd_T37 ((rd_T47 l0 x4_1).f1) x6_3).f1).length : Int)
                    ·rw [if_pos c24] at H
                     have c24b0 := eq_true c24
                     have c24b1 : decide ((ji22) ≤ (((rd_T37 ((rd_T47 l0 x4_1).f1) x6_3).f1).length : Int)) = true := decide_eq_true c24
                     clear c24
                     obtain ⟨y108, hy108⟩ : ∃ y_ : List Int, y_ = (((rd_T37 ((rd_T47 l0 x4_1).f1) x6_3).f1).take ((ji22) : Int).toNat) := ⟨_, rfl⟩
                     replace H : (if x104001_3.length < 3518437208883 then (cavillaw05_Few.l1 k3 l0 x3_1 x4_1 (wrap64 (x6_3 + 1)) (((rd_T47 l0 x4_1).f0).extract 0 ((ji7) : Int).toNat) (x104001_3 ++ [(⟨((rd_T37 ((rd_T47 l0 x4_1).f1) x6_3).f0).extract 0 ((ji19) : Int).toNat, y108⟩ : S37)])) else (none)) = some r := by first | (rw [hy108]; with_reducible exact H) | (have H2_ := (Option.bind_some _ _).symm.trans H; rw [hy108]; with_reducible exact H2_) | (have H2_ := (Option.bind_some _ _).symm.trans H; with_reducible exact H2_) | with_reducible exact H | (rw [hy108]; exact H) | exact H
                     have Ny108 := Aside0.mk hy108
                     clear hy108
                     by_cases c25 : x104001_3.length < 3518437208883
                     ·rw [if_pos c25] at H
                      have LMc25 := Aside0.mk c25
                      clear c25
                      obtain ⟨y113, hy113⟩ : ∃ y_ : List (S37), y_ = (x104001_3 ++ [(⟨((rd_T37 ((rd_T47 l0 x4_1).f1) x6_3).f0).extract 0 ((ji19) : Int).toNat, y108⟩ : S37)]) := ⟨_, rfl⟩
                      replace H : (cavillaw05_Few.l1 k3 l0 x3_1 x4_1 (wrap64 (x6_3 + 1)) (((rd_T47 l0 x4_1).f0).extract 0 ((ji7) : Int).toNat) y113) = some r := by first | (rw [hy113]; with_reducible exact H) | (have H2_ := (Option.bind_some _ _).symm.trans H; rw [hy113]; with_reducible exact H2_) | (have H2_ := (Option.bind_some _ _).symm.trans H; with_reducible exact H2_) | with_reducible exact H | (rw [hy113]; exact H) | exact H
                      have Ny113 := Aside0.mk hy113
                      clear hy113
                      have H' := Aside0.mk H
                      clear H
                      have p104 : 0 ≤ (x4_1 : Int) := of_decide_eq_true (by first | (with_reducible assumption) | assumption)
                      have q104 : x4_1 < (l0.length : Int) := of_decide_eq_true (by first | (with_reducible assumption) | assumption)
                      obtain ⟨ad104, A104_1, c104_1, e104, hx104_0, hx104_1, hl104_1, hi104_1⟩ := at_T47 (Kd.V_reads' HO_0.out).2.2 x4_1 p104 q104
                      obtain rfl : ad101 = ad104 := (by injection e104)
                      obtain ⟨ce104, hce104, hMe104, hcc104⟩ := Kd.V_get HO_0.out z47 x4_1 p104 (by first | exact q104 | exact of_decide_eq_true (by first | (with_reducible assumption) | assumption) | (have e_ := (Kd.V_reads' HO_0.out).1; omega))
                      obtain ⟨ua104_1, uc104_1, rfl, ul104_1, ge104_1⟩ := k47_openF hMe104
                      have hv104_1 := hcc104 1 _ rfl
                      rw [add_field _ _ 1 (by omega)] at hv104_1
                      replace hv104_1 := Option.some.inj (hv104_1.symm.trans hx104_1)
                      injection hv104_1 with hva_ hvn_ hvc_
                      rw [hva_] at ge104_1
                      rw [hvc_] at ul104_1
                      have HL104_1 := Aside0.mk (show Kd.V k37 37 _ w.heap.size _ _ ((rd_T47 l0 x4_1).f1) from Kd.V_mk ul104_1 ge104_1)
                      clear hva_ hvn_ hvc_ ge104_1 ul104_1
                      clear hcc104 hce104
                      have HR104_1 := Aside0.mk hi104_1
                      have HC104_1 := Aside0.mk hl104_1
                      clear hi104_1 hl104_1
                      replace p104 := eq_true p104
                      replace q104 := eq_true q104
                      have p105 : 0 ≤ (x4_1 : Int) := of_decide_eq_true (by first | (with_reducible assumption) | assumption)
                      have q105 : x4_1 < (l0.length : Int) := of_decide_eq_true (by first | (with_reducible assumption) | assumption)
                      obtain ⟨ad105, A105_1, c105_1, e105, hx105_0, hx105_1, hl105_1, hi105_1⟩ := at_T47 (Kd.V_reads' HO_0.out).2.2 x4_1 p105 q105
                      obtain rfl : ad101 = ad105 := (by injection e105)
                      obtain ⟨ce105, hce105, hMe105, hcc105⟩ := Kd.V_get HO_0.out z47 x4_1 p105 (by first | exact q105 | exact of_decide_eq_true (by first | (with_reducible assumption) | assumption) | (have e_ := (Kd.V_reads' HO_0.out).1; omega))
                      obtain ⟨ua105_1, uc105_1, rfl, ul105_1, ge105_1⟩ := k47_openF hMe105
                      have hv105_1 := hcc105 1 _ rfl
                      rw [add_field _ _ 1 (by omega)] at hv105_1
                      replace hv105_1 := Option.some.inj (hv105_1.symm.trans hx105_1)
                      injection hv105_1 with hva_ hvn_ hvc_
                      rw [hva_] at ge105_1
                      rw [hvc_] at ul105_1
                      have HL105_1 := Aside0.mk (show Kd.V k37 37 _ w.heap.size _ _ ((rd_T47 l0 x4_1).f1) from Kd.V_mk ul105_1 ge105_1)
                      clear hva_ hvn_ hvc_ ge105_1 ul105_1
                      clear hcc105 hce105
                      have HR105_1 := Aside0.mk hi105_1
                      have HC105_1 := Aside0.mk hl105_1
                      clear hi105_1 hl105_1
                      replace p105 := eq_true p105
                      replace q105 := eq_true q105
                      have ea_ := Option.some.inj (hx104_1.symm.trans hx105_1)
                      injection ea_ with ea_ en_ ec_
                      subst ea_
                      subst ec_
                      clear en_
                      have p106 : 0 ≤ (x6_3 : Int) := of_decide_eq_true (by first | (with_reducible assumption) | assumption)
                      have q106 : x6_3 < (((rd_T47 l0 x4_1).f1).length : Int) := of_decide_eq_true (by first | (with_reducible assumption) | assumption)
                      obtain ⟨ad106, A106_1, c106_1, e106, hx106_0, hx106_1, hl106_1, hi106_1⟩ := at_T37 (by repeat (first | (with_reducible exact HR105_1.out) | (with_reducible refine Kd.C_alloc ?_ _) | (with_reducible refine Kd.C_drewN ?_ _) | (with_reducible refine Kd.C_drew ?_) | exact HR105_1.out)) x6_3 p106 q106
                      cases e106
                      obtain ⟨ce106, hce106, hMe106, hcc106⟩ := Kd.V_get HL105_1.out z37 x6_3 p106 (by first | exact q106 | exact of_decide_eq_true (by first | (with_reducible assumption) | assumption) | (have e_ := (Kd.V_reads' HL105_1.out).1; omega))
                      obtain ⟨ua106_1, uc106_1, rfl, ul106_1, ge106_1⟩ := k37_openF hMe106
                      have hv106_1 := hcc106 1 _ rfl
                      rw [add_field _ _ 1 (by omega)] at hv106_1
                      replace hv106_1 := Option.some.inj (hv106_1.symm.trans hx106_1)
                      injection hv106_1 with hva_ hvn_ hvc_
                      rw [hva_] at ge106_1
                      rw [hvc_] at ul106_1
                      have HL106_1 := Aside0.mk (show Kd.V (Kd.int .u8) 5 _ w.heap.size _ _ ((rd_T37 ((rd_T47 l0 x4_1).f1) x6_3).f1) from Kd.V_mk ul106_1 ge106_1)
                      clear hva_ hvn_ hvc_ ge106_1 ul106_1
                      clear hcc106 hce106
                      have HR106_1 := Aside0.mk hi106_1
                      have HC106_1 := Aside0.mk hl106_1
                      clear hi106_1 hl106_1
                      replace p106 := eq_true p106
                      replace q106 := eq_true q106
                      try go_wp2_with (first | ((with_reducible refine gate_dst (N := 7) rfl ?_); refine box_event ?hg (N := 7) ?hd (cs := #[.string (⟨#[]⟩ : ByteArray), .slice none 0 0]) (t := 37) ?hr ?_; (case hd => rfl); (case hg => rfl); (case hr => first | (go_simp; done) | (go_simp; rfl)); intro gb107 hg w26 hbox hb; have n0_ := Aside0.mk (Kd.V_below (Kd.V_elderB (by (with_reducible repeat (first | apply Kd.V_alloc | apply Kd.V_drewN | apply Kd.V_drew)); exact HO_0.out) gb107 (Nat.le_of_eq hg.symm)) hb); have n1_ := Aside0.mk (Kd.N_below (Kd.N_elderB (by (with_reducible repeat (first | apply Kd.N_alloc | apply Kd.N_drewN | apply Kd.N_drew)); exact HO_3.out) gb107 (Nat.le_of_eq hg.symm)) hb); have n2_ := Aside0.mk (Kd.N_below (Kd.N_elderB (by (with_reducible repeat (first | apply Kd.N_alloc | apply Kd.N_drewN | apply Kd.N_drew)); exact HO_104001.out) gb107 (Nat.le_of_eq hg.symm)) hb); have n3_ := Aside0.mk (Kd.V_below (Kd.V_elderB (by (with_reducible repeat (first | apply Kd.V_alloc | apply Kd.V_drewN | apply Kd.V_drew)); exact HL104_1.out) gb107 (Nat.le_of_eq hg.symm)) hb); have n4_ := Aside0.mk (Kd.V_below (Kd.V_elderB (by (with_reducible repeat (first | apply Kd.V_alloc | apply Kd.V_drewN | apply Kd.V_drew)); exact HL105_1.out) gb107 (Nat.le_of_eq hg.symm)) hb); have n5_ := Aside0.mk (Kd.V_below (Kd.V_elderB (by (with_reducible repeat (first | apply Kd.V_alloc | apply Kd.V_drewN | apply Kd.V_drew)); exact HL106_1.out) gb107 (Nat.le_of_eq hg.symm)) hb); have n6_ := Aside0.mk (blk_below (g := gb103) (o := .cells #[.string (((rd_T47 l0 x4_1).f0).extract 0 ((ji7) : Int).toNat), u104001] 47 (0, 0)) (by (with_reducible repeat (first | refine blk_drewN ?_ _ | refine blk_drew ?_ | refine blk_alloc ?_ _)); exact BK103.out) hb); have n7_ := Aside0.mk (Kd.C_below (by repeat (first | (with_reducible exact HR104_1.out) | (with_reducible refine Kd.C_alloc ?_ _) | (with_reducible refine Kd.C_drewN ?_ _) | (with_reducible refine Kd.C_drew ?_) | exact HR104_1.out)) hb); have n8_ := Aside0.mk (Kd.C_below (by repeat (first | (with_reducible exact HR105_1.out) | (with_reducible refine Kd.C_alloc ?_ _) | (with_reducible refine Kd.C_drewN ?_ _) | (with_reducible refine Kd.C_drew ?_) | exact HR105_1.out)) hb); have n9_ := Aside0.mk (Kd.C_below (by repeat (first | (with_reducible exact HR106_1.out) | (with_reducible refine Kd.C_alloc ?_ _) | (with_reducible refine Kd.C_drewN ?_ _) | (with_reducible refine Kd.C_drew ?_) | exact HR106_1.out)) hb); have n10_ := Aside0.mk (below_step (by repeat (first | (with_reducible first | exact HB.out | apply below_alloc | apply pw_below_drewN | apply below_drew1 | refine below_set ?_ GE103.out) | exact HB.out)) hb); have n11_ := Aside0.mk (hbox); have n12_ := Aside0.mk ((by rw [hg]; exact (below_size (by repeat (first | (with_reducible first | exact HB.out | apply below_alloc | apply pw_below_drewN | apply below_drew1 | refine below_set ?_ GE103.out) | exact HB.out))) : w.heap.size ≤ gb107)); have n13_ := Aside0.mk ((by rw [hg]; exact (below_size (by repeat (first | (with_reducible first | exact HB.out | apply below_alloc | apply pw_below_drewN | apply below_drew1 | refine below_set ?_ GE103.out) | exact HB.out))) : w.heap.size ≤ gb107)); have n14_ := Aside0.mk ((by rw [hg]; exact Nat.ne_of_lt (blk_lt (g := gb103) (o := .cells #[.string (((rd_T47 l0 x4_1).f0).extract 0 ((ji7) : Int).toNat), u104001] 47 (0, 0)) (by (with_reducible repeat (first | refine blk_drewN ?_ _ | refine blk_drew ?_ | refine blk_alloc ?_ _)); exact BK103.out)) : gb103 ≠ gb107)); have n15_ := Aside0.mk ((by rw [hg]; exact Nat.ne_of_gt (blk_lt (g := gb103) (o := .cells #[.string (((rd_T47 l0 x4_1).f0).extract 0 ((ji7) : Int).toNat), u104001] 47 (0, 0)) (by (with_reducible repeat (first | refine blk_drewN ?_ _ | refine blk_drew ?_ | refine blk_alloc ?_ _)); exact BK103.out)) : gb107 ≠ gb103)); clear HO_0; clear HO_3; clear HO_104001; clear HL104_1; clear HL105_1; clear HL106_1; clear BK103; clear HR104_1; clear HR105_1; clear HR106_1; clear HB; have HO_0 := n0_; have HO_3 := n1_; have HO_104001 := n2_; have HL104_1 := n3_; have HL105_1 := n4_; have HL106_1 := n5_; have BK103 := n6_; have HR104_1 := n7_; have HR105_1 := n8_; have HR106_1 := n9_; have HB := n10_; have BK107 := n11_; have GW107 := n12_; have GE107 := n13_; have NB103_107 := n14_; have NB107_103 := n15_; clear n0_ n1_ n2_ n3_ n4_ n5_ n6_ n7_ n8_ n9_ n10_ n11_ n12_ n13_ n14_ n15_; clear hb hbox hg; have hnb27 := NB107_103.out; have hnc27 := NB103_107.out; have hcz28_0 : w26.cell? ⟨gb107, 0, none⟩ = some (.string (⟨#[]⟩ : ByteArray)) := (blk_cell BK107.out 0).trans rfl; have hcz28_1 : w26.cell? ⟨gb107, 1, none⟩ = some (.slice none 0 0) := (blk_cell BK107.out 1).trans rfl; have hfz28_0 := blk_frozen BK107.out 0; have hfz28_1 := blk_frozen BK107.out 1))
                      have n0_ : Aside0 (Kd.V k47 47 ((w26.setCell ⟨gb107, 0, none⟩ (.string ((rd_T37 ((rd_T47 l0 x4_1).f1) x6_3).f0))).setCell ⟨gb107, 1, none⟩ (.slice A106_1 ((rd_T37 ((rd_T47 l0 x4_1).f1) x6_3).f1).length c106_1)) w.heap.size (fun k_ => (P0_ k_ ∨ w.heap.size ≤ k_) ∧ some k_ ≠ (u3 : Value).ownBlock ∧ some k_ ≠ (u104001 : Value).ownBlock ∧ k_ ≠ gb103 ∧ k_ ≠ gb107) (.slice (some ad101) l0.length c0) l0) := ⟨by (with_reducible repeat (first | apply Kd.V_alloc | apply Kd.V_drewN | apply Kd.V_drew)); exact Kd.V_mono (Kd.V_far (p := ⟨gb107, 1, none⟩) (Kd.V_far (p := ⟨gb107, 0, none⟩) (Kd.V_mono HO_0.out (fun k_ hk => (⟨hk, hk.2⟩ : _ ∧ k_ ≠ gb107))) (fun _ hk => hk.2) (.string ((rd_T37 ((rd_T47 l0 x4_1).f1) x6_3).f0))) (fun _ hk => hk.2) (.slice A106_1 ((rd_T37 ((rd_T47 l0 x4_1).f1) x6_3).f1).length c106_1)) (fun _ hk => ⟨hk.1.1.1, ⟨hk.1.1.2.1, ⟨hk.1.1.2.2.1, ⟨hk.1.1.2.2.2, hk.1.2⟩⟩⟩⟩)⟩
                      have n1_ : Aside0 (Kd.N k47 47 ((w26.setCell ⟨gb107, 0, none⟩ (.string ((rd_T37 ((rd_T47 l0 x4_1).f1) x6_3).f0))).setCell ⟨gb107, 1, none⟩ (.slice A106_1 ((rd_T37 ((rd_T47 l0 x4_1).f1) x6_3).f1).length c106_1)) w.heap.size (fun k_ => (P0_ k_ ∨ w.heap.size ≤ k_) ∧ some k_ ≠ (u104001 : Value).ownBlock ∧ k_ ≠ gb103 ∧ k_ ≠ gb107) u3 x3_1) := ⟨by (with_reducible repeat (first | apply Kd.N_alloc | apply Kd.N_drewN | apply Kd.N_drew)); exact Kd.N_mono (Kd.N_far (p := ⟨gb107, 1, none⟩) (Kd.N_far (p := ⟨gb107, 0, none⟩) (Kd.N_mono HO_3.out (fun k_ hk => (⟨hk, hk.2⟩ : _ ∧ k_ ≠ gb107))) (fun _ hk => hk.2) (.string ((rd_T37 ((rd_T47 l0 x4_1).f1) x6_3).f0))) (fun _ hk => hk.2) (.slice A106_1 ((rd_T37 ((rd_T47 l0 x4_1).f1) x6_3).f1).length c106_1)) (fun _ hk => ⟨hk.1.1.1, ⟨hk.1.1.2.1, ⟨hk.1.1.2.2, hk.1.2⟩⟩⟩)⟩
                      have n2_ : Aside0 (Kd.N k37 37 ((w26.setCell ⟨gb107, 0, none⟩ (.string ((rd_T37 ((rd_T47 l0 x4_1).f1) x6_3).f0))).setCell ⟨gb107, 1, none⟩ (.slice A106_1 ((rd_T37 ((rd_T47 l0 x4_1).f1) x6_3).f1).length c106_1)) w.heap.size (fun k_ => (P0_ k_ ∨ w.heap.size ≤ k_) ∧ some k_ ≠ (u3 : Value).ownBlock ∧ k_ ≠ gb103 ∧ k_ ≠ gb107) u104001 x104001_3) := ⟨by (with_reducible repeat (first | apply Kd.N_alloc | apply Kd.N_drewN | apply Kd.N_drew)); exact Kd.N_mono (Kd.N_far (p := ⟨gb107, 1, none⟩) (Kd.N_far (p := ⟨gb107, 0, none⟩) (Kd.N_mono HO_104001.out (fun k_ hk => (⟨hk, hk.2⟩ : _ ∧ k_ ≠ gb107))) (fun _ hk => hk.2) (.string ((rd_T37 ((rd_T47 l0 x4_1).f1) x6_3).f0))) (fun _ hk => hk.2) (.slice A106_1 ((rd_T37 ((rd_T47 l0 x4_1).f1) x6_3).f1).length c106_1)) (fun _ hk => ⟨hk.1.1.1, ⟨hk.1.1.2.1, ⟨hk.1.1.2.2, hk.1.2⟩⟩⟩)⟩
                      have n3_ : Aside0 (Kd.V k37 37 ((w26.setCell ⟨gb107, 0, none⟩ (.string ((rd_T37 ((rd_T47 l0 x4_1).f1) x6_3).f0))).setCell ⟨gb107, 1, none⟩ (.slice A106_1 ((rd_T37 ((rd_T47 l0 x4_1).f1) x6_3).f1).length c106_1)) w.heap.size (fun k_ => (P0_ k_ ∨ w.heap.size ≤ k_) ∧ some k_ ≠ (u3 : Value).ownBlock ∧ some k_ ≠ (u104001 : Value).ownBlock ∧ k_ ≠ gb103 ∧ k_ ≠ gb107) (.slice (some ad106) ((rd_T47 l0 x4_1).f1).length c104_1) ((rd_T47 l0 x4_1).f1)) := ⟨by (with_reducible repeat (first | apply Kd.V_alloc | apply Kd.V_drewN | apply Kd.V_drew)); exact Kd.V_mono (Kd.V_far (p := ⟨gb107, 1, none⟩) (Kd.V_far (p := ⟨gb107, 0, none⟩) (Kd.V_mono HL104_1.out (fun k_ hk => (⟨hk, hk.2⟩ : _ ∧ k_ ≠ gb107))) (fun _ hk => hk.2) (.string ((rd_T37 ((rd_T47 l0 x4_1).f1) x6_3).f0))) (fun _ hk => hk.2) (.slice A106_1 ((rd_T37 ((rd_T47 l0 x4_1).f1) x6_3).f1).length c106_1)) (fun _ hk => ⟨hk.1.1.1, ⟨hk.1.1.2.1, ⟨hk.1.1.2.2.1, ⟨hk.1.1.2.2.2, hk.1.2⟩⟩⟩⟩)⟩
                      have n4_ : Aside0 (Kd.V k37 37 ((w26.setCell ⟨gb107, 0, none⟩ (.string ((rd_T37 ((rd_T47 l0 x4_1).f1) x6_3).f0))).setCell ⟨gb107, 1, none⟩ (.slice A106_1 ((rd_T37 ((rd_T47 l0 x4_1).f1) x6_3).f1).length c106_1)) w.heap.size (fun k_ => (P0_ k_ ∨ w.heap.size ≤ k_) ∧ some k_ ≠ (u3 : Value).ownBlock ∧ some k_ ≠ (u104001 : Value).ownBlock ∧ k_ ≠ gb103 ∧ k_ ≠ gb107) (.slice (some ad106) ((rd_T47 l0 x4_1).f1).length c104_1) ((rd_T47 l0 x4_1).f1)) := ⟨by (with_reducible repeat (first | apply Kd.V_alloc | apply Kd.V_drewN | apply Kd.V_drew)); exact Kd.V_mono (Kd.V_far (p := ⟨gb107, 1, none⟩) (Kd.V_far (p := ⟨gb107, 0, none⟩) (Kd.V_mono HL105_1.out (fun k_ hk => (⟨hk, hk.2⟩ : _ ∧ k_ ≠ gb107))) (fun _ hk => hk.2) (.string ((rd_T37 ((rd_T47 l0 x4_1).f1) x6_3).f0))) (fun _ hk => hk.2) (.slice A106_1 ((rd_T37 ((rd_T47 l0 x4_1).f1) x6_3).f1).length c106_1)) (fun _ hk => ⟨hk.1.1.1, ⟨hk.1.1.2.1, ⟨hk.1.1.2.2.1, ⟨hk.1.1.2.2.2, hk.1.2⟩⟩⟩⟩)⟩
                      have n5_ : Aside0 (Kd.V (Kd.int .u8) 5 ((w26.setCell ⟨gb107, 0, none⟩ (.string ((rd_T37 ((rd_T47 l0 x4_1).f1) x6_3).f0))).setCell ⟨gb107, 1, none⟩ (.slice A106_1 ((rd_T37 ((rd_T47 l0 x4_1).f1) x6_3).f1).length c106_1)) w.heap.size (fun k_ => (P0_ k_ ∨ w.heap.size ≤ k_) ∧ some k_ ≠ (u3 : Value).ownBlock ∧ some k_ ≠ (u104001 : Value).ownBlock ∧ k_ ≠ gb103 ∧ k_ ≠ gb107) (.slice A106_1 ((rd_T37 ((rd_T47 l0 x4_1).f1) x6_3).f1).length c106_1) ((rd_T37 ((rd_T47 l0 x4_1).f1) x6_3).f1)) := ⟨by (with_reducible repeat (first | apply Kd.V_alloc | apply Kd.V_drewN | apply Kd.V_drew)); exact Kd.V_mono (Kd.V_far (p := ⟨gb107, 1, none⟩) (Kd.V_far (p := ⟨gb107, 0, none⟩) (Kd.V_mono HL106_1.out (fun k_ hk => (⟨hk, hk.2⟩ : _ ∧ k_ ≠ gb107))) (fun _ hk => hk.2) (.string ((rd_T37 ((rd_T47 l0 x4_1).f1) x6_3).f0))) (fun _ hk => hk.2) (.slice A106_1 ((rd_T37 ((rd_T47 l0 x4_1).f1) x6_3).f1).length c106_1)) (fun _ hk => ⟨hk.1.1.1, ⟨hk.1.1.2.1, ⟨hk.1.1.2.2.1, ⟨hk.1.1.2.2.2, hk.1.2⟩⟩⟩⟩)⟩
                      have n6_ : Aside0 (((w26.setCell ⟨gb107, 0, none⟩ (.string ((rd_T37 ((rd_T47 l0 x4_1).f1) x6_3).f0))).setCell ⟨gb107, 1, none⟩ (.slice A106_1 ((rd_T37 ((rd_T47 l0 x4_1).f1) x6_3).f1).length c106_1)).heap[gb103]? = some (.cells #[.string (((rd_T47 l0 x4_1).f0).extract 0 ((ji7) : Int).toNat), u104001] 47 (0, 0))) := ⟨by (with_reducible repeat (first | refine blk_drewN ?_ _ | refine blk_drew ?_ | refine blk_alloc ?_ _)); refine blk_far ?_ NB103_107.out _; (with_reducible repeat (first | refine blk_drewN ?_ _ | refine blk_drew ?_ | refine blk_alloc ?_ _)); refine blk_far ?_ NB103_107.out _; (with_reducible repeat (first | refine blk_drewN ?_ _ | refine blk_drew ?_ | refine blk_alloc ?_ _)); exact BK103.out⟩
                      have n7_ : Aside0 (((w26.setCell ⟨gb107, 0, none⟩ (.string ((rd_T37 ((rd_T47 l0 x4_1).f1) x6_3).f0))).setCell ⟨gb107, 1, none⟩ (.slice A106_1 ((rd_T37 ((rd_T47 l0 x4_1).f1) x6_3).f1).length c106_1)).heap[gb107]? = some (.cells #[.string ((rd_T37 ((rd_T47 l0 x4_1).f1) x6_3).f0), .slice A106_1 ((rd_T37 ((rd_T47 l0 x4_1).f1) x6_3).f1).length c106_1] 37 (0, 0))) := ⟨by (with_reducible repeat (first | refine blk_drewN ?_ _ | refine blk_drew ?_ | refine blk_alloc ?_ _)); refine blk_put (cs := #[.string ((rd_T37 ((rd_T47 l0 x4_1).f1) x6_3).f0), .slice none 0 0]) ?_ 1 _ rfl; (with_reducible repeat (first | refine blk_drewN ?_ _ | refine blk_drew ?_ | refine blk_alloc ?_ _)); refine blk_put (cs := #[.string (⟨#[]⟩ : ByteArray), .slice none 0 0]) ?_ 0 _ rfl; (with_reducible repeat (first | refine blk_drewN ?_ _ | refine blk_drew ?_ | refine blk_alloc ?_ _)); exact BK107.out⟩
                      have n8_ : Aside0 (Below w.heap.size w ((w26.setCell ⟨gb107, 0, none⟩ (.string ((rd_T37 ((rd_T47 l0 x4_1).f1) x6_3).f0))).setCell ⟨gb107, 1, none⟩ (.slice A106_1 ((rd_T37 ((rd_T47 l0 x4_1).f1) x6_3).f1).length c106_1))) := ⟨by repeat (first | (with_reducible first | exact HB.out | apply below_alloc | apply pw_below_drewN | apply below_drew1 | refine below_set ?_ GE103.out | refine below_set ?_ GE107.out) | exact HB.out)⟩
                      (try clear HO_0)
                      (try clear HO_3)
                      (try clear HO_104001)
                      (try clear HL104_1)
                      (try clear HL105_1)
                      (try clear HL106_1)
                      (try clear BK103)
                      (try clear BK107)
                      (try clear HB)
                      generalize ((w26.setCell ⟨gb107, 0, none⟩ (.string ((rd_T37 ((rd_T47 l0 x4_1).f1) x6_3).f0))).setCell ⟨gb107, 1, none⟩ (.slice A106_1 ((rd_T37 ((rd_T47 l0 x4_1).f1) x6_3).f1).length c106_1)) = w29 at n0_ n1_ n2_ n3_ n4_ n5_ n6_ n7_ n8_ ⊢
                      have HO_0 := n0_
                      have HO_3 := n1_
                      have HO_104001 := n2_
                      have HL104_1 := n3_
                      have HL105_1 := n4_
                      have HL106_1 := n5_
                      have BK103 := n6_
                      have BK107 := n7_
                      have HB := n8_
                      clear n0_ n1_ n2_ n3_ n4_ n5_ n6_ n7_ n8_
                      have n0_ := Aside0.mk (Kd.V_drew HO_0.out)
                      have n1_ := Aside0.mk (Kd.N_drew HO_3.out)
                      have n2_ := Aside0.mk (Kd.N_drew HO_104001.out)
                      have n3_ := Aside0.mk (Kd.V_drew HL104_1.out)
                      have n4_ := Aside0.mk (Kd.V_drew HL105_1.out)
                      have n5_ := Aside0.mk (Kd.V_drew HL106_1.out)
                      have n6_ := Aside0.mk (blk_drew BK103.out)
                      have n7_ := Aside0.mk (blk_drew BK107.out)
                      have n8_ := Aside0.mk (below_drew1 HB.out)
                      clear HO_0
                      clear HO_3
                      clear HO_104001
                      clear HL104_1
                      clear HL105_1
                      clear HL106_1
                      clear BK103
                      clear BK107
                      clear HB
                      have HO_0 := n0_
                      have HO_3 := n1_
                      have HO_104001 := n2_
                      have HL104_1 := n3_
                      have HL105_1 := n4_
                      have HL106_1 := n5_
                      have BK103 := n6_
                      have BK107 := n7_
                      have HB := n8_
                      clear n0_ n1_ n2_ n3_ n4_ n5_ n6_ n7_ n8_
                      have q31 : ((ji22) : Int) ≤ ((((rd_T37 ((rd_T47 l0 x4_1).f1) x6_3).f1).length : Int) : Int) := of_decide_eq_true (by first | (with_reducible assumption) | assumption)
                      obtain ⟨i031, hi031, _, hsz31, _⟩ := info_parts info5
                      have hroom31 : ((rd_T37 ((rd_T47 l0 x4_1).f1) x6_3).f1).length ≤ c106_1 := HC106_1.out
                      have hC31 : Kd.F (Kd.int .u8) _ _ A106_1 ((rd_T37 ((rd_T47 l0 x4_1).f1) x6_3).f1).length ((rd_T37 ((rd_T47 l0 x4_1).f1) x6_3).f1) := (Kd.V_at (base := w.heap.size) HL106_1.out).2.2
                      have hcut31 := cut_to (P := Tryd.prog) 35 5 .i64 Tryd.underlying35 hi031 A106_1 ((rd_T37 ((rd_T47 l0 x4_1).f1) x6_3).f1).length c106_1 (ji22) (of_decide_eq_true (by first | (with_reducible assumption) | assumption)) q31 hroom31
                      have hr31 := Kd.F_take (m := ((ji22) : Int).toNat) hC31 (by omega)
                      have hy31 : y108.length = ((ji22) : Int).toNat := (by rw [Ny108.out, List.length_take]; omega)
                      rw [← Ny108.out] at hr31
                      rw [← hy31] at hcut31
                      have HO112 := Aside0.mk (show Kd.V (Kd.int .u8) 5 _ w.heap.size _ (.slice A106_1 y108.length c106_1) y108 from Kd.V_mk (by omega) hr31)
                      have HC112 := Aside0.mk (show y108.length ≤ c106_1 from by omega)
                      clear hr31 hC31 hroom31 hi031 hsz31
                      have KY31 := Aside0.mk hy31
                      clear hy31
                      replace q31 := eq_true q31
                      refine start_ (n := 21) (S := fun w' => w'.cell? ⟨gb103, 0, none⟩ = some (.string (((rd_T47 l0 x4_1).f0).extract 0 ((ji7) : Int).toNat)) ∧ w'.cell? ⟨gb103, 1, none⟩ = some (u104001) ∧ w'.cell? ⟨gb107, 0, none⟩ = some (.string ((rd_T37 ((rd_T47 l0 x4_1).f1) x6_3).f0)) ∧ w'.cell? ⟨gb107, 1, none⟩ = some (.slice A106_1 ((rd_T37 ((rd_T47 l0 x4_1).f1) x6_3).f1).length c106_1)) (ds := [20]) #[false, false, false, false, false, false, false, false, false, false, false, false, false, false, false, false, false, false, false, false, false] (by kernel_rfl) rfl rfl ⟨(blk_cell BK103.out 0).trans rfl, (blk_cell BK103.out 1).trans rfl, (blk_cell BK107.out 0).trans rfl, (blk_cell BK107.out 1).trans rfl⟩ (fun hHeld => ?_); refine with_tabW cavillaw05_Few.tab10 cavillaw05_Few.bits10 (fun HT_ HW_ => ?_)
                      generalize w29.drew = w30 at HO_0 HO_3 HO_104001 HL104_1 HL105_1 HL106_1 BK103 BK107 HB HO112 hHeld ⊢
                      refine pure_ (i := 0) (N := some 54) (v := ?_) (a' := ?_) #[true, false, false, false, false, false, false, false, false, false, false, false, false, false, false, false, false, false, false, false, false] rfl rfl (any_of HT_.out (by kernel_rfl)) (fun _ _ _ h => h) (Or.inl ⟨by rfl, ?_⟩) ?_ ?_
                      rotate_left
                      ·intro w'
                       go_simp
                       with_reducible rfl
                      rotate_left
                      ·simp only [Act.put, List.setIfInBounds_toArray, List.set_cons_zero, List.set_cons_succ, i64_w, i32_w]
                       rfl
                      refine pure_ (i := 2) (N := some 56) (v := ?_) (a' := ?_) #[true, false, true, false, false, false, false, false, false, false, false, false, false, false, false, false, false, false, false, false, false] rfl rfl (any_of HT_.out (by kernel_rfl)) (fun _ _ _ h => h) (Or.inl ⟨by rfl, ?_⟩) ?_ ?_
                      rotate_left
                      ·intro w'
                       go_simp
                       with_reducible rfl
                      rotate_left
                      ·simp only [Act.put, List.setIfInBounds_toArray, List.set_cons_zero, List.set_cons_succ, i64_w, i32_w]
                       rfl
                      refine pure_ (i := 4) (N := some 58) (v := ?_) (a' := ?_) #[true, false, true, false, true, false, false, false, false, false, false, false, false, false, false, false, false, false, false, false, false] rfl rfl (any_of HT_.out (by kernel_rfl)) (fun _ _ _ h => h) (Or.inl ⟨by rfl, ?_⟩) ?_ ?_
                      rotate_left
                      ·intro w'
                       go_simp
                       with_reducible rfl
                      rotate_left
                      ·simp only [Act.put, List.setIfInBounds_toArray, List.set_cons_zero, List.set_cons_succ, i64_w, i32_w]
                       rfl
                      refine pure_ (i := 9) (N := some 63) (v := ?_) (a' := ?_) #[true, false, true, false, true, false, false, false, false, true, false, false, false, false, false, false, false, false, false, false, false] rfl rfl (any_of HT_.out (by kernel_rfl)) (fun _ _ _ h => h) (Or.inl ⟨by rfl, ?_⟩) ?_ ?_
                      rotate_left
                      ·intro w'
                       go_simp
                       with_reducible rfl
                      rotate_left
                      ·simp only [Act.put, List.setIfInBounds_toArray, List.set_cons_zero, List.set_cons_succ, i64_w, i32_w]
                       rfl
                      refine pure_ (i := 11) (N := some 65) (v := ?_) (a' := ?_) #[true, false, true, false, true, false, false, false, false, true, false, true, false, false, false, false, false, false, false, false, false] rfl rfl (any_of HT_.out (by kernel_rfl)) (fun _ _ _ h => h) (Or.inl ⟨by rfl, ?_⟩) ?_ ?_
                      rotate_left
                      ·intro w'
                       go_simp
                       with_reducible rfl
                      rotate_left
                      ·simp only [Act.put, List.setIfInBounds_toArray, List.set_cons_zero, List.set_cons_succ, i64_w, i32_w]
                       rfl
                      refine take_ (i := 1) (N := some 55) (v := ?_) (a' := ?_) #[true, true, true, false, true, false, false, false, false, true, false, true, false, false, false, false, false, false, false, false, false] rfl rfl (take_ofW HT_.out HW_.out (by kernel_rfl)) (fun _ _ _ h => h) (Or.inl ⟨by rfl, ?_⟩) hHeld ?_ ?_
                      rotate_left
                      ·rintro w' ⟨s0, s1, s2, s3⟩
                       go_simp
                       with_reducible rfl
                      rotate_left
                      ·simp only [Act.put, List.setIfInBounds_toArray, List.set_cons_zero, List.set_cons_succ, i64_w, i32_w]
                       rfl
                      refine take_ (i := 3) (N := some 57) (v := ?_) (a' := ?_) #[true, true, true, true, true, false, false, false, false, true, false, true, false, false, false, false, false, false, false, false, false] rfl rfl (take_ofW HT_.out HW_.out (by kernel_rfl)) (fun _ _ _ h => h) (Or.inl ⟨by rfl, ?_⟩) hHeld ?_ ?_
                      rotate_left
                      ·rintro w' ⟨s0, s1, s2, s3⟩
                       go_simp
                       with_reducible rfl
                      rotate_left
                      ·simp only [Act.put, List.setIfInBounds_toArray, List.set_cons_zero, List.set_cons_succ, i64_w, i32_w]
                       rfl
                      refine take_ (i := 5) (N := some 59) (v := ?_) (a' := ?_) #[true, true, true, true, true, true, false, false, false, true, false, true, false, false, false, false, false, false, false, false, false] rfl rfl (take_ofW HT_.out HW_.out (by kernel_rfl)) (fun _ _ _ h => h) (Or.inl ⟨by rfl, ?_⟩) hHeld ?_ ?_
                      rotate_left
                      ·rintro w' ⟨s0, s1, s2, s3⟩
                       go_simp
                       with_reducible rfl
                      rotate_left
                      ·simp only [Act.put, List.setIfInBounds_toArray, List.set_cons_zero, List.set_cons_succ, i64_w, i32_w]
                       rfl
                      refine pure_ (i := 6) (N := some 60) (v := ?_) (a' := ?_) #[true, true, true, true, true, true, true, false, false, true, false, true, false, false, false, false, false, false, false, false, false] rfl rfl (any_of HT_.out (by kernel_rfl)) (fun _ _ _ h => h) (Or.inl ⟨by rfl, ?_⟩) ?_ ?_
                      rotate_left
                      ·intro w'
                       go_simp
                       with_reducible rfl
                      rotate_left
                      ·simp only [Act.put, List.setIfInBounds_toArray, List.set_cons_zero, List.set_cons_succ, i64_w, i32_w]
                       rfl
                      refine pure_ (i := 7) (N := some 61) (v := ?_) (a' := ?_) #[true, true, true, true, true, true, true, true, false, true, false, true, false, false, false, false, false, false, false, false, false] rfl rfl (any_of HT_.out (by kernel_rfl)) (fun _ _ _ h => h) (Or.inl ⟨by rfl, ?_⟩) ?_ ?_
                      rotate_left
                      ·intro w'
                       go_simp
                       with_reducible rfl
                      rotate_left
                      ·simp only [Act.put, List.setIfInBounds_toArray, List.set_cons_zero, List.set_cons_succ, i64_w, i32_w]
                       rfl
                      refine pure_ (i := 8) (N := some 62) (v := ?_) (a' := ?_) #[true, true, true, true, true, true, true, true, true, true, false, true, false, false, false, false, false, false, false, false, false] rfl rfl (any_of HT_.out (by kernel_rfl)) (fun _ _ _ h => h) (Or.inl ⟨by rfl, ?_⟩) ?_ ?_
                      rotate_left
                      ·intro w'
                       go_simp
                       with_reducible rfl
                      rotate_left
                      ·simp only [Act.put, List.setIfInBounds_toArray, List.set_cons_zero, List.set_cons_succ, i64_w, i32_w]
                       rfl
                      refine take_ (i := 10) (N := some 64) (v := ?_) (a' := ?_) #[true, true, true, true, true, true, true, true, true, true, true, true, false, false, false, false, false, false, false, false, false] rfl rfl (take_ofW HT_.out HW_.out (by kernel_rfl)) (fun _ _ _ h => h) (Or.inl ⟨by rfl, ?_⟩) hHeld ?_ ?_
                      rotate_left
                      ·rintro w' ⟨s0, s1, s2, s3⟩
                       go_simp
                       with_reducible rfl
                      rotate_left
                      ·simp only [Act.put, List.setIfInBounds_toArray, List.set_cons_zero, List.set_cons_succ, i64_w, i32_w]
                       rfl
                      refine take_ (i := 12) (N := some 66) (v := ?_) (a' := ?_) #[true, true, true, true, true, true, true, true, true, true, true, true, true, false, false, false, false, false, false, false, false] rfl rfl (take_ofW HT_.out HW_.out (by kernel_rfl)) (fun _ _ _ h => h) (Or.inl ⟨by rfl, ?_⟩) hHeld ?_ ?_
                      rotate_left
                      ·rintro w' ⟨s0, s1, s2, s3⟩
                       go_simp
                       with_reducible rfl
                      rotate_left
                      ·simp only [Act.put, List.setIfInBounds_toArray, List.set_cons_zero, List.set_cons_succ, i64_w, i32_w]
                       rfl
                      refine pure_ (i := 13) (N := some 67) (v := ?_) (a' := ?_) #[true, true, true, true, true, true, true, true, true, true, true, true, true, true, false, false, false, false, false, false, false] rfl rfl (any_of HT_.out (by kernel_rfl)) (fun _ _ _ h => h) (Or.inl ⟨by rfl, ?_⟩) ?_ ?_
                      rotate_left
                      ·intro w'
                       go_simp
                       with_reducible rfl
                      rotate_left
                      ·simp only [Act.put, List.setIfInBounds_toArray, List.set_cons_zero, List.set_cons_succ, i64_w, i32_w]
                       rfl
                      refine pure_ (i := 14) (N := some 68) (v := ?_) (a' := ?_) #[true, true, true, true, true, true, true, true, true, true, true, true, true, true, true, false, false, false, false, false, false] rfl rfl (any_of HT_.out (by kernel_rfl)) (fun _ _ _ h => h) (Or.inl ⟨by rfl, ?_⟩) ?_ ?_
                      rotate_left
                      ·intro w'
                       go_simp
                       with_reducible rfl
                      rotate_left
                      ·simp only [Act.put, List.setIfInBounds_toArray, List.set_cons_zero, List.set_cons_succ, i64_w, i32_w]
                       rfl
                      refine pure_ (i := 15) (N := some 69) (v := ?_) (a' := ?_) #[true, true, true, true, true, true, true, true, true, true, true, true, true, true, true, true, false, false, false, false, false] rfl rfl (any_of HT_.out (by kernel_rfl)) (fun _ _ _ h => h) (Or.inl ⟨by rfl, ?_⟩) ?_ ?_
                      rotate_left
                      ·intro w'
                       go_simp
                       with_reducible rfl
                      rotate_left
                      ·simp only [Act.put, List.setIfInBounds_toArray, List.set_cons_zero, List.set_cons_succ, i64_w, i32_w]
                       rfl
                      refine pure_ (i := 16) (N := some 70) (v := ?_) (a' := ?_) #[true, true, true, true, true, true, true, true, true, true, true, true, true, true, true, true, true, false, false, false, false] rfl rfl (any_of HT_.out (by kernel_rfl)) (fun _ _ _ h => h) (Or.inl ⟨by rfl, ?_⟩) ?_ ?_
                      rotate_left
                      ·intro w'
                       go_simp
                       with_reducible rfl
                      rotate_left
                      ·simp only [Act.put, List.setIfInBounds_toArray, List.set_cons_zero, List.set_cons_succ, i64_w, i32_w]
                       rfl
                      refine one_ (i := 17) (N := some 71) #[true, true, true, true, true, true, true, true, true, true, true, true, true, true, true, true, true, true, false, false, false] rfl rfl (one_of HT_.out (by kernel_rfl)) (by decide) (fun K hK => ?_)
                      refine value_ (w1 := ?_) (v := ?_) (by rfl) rfl ?_ ?_
                      rotate_left 2
                      ·go_simp
                       constructor
                       ·rfl
                       ·rfl
                      refine hK.out _ _ ⟨(blk_cell (blk_alloc BK103.out _) 0).trans rfl, (blk_cell (blk_alloc BK103.out _) 1).trans rfl, (blk_cell (blk_alloc BK107.out _) 0).trans rfl, (blk_cell (blk_alloc BK107.out _) 1).trans rfl⟩ (fun hHeld => ?_)
                      clear hK K
                      refine norm_ (a' := ?_) ?_ ?_
                      rotate_left
                      ·show Act.put _ (some 71) _ = _
                       simp only [Act.put, List.setIfInBounds_toArray, List.set_cons_zero, List.set_cons_succ, i64_w, i32_w]
                       rfl
                      refine one_ (i := 18) (N := some 72) #[true, true, true, true, true, true, true, true, true, true, true, true, true, true, true, true, true, true, true, false, false] rfl rfl (one_of HT_.out (by kernel_rfl)) (by decide) (fun K hK => ?_)
                      refine Kd.N_append_step k37 (w0 := w) w.heap.size (by rfl) (.tmp 55) (.tmp 71) 45 37 (.agg #[(.string ⟨#[]⟩), (.slice none 0 0)]) 40 rfl Tryd.underlying45 info37 rfl (by decide) (by omega) u104001 x104001_3 (⟨((rd_T37 ((rd_T47 l0 x4_1).f1) x6_3).f0).extract 0 ((ji19) : Int).toNat, y108⟩ : S37) [.string (((rd_T37 ((rd_T47 l0 x4_1).f1) x6_3).f0).extract 0 ((ji19) : Int).toNat), .slice A106_1 y108.length c106_1] (fun k_ => (P0_ k_ ∨ w.heap.size ≤ k_) ∧ some k_ ≠ (u3 : Value).ownBlock ∧ k_ ≠ gb103 ∧ k_ ≠ gb107) (fun k_ => ((fun k_ => (P0_ k_ ∨ w.heap.size ≤ k_) ∧ some k_ ≠ (u3 : Value).ownBlock ∧ k_ ≠ gb103 ∧ k_ ≠ gb107)) k_ ∧ some k_ ≠ (u104001 : Value).ownBlock) rfl rfl ?aP (fun _ hk => hk) ?aF ?aO ?aB ?aS ?aL ?_
                      (case aP => exact (k37_mkF _ _ (⟨((rd_T37 ((rd_T47 l0 x4_1).f1) x6_3).f0).extract 0 ((ji19) : Int).toNat, y108⟩ : S37) (Kd.V_reads' (Kd.V_mono (ok' := (fun k_ => ((fun k_ => (P0_ k_ ∨ w.heap.size ≤ k_) ∧ some k_ ≠ (u3 : Value).ownBlock ∧ k_ ≠ gb103 ∧ k_ ≠ gb107)) k_ ∧ some k_ ≠ (u104001 : Value).ownBlock)) (HO112.out) (fun k_ hk => ⟨⟨hk.1, ⟨hk.2.1, ⟨hk.2.2.2.1, hk.2.2.2.2⟩⟩⟩, hk.2.2.1⟩))).2.1 (Kd.V_F (Kd.V_mono (ok' := (fun k_ => ((fun k_ => (P0_ k_ ∨ w.heap.size ≤ k_) ∧ some k_ ≠ (u3 : Value).ownBlock ∧ k_ ≠ gb103 ∧ k_ ≠ gb107)) k_ ∧ some k_ ≠ (u104001 : Value).ownBlock)) (HO112.out) (fun k_ hk => ⟨⟨hk.1, ⟨hk.2.1, ⟨hk.2.2.2.1, hk.2.2.2.2⟩⟩⟩, hk.2.2.1⟩)))))
                      (case aB => exact (by repeat (first | (with_reducible first | exact HB.out | apply below_alloc | apply pw_below_drewN | apply below_drew1 | refine below_set ?_ GE103.out | refine below_set ?_ GE107.out) | exact HB.out)))
                      (case aF => exact (fun k_ hk => ⟨(.inr (Nat.le_trans (below_size (by repeat (first | (with_reducible first | exact HB.out | apply below_alloc | apply pw_below_drewN | apply below_drew1 | refine below_set ?_ GE103.out | refine below_set ?_ GE107.out) | exact HB.out))) hk)), Kd.fresh' (Kd.N_lt (by (with_reducible repeat (first | apply Kd.N_alloc | apply Kd.N_drewN | apply Kd.N_drew)); exact HO_3.out)) k_ hk, Kd.freshB (g := gb103) (o := .cells #[.string (((rd_T47 l0 x4_1).f0).extract 0 ((ji7) : Int).toNat), u104001] 47 (0, 0)) (by (with_reducible repeat (first | refine blk_drewN ?_ _ | refine blk_drew ?_ | refine blk_alloc ?_ _)); exact BK103.out) k_ hk, Kd.freshB (g := gb107) (o := .cells #[.string ((rd_T37 ((rd_T47 l0 x4_1).f1) x6_3).f0), .slice A106_1 ((rd_T37 ((rd_T47 l0 x4_1).f1) x6_3).f1).length c106_1] 37 (0, 0)) (by (with_reducible repeat (first | refine blk_drewN ?_ _ | refine blk_drew ?_ | refine blk_alloc ?_ _)); exact BK107.out) k_ hk⟩))
                      (case aO => exact (by (with_reducible repeat (first | apply Kd.N_alloc | apply Kd.N_drewN | apply Kd.N_drew)); exact HO_104001.out))
                      (case aS => exact (below_size (by repeat (first | (with_reducible first | exact HB.out | apply below_alloc | apply pw_below_drewN | apply below_drew1 | refine below_set ?_ GE103.out | refine below_set ?_ GE107.out) | exact HB.out))))
                      (case aL => have := LMc25.out; omega)
                      intro v114 w32 ho hb hg hat
                      rw [← Ny113.out] at ho
                      have n0_ := Aside0.mk (Kd.V_afterv (ok := (fun k_ => (P0_ k_ ∨ w.heap.size ≤ k_) ∧ some k_ ≠ (u3 : Value).ownBlock ∧ k_ ≠ gb103 ∧ k_ ≠ gb107)) (by (with_reducible repeat (first | apply Kd.V_alloc | apply Kd.V_drewN | apply Kd.V_drew)); exact Kd.V_mono HO_0.out (fun _ hk => ⟨⟨hk.1, ⟨hk.2.1, ⟨hk.2.2.2.1, hk.2.2.2.2⟩⟩⟩, hk.2.2.1⟩)) hg hat)
                      have n1_ := Aside0.mk (Kd.N_afterv (ok := (fun k_ => (P0_ k_ ∨ w.heap.size ≤ k_) ∧ k_ ≠ gb103 ∧ k_ ≠ gb107)) (by (with_reducible repeat (first | apply Kd.N_alloc | apply Kd.N_drewN | apply Kd.N_drew)); exact Kd.N_mono HO_3.out (fun _ hk => ⟨⟨hk.1, ⟨hk.2.2.1, hk.2.2.2⟩⟩, hk.2.1⟩)) hg hat)
                      have n2_ := Aside0.mk (blk_grown (g := gb103) (o := .cells #[.string (((rd_T47 l0 x4_1).f0).extract 0 ((ji7) : Int).toNat), u104001] 47 (0, 0)) (by (with_reducible repeat (first | refine blk_drewN ?_ _ | refine blk_drew ?_ | refine blk_alloc ?_ _)); exact BK103.out) hg (Kd.N_ne HO_104001.out BK103.out (by decide)))
                      have n3_ := Aside0.mk (Kd.V_afterv (ok := (fun k_ => (P0_ k_ ∨ w.heap.size ≤ k_) ∧ some k_ ≠ (u3 : Value).ownBlock ∧ k_ ≠ gb103 ∧ k_ ≠ gb107)) (by (with_reducible repeat (first | apply Kd.V_alloc | apply Kd.V_drewN | apply Kd.V_drew)); exact Kd.V_mono HL104_1.out (fun _ hk => ⟨⟨hk.1, ⟨hk.2.1, ⟨hk.2.2.2.1, hk.2.2.2.2⟩⟩⟩, hk.2.2.1⟩)) hg hat)
                      have n4_ := Aside0.mk (Kd.V_afterv (ok := (fun k_ => (P0_ k_ ∨ w.heap.size ≤ k_) ∧ some k_ ≠ (u3 : Value).ownBlock ∧ k_ ≠ gb103 ∧ k_ ≠ gb107)) (by (with_reducible repeat (first | apply Kd.V_alloc | apply Kd.V_drewN | apply Kd.V_drew)); exact Kd.V_mono HL105_1.out (fun _ hk => ⟨⟨hk.1, ⟨hk.2.1, ⟨hk.2.2.2.1, hk.2.2.2.2⟩⟩⟩, hk.2.2.1⟩)) hg hat)
                      have n5_ := Aside0.mk (Kd.V_afterv (ok := (fun k_ => (P0_ k_ ∨ w.heap.size ≤ k_) ∧ some k_ ≠ (u3 : Value).ownBlock ∧ k_ ≠ gb103 ∧ k_ ≠ gb107)) (by (with_reducible repeat (first | apply Kd.V_alloc | apply Kd.V_drewN | apply Kd.V_drew)); exact Kd.V_mono HL106_1.out (fun _ hk => ⟨⟨hk.1, ⟨hk.2.1, ⟨hk.2.2.2.1, hk.2.2.2.2⟩⟩⟩, hk.2.2.1⟩)) hg hat)
                      have n6_ := Aside0.mk (blk_grown (g := gb107) (o := .cells #[.string ((rd_T37 ((rd_T47 l0 x4_1).f1) x6_3).f0), .slice A106_1 ((rd_T37 ((rd_T47 l0 x4_1).f1) x6_3).f1).length c106_1] 37 (0, 0)) (by (with_reducible repeat (first | refine blk_drewN ?_ _ | refine blk_drew ?_ | refine blk_alloc ?_ _)); exact BK107.out) hg (Kd.N_away HO_104001.out (fun _ hk => hk.2.2.2)))
                      have n7_ := Aside0.mk (Kd.V_afterv (ok := (fun k_ => (P0_ k_ ∨ w.heap.size ≤ k_) ∧ some k_ ≠ (u3 : Value).ownBlock ∧ k_ ≠ gb103 ∧ k_ ≠ gb107)) (by (with_reducible repeat (first | apply Kd.V_alloc | apply Kd.V_drewN | apply Kd.V_drew)); exact Kd.V_mono HO112.out (fun _ hk => ⟨⟨hk.1, ⟨hk.2.1, ⟨hk.2.2.2.1, hk.2.2.2.2⟩⟩⟩, hk.2.2.1⟩)) hg hat)
                      have n8_ := Aside0.mk (hb)
                      have n9_ := Aside0.mk (ho)
                      clear HO_0
                      clear HO_3
                      clear BK103
                      clear HL104_1
                      clear HL105_1
                      clear HL106_1
                      clear BK107
                      clear HO112
                      clear HB
                      clear HO_104001
                      have HO_0 := n0_
                      have HO_3 := n1_
                      have BK103 := n2_
                      have HL104_1 := n3_
                      have HL105_1 := n4_
                      have HL106_1 := n5_
                      have BK107 := n6_
                      have HO112 := n7_
                      have HB := n8_
                      have HO115 := n9_
                      clear n0_ n1_ n2_ n3_ n4_ n5_ n6_ n7_ n8_ n9_
                      clear ho hb hg hat
                      obtain ⟨Ao33, co33, eo33⟩ := Kd.N_slice HO115.out
                      (first | subst eo33 | (injection eo33 with f1_ f2_ f3_; have f4_ := f1_.symm; have f5_ := f3_.symm; clear f1_ f2_ f3_; subst f4_; subst f5_))
                      refine hK.out _ _ ⟨(blk_cell BK103.out 0).trans rfl, (blk_cell BK103.out 1).trans rfl, (blk_cell BK107.out 0).trans rfl, (blk_cell BK107.out 1).trans rfl⟩ (fun hHeld => ?_)
                      clear hK K
                      refine norm_ (a' := ?_) ?_ ?_
                      rotate_left
                      ·show Act.put _ (some 72) _ = _
                       simp only [Act.put, List.setIfInBounds_toArray, List.set_cons_zero, List.set_cons_succ, i64_w, i32_w]
                       rfl
                      refine pure_ (i := 19) (N := some 73) (v := ?_) (a' := ?_) #[true, true, true, true, true, true, true, true, true, true, true, true, true, true, true, true, true, true, true, true, false] rfl rfl (any_of HT_.out (by kernel_rfl)) (fun _ _ _ h => h) (Or.inl ⟨by rfl, ?_⟩) ?_ ?_
                      rotate_left
                      ·intro w'
                       go_simp
                       with_reducible rfl
                      rotate_left
                      ·simp only [Act.put, List.setIfInBounds_toArray, List.set_cons_zero, List.set_cons_succ, i64_w, i32_w]
                       rfl
                      refine last_ (i := 20) (N := none) #[true, true, true, true, true, true, true, true, true, true, true, true, true, true, true, true, true, true, true, true, true] rfl rfl (one_of HT_.out (by kernel_rfl)) (by decide) (fun K hK => ?_)
                      have hs34 : w32.cell? ⟨gb103, 1, none⟩ = some (u104001) := (blk_cell BK103.out 1).trans rfl
                      have hfs34 := blk_frozen BK103.out 1
                      have hns34_1 := NB107_103.out
                      have hms34_1 := NB103_107.out
                      refine skip_ (w1 := ?_) (by rfl) rfl ?_ ?_
                      rotate_left
                      ·go_simp
                       rfl
                      refine hK.out _ _ ?_
                      clear hK K
                      refine done_ (done_of HT_.out (by kernel_rfl)) ?_
                      try go_wp2
                      go_roundg k3
                      case measure => have := HK1.out; have := HJ1.out; have := HK3.out; omega
                      case rel => exact ⟨(wrap64 (x6_3 + 1)), (y113), (.slice Ao33 y113.length co33), (by first | rfl | (simp; done) | (simp [*]; done)), H', ⟨by have := HK1.out; have := HJ1.out; have := HK3.out; omega⟩, ⟨by (with_reducible repeat (first | apply Kd.V_alloc | apply Kd.V_drewN | apply Kd.V_drew)); exact Kd.V_mono (Kd.V_far (p := ⟨gb103, 1, none⟩) (Kd.V_mono HO_0.out (fun k_ hk => (⟨hk, hk.1.2.2.1⟩ : _ ∧ k_ ≠ gb103))) (fun _ hk => hk.2) (.slice Ao33 y113.length co33)) (fun _ hk => ⟨hk.1.1.1, ⟨hk.1.1.2.1, ⟨hk.1.2, hk.1.1.2.2.1⟩⟩⟩)⟩, ⟨by (with_reducible repeat (first | apply Kd.N_alloc | apply Kd.N_drewN | apply Kd.N_drew)); exact Kd.N_mono (Kd.N_far (p := ⟨gb103, 1, none⟩) (Kd.N_mono HO_3.out (fun k_ hk => (⟨hk, hk.1.2.1⟩ : _ ∧ k_ ≠ gb103))) (fun _ hk => hk.2) (.slice Ao33 y113.length co33)) (fun _ hk => ⟨hk.1.1.1, ⟨hk.1.2, hk.1.1.2.1⟩⟩)⟩, ⟨by (with_reducible repeat (first | apply Kd.N_alloc | apply Kd.N_drewN | apply Kd.N_drew)); exact Kd.N_mono (Kd.N_far (p := ⟨gb103, 1, none⟩) (Kd.N_mono HO115.out (fun k_ hk => (⟨hk, hk.2.2.1⟩ : _ ∧ k_ ≠ gb103))) (fun _ hk => hk.2) (.slice Ao33 y113.length co33)) (fun _ hk => ⟨hk.1.1, ⟨hk.1.2.1, hk.1.2.2.1⟩⟩)⟩, ⟨by (with_reducible repeat (first | refine blk_drewN ?_ _ | refine blk_drew ?_ | refine blk_alloc ?_ _)); refine blk_put (cs := #[.string (((rd_T47 l0 x4_1).f0).extract 0 ((ji7) : Int).toNat), u104001]) ?_ 1 _ rfl; (with_reducible repeat (first | refine blk_drewN ?_ _ | refine blk_drew ?_ | refine blk_alloc ?_ _)); exact BK103.out⟩, ⟨by repeat (first | (with_reducible first | exact HB.out | apply below_alloc | apply pw_below_drewN | apply below_drew1 | refine below_set ?_ GE103.out | refine below_set ?_ GE107.out) | exact HB.out)⟩⟩
                     ·rw [if_neg c25] at H
                      exact absurd H (by simp)
                    ·rw [if_neg c24] at H
                     exact absurd H (by simp)
                   ·rw [if_neg c23] at H
                    exact absurd H (by simp)
                  ·rw [if_neg c21] at H
                   exact absurd H (by simp)
                 ·rw [if_neg c20] at H
                  exact absurd H (by simp)
                ·rw [if_neg c18] at H
                 exact absurd H (by simp)
               ·rw [if_neg c17] at H
                have c17b0 : decide (x6_3 < 6) = false := decide_eq_false c17
                clear c17
                by_cases c35 : x3_1.length < 3518437208883
                ·rw [if_pos c35] at H
                 have LMc35 := Aside0.mk c35
                 clear c35
                 obtain ⟨y116, hy116⟩ : ∃ y_ : List (S47), y_ = (x3_1 ++ [(⟨(((rd_T47 l0 x4_1).f0).extract 0 ((ji7) : Int).toNat), x104001_3⟩ : S47)]) := ⟨_, rfl⟩
                 replace H : (cavillaw05_Few.l0 k3 l0 y116 (wrap64 (x4_1 + 1))) = some r := by first | (rw [hy116]; with_reducible exact H) | (have H2_ := (Option.bind_some _ _).symm.trans H; rw [hy116]; with_reducible exact H2_) | (have H2_ := (Option.bind_some _ _).symm.trans H; with_reducible exact H2_) | with_reducible exact H | (rw [hy116]; exact H) | exact H
                 have Ny116 := Aside0.mk hy116
                 clear hy116
                 have H' := Aside0.mk H
                 clear H
                 have p104 : 0 ≤ (x4_1 : Int) := of_decide_eq_true (by first | (with_reducible assumption) | assumption)
                 have q104 : x4_1 < (l0.length : Int) := of_decide_eq_true (by first | (with_reducible assumption) | assumption)
                 obtain ⟨ad104, A104_1, c104_1, e104, hx104_0, hx104_1, hl104_1, hi104_1⟩ := at_T47 (Kd.V_reads' HO_0.out).2.2 x4_1 p104 q104
                 obtain rfl : ad101 = ad104 := (by injection e104)
                 obtain ⟨ce104, hce104, hMe104, hcc104⟩ := Kd.V_get HO_0.out z47 x4_1 p104 (by first | exact q104 | exact of_decide_eq_true (by first | (with_reducible assumption) | assumption) | (have e_ := (Kd.V_reads' HO_0.out).1; omega))
                 obtain ⟨ua104_1, uc104_1, rfl, ul104_1, ge104_1⟩ := k47_openF hMe104
                 have hv104_1 := hcc104 1 _ rfl
                 rw [add_field _ _ 1 (by omega)] at hv104_1
                 replace hv104_1 := Option.some.inj (hv104_1.symm.trans hx104_1)
                 injection hv104_1 with hva_ hvn_ hvc_
                 rw [hva_] at ge104_1
                 rw [hvc_] at ul104_1
                 have HL104_1 := Aside0.mk (show Kd.V k37 37 _ w.heap.size _ _ ((rd_T47 l0 x4_1).f1) from Kd.V_mk ul104_1 ge104_1)
                 clear hva_ hvn_ hvc_ ge104_1 ul104_1
                 clear hcc104 hce104
                 have HR104_1 := Aside0.mk hi104_1
                 have HC104_1 := Aside0.mk hl104_1
                 clear hi104_1 hl104_1
                 replace p104 := eq_true p104
                 replace q104 := eq_true q104
                 have hcz36_0 : wr.cell? ⟨gb103, 0, none⟩ = some (.string (((rd_T47 l0 x4_1).f0).extract 0 ((ji7) : Int).toNat)) := (blk_cell BK103.out 0).trans rfl
                 have hcz36_1 : wr.cell? ⟨gb103, 1, none⟩ = some (u104001) := (blk_cell BK103.out 1).trans rfl
                 have hfz36_0 := blk_frozen BK103.out 0
                 have hfz36_1 := blk_frozen BK103.out 1
                 obtain ⟨Ao38, co38, eo38⟩ := Kd.N_slice HO_104001.out
                 subst eo38
                 go_wp2_with (first | ((with_reducible refine gate_builtin (b := .append) (xs := #[.tmp 74, .tmp 76]) rfl ?_); at_builtin; refine Kd.N_append k47 (w0 := w) w.heap.size rfl (.tmp 74) (.tmp 76) 25 47 (.agg #[(.string ⟨#[]⟩), (.slice none 0 0)]) 40 rfl Tryd.underlying25 info47 rfl (by decide) (by omega) u3 x3_1 (⟨(((rd_T47 l0 x4_1).f0).extract 0 ((ji7) : Int).toNat), x104001_3⟩ : S47) [.string (((rd_T47 l0 x4_1).f0).extract 0 ((ji7) : Int).toNat), .slice Ao38 x104001_3.length co38] (fun k_ => (P0_ k_ ∨ w.heap.size ≤ k_) ∧ k_ ≠ gb103) (fun k_ => ((fun k_ => (P0_ k_ ∨ w.heap.size ≤ k_) ∧ k_ ≠ gb103)) k_ ∧ some k_ ≠ (u3 : Value).ownBlock) rfl rfl ?aP (fun _ hk => hk) ?aF ?aO ?aB ?aS ?aL ?_; (case aP => exact (k47_mkF _ _ (⟨(((rd_T47 l0 x4_1).f0).extract 0 ((ji7) : Int).toNat), x104001_3⟩ : S47) (Kd.N_reads' (Kd.N_mono (ok' := (fun k_ => ((fun k_ => (P0_ k_ ∨ w.heap.size ≤ k_) ∧ k_ ≠ gb103)) k_ ∧ some k_ ≠ (u3 : Value).ownBlock)) (HO_104001.out) (fun k_ hk => ⟨⟨hk.1, hk.2.2⟩, hk.2.1⟩))).2.1 (Kd.N_F (Kd.N_mono (ok' := (fun k_ => ((fun k_ => (P0_ k_ ∨ w.heap.size ≤ k_) ∧ k_ ≠ gb103)) k_ ∧ some k_ ≠ (u3 : Value).ownBlock)) (HO_104001.out) (fun k_ hk => ⟨⟨hk.1, hk.2.2⟩, hk.2.1⟩))))); (case aB => exact (by repeat (first | (with_reducible first | exact HB.out | apply below_alloc | apply pw_below_drewN | apply below_drew1 | refine below_set ?_ GE103.out) | exact HB.out))); (case aF => exact (fun k_ hk => ⟨(.inr (Nat.le_trans (below_size (by repeat (first | (with_reducible first | exact HB.out | apply below_alloc | apply pw_below_drewN | apply below_drew1 | refine below_set ?_ GE103.out) | exact HB.out))) hk)), Kd.freshB (g := gb103) (o := .cells #[.string (((rd_T47 l0 x4_1).f0).extract 0 ((ji7) : Int).toNat), .slice Ao38 x104001_3.length co38] 47 (0, 0)) (by (with_reducible repeat (first | refine blk_drewN ?_ _ | refine blk_drew ?_ | refine blk_alloc ?_ _)); exact BK103.out) k_ hk⟩)); (case aO => exact (by (with_reducible repeat (first | apply Kd.N_alloc | apply Kd.N_drewN | apply Kd.N_drew)); exact Kd.N_mono HO_3.out (fun _ hk => ⟨hk.1, hk.2.2⟩))); (case aS => exact (below_size (by repeat (first | (with_reducible first | exact HB.out | apply below_alloc | apply pw_below_drewN | apply below_drew1 | refine below_set ?_ GE103.out) | exact HB.out)))); (case aL => have := LMc35.out; omega); intro v117 w37 ho hb hg hat; rw [← Ny116.out] at ho; have n0_ := Aside0.mk (Kd.V_afterv (ok := (fun k_ => (P0_ k_ ∨ w.heap.size ≤ k_) ∧ some k_ ≠ (.slice Ao38 x104001_3.length co38 : Value).ownBlock ∧ k_ ≠ gb103)) (by (with_reducible repeat (first | apply Kd.V_alloc | apply Kd.V_drewN | apply Kd.V_drew)); exact Kd.V_mono HO_0.out (fun _ hk => ⟨⟨hk.1, ⟨hk.2.2.1, hk.2.2.2⟩⟩, hk.2.1⟩)) hg hat); have n1_ := Aside0.mk (blk_grown (g := gb103) (o := .cells #[.string (((rd_T47 l0 x4_1).f0).extract 0 ((ji7) : Int).toNat), .slice Ao38 x104001_3.length co38] 47 (0, 0)) (by (with_reducible repeat (first | refine blk_drewN ?_ _ | refine blk_drew ?_ | refine blk_alloc ?_ _)); exact BK103.out) hg (Kd.N_away HO_3.out (fun _ hk => hk.2.2))); have n2_ := Aside0.mk (Kd.V_afterv (ok := (fun k_ => (P0_ k_ ∨ w.heap.size ≤ k_) ∧ some k_ ≠ (.slice Ao38 x104001_3.length co38 : Value).ownBlock ∧ k_ ≠ gb103)) (by (with_reducible repeat (first | apply Kd.V_alloc | apply Kd.V_drewN | apply Kd.V_drew)); exact Kd.V_mono HL104_1.out (fun _ hk => ⟨⟨hk.1, ⟨hk.2.2.1, hk.2.2.2⟩⟩, hk.2.1⟩)) hg hat); have n3_ := Aside0.mk (hb); have n4_ := Aside0.mk (ho); clear HO_0; clear BK103; clear HL104_1; clear HB; clear HO_3; clear HO_104001; have HO_0 := n0_; have BK103 := n1_; have HL104_1 := n2_; have HB := n3_; have HO118 := n4_; clear n0_ n1_ n2_ n3_ n4_; clear ho hb hg hat))
                 go_roundg k3
                 case measure => have := HK1.out; have := HJ1.out; have := HK3.out; omega
                 case rel => exact ⟨(y116), (wrap64 (x4_1 + 1)), (by first | rfl | (simp; done) | (simp [*]; done)), H', ⟨by have := HK1.out; have := HJ1.out; have := HK3.out; omega⟩, ⟨by (with_reducible repeat (first | apply Kd.V_alloc | apply Kd.V_drewN | apply Kd.V_drew)); exact Kd.V_mono HO_0.out (fun _ hk => ⟨hk.1.1, hk.2⟩)⟩, ⟨by (with_reducible repeat (first | apply Kd.N_alloc | apply Kd.N_drewN | apply Kd.N_drew)); exact Kd.N_mono HO118.out (fun _ hk => hk.1)⟩, ⟨by repeat (first | (with_reducible first | exact HB.out | apply below_alloc | apply pw_below_drewN | apply below_drew1 | refine below_set ?_ GE103.out) | exact HB.out)⟩⟩
                ·rw [if_neg c35] at H
                 exact absurd H (by simp)
              ·rw [if_neg c16] at H
               have c16b0 : decide (x6_3 < (((rd_T47 l0 x4_1).f1).length : Int)) = false := decide_eq_false c16
               clear c16
               by_cases c39 : x3_1.length < 3518437208883
               ·rw [if_pos c39] at H
                have LMc39 := Aside0.mk c39
                clear c39
                obtain ⟨y119, hy119⟩ : ∃ y_ : List (S47), y_ = (x3_1 ++ [(⟨(((rd_T47 l0 x4_1).f0).extract 0 ((ji7) : Int).toNat), x104001_3⟩ : S47)]) := ⟨_, rfl⟩
                replace H : (cavillaw05_Few.l0 k3 l0 y119 (wrap64 (x4_1 + 1))) = some r := by first | (rw [hy119]; with_reducible exact H) | (have H2_ := (Option.bind_some _ _).symm.trans H; rw [hy119]; with_reducible exact H2_) | (have H2_ := (Option.bind_some _ _).symm.trans H; with_reducible exact H2_) | with_reducible exact H | (rw [hy119]; exact H) | exact H
                have Ny119 := Aside0.mk hy119
                clear hy119
                have H' := Aside0.mk H
                clear H
                have p104 : 0 ≤ (x4_1 : Int) := of_decide_eq_true (by first | (with_reducible assumption) | assumption)
                have q104 : x4_1 < (l0.length : Int) := of_decide_eq_true (by first | (with_reducible assumption) | assumption)
                obtain ⟨ad104, A104_1, c104_1, e104, hx104_0, hx104_1, hl104_1, hi104_1⟩ := at_T47 (Kd.V_reads' HO_0.out).2.2 x4_1 p104 q104
                obtain rfl : ad101 = ad104 := (by injection e104)
                obtain ⟨ce104, hce104, hMe104, hcc104⟩ := Kd.V_get HO_0.out z47 x4_1 p104 (by first | exact q104 | exact of_decide_eq_true (by first | (with_reducible assumption) | assumption) | (have e_ := (Kd.V_reads' HO_0.out).1; omega))
                obtain ⟨ua104_1, uc104_1, rfl, ul104_1, ge104_1⟩ := k47_openF hMe104
                have hv104_1 := hcc104 1 _ rfl
                rw [add_field _ _ 1 (by omega)] at hv104_1
                replace hv104_1 := Option.some.inj (hv104_1.symm.trans hx104_1)
                injection hv104_1 with hva_ hvn_ hvc_
                rw [hva_] at ge104_1
                rw [hvc_] at ul104_1
                have HL104_1 := Aside0.mk (show Kd.V k37 37 _ w.heap.size _ _ ((rd_T47 l0 x4_1).f1) from Kd.V_mk ul104_1 ge104_1)
                clear hva_ hvn_ hvc_ ge104_1 ul104_1
                clear hcc104 hce104
                have HR104_1 := Aside0.mk hi104_1
                have HC104_1 := Aside0.mk hl104_1
                clear hi104_1 hl104_1
                replace p104 := eq_true p104
                replace q104 := eq_true q104
                have hcz40_0 : wr.cell? ⟨gb103, 0, none⟩ = some (.string (((rd_T47 l0 x4_1).f0).extract 0 ((ji7) : Int).toNat)) := (blk_cell BK103.out 0).trans rfl
                have hcz40_1 : wr.cell? ⟨gb103, 1, none⟩ = some (u104001) := (blk_cell BK103.out 1).trans rfl
                have hfz40_0 := blk_frozen BK103.out 0
                have hfz40_1 := blk_frozen BK103.out 1
                obtain ⟨Ao42, co42, eo42⟩ := Kd.N_slice HO_104001.out
                subst eo42
                go_wp2_with (first | ((with_reducible refine gate_builtin (b := .append) (xs := #[.tmp 74, .tmp 76]) rfl ?_); at_builtin; refine Kd.N_append k47 (w0 := w) w.heap.size rfl (.tmp 74) (.tmp 76) 25 47 (.agg #[(.string ⟨#[]⟩), (.slice none 0 0)]) 40 rfl Tryd.underlying25 info47 rfl (by decide) (by omega) u3 x3_1 (⟨(((rd_T47 l0 x4_1).f0).extract 0 ((ji7) : Int).toNat), x104001_3⟩ : S47) [.string (((rd_T47 l0 x4_1).f0).extract 0 ((ji7) : Int).toNat), .slice Ao42 x104001_3.length co42] (fun k_ => (P0_ k_ ∨ w.heap.size ≤ k_) ∧ k_ ≠ gb103) (fun k_ => ((fun k_ => (P0_ k_ ∨ w.heap.size ≤ k_) ∧ k_ ≠ gb103)) k_ ∧ some k_ ≠ (u3 : Value).ownBlock) rfl rfl ?aP (fun _ hk => hk) ?aF ?aO ?aB ?aS ?aL ?_; (case aP => exact (k47_mkF _ _ (⟨(((rd_T47 l0 x4_1).f0).extract 0 ((ji7) : Int).toNat), x104001_3⟩ : S47) (Kd.N_reads' (Kd.N_mono (ok' := (fun k_ => ((fun k_ => (P0_ k_ ∨ w.heap.size ≤ k_) ∧ k_ ≠ gb103)) k_ ∧ some k_ ≠ (u3 : Value).ownBlock)) (HO_104001.out) (fun k_ hk => ⟨⟨hk.1, hk.2.2⟩, hk.2.1⟩))).2.1 (Kd.N_F (Kd.N_mono (ok' := (fun k_ => ((fun k_ => (P0_ k_ ∨ w.heap.size ≤ k_) ∧ k_ ≠ gb103)) k_ ∧ some k_ ≠ (u3 : Value).ownBlock)) (HO_104001.out) (fun k_ hk => ⟨⟨hk.1, hk.2.2⟩, hk.2.1⟩))))); (case aB => exact (by repeat (first | (with_reducible first | exact HB.out | apply below_alloc | apply pw_below_drewN | apply below_drew1 | refine below_set ?_ GE103.out) | exact HB.out))); (case aF => exact (fun k_ hk => ⟨(.inr (Nat.le_trans (below_size (by repeat (first | (with_reducible first | exact HB.out | apply below_alloc | apply pw_below_drewN | apply below_drew1 | refine below_set ?_ GE103.out) | exact HB.out))) hk)), Kd.freshB (g := gb103) (o := .cells #[.string (((rd_T47 l0 x4_1).f0).extract 0 ((ji7) : Int).toNat), .slice Ao42 x104001_3.length co42] 47 (0, 0)) (by (with_reducible repeat (first | refine blk_drewN ?_ _ | refine blk_drew ?_ | refine blk_alloc ?_ _)); exact BK103.out) k_ hk⟩)); (case aO => exact (by (with_reducible repeat (first | apply Kd.N_alloc | apply Kd.N_drewN | apply Kd.N_drew)); exact Kd.N_mono HO_3.out (fun _ hk => ⟨hk.1, hk.2.2⟩))); (case aS => exact (below_size (by repeat (first | (with_reducible first | exact HB.out | apply below_alloc | apply pw_below_drewN | apply below_drew1 | refine below_set ?_ GE103.out) | exact HB.out)))); (case aL => have := LMc39.out; omega); intro v120 w41 ho hb hg hat; rw [← Ny119.out] at ho; have n0_ := Aside0.mk (Kd.V_afterv (ok := (fun k_ => (P0_ k_ ∨ w.heap.size ≤ k_) ∧ some k_ ≠ (.slice Ao42 x104001_3.length co42 : Value).ownBlock ∧ k_ ≠ gb103)) (by (with_reducible repeat (first | apply Kd.V_alloc | apply Kd.V_drewN | apply Kd.V_drew)); exact Kd.V_mono HO_0.out (fun _ hk => ⟨⟨hk.1, ⟨hk.2.2.1, hk.2.2.2⟩⟩, hk.2.1⟩)) hg hat); have n1_ := Aside0.mk (blk_grown (g := gb103) (o := .cells #[.string (((rd_T47 l0 x4_1).f0).extract 0 ((ji7) : Int).toNat), .slice Ao42 x104001_3.length co42] 47 (0, 0)) (by (with_reducible repeat (first | refine blk_drewN ?_ _ | refine blk_drew ?_ | refine blk_alloc ?_ _)); exact BK103.out) hg (Kd.N_away HO_3.out (fun _ hk => hk.2.2))); have n2_ := Aside0.mk (Kd.V_afterv (ok := (fun k_ => (P0_ k_ ∨ w.heap.size ≤ k_) ∧ some k_ ≠ (.slice Ao42 x104001_3.length co42 : Value).ownBlock ∧ k_ ≠ gb103)) (by (with_reducible repeat (first | apply Kd.V_alloc | apply Kd.V_drewN | apply Kd.V_drew)); exact Kd.V_mono HL104_1.out (fun _ hk => ⟨⟨hk.1, ⟨hk.2.2.1, hk.2.2.2⟩⟩, hk.2.1⟩)) hg hat); have n3_ := Aside0.mk (hb); have n4_ := Aside0.mk (ho); clear HO_0; clear BK103; clear HL104_1; clear HB; clear HO_3; clear HO_104001; have HO_0 := n0_; have BK103 := n1_; have HL104_1 := n2_; have HB := n3_; have HO121 := n4_; clear n0_ n1_ n2_ n3_ n4_; clear ho hb hg hat))
                go_roundg k3
                case measure => have := HK1.out; have := HJ1.out; have := HK3.out; omega
                case rel => exact ⟨(y119), (wrap64 (x4_1 + 1)), (by first | rfl | (simp; done) | (simp [*]; done)), H', ⟨by have := HK1.out; have := HJ1.out; have := HK3.out; omega⟩, ⟨by (with_reducible repeat (first | apply Kd.V_alloc | apply Kd.V_drewN | apply Kd.V_drew)); exact Kd.V_mono HO_0.out (fun _ hk => ⟨hk.1.1, hk.2⟩)⟩, ⟨by (with_reducible repeat (first | apply Kd.N_alloc | apply Kd.N_drewN | apply Kd.N_drew)); exact Kd.N_mono HO121.out (fun _ hk => hk.1)⟩, ⟨by repeat (first | (with_reducible first | exact HB.out | apply below_alloc | apply pw_below_drewN | apply below_drew1 | refine below_set ?_ GE103.out) | exact HB.out)⟩⟩
               ·rw [if_neg c39] at H
                exact absurd H (by simp)
             ·rw [if_neg c15] at H
              exact absurd H (by simp)
            ·rw [if_neg c14] at H
             exact absurd H (by simp)
         ·rw [if_neg c9] at H
          exact absurd H (by simp)
        ·rw [if_neg c8] at H
         exact absurd H (by simp)
       ·rw [if_neg c6] at H
        exact absurd H (by simp)
      ·rw [if_neg c5] at H
       exact absurd H (by simp)
     ·replace c4 := Bool.eq_false_iff.mpr c4
      subst c4
      have H1 : (some x3_1) = some r := by rw [if_neg (show ¬ (false = true) by decide)] at H; exact H
      clear H
      have H := H1
      clear H1
      obtain rfl := Option.some.inj H
      go_wp2
      go_ret
      exact ⟨_, by first | rfl | (simp [errW_none, errW_some] <;> rfl) | (simp [*, errW_none, errW_some] <;> rfl), by (with_reducible repeat (first | apply Kd.N_alloc | apply Kd.N_drewN | apply Kd.N_drew)); exact HO_3.out, by repeat (first | (with_reducible first | exact HB.out | apply below_alloc | apply pw_below_drewN | apply below_drew1) | exact HB.out)⟩

end Go.Proofs.YteakcggbolfelaaDoor.Y
end
