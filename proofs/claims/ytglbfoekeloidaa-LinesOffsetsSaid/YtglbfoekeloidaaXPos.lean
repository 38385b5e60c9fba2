/-
  The contract of 'lines.Pos' (its binary search by a closure): what it answers as a Lean function, and the walk.
-/
import Derived.Test.YtglbfoekeloidaaXF18
import Derived.Shelf.SlSorted.Search
import Derived.RegionTactic

namespace Go.Proofs.Ytglbfoekeloidaa.X
open Go.RowKit Go.Sort Go.Proofs.YtglbfoekeloidaaW.PrintWords Go.Proofs.YtglbfoekeloidaaW.PrintLast Go.Proofs.YtglbfoekeloidaaW.PrintMore
set_option linter.unusedVariables false
set_option linter.unusedSimpArgs false

def search_ren : Go.Shelf.Ren := ⟨fun | 16 => 19 | n => n, fun | 3 => 3 | 4 => 4 | 35 => 51 | 38 => 54 | n => n, fun n => n⟩
theorem search_lays : SlLaysO.n16 Try.prog search_ren :=
  { mixed := by kernel_rfl
    f16 := Try.func19.trans (congrArg some (by kernel_rfl))
    t3 := Try.underlying3, a3 := Try.isAgg3, z3 := Try.sizeOf3, v3 := Try.zeroValue3
    t4 := Try.underlying4, a4 := Try.isAgg4, z4 := Try.sizeOf4, v4 := Try.zeroValue4
    t35 := Try.underlying51, a35 := Try.isAgg51, z35 := Try.sizeOf51, v35 := Try.zeroValue51
    t38 := Try.underlying54, a38 := Try.isAgg54, z38 := Try.sizeOf54, v38 := Try.zeroValue54 }

def lineOf (l : List Int) (off : Int) : Nat := (List.range l.length).countP (fun i : Nat => !decide (rd l (i : Int) > off))
def lines_Pos.f (k : Nat) (l : List Int) (size : Int) (off : Int) : Option (Int × Int × Option Int) :=
  if l.length < 4611686018427387904 then
    (lines_check.f k l size).bind fun e => if e.isNone = true then
      (if off < 0 then some (0, 0, some 4) else if off > size then some (0, 0, some 4) else some ((lineOf l off : Int), wrap64 (wrap64 (off - rd l ((lineOf l off : Int) - 1)) + 1), none))
      else some (0, 0, some (e.getD 0))
  else none
theorem lines_Pos.mono : ∀ a0 a1 a2 k, LeO (lines_Pos.f k a0 a1 a2) (lines_Pos.f (k + 1) a0 a1 a2) := by
  intro l s o k
  unfold lines_Pos.f
  exact LeO.ite (LeO.bind (lines_check.mono _ _ _) (fun _ => LeO.refl _)) (LeO.refl _)

/-- The closure: 't.Starts[i] > off', its two variables in their boxes. -/
theorem pos_closure (b b' : Nat) (A : Option Addr) (c : Nat) (l : List Int) (size off : Int) (i : Nat) (W : World) (hi : i < l.length)
    (ht : W.cell? ⟨b, 0, none⟩ = some (.slice A l.length c)) (ho : W.cell? ⟨b', 0, none⟩ = some (.int .i64 off))
    (hr : Kd.C (Kd.int .i64) W A l.length l) :
    Calls Try.prog 20 (#[.int .i64 i] ++ #[.pointer (some ⟨b, 0, none⟩), .pointer (some ⟨b', 0, none⟩)]) W fun e w' => e = .returned (.bool (decide (rd l i > off))) ∧ ∃ q, w' = W.drewN q := by
  obtain ⟨ad, rfl, hx⟩ := Kd.at_int hr (i : Int) (by omega) (by omega)
  rw [Int.toNat_natCast] at hx
  have hiz : (i : Int) < (l.length : Int) := by omega
  clear hr
  generalize rd l (i : Int) = y at hx ⊢
  go_enter Try.func20, Try.ntmps20
  go_wp2
  go_region
  all_goals go_wp2
  all_goals go_ret
  all_goals exact ⟨by first | rfl | simp, 1, rfl⟩


theorem check_l0 {l : List Int} {size : Int} : ∀ (k : Nat) (i : Nat), 1 ≤ i → (i : Int) ≤ l.length → l.length < 4611686018427387904 → lines_check.l0 k i l size = some none →
    ∀ j : Nat, i ≤ j → j < l.length → rd l ((j : Int) - 1) < rd l j := by
  intro k
  induction k with
  | zero => intro i _ _ _ h; simp [lines_check.l0] at h
  | succ k ih =>
    intro i h1 hi hs h j hij hj
    simp only [lines_check.l0] at h
    rw [if_pos (by omega), if_pos (by omega)] at h
    have e1 : wrap64 ((i : Int) - 1) = i - 1 := by unfold wrap64; omega
    have e2 : wrap64 ((i : Int) + 1) = ((i + 1 : Nat) : Int) := by unfold wrap64; omega
    rw [e1, e2, if_pos (by omega), if_pos (by omega)] at h
    by_cases c : rd l i ≤ rd l ((i : Int) - 1)
    · rw [if_pos c] at h; simp at h
    · rw [if_neg c] at h
      by_cases e : j = i
      · subst e; omega
      · exact ih (i + 1) (by omega) (by omega) hs h j (by omega) hj
theorem check_ok {k : Nat} {l : List Int} {size : Int} (hs : l.length < 4611686018427387904) (h : lines_check.f k l size = some none) :
    0 < l.length ∧ rd l 0 = 0 ∧ rd l ((l.length : Int) - 1) ≤ size ∧ ∀ j : Nat, 1 ≤ j → j < l.length → rd l ((j : Int) - 1) < rd l j := by
  have hj0 : ∀ b, lines_check.j0 k b l size = some none → b = false ∧ ∀ j : Nat, 1 ≤ j → j < l.length → rd l ((j : Int) - 1) < rd l j := by
    intro b h
    cases k with
    | zero => simp [lines_check.j0] at h
    | succ k =>
      simp only [lines_check.j0] at h
      cases b with
      | true => simp at h
      | false =>
        refine ⟨rfl, fun j h1 hj => ?_⟩
        rw [if_neg (by simp)] at h
        exact check_l0 k 1 (by omega) (by omega) hs h j h1 hj
  unfold lines_check.f at h
  by_cases c0 : (l.length : Int) = 0
  · rw [if_pos c0] at h; exact absurd (hj0 _ h).1 (by simp)
  · rw [if_neg c0, if_pos (by omega)] at h
    by_cases c1 : rd l 0 = 0
    · have e1 : wrap64 ((l.length : Int) - 1) = l.length - 1 := by unfold wrap64; omega
      rw [if_pos c1, e1, if_pos (by omega), if_pos (by omega)] at h
      obtain ⟨a, b⟩ := hj0 _ h
      exact ⟨by omega, c1, by simpa using a, b⟩
    · rw [if_neg c1] at h; exact absurd (hj0 _ h).1 (by simp)
theorem mono_of_step {l : List Int} (h : ∀ j : Nat, 1 ≤ j → j < l.length → rd l ((j : Int) - 1) < rd l j) : ∀ (d a : Nat), a + d < l.length → rd l a ≤ rd l ((a + d : Nat) : Int) := by
  intro d
  induction d with
  | zero => intro a _; exact Int.le_refl _
  | succ d ih =>
    intro a ha
    have h1 := ih a (by omega)
    have h2 := h (a + d + 1) (by omega) (by omega)
    have e : (((a + d + 1 : Nat) : Int) - 1) = ((a + d : Nat) : Int) := by omega
    rw [e] at h2
    have e2 : a + (d + 1) = a + d + 1 := by omega
    rw [e2]; omega
theorem lineOf_le (l : List Int) (off : Int) : lineOf l off ≤ l.length := by
  unfold lineOf; exact Nat.le_trans List.countP_le_length (by simp)
theorem lineOf_pos {l : List Int} {off : Int} (h : 0 < l.length) (h0 : rd l 0 = 0) (ho : 0 ≤ off) : 0 < lineOf l off := by
  unfold lineOf; refine List.countP_pos_iff.2 ⟨0, by simpa using h, by simp [h0]; omega⟩

theorem lines_Pos.calls (k : Nat) (A0_0 : Option Addr) (c0_0 : Nat) (l0_0 : List Int) (a0_1 : Int) (a1 : Int) (r1 : Int) (r2 : Int) (r3 : Option Int) (w : World) (hr0_0 : Kd.C (Kd.int .i64) w A0_0 l0_0.length l0_0) (hc0_0 : l0_0.length ≤ c0_0) (h : lines_Pos.f k l0_0 a0_1 a1 = some (r1, r2, r3)) :
    Calls Try.prog 11 #[.agg #[.slice A0_0 l0_0.length c0_0, .int .i64 a0_1], .int .i64 a1] w fun e w' => e = .returned (.tuple #[.int .i64 r1, .int .i64 r2, errW r3]) ∧ Below w.heap.size w w' := by
  unfold lines_Pos.f at h
  by_cases hlen : l0_0.length < 4611686018427387904
  · rw [if_pos hlen] at h
    obtain ⟨W0, hW0⟩ : ∃ W0, W0 = (w.alloc (.cells #[.slice A0_0 l0_0.length c0_0, .int .i64 a0_1] 25)).alloc (.cells #[.int .i64 a1] 3) := ⟨_, rfl⟩
    have hB0 : Below w.heap.size w W0 := by rw [hW0]; exact ((Below.refl _ w).alloc (Nat.le_refl _) _).alloc (by simp) _
    cases he : lines_check.f k l0_0 a0_1 with
    | none => rw [he] at h; simp at h
    | some e =>
      rw [he] at h
      have hC := lines_check.calls k A0_0 c0_0 l0_0 a0_1 e W0 (Kd.C_below hr0_0 hB0) hc0_0 he
      have hs0 : W0.heap.size = w.heap.size + 1 + 1 := by rw [hW0]; simp
      have ca : W0.cell? ⟨w.heap.size, 0, none⟩ = some (.slice A0_0 l0_0.length c0_0) := by rw [hW0]; exact cell_alloc_sl _ (by rw [World.cell?_alloc_at _ _ _ _ (by simp)]; rfl)
      have cb : W0.cell? ⟨w.heap.size, 1, none⟩ = some (.int .i64 a0_1) := by rw [hW0]; exact cell_alloc_sl _ (by rw [World.cell?_alloc_at _ _ _ _ (by simp)]; rfl)
      have cx : W0.cell? ⟨w.heap.size + 1, 0, none⟩ = some (.int .i64 a1) := by rw [hW0]; have := cell_new_sl (w.alloc (.cells #[.slice A0_0 l0_0.length c0_0, .int .i64 a0_1] 25)) (.int .i64 a1) 3; rwa [World.size_alloc] at this
      have HW0 := Aside0.mk hW0
      clear hW0
      have HA := Aside0.mk ca
      have HBc := Aside0.mk cb
      have HX := Aside0.mk cx
      have HS0 := Aside0.mk hs0
      clear ca cb cx hs0
      have HH := Aside0.mk h
      have HE := Aside0.mk he
      clear h he
      go_enter Try.func11, Try.ntmps11
      go_wp2_with fail
      rw [← HW0.out]
      refine hC.mono ?_
      rintro e2 w1 ⟨rfl, hb1⟩
      have ca := (hb1.cell (p := ⟨w.heap.size, 0, none⟩) (by rw [HS0.out]; simp; omega)).trans HA.out
      have cb := (hb1.cell (p := ⟨w.heap.size, 1, none⟩) (by rw [HS0.out]; simp; omega)).trans HBc.out
      have cx := (hb1.cell (p := ⟨w.heap.size + 1, 0, none⟩) (by rw [HS0.out]; simp)).trans HX.out
      have hr1 := Kd.C_below (Kd.C_below hr0_0 hB0) hb1
      have hB1 : Below w.heap.size w w1 := hB0.trans (hb1.mono hB0.size)
      have HR1 := Aside0.mk hr1
      have HS1 : Aside0 (w.heap.size + 1 < w1.heap.size) := ⟨by have := hb1.size; rw [HS0.out] at this; omega⟩
      clear hr1 hr0_0 hC
      have hu30 := Try.underlying30
      have hu49 := Try.underlying49
      cases e with
      | some c =>
        have h := HH.out
        rw [Option.bind_some, if_neg (by simp)] at h
        simp only [Option.some.injEq, Prod.mk.injEq, Option.getD_some] at h
        obtain ⟨rfl, rfl, rfl⟩ := h
        simp only [errW_some]
        go_wp2_with fail
        go_ret3
        exact ⟨rfl, hB1⟩
      | none =>
        have h := HH.out
        rw [Option.bind_some, if_pos (by rfl)] at h
        clear HH
        simp only [errW_none]
        by_cases c1 : a1 < 0
        · rw [if_pos c1] at h
          simp only [Option.some.injEq, Prod.mk.injEq] at h
          obtain ⟨rfl, rfl, rfl⟩ := h
          go_wp2_with fail
          go_ret3
          exact ⟨rfl, hB1⟩
        · rw [if_neg c1] at h
          by_cases c2 : a1 > a0_1
          · rw [if_pos c2] at h
            simp only [Option.some.injEq, Prod.mk.injEq] at h
            obtain ⟨rfl, rfl, rfl⟩ := h
            go_wp2_with fail
            go_ret3
            exact ⟨rfl, hB1⟩
          · rw [if_neg c2] at h
            simp only [Option.some.injEq, Prod.mk.injEq] at h
            obtain ⟨h1, h2, h3⟩ := h
            obtain ⟨k1, k2, k3, k4⟩ := check_ok hlen HE.out
            have hpos := lineOf_pos k1 k2 (Int.not_lt.1 c1)
            have hle := lineOf_le l0_0 a1
            have hmn := mono_of_step k4
            have eg : ∀ args w, (callFunc 20 args).run Try.prog w = .ok (.enter 20 args) w := enters_of Try.func20 (by kernel_rfl) rfl
            have hS := Any.sort_Search search_lays 20 #[.pointer (some ⟨w.heap.size, 0, none⟩), .pointer (some ⟨w.heap.size + 1, 0, none⟩)] l0_0.length (fun i => decide (rd l0_0 (i : Int) > a1)) w1 eg hlen
              (fun m os i hi => (pos_closure w.heap.size (w.heap.size + 1) A0_0 c0_0 l0_0 a0_1 a1 i _ hi (cell_grown (by simp; have := HS1.out; omega) ca m os) (cell_grown (by simp; have := HS1.out; omega) cx m os) (Kd.C_below HR1.out (by have := below_grown_sl w1.heap.size w1 m os (Nat.le_refl _); exact this))).mono
                fun _ _ ⟨he, q, hq⟩ => ⟨he, q, #[], by rw [hq, grow_empty]⟩)
              (fun a b hab hb h => by
                obtain ⟨d, rfl⟩ : ∃ d, b = a + d := ⟨b - a, by omega⟩
                have := hmn d a hb
                simp only [gt_iff_lt, decide_eq_true_eq] at h ⊢; omega)
            change Calls Try.prog 19 _ _ _ at hS
            change Calls Try.prog 19 _ _ (fun e w' => e = Ending.returned (Value.int .i64 (lineOf l0_0 a1 : Nat)) ∧ _) at hS
            obtain ⟨n, hn⟩ : ∃ n, lineOf l0_0 a1 = n := ⟨_, rfl⟩
            rw [hn] at hS hpos hle h1 h2
            have HS := Aside0.mk hS
            have H1 := Aside0.mk h1
            have H2 := Aside0.mk h2
            have H3 := Aside0.mk h3
            clear hS h1 h2 h3 hn hmn k4 k2 k1 k3
            go_wp2_with fail
            refine HS.out.mono ?_
            rintro e3 w2 ⟨rfl, q, os, hw2⟩
            have hb2 : Below w1.heap.size w1 w2 := by rw [hw2]; exact below_grown_sl w1.heap.size w1 q os (Nat.le_refl _)
            clear hw2 HS
            have hB2 : Below w.heap.size w w2 := hB1.trans (hb2.mono hB1.size)
            obtain ⟨ad, rfl, hx⟩ := Kd.at_int (Kd.C_below HR1.out hb2) ((n : Int) - 1) (by omega) (by omega)
            have en : ((n : Int) - 1).toNat = n - 1 := by omega
            rw [en] at hx
            clear en
            replace ca := (hb2.cell (p := ⟨w.heap.size, 0, none⟩) (by have := HS1.out; simp; omega)).trans ca
            replace cx := (hb2.cell (p := ⟨w.heap.size + 1, 0, none⟩) (by have := HS1.out; simp; omega)).trans cx
            clear cb eg
            have b1 : (n : Int) - 1 < (l0_0.length : Int) := by omega
            have b2 : (0 : Int) ≤ (n : Int) - 1 := by omega
            generalize rd l0_0 ((n : Int) - 1) = y at hx H2
            go_wp2_with fail
            go_quiet (fail)
            go_wp2_with fail
            go_ret3
            have h1 := H1.out
            have h2 := H2.out
            have h3 := H3.out
            subst h1 h2 h3
            exact ⟨rfl, (pw_below_drewN hB2 _)⟩
  · rw [if_neg hlen] at h; simp at h

end Go.Proofs.Ytglbfoekeloidaa.X
