/-
  Any table has at any place the document's line and column, or none: the statement over lists and numbers alone; no condition beyond the row's own.
-/
import Derived.Test.YtglbfoekeloidaaXF5
import Derived.Test.YtglbfoekeloidaaLns
namespace Go.Proofs.Ytglbfoekeloidaa.X
open Go.RowKit Go.Proofs.YtglbfoekeloidaaW.PrintWords Go.Proofs.YtglbfoekeloidaaW.PrintMore

/-- Do the starts rise, from place i on, over d places? -/
def incs (l : List Int) : Nat → Nat → Bool
  | 0, _ => true
  | d + 1, i => !decide (rd l i ≤ rd l ((i : Int) - 1)) && incs l d (i + 1)
theorem incs_step {l : List Int} : ∀ (d i : Nat), incs l d i = true → ∀ j : Nat, i ≤ j → j < i + d → rd l ((j : Int) - 1) < rd l j
  | 0, i, _, j, h1, h2 => by omega
  | d + 1, i, h, j, h1, h2 => by
    simp only [incs, Bool.and_eq_true, Bool.not_eq_true', decide_eq_false_iff_not] at h
    by_cases e : j = i
    · subst e; omega
    · exact incs_step d (i + 1) h.2 j (by omega) (by omega)
def chk (l : List Int) (size : Int) : Bool := decide (0 < l.length) && (decide (rd l 0 = 0) && (!decide (rd l ((l.length : Int) - 1) > size) && incs l (l.length - 1) 1))
theorem chk_valid {l : List Int} {size : Int} (h : chk l size = true) : Valid l size := by
  simp only [chk, Bool.and_eq_true, decide_eq_true_eq, Bool.not_eq_true', decide_eq_false_iff_not] at h
  obtain ⟨h1, h2, h3, h4⟩ := h
  exact ⟨h1, h2, by omega, fun j a b => incs_step _ _ h4 j a (by omega)⟩

theorem check_dec (l : List Int) (size : Int) (hl : l.length ≤ 1000000) : Ev (fun k => lines_check.f k l size) (if chk l size = true then none else some 8) := by
  have go : ∀ d i : Nat, 1 ≤ i → i + d = l.length → Ev (fun k => lines_check.l0 k i l size) (if incs l d i = true then none else some 8) := by
    intro d
    induction d with
    | zero =>
      intro i h1 hi
      refine ev_succ ?_
      simp only [lines_check.l0]
      exact ev_neg (by omega) (ev_now rfl)
    | succ d ih =>
      intro i h1 hi
      refine ev_succ ?_
      simp only [lines_check.l0]
      have e1 : wrap64 ((i : Int) - 1) = i - 1 := w64 (by omega) (by omega)
      have e2 : wrap64 ((i : Int) + 1) = ((i + 1 : Nat) : Int) := by rw [w64 (by omega) (by omega)]; omega
      rw [e1, e2]
      refine ev_pos (by omega) (ev_pos (by omega) (ev_pos (by omega) (ev_pos (by omega) ?_)))
      have h := ih (i + 1) (by omega) (by omega)
      by_cases c : rd l i ≤ rd l ((i : Int) - 1)
      · exact ev_pos c (ev_now (by simp [incs, c]))
      · refine ev_neg c ?_
        rw [show incs l (d + 1) i = incs l d (i + 1) by simp [incs, c]]
        exact h
  have j0t : Ev (fun k => lines_check.j0 k true l size) (some 8) := by
    refine ev_succ ?_
    simp only [lines_check.j0]
    exact ev_pos trivial (ev_now rfl)
  unfold lines_check.f
  by_cases c0 : l.length = 0
  · refine ev_pos (by omega) ?_
    rw [show chk l size = false by simp [chk, c0]]
    exact j0t
  · refine ev_neg (by omega) (ev_pos (by omega) ?_)
    by_cases c1 : rd l 0 = 0
    · have e1 : wrap64 ((l.length : Int) - 1) = l.length - 1 := w64 (by omega) (by omega)
      rw [e1]
      refine ev_pos c1 (ev_pos (by omega) (ev_pos (by omega) ?_))
      by_cases c2 : rd l ((l.length : Int) - 1) > size
      · rw [show decide (rd l ((l.length : Int) - 1) > size) = true from decide_eq_true c2, show chk l size = false by simp [chk, c2]]
        exact j0t
      · rw [show decide (rd l ((l.length : Int) - 1) > size) = false from decide_eq_false c2, show chk l size = incs l (l.length - 1) 1 by simp only [chk, c2, c1, decide_true, decide_false, Bool.not_false, Bool.true_and]; simp; omega]
        refine ev_succ ?_
        simp only [lines_check.j0]
        exact ev_neg (by simp) (go _ 1 (by omega) (by omega))
    · refine ev_neg c1 ?_
      rw [show chk l size = false by simp [chk, c1]]
      exact j0t
theorem refcheck_dec (l : List Int) (size : Int) (hl : l.length ≤ 1000000) : Ev (fun k => cavilref02_Check.f k l size) (chk l size) := by
  have go : ∀ d i : Nat, 1 ≤ i → i + d = l.length → Ev (fun k => cavilref02_Check.l0 k l i) (incs l d i) := by
    intro d
    induction d with
    | zero =>
      intro i h1 hi
      refine ev_succ ?_
      simp only [cavilref02_Check.l0]
      exact ev_neg (by omega) (ev_now rfl)
    | succ d ih =>
      intro i h1 hi
      refine ev_succ ?_
      simp only [cavilref02_Check.l0]
      have e1 : wrap64 ((i : Int) - 1) = i - 1 := w64 (by omega) (by omega)
      have e2 : wrap64 ((i : Int) + 1) = ((i + 1 : Nat) : Int) := by rw [w64 (by omega) (by omega)]; omega
      rw [e1, e2]
      refine ev_pos (by omega) (ev_pos (by omega) (ev_pos (by omega) (ev_pos (by omega) ?_)))
      have h := ih (i + 1) (by omega) (by omega)
      by_cases c : rd l i ≤ rd l ((i : Int) - 1)
      · exact ev_pos c (ev_now (by simp [incs, c]))
      · refine ev_neg c ?_
        rw [show incs l (d + 1) i = incs l d (i + 1) by simp [incs, c]]
        exact h
  have j0t : Ev (fun k => cavilref02_Check.j0 k l true) false := by
    refine ev_succ ?_
    simp only [cavilref02_Check.j0]
    exact ev_pos trivial (ev_now rfl)
  unfold cavilref02_Check.f
  by_cases c0 : l.length = 0
  · refine ev_pos (by omega) ?_
    rw [show chk l size = false by simp [chk, c0]]
    exact j0t
  · refine ev_neg (by omega) (ev_pos (by omega) ?_)
    by_cases c1 : rd l 0 = 0
    · have e1 : wrap64 ((l.length : Int) - 1) = l.length - 1 := w64 (by omega) (by omega)
      rw [e1]
      refine ev_pos c1 (ev_pos (by omega) (ev_pos (by omega) ?_))
      by_cases c2 : rd l ((l.length : Int) - 1) > size
      · rw [show decide (rd l ((l.length : Int) - 1) > size) = true from decide_eq_true c2, show chk l size = false by simp [chk, c2]]
        exact j0t
      · rw [show decide (rd l ((l.length : Int) - 1) > size) = false from decide_eq_false c2, show chk l size = incs l (l.length - 1) 1 by simp only [chk, c2, c1, decide_true, decide_false, Bool.not_false, Bool.true_and]; simp; omega]
        refine ev_succ ?_
        simp only [cavilref02_Check.j0]
        exact ev_neg (by simp) (go _ 1 (by omega) (by omega))
    · refine ev_neg c1 ?_
      rw [show chk l size = false by simp [chk, c1]]
      exact j0t
theorem Valid.rise {l : List Int} {size : Int} (h : Valid l size) (a d : Nat) (hd : a + d < l.length) : rd l a ≤ rd l ((a + d : Nat) : Int) := mono_of_step h.step d a hd
theorem Valid.range {l : List Int} {size : Int} (h : Valid l size) (i : Nat) (hi : i < l.length) : 0 ≤ rd l i ∧ rd l i ≤ size := by
  have h1 := h.rise 0 i (by omega)
  have h2 := h.rise i (l.length - 1 - i) (by omega)
  have e0 : ((0 : Nat) : Int) = 0 := rfl
  rw [Nat.zero_add, e0, h.zero] at h1
  rw [show i + (l.length - 1 - i) = l.length - 1 by omega] at h2
  have h3 := h.last
  rw [show ((l.length : Int) - 1) = ((l.length - 1 : Nat) : Int) by have := h.pos; omega] at h3
  omega
theorem lineOf_is {l : List Int} {size off : Int} (h : Valid l size) (n : Nat) (hn : n ≤ l.length) (h1 : ∀ i : Nat, i < n → rd l i ≤ off) (h2 : n < l.length → off < rd l n) : lineOf l off = n := by
  have e := List.take_append_drop n l
  rw [lineOf_eq, ← e, List.countP_append]
  have a : (l.take n).countP (fun x => !decide (x > off)) = n := by
    rw [List.countP_eq_length.2]
    · rw [List.length_take]; omega
    · intro x hx
      obtain ⟨i, hi, rfl⟩ := List.getElem_of_mem hx
      rw [List.length_take] at hi
      have := h1 i (by omega)
      unfold rd at this
      rw [Int.toNat_natCast, List.getD_eq_getElem?_getD, List.getElem?_eq_getElem (by omega)] at this
      rw [List.getElem_take]
      simp at this ⊢; omega
  have b : (l.drop n).countP (fun x => !decide (x > off)) = 0 := by
    refine List.countP_eq_zero.2 (fun x hx => ?_)
    obtain ⟨i, hi, rfl⟩ := List.getElem_of_mem hx
    rw [List.length_drop] at hi
    have h3 := h.rise n i (by omega)
    have h4 := h2 (by omega)
    unfold rd at h3 h4
    rw [Int.toNat_natCast, List.getD_eq_getElem?_getD, List.getElem?_eq_getElem (by omega), Int.toNat_natCast, List.getD_eq_getElem?_getD, List.getElem?_eq_getElem (by omega)] at h3
    rw [Int.toNat_natCast, List.getD_eq_getElem?_getD, List.getElem?_eq_getElem (by omega)] at h4
    rw [List.getElem_drop]
    simp at h3 h4 ⊢; omega
  omega
end Go.Proofs.Ytglbfoekeloidaa.X
namespace Go.Proofs.Ytglbfoekeloidaa.Pure
open Go.RowKit Go.Proofs.Ytglbfoekeloidaa.X Go.Proofs.YtglbfoekeloidaaW.PrintWords Go.Proofs.YtglbfoekeloidaaW.PrintLast Go.Proofs.YtglbfoekeloidaaW.PrintMore

theorem refpos_loop {l : List Int} {size off : Int} (h : Valid l size) (hl : l.length ≤ 1000000) : ∀ d n : Nat, 1 ≤ n → n + d = l.length → (∀ i : Nat, i < n → rd l i ≤ off) →
    Ev (fun k => cavilref02_Pos.l0 k l off n) ((lineOf l off : Int), wrap64 (wrap64 (off - rd l ((lineOf l off : Int) - 1)) + 1), 0) := by
  intro d
  induction d with
  | zero =>
    intro n h1 hn hr
    refine ev_succ ?_
    simp only [cavilref02_Pos.l0]
    rw [w64 (x := (n : Int) - 1) (by omega) (by omega)]
    refine ev_neg (by omega) (ev_pos (by omega) (ev_pos (by omega) (ev_now ?_)))
    rw [lineOf_is h n (by omega) hr (by omega)]
  | succ d ih =>
    intro n h1 hn hr
    refine ev_succ ?_
    simp only [cavilref02_Pos.l0]
    rw [w64 (x := (n : Int) - 1) (by omega) (by omega), show wrap64 ((n : Int) + 1) = ((n + 1 : Nat) : Int) by rw [w64 (by omega) (by omega)]; omega]
    refine ev_pos (by omega) (ev_pos (by omega) ?_)
    by_cases c : rd l n ≤ off
    · refine ev_pos c (ih (n + 1) (by omega) (by omega) (fun i hi => ?_))
      by_cases e : i = n
      · subst e; exact c
      · exact hr i (by omega)
    · refine ev_neg c (ev_pos (by omega) (ev_pos (by omega) (ev_now ?_)))
      rw [lineOf_is h n (by omega) hr (by omega)]

theorem LinesPlaces : cavillaw02_LinesPlaces.Pure := by
  intro l0 s0 off _ _
  refine Ev.rounds ?_
  unfold cavillaw02_LinesPlaces.f cavillaw02_few.f
  have hm : 0 ≤ mn (l0.length : Int) 50 ∧ mn (l0.length : Int) 50 ≤ l0.length ∧ mn (l0.length : Int) 50 ≤ 50 := by unfold mn; split <;> omega
  obtain ⟨m1, m2, m3⟩ := hm
  rw [if_pos m1, if_pos m2]
  refine ev_some ?_
  generalize hb : l0.take (mn (l0.length : Int) 50).toNat = l
  generalize mn s0 100000 = size
  have hlen : l.length ≤ 50 := by rw [← hb, List.length_take]; omega
  dsimp only
  have hc := check_dec l size (by omega)
  have hr := refcheck_dec l size (by omega)
  cases hchk : chk l size with
  | false =>
    rw [hchk] at hc hr
    have hp : Ev (fun k => lines_Pos.f k l size off) (0, 0, some 8) := by
      unfold lines_Pos.f
      exact ev_pos (by omega) (ev_of hc (ev_neg (by simp) (ev_now rfl)))
    have hq : Ev (fun k => cavilref02_Pos.f k l size off) (0, 0, 8) := by
      unfold cavilref02_Pos.f
      exact ev_of hr (ev_neg (by simp) (ev_now rfl))
    refine ev_of hp (ev_of hq (ev_pos rfl (ev_pos rfl (ev_of (a := 8) (ev_now (by decide)) (ev_pos rfl (ev_of works_ev (ev_now rfl)))))))
  | true =>
    have hv := chk_valid hchk
    rw [hchk] at hc hr
    by_cases c1 : off < 0
    · have hp : Ev (fun k => lines_Pos.f k l size off) (0, 0, some 4) := by
        unfold lines_Pos.f
        exact ev_pos (by omega) (ev_of hc (ev_pos rfl (ev_pos c1 (ev_now rfl))))
      have hq : Ev (fun k => cavilref02_Pos.f k l size off) (0, 0, 4) := by
        unfold cavilref02_Pos.f
        refine ev_of hr (ev_pos rfl (ev_pos c1 (ev_succ ?_)))
        simp only [cavilref02_Pos.j0]
        exact ev_pos trivial (ev_now rfl)
      refine ev_of hp (ev_of hq (ev_pos rfl (ev_pos rfl (ev_of (a := 4) (ev_now (by decide)) (ev_pos rfl (ev_of works_ev (ev_now rfl)))))))
    · by_cases c2 : off > size
      · have hp : Ev (fun k => lines_Pos.f k l size off) (0, 0, some 4) := by
          unfold lines_Pos.f
          exact ev_pos (by omega) (ev_of hc (ev_pos rfl (ev_neg c1 (ev_pos c2 (ev_now rfl)))))
        have hq : Ev (fun k => cavilref02_Pos.f k l size off) (0, 0, 4) := by
          unfold cavilref02_Pos.f
          refine ev_of hr (ev_pos rfl (ev_neg c1 (ev_succ ?_)))
          simp only [cavilref02_Pos.j0]
          exact ev_pos (decide_eq_true c2) (ev_now rfl)
        refine ev_of hp (ev_of hq (ev_pos rfl (ev_pos rfl (ev_of (a := 4) (ev_now (by decide)) (ev_pos rfl (ev_of works_ev (ev_now rfl)))))))
      · have hp : Ev (fun k => lines_Pos.f k l size off) ((lineOf l off : Int), wrap64 (wrap64 (off - rd l ((lineOf l off : Int) - 1)) + 1), none) := by
          unfold lines_Pos.f
          exact ev_pos (by omega) (ev_of hc (ev_pos rfl (ev_neg c1 (ev_neg c2 (ev_now rfl)))))
        have hq : Ev (fun k => cavilref02_Pos.f k l size off) ((lineOf l off : Int), wrap64 (wrap64 (off - rd l ((lineOf l off : Int) - 1)) + 1), 0) := by
          unfold cavilref02_Pos.f
          refine ev_of hr (ev_pos rfl (ev_neg c1 (ev_succ ?_)))
          simp only [cavilref02_Pos.j0]
          refine ev_neg (by simp; omega) ?_
          have hp := hv.pos
          exact refpos_loop hv (by omega) (l.length - 1) 1 (by omega) (by omega) (fun i hi => by
            have e : i = 0 := by omega
            subst e
            have h0 := hv.zero
            have e0 : ((0 : Nat) : Int) = 0 := rfl
            rw [e0, h0]; omega)
        refine ev_of hp (ev_of hq (ev_pos rfl (ev_pos rfl (ev_of (a := 0) (ev_now rfl) (ev_pos rfl (ev_of works_ev (ev_now rfl)))))))

end Go.Proofs.Ytglbfoekeloidaa.Pure
