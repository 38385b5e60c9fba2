/-
  Any table has at any line and column the document's place, and any line of it lies where the document says, or there is none: the statement over lists and numbers alone; no condition beyond the row's own.
-/
import Derived.Test.YtglbfoekeloidaaXF6
import Derived.Test.YtglbfoekeloidaaPureLinesPlaces
namespace Go.Proofs.Ytglbfoekeloidaa.Pure
open Go.RowKit Go.Proofs.Ytglbfoekeloidaa.X Go.Proofs.YtglbfoekeloidaaW.PrintWords Go.Proofs.YtglbfoekeloidaaW.PrintLast Go.Proofs.YtglbfoekeloidaaW.PrintMore

theorem refoff_loop {col f t : Int} (hf : 0 ≤ f) (ht : t ≤ 1000000) : ∀ d : Nat, ∀ x : Int, f ≤ x → x + d = t → (1 ≤ col → f + col - 1 < t → x ≤ f + col - 1) →
    Ev (fun k => cavilref02_Offset.l0 k col f t x) (if 1 ≤ col ∧ f + col - 1 < t ∧ x ≤ f + col - 1 then (f + col - 1, 0) else (0, 4)) := by
  intro d
  induction d with
  | zero =>
    intro x h1 h2 h3
    refine ev_succ ?_
    simp only [cavilref02_Offset.l0]
    exact ev_neg (by omega) (ev_now (by rw [if_neg (by omega)]))
  | succ d ih =>
    intro x h1 h2 h3
    refine ev_succ ?_
    simp only [cavilref02_Offset.l0]
    rw [w64 (x := x - f) (by omega) (by omega), w64 (x := x - f + 1) (by omega) (by omega), w64 (x := x + 1) (by omega) (by omega)]
    refine ev_pos (by omega) ?_
    by_cases c : x - f + 1 = col
    · exact ev_pos c (ev_now (by rw [if_pos (by omega), show x = f + col - 1 by omega]))
    · refine ev_neg c ?_
      have h := ih (x + 1) (by omega) (by omega) (by omega)
      by_cases e : 1 ≤ col ∧ f + col - 1 < t ∧ x ≤ f + col - 1
      · rw [if_pos e]
        rw [if_pos (by omega)] at h
        exact h
      · rw [if_neg e]
        rw [if_neg (by omega)] at h
        exact h
theorem refoff_out {col f t : Int} (ht : t ≤ f) : Ev (fun k => cavilref02_Offset.l0 k col f t f) (0, 4) := by
  refine ev_succ ?_
  simp only [cavilref02_Offset.l0]
  exact ev_neg (by omega) (ev_now rfl)
theorem refoff_is {col f t : Int} (hf : 0 ≤ f) (ht : t ≤ 1000000) : Ev (fun k => cavilref02_Offset.l0 k col f t f) (if 1 ≤ col ∧ f + col - 1 < t then (f + col - 1, 0) else (0, 4)) := by
  by_cases c : f ≤ t
  · have h := refoff_loop (col := col) hf ht (t - f).toNat f (Int.le_refl _) (by omega) (by omega)
    by_cases e : 1 ≤ col ∧ f + col - 1 < t
    · rw [if_pos (by omega)] at h
      rw [if_pos e]; exact h
    · rw [if_neg (by omega)] at h
      rw [if_neg e]; exact h
  · rw [if_neg (by omega)]
    exact refoff_out (by omega)

theorem LinesOffsets : cavillaw02_LinesOffsets.Pure := by
  intro l0 s0 line col _ _ _
  refine Ev.rounds ?_
  unfold cavillaw02_LinesOffsets.f cavillaw02_few.f
  have hm : 0 ≤ mn (l0.length : Int) 50 ∧ mn (l0.length : Int) 50 ≤ l0.length ∧ mn (l0.length : Int) 50 ≤ 50 := by unfold mn; split <;> omega
  obtain ⟨m1, m2, m3⟩ := hm
  rw [if_pos m1, if_pos m2]
  refine ev_some ?_
  generalize hb : l0.take (mn (l0.length : Int) 50).toNat = l
  have hsz : mn s0 100000 ≤ 100000 := by unfold mn; split <;> omega
  generalize mn s0 100000 = size at hsz
  have hlen : l.length ≤ 50 := by rw [← hb, List.length_take]; omega
  dsimp only
  have hc := check_dec l size (by omega)
  have hr := refcheck_dec l size (by omega)
  -- the four answers, and that they fit
  have fin : ∀ (x : Int) (e : Option Int) (bad : Int) (f t : Int) (e2 : Option Int) (bad2 : Int),
      Ev (fun k => lines_Offset.f k l size line col) (x, e) → Ev (fun k => cavilref02_Offset.f k l size line col) (x, bad) → Ev (fun k => lines_Line.f k l size line) (f, t, e2) →
      Ev (fun k => cavilref02_Line.f k l size line) (f, t, bad2) → cavillaw01_Code.f e = some bad → cavillaw01_Code.f e2 = some bad2 →
      Ev (fun n => (lines_Offset.f n l size line col).bind fun bt226 => (cavilref02_Offset.f n l size line col).bind fun bt232 => (lines_Line.f n l size line).bind fun bt234 => (cavilref02_Line.f n l size line).bind fun bt238 =>
        if bt226.1 = bt232.1 then ((cavillaw01_Code.f bt226.2).bind fun t241 => (if t241 = bt232.2 then (if bt234.1 = bt238.1 then (if bt234.2.1 = bt238.2.1 then ((cavillaw01_Code.f bt234.2.2).bind fun t242 => (if t242 = bt238.2.2 then ((cavillaw02_works.f n).bind fun t243 => (some t243)) else (some false))) else (some false)) else (some false)) else (some false))) else (some false)) true := by
    intro x e bad f t e2 bad2 h1 h2 h3 h4 h5 h6
    exact ev_of h1 (ev_of h2 (ev_of h3 (ev_of h4 (ev_pos rfl (ev_of (ev_now h5) (ev_pos rfl (ev_pos rfl (ev_pos rfl (ev_of (ev_now h6) (ev_pos rfl (ev_of works_ev (ev_now rfl))))))))))))
  cases hchk : chk l size with
  | false =>
    rw [hchk] at hc hr
    have hl : Ev (fun k => lines_Line.f k l size line) (0, 0, some 8) := by
      unfold lines_Line.f
      exact ev_of hc (ev_neg (by simp) (ev_now rfl))
    have hq : Ev (fun k => cavilref02_Line.f k l size line) (0, 0, 8) := by
      unfold cavilref02_Line.f
      exact ev_of hr (ev_neg (by simp) (ev_now rfl))
    refine fin 0 (some 8) 8 0 0 (some 8) 8 ?_ ?_ hl hq rfl rfl
    · unfold lines_Offset.f
      exact ev_of hl (ev_neg (by simp) (ev_now rfl))
    · unfold cavilref02_Offset.f
      exact ev_of hq (ev_neg (by decide) (ev_now rfl))
  | true =>
    have hv := chk_valid hchk
    rw [hchk] at hc hr
    by_cases c1 : line < 1 ∨ l.length < line
    · have hl := line_out (n := line) hv (by omega) c1
      have hq : Ev (fun k => cavilref02_Line.f k l size line) (0, 0, 4) := by
        unfold cavilref02_Line.f
        refine ev_of hr (ev_pos rfl ?_)
        by_cases c : line < 1
        · refine ev_pos c (ev_succ ?_)
          simp only [cavilref02_Line.j0]
          exact ev_pos trivial (ev_now rfl)
        · refine ev_neg c (ev_succ ?_)
          simp only [cavilref02_Line.j0]
          exact ev_pos (by simp; omega) (ev_now rfl)
      refine fin 0 (some 4) 4 0 0 (some 4) 4 ?_ ?_ hl hq rfl rfl
      · unfold lines_Offset.f
        exact ev_of hl (ev_neg (by simp) (ev_now rfl))
      · unfold cavilref02_Offset.f
        exact ev_of hq (ev_neg (by decide) (ev_now rfl))
    · obtain ⟨n, rfl⟩ : ∃ n : Nat, line = n := ⟨line.toNat, by omega⟩
      have n1 : 1 ≤ n := by omega
      have n2 : n ≤ l.length := by omega
      clear c1
      have hl := line_ev hv (by omega) n n1 n2
      have hq : Ev (fun k => cavilref02_Line.f k l size n) (rd l ((n : Int) - 1), (if n = l.length then size else rd l n), 0) := by
        unfold cavilref02_Line.f
        refine ev_of hr (ev_pos rfl (ev_neg (by omega) (ev_succ ?_)))
        simp only [cavilref02_Line.j0]
        rw [w64 (x := (n : Int) - 1) (by omega) (by omega)]
        refine ev_neg (by simp; omega) ?_
        by_cases c : n = l.length
        · exact ev_pos (by omega) (ev_pos (by omega) (ev_pos (by omega) (ev_now (by rw [if_pos c]))))
        · exact ev_neg (by omega) (ev_pos (by omega) (ev_pos (by omega) (ev_pos (by omega) (ev_pos (by omega) (ev_now (by rw [if_neg c]))))))
      have hf := hv.range (n - 1) (by omega)
      rw [show (((n - 1 : Nat) : Int)) = (n : Int) - 1 by omega] at hf
      have ht : 0 ≤ (if n = l.length then size else rd l n) ∧ (if n = l.length then size else rd l n) ≤ 100000 := by
        by_cases c : n = l.length
        · rw [if_pos c]; omega
        · rw [if_neg c]; have := hv.range n (by omega); omega
      have ho : Ev (fun k => lines_Offset.f k l size n col) (if 1 ≤ col ∧ rd l ((n : Int) - 1) + col - 1 < (if n = l.length then size + 1 else rd l n) then (rd l ((n : Int) - 1) + col - 1, none) else (0, some 4)) := by
        unfold lines_Offset.f
        refine ev_of hl (ev_pos rfl ?_)
        dsimp only
        by_cases e : n = l.length
        · simp only [if_pos e] at ht ⊢
          refine ev_pos (by omega) ?_
          by_cases c : col < 1
          · refine ev_pos c (ev_now ?_)
            rw [if_neg (by omega)]
          · refine ev_neg c ?_
            rw [w64 (x := size - _) (by omega) (by omega), w64 (x := size - _ + 1) (by omega) (by omega)]
            by_cases c2 : col > size - rd l ((n : Int) - 1) + 1
            · refine ev_pos c2 (ev_now ?_)
              rw [if_neg (by omega)]
            · refine ev_neg c2 (ev_now ?_)
              rw [if_pos (by omega), w64 (x := _ + col) (by omega) (by omega), w64 (by omega) (by omega)]
        · simp only [if_neg e] at ht ⊢
          refine ev_neg (by omega) ?_
          by_cases c : col < 1
          · refine ev_pos c (ev_now ?_)
            rw [if_neg (by omega)]
          · refine ev_neg c ?_
            rw [w64 (x := rd l (n : Int) - _) (by omega) (by omega)]
            by_cases c2 : col > rd l (n : Int) - rd l ((n : Int) - 1)
            · refine ev_pos c2 (ev_now ?_)
              rw [if_neg (by omega)]
            · refine ev_neg c2 (ev_now ?_)
              rw [if_pos (by omega), w64 (x := _ + col) (by omega) (by omega), w64 (by omega) (by omega)]
      have hp : Ev (fun k => cavilref02_Offset.f k l size n col) (if 1 ≤ col ∧ rd l ((n : Int) - 1) + col - 1 < (if n = l.length then size + 1 else rd l n) then (rd l ((n : Int) - 1) + col - 1, 0) else (0, 4)) := by
        unfold cavilref02_Offset.f
        refine ev_of hq (ev_pos rfl ?_)
        dsimp only
        by_cases e : n = l.length
        · simp only [if_pos e] at ht ⊢
          refine ev_pos (by omega) (ev_succ ?_)
          simp only [cavilref02_Offset.j0]
          rw [w64 (x := size + 1) (by omega) (by omega)]
          exact refoff_is hf.1 (by omega)
        · simp only [if_neg e] at ht ⊢
          refine ev_neg (by omega) (ev_succ ?_)
          simp only [cavilref02_Offset.j0]
          exact refoff_is hf.1 (by omega)
      by_cases c : 1 ≤ col ∧ rd l ((n : Int) - 1) + col - 1 < (if n = l.length then size + 1 else rd l n)
      · rw [if_pos c] at ho hp
        exact fin _ none 0 _ _ none 0 ho hp hl hq rfl rfl
      · rw [if_neg c] at ho hp
        exact fin 0 (some 4) 4 _ _ none 0 ho hp hl hq rfl rfl

end Go.Proofs.Ytglbfoekeloidaa.Pure
