/-
  Any bytes' lines begin where the document says, and each place has a line and a column whose place it is: the statement over lists and numbers alone; no condition beyond the row's own.
-/
import Derived.Test.YtglbfoekeloidaaX9
import Derived.Test.YtglbfoekeloidaaLns
namespace Go.Proofs.Ytglbfoekeloidaa.Pure
open Go.RowKit Go.Proofs.Ytglbfoekeloidaa.X Go.Proofs.YtglbfoekeloidaaW.PrintWords Go.Proofs.YtglbfoekeloidaaW.PrintLast Go.Proofs.YtglbfoekeloidaaW.PrintMore

theorem starts_ev (b : List Int) (hb : b.length ≤ 1000000) : Ev (fun k => cavilref02_Starts.f k b) (St b b.length) := by
  have go : ∀ d i : Nat, i + d = b.length → Ev (fun k => cavilref02_Starts.l0 k b (St b i) i) (St b b.length) := by
    intro d
    induction d with
    | zero =>
      intro i hi
      refine ev_succ ?_
      simp only [cavilref02_Starts.l0]
      exact ev_neg (by omega) (ev_now (by rw [show i = b.length by omega]))
    | succ d ih =>
      intro i hi
      refine ev_succ ?_
      simp only [cavilref02_Starts.l0]
      refine ev_pos (by omega) (ev_pos (by omega) ?_)
      have e : wrap64 ((i : Int) + 1) = ((i + 1 : Nat) : Int) := by rw [w64 (by omega) (by omega)]; omega
      have h := ih (i + 1) (by omega)
      have hl := St_len b i
      rw [e]
      by_cases c : rd b (i : Int) = 10
      · refine ev_pos c (ev_pos (by omega) ?_)
        rw [show St b (i + 1) = St b i ++ [((i + 1 : Nat) : Int)] by rw [St, if_pos c]; rfl] at h
        exact h
      · refine ev_neg c ?_
        rw [show St b (i + 1) = St b i by rw [St, if_neg c]] at h
        exact h
  unfold cavilref02_Starts.f
  exact go b.length 0 (by omega)

/-- What the law's loop holds of 'last' and 'col' at its head: how they stand one place before. -/
def lastOf (b : List Int) : Nat → Int
  | 0 => 1
  | off + 1 => ((St b off).length : Int)
def colOf (b : List Int) : Nat → Int
  | 0 => 0
  | off + 1 => (off : Int) - rd (St b off) (((St b off).length : Int) - 1) + 1

theorem back_ev (b : List Int) (hb : b.length ≤ 300) : ∀ d off : Nat, off + d = b.length + 1 →
    Ev (fun k => cavillaw02_LinesBack.l1 k b (lastOf b off) (colOf b off) off (St b b.length) b.length) true := by
  have hv := St_valid b b.length
  have hl := St_len b b.length
  intro d
  induction d with
  | zero =>
    intro off hn
    refine ev_succ ?_
    simp only [cavillaw02_LinesBack.l1]
    exact ev_neg (by omega) (ev_of works_ev (ev_now rfl))
  | succ d ih =>
    intro off hn
    generalize hla : lastOf b off = la
    generalize hcl : colOf b off = cl
    refine ev_succ ?_
    simp only [cavillaw02_LinesBack.l1]
    have hoff : off ≤ b.length := by omega
    have hlo := lineOf_St b off b.length hoff
    have hlen := St_len b off
    have hlast := St_last b off
    have hrd := rd_St b off b.length hoff (((St b off).length : Int) - 1) (by omega) (by omega)
    have hpos := pos_ev (off := (off : Int)) hv (by omega) (by omega) (by omega) (by omega) (by rw [hlo, hrd]; exact hlast.1) (by rw [hlo, hrd]; exact hlast.2)
    rw [hlo, hrd] at hpos
    have hle : (St b off).length ≤ (St b b.length).length := by
      obtain ⟨t, ht, _⟩ := St_split b off (b.length - off)
      rw [show off + (b.length - off) = b.length by omega] at ht
      rw [ht, List.length_append]; omega
    have hup : (if (St b off).length = (St b b.length).length then (b.length : Int) else rd (St b b.length) ((St b off).length : Int)) ≤ 1000000 := by
      by_cases c : (St b off).length = (St b b.length).length
      · rw [if_pos c]; omega
      · rw [if_neg c]
        have := (St_le b b.length _ (rd_mem (i := ((St b off).length : Int)) (by omega) (by omega))).2
        omega
    have hoffs := offset_ev hv (by omega) (by omega) (St b off).length hlen.1 hle ((off : Int) - rd (St b off) (((St b off).length : Int) - 1) + 1) (by omega) (by rw [hrd]; exact hlast.1) (by
      rw [hrd]
      by_cases c : (St b off).length = (St b b.length).length
      · rw [if_pos c]; omega
      · rw [if_neg c]; have := next_St b off b.length hoff (by omega); omega) hup
    rw [hrd] at hoffs
    refine ev_pos (by omega) (ev_of hpos ?_)
    dsimp only
    refine ev_of hoffs ?_
    dsimp only
    refine ev_pos rfl (ev_pos rfl ?_)
    rw [show (rd (St b off) (((St b off).length : Int) - 1) + ((off : Int) - rd (St b off) (((St b off).length : Int) - 1) + 1) - 1 != (off : Int)) = false by simp; omega]
    have hi := ih (off + 1) (by omega)
    have e2 : wrap64 ((off : Int) + 1) = ((off + 1 : Nat) : Int) := by rw [w64 (by omega) (by omega)]; omega
    simp only [lastOf, colOf] at hi
    refine ev_succ ?_
    simp only [cavillaw02_LinesBack.j3]
    refine ev_neg (by simp) ?_
    cases off with
    | zero =>
      refine ev_neg (by simp) (ev_succ ?_)
      simp only [cavillaw02_LinesBack.j4]
      rw [e2]
      obtain rfl : la = 1 := hla.symm
      obtain rfl : cl = 0 := hcl.symm
      rw [w64 (x := 0 + 1) (by omega) (by omega)]
      simp only [St, List.length_singleton] at hi ⊢
      refine ev_neg (by simp) (ev_pos (by simp) (ev_pos (by simp [rd]) ?_))
      simpa [rd] using hi
    | succ m =>
      obtain rfl : la = ((St b m).length : Int) := hla.symm
      obtain rfl : cl = (m : Int) - rd (St b m) (((St b m).length : Int) - 1) + 1 := hcl.symm
      clear hla hcl
      have e3 : wrap64 (((m + 1 : Nat) : Int) - 1) = m := by rw [w64 (by omega) (by omega)]; omega
      rw [e3]
      refine ev_pos (by omega) (ev_pos (by omega) (ev_pos (by omega) (ev_succ ?_)))
      simp only [cavillaw02_LinesBack.j4]
      rw [e2]
      have hlm := St_len b m
      have hsm := St_last b m
      by_cases c : rd b (m : Int) = 10
      · have hS : St b (m + 1) = St b m ++ [(m : Int) + 1] := by rw [St_succ, if_pos c]
        have e4 : (((St b m ++ [(m : Int) + 1]).length : Int)) = ((St b m).length : Int) + 1 := by simp
        have e5 : rd (St b m ++ [(m : Int) + 1]) (((St b m).length : Int) + 1 - 1) = (m : Int) + 1 := by
          rw [show (((St b m).length : Int) + 1 - 1) = ((St b m).length : Int) by omega]; exact rd_app_last
        rw [hS, e4, e5] at hi ⊢
        refine ev_pos (by simpa using c) ?_
        rw [w64 (by omega) (by omega)]
        refine ev_pos rfl (ev_pos (by omega) ?_)
        rw [show (((m + 1 : Nat) : Int) - ((m : Int) + 1) + 1) = 0 + 1 by omega] at hi
        exact hi
      · have hS : St b (m + 1) = St b m := by rw [St_succ, if_neg c]
        rw [hS] at hi ⊢
        refine ev_neg (by simpa using c) (ev_pos rfl ?_)
        rw [w64 (by omega) (by omega)]
        refine ev_pos (by omega) ?_
        rw [show (((m + 1 : Nat) : Int) - rd (St b m) (((St b m).length : Int) - 1) + 1) = (m : Int) - rd (St b m) (((St b m).length : Int) - 1) + 1 + 1 by omega] at hi
        exact hi

theorem same_ev (b s : List Int) (hs : s.length ≤ 1000000) {size : Int} (h : Ev (fun k => cavillaw02_LinesBack.l1 k b 1 0 0 s size) true) : ∀ d i : Nat, i + d = s.length →
    Ev (fun k => cavillaw02_LinesBack.l0 k b s s.length i s size) true := by
  intro d
  induction d with
  | zero =>
    intro i hi
    refine ev_succ ?_
    simp only [cavillaw02_LinesBack.l0]
    exact ev_neg (by omega) h
  | succ d ih =>
    intro i hi
    refine ev_succ ?_
    simp only [cavillaw02_LinesBack.l0]
    have e : wrap64 ((i : Int) + 1) = ((i + 1 : Nat) : Int) := by rw [w64 (by omega) (by omega)]; omega
    rw [e]
    exact ev_pos (by omega) (ev_pos (by omega) (ev_pos (by omega) (ev_pos (by omega) (ev_pos trivial (ih (i + 1) (by omega))))))

theorem LinesBack : cavillaw02_LinesBack.Pure := by
  intro l _ _ _
  refine Ev.rounds ?_
  unfold cavillaw02_LinesBack.f
  have hm : 0 ≤ mn (l.length : Int) 300 ∧ mn (l.length : Int) 300 ≤ l.length ∧ mn (l.length : Int) 300 ≤ 300 := by unfold mn; split <;> omega
  obtain ⟨m1, m2, m3⟩ := hm
  refine ev_pos m1 (ev_pos m2 (ev_some ?_))
  generalize hb : l.take (mn (l.length : Int) 300).toNat = b
  have hlen : b.length ≤ 300 := by rw [← hb, List.length_take]; omega
  refine ev_of (new_ev b (by omega)) (ev_of (starts_ev b (by omega)) (ev_pos (by rfl) (ev_succ ?_)))
  simp only [cavillaw02_LinesBack.j0]
  refine ev_neg (by simp) ?_
  have hs := St_len b b.length
  exact same_ev b _ (by omega) (back_ev b hlen (b.length + 1) 0 (by omega)) (St b b.length).length 0 (by omega)

end Go.Proofs.Ytglbfoekeloidaa.Pure
