/-
  The lines of any bytes lie one behind the other and cover all of them: the statement over lists and numbers alone; no condition beyond the row's own.
-/
import Derived.Test.YtglbfoekeloidaaX6
import Derived.Test.YtglbfoekeloidaaLns
namespace Go.Proofs.Ytglbfoekeloidaa.Pure
open Go.RowKit Go.Proofs.Ytglbfoekeloidaa.X Go.Proofs.YtglbfoekeloidaaW.PrintWords Go.Proofs.YtglbfoekeloidaaW.PrintLast Go.Proofs.YtglbfoekeloidaaW.PrintMore

theorem cover_ev (b : List Int) (hb : b.length ≤ 300) : ∀ d n : Nat, 1 ≤ n → n + d = (St b b.length).length + 1 →
    Ev (fun k => cavillaw02_LinesCover.l0 k b (if n = (St b b.length).length + 1 then (b.length : Int) else rd (St b b.length) ((n : Int) - 1)) n (St b b.length) b.length) true := by
  have hv := St_valid b b.length
  have hl := St_len b b.length
  intro d
  induction d with
  | zero =>
    intro n h1 hn
    rw [if_pos (by omega)]
    refine ev_succ ?_
    simp only [cavillaw02_LinesCover.l0]
    rw [w64 (x := ((St b b.length).length : Int) + 1) (by omega) (by omega)]
    refine ev_neg (by omega) (ev_of (line_out hv (by omega) (.inr (by omega))) ?_)
    exact ev_pos trivial (ev_neg (by simp) (ev_of works_ev (ev_now rfl)))
  | succ d ih =>
    intro n h1 hn
    rw [if_neg (by omega)]
    refine ev_succ ?_
    simp only [cavillaw02_LinesCover.l0]
    have e2 : wrap64 ((n : Int) + 1) = ((n + 1 : Nat) : Int) := by rw [w64 (by omega) (by omega)]; omega
    rw [e2]
    refine ev_pos (by omega) (ev_of (line_ev hv (by omega) n h1 (by omega)) ?_)
    dsimp only
    refine ev_pos rfl (ev_pos rfl ?_)
    have hi := ih (n + 1) (by omega) (by omega)
    by_cases c : n = (St b b.length).length
    · simp only [if_pos c]
      rw [if_pos (by omega)] at hi
      have h3 := (St_last b b.length).2
      subst c
      exact ev_neg (by omega) (ev_neg (by omega) hi)
    · simp only [if_neg c]
      rw [if_neg (by omega), show (((n + 1 : Nat) : Int) - 1) = n by omega] at hi
      obtain ⟨h3, h4, h5⟩ := St_step b b.length n h1 (by omega)
      have h6 := (St_le b b.length _ (rd_mem (i := (n : Int)) (by omega) (by omega))).2
      rw [w64 (by omega) (by omega)]
      exact ev_neg (by omega) (ev_pos (by omega) (ev_neg (by omega) (ev_pos (by omega) (ev_pos (by omega) (ev_pos h4 hi)))))

theorem LinesCover : cavillaw02_LinesCover.Pure := by
  intro l _ _ _
  refine Ev.rounds ?_
  unfold cavillaw02_LinesCover.f
  have hm : 0 ≤ mn (l.length : Int) 300 ∧ mn (l.length : Int) 300 ≤ l.length ∧ mn (l.length : Int) 300 ≤ 300 := by unfold mn; split <;> omega
  obtain ⟨m1, m2, m3⟩ := hm
  refine ev_pos m1 (ev_pos m2 (ev_some ?_))
  generalize hb : l.take (mn (l.length : Int) 300).toNat = b
  have hlen : b.length ≤ 300 := by rw [← hb, List.length_take]; omega
  refine ev_of (new_ev b (by omega)) ?_
  have hs := (St_len b b.length).1
  have h := cover_ev b hlen (St b b.length).length 1 (by omega) (by omega)
  rw [if_neg (by omega)] at h
  have h0 := St_zero b b.length
  rw [show (((1 : Nat) : Int) - 1) = 0 by omega, h0] at h
  exact h

end Go.Proofs.Ytglbfoekeloidaa.Pure
