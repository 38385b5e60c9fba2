import Derived.Test.YtdminogofngncaaXF6
import Derived.Test.YtdminogofngncaaISort
import Derived.Test.YtdminogofngncaaWorks
namespace Go.Proofs.Ytdminogofngncaa.Pure
open Go.RowKit Go.Proofs.Ytdminogofngncaa.X Go.Proofs.YtdminogofngncaaW.PrintWords Go.Proofs.YtdminogofngncaaW.PrintLast
theorem ev_reforder_eq (a b : S26) : Ev (fun k => cavilref03_Order.f k a.f0 a.f1 b.f0 b.f1) (ord a b) := by
  unfold cavilref03_Order.f
  by_cases c : a.f0 < b.f0
  · have h : ord a b = -1 := by unfold ord cmp3; (repeat' split) <;> omega
    rw [h]
    refine ev_pos c ?_
    refine ev_succ ?_; simp only [cavilref03_Order.j0]
    exact ev_pos (by trivial) (ev_now rfl)
  · refine ev_neg c ?_
    by_cases e : a.f0 = b.f0
    · refine ev_pos e ?_
      refine ev_succ ?_; simp only [cavilref03_Order.j0]
      by_cases d : a.f1 < b.f1
      · have h : ord a b = -1 := by unfold ord cmp3; (repeat' split) <;> omega
        rw [h]; exact ev_pos (decide_eq_true d) (ev_now rfl)
      · refine ev_neg (by simpa using d) ?_
        by_cases g : a.f1 > b.f1
        · have h : ord a b = 1 := by unfold ord cmp3; (repeat' split) <;> omega
          rw [h]; exact ev_neg (by simp [e]; omega) (ev_now rfl)
        · have h : ord a b = 0 := by unfold ord cmp3; (repeat' split) <;> omega
          rw [h]; exact ev_pos (by simp [e]; omega) (ev_now rfl)
    · have h : ord a b = 1 := by unfold ord cmp3; (repeat' split) <;> omega
      rw [h]
      refine ev_neg e ?_
      refine ev_succ ?_; simp only [cavilref03_Order.j0]
      exact ev_neg (by simp) (ev_neg (by simp [e]) (ev_now rfl))
theorem ev_rest (a b n : S26) : Ev (fun k => cavillaw03_SpanTells.j0 k false a.f0 a.f1 b.f0 b.f1 n.f0 n.f1) true := by
  refine ev_succ ?_; simp only [cavillaw03_SpanTells.j0]
  refine ev_neg (by simp) ?_
  have hchk : ∃ c, span_Check.f a.f0 a.f1 n.f0 = some c ∧ ∃ d, cavillaw01_Code.f c = some d ∧ cavilref03_Check.f a.f0 a.f1 n.f0 = some d := by
    unfold span_Check.f cavilref03_Check.f
    by_cases c1 : a.f0 > a.f1
    · rw [if_pos c1, if_pos c1]; exact ⟨_, rfl, 5, rfl, rfl⟩
    · rw [if_neg c1, if_neg c1]
      by_cases c2 : a.f0 < 0
      · rw [if_pos c2, if_pos c2]; exact ⟨_, rfl, 4, rfl, rfl⟩
      · rw [if_neg c2, if_neg c2]
        by_cases c3 : a.f1 > n.f0
        · rw [if_pos c3, if_pos c3]; exact ⟨_, rfl, 4, rfl, rfl⟩
        · rw [if_neg c3, if_neg c3]; exact ⟨_, rfl, 0, rfl, rfl⟩
  obtain ⟨c, h1, d, h2, h3⟩ := hchk
  rw [h1]
  refine ev_some ?_
  rw [h2]
  refine ev_some ?_
  rw [h3]
  refine ev_some (ev_pos rfl ?_)
  have hh : span_Has.f a.f0 a.f1 n.f1 = some (decide (a.f0 ≤ n.f1) && decide (n.f1 < a.f1)) := by
    unfold span_Has.f
    by_cases c : a.f0 ≤ n.f1
    · rw [if_pos c]; simp [c]
    · rw [if_neg c]; simp [c]
  rw [hh]
  refine ev_some ?_
  have hr : Ev (fun k => cavilref03_Has.f k [(⟨a.f0, a.f1⟩ : S26)] n.f1) (decide (a.f0 ≤ n.f1) && decide (n.f1 < a.f1)) := by
    show Ev (fun k => cavilref03_Has.l0 k [(⟨a.f0, a.f1⟩ : S26)] n.f1 0) _
    have e1 : wrap64 (0 + 1) = 1 := w64 (by omega) (by omega)
    have stop : Ev (fun k => cavilref03_Has.l0 k [(⟨a.f0, a.f1⟩ : S26)] n.f1 1) false := by
      refine ev_succ ?_; simp only [cavilref03_Has.l0]
      exact ev_neg (by simp) (ev_now rfl)
    have r0 : rd_T26 [(⟨a.f0, a.f1⟩ : S26)] 0 = ⟨a.f0, a.f1⟩ := rfl
    refine ev_succ ?_; simp only [cavilref03_Has.l0]
    rw [e1, r0]
    refine ev_pos (by simp) (ev_pos (by omega) ?_)
    by_cases c : a.f0 ≤ n.f1
    · refine ev_pos c ?_
      by_cases d : n.f1 < a.f1
      · exact ev_pos d (ev_now (by simp [c, d]))
      · refine ev_neg d ?_
        have : (decide (a.f0 ≤ n.f1) && decide (n.f1 < a.f1)) = false := by simp [d]
        rw [this]; exact stop
    · refine ev_neg c ?_
      have : (decide (a.f0 ≤ n.f1) && decide (n.f1 < a.f1)) = false := by simp [c]
      rw [this]; exact stop
  refine ev_of hr (ev_pos (by simp) ?_)
  exact ev_of (ev_order a b) (ev_of (ev_reforder_eq a b) (ev_pos rfl (ev_of works (ev_now rfl))))
theorem SpanTells : cavillaw03_SpanTells.Pure := by
  intro a0 a1 b0 b1 n0 n1 _ _ _
  refine Ev.rounds ?_
  have hr := ev_rest ⟨a0, a1⟩ ⟨b0, b1⟩ ⟨n0, n1⟩
  dsimp only at hr
  unfold cavillaw03_SpanTells.f span_Meet.f span_empty.f
  by_cases c : mn a1 b1 ≤ mx a0 b0
  · have hm : ((some (decide (mn a1 b1 ≤ mx a0 b0))).bind fun t352 => (if t352 = true then (some ((0 : Int), (0 : Int), false)) else (some (mx a0 b0, mn a1 b1, true)))) = some (0, 0, false) := by simp [c]
    rw [hm]
    refine ev_some ?_
    have hd : decide (mx a0 b0 < mn a1 b1) = false := decide_eq_false (by omega)
    rw [hd]
    exact ev_neg (by simp) (ev_neg (by simp) hr)
  · have hm : ((some (decide (mn a1 b1 ≤ mx a0 b0))).bind fun t352 => (if t352 = true then (some ((0 : Int), (0 : Int), false)) else (some (mx a0 b0, mn a1 b1, true)))) = some (mx a0 b0, mn a1 b1, true) := by simp [c]
    rw [hm]
    refine ev_some ?_
    have hd : decide (mx a0 b0 < mn a1 b1) = true := decide_eq_true (by omega)
    rw [hd]
    exact ev_neg (by simp) (ev_pos rfl (ev_pos rfl (ev_pos rfl hr)))
end Go.Proofs.Ytdminogofngncaa.Pure
