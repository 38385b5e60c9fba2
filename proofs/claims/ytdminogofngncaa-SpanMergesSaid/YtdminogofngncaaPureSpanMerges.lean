import Derived.Test.YtdminogofngncaaXF5
import Derived.Test.YtdminogofngncaaXM3
import Derived.Test.YtdminogofngncaaWorks
namespace Go.Proofs.Ytdminogofngncaa.Pure
open Go.RowKit Go.Proofs.Ytdminogofngncaa.X Go.Proofs.YtdminogofngncaaW.PrintWords Go.Proofs.YtdminogofngncaaW.PrintLast
def inNear (s : S26) : Prop := -300 ≤ s.f0 ∧ s.f0 ≤ 300 ∧ -300 ≤ s.f1 ∧ s.f1 ≤ 300
theorem ev_near (l : List S26) (hl : l.length ≤ 20) : ∀ (m i : Nat), m + i = l.length → ∃ b, Ev (fun k => cavillaw03_near.l0 k l l.length i) b ∧ (b = true → ∀ s ∈ l.drop i, inNear s) := by
  intro m
  induction m with
  | zero =>
    intro i hi
    refine ⟨true, ?_, fun _ s hs => ?_⟩
    · refine ev_succ ?_; simp only [cavillaw03_near.l0]
      exact ev_neg (by omega) (ev_now rfl)
    · rw [List.drop_eq_nil_of_le (by omega)] at hs; simp at hs
  | succ m ih =>
    intro i hi
    obtain ⟨b, h1, h2⟩ := ih (i + 1) (by omega)
    have hd := drop_rd l i (by omega)
    have e1 := w64n i (by omega)
    have i1 : (i : Int) < (l.length : Int) := by omega
    have i2 : (0 : Int) ≤ i := by omega
    by_cases c1 : (rd_T26 l i).f0 < -300
    · refine ⟨false, ?_, by simp⟩
      refine ev_succ ?_; simp only [cavillaw03_near.l0]
      exact ev_pos i1 (ev_pos i2 (ev_pos i1 (ev_pos c1 (ev_now rfl))))
    by_cases c2 : (rd_T26 l i).f0 > 300
    · refine ⟨false, ?_, by simp⟩
      refine ev_succ ?_; simp only [cavillaw03_near.l0]
      exact ev_pos i1 (ev_pos i2 (ev_pos i1 (ev_neg c1 (ev_pos c2 (ev_now rfl)))))
    by_cases c3 : (rd_T26 l i).f1 < -300
    · refine ⟨false, ?_, by simp⟩
      refine ev_succ ?_; simp only [cavillaw03_near.l0]
      exact ev_pos i1 (ev_pos i2 (ev_pos i1 (ev_neg c1 (ev_neg c2 (ev_pos c3 (ev_now rfl))))))
    by_cases c4 : (rd_T26 l i).f1 > 300
    · refine ⟨false, ?_, by simp⟩
      refine ev_succ ?_; simp only [cavillaw03_near.l0]
      exact ev_pos i1 (ev_pos i2 (ev_pos i1 (ev_neg c1 (ev_neg c2 (ev_neg c3 (ev_pos c4 (ev_now rfl)))))))
    refine ⟨b, ?_, fun hb s hs => ?_⟩
    · refine ev_succ ?_; simp only [cavillaw03_near.l0]
      rw [e1]
      exact ev_pos i1 (ev_pos i2 (ev_pos i1 (ev_neg c1 (ev_neg c2 (ev_neg c3 (ev_neg c4 h1))))))
    · rw [hd] at hs
      rcases List.mem_cons.1 hs with rfl | hs
      · unfold inNear; omega
      · exact h2 hb s hs
theorem ev_bothgaps (l : List S26) (n : Int) (hl : l.length ≤ 20) (hn : n ≤ 300) : ∃ g c, Ev (fun k => span_Gaps.f k l n) (g, c) ∧ Ev (fun k => cavilref03_Gaps.f k l n) (g, c.getD 0) ∧ (c = none ∨ c = some 4 ∨ c = some 5) ∧ g.length < 4611686018427387904 := by
  rcases h : flt n l with _ | c
  · obtain ⟨r, g1, g2, g3⟩ := ev_gaps l n hl (by omega) h
    obtain ⟨q, k1, k2, k3⟩ := ev_runs l (by omega) 0 n true (by omega) (by omega)
    have e : q = r := Nrm.same k2 g2 (fun x => by
      rw [k3, g3, ← has_iff])
    subst e
    refine ⟨q, none, g1, ?_, .inl rfl, ?_⟩
    · exact ev_refgaps_f l n (by omega) (fun _ => ev_of k1 (ev_now rfl)) (fun c hc => by rw [h] at hc; simp at hc)
    · exact runs_len k2 (fun x hx => by have := (k3 x).1 hx; omega)
  · refine ⟨[], some c, ?_, ?_, ?_, by simp⟩
    · exact ev_gaps_f l n (by omega) (fun hc => by rw [h] at hc; simp at hc) (fun d hd => by rw [h] at hd; rw [← hd])
    · exact ev_refgaps_f l n (by omega) (fun hc => by rw [h] at hc; simp at hc) (fun d hd => by rw [h] at hd; injection hd with hd; rw [← hd]; rfl)
    · have := flt_or n l; rw [h] at this; exact this
theorem ev_rest (l : List S26) (n : Int) (hl : l.length ≤ 20) (hn : n ≤ 300) (hb : ∀ s ∈ l, inNear s) : Ev (fun k => cavillaw03_SpanMerges.j0 k l n false) true := by
  obtain ⟨g, c, g1, g2, g3, g4⟩ := ev_bothgaps l n hl hn
  obtain ⟨M, m1, m2, m3⟩ := ev_merge l hl
  obtain ⟨R, r1, r2, r3⟩ := ev_runs l (by omega) (-300) 301 false (by omega) (by omega)
  have e : R = M := Nrm.same r2 m2 (fun x => by
    rw [r3, m3, ← has_iff]
    constructor
    · rintro ⟨_, _, h⟩; simpa using h
    · intro h
      obtain ⟨s, hs, h1, h2⟩ := (has_iff l x).1 h
      have := hb s hs
      unfold inNear at this
      exact ⟨by omega, by omega, by simpa using h⟩)
  subst e
  have hRl : R.length < 4611686018427387904 := runs_len r2 (fun x hx => by have := (r3 x).1 hx; omega)
  refine ev_succ ?_; simp only [cavillaw03_SpanMerges.j0]
  refine ev_neg (by simp) (ev_of g1 (ev_of g2 (ev_of m1 (ev_of r1 (ev_of (ev_same R hRl) (ev_pos rfl ?_))))))
  refine ev_of (ev_cover l (by omega)) (ev_of (ev_refcover l (by omega)) (ev_pos (by simp) ?_))
  refine ev_of (ev_same g g4) (ev_pos rfl ?_)
  have hc : cavillaw01_Code.f c = some (c.getD 0) := by
    rcases g3 with rfl | rfl | rfl <;> rfl
  rw [hc]
  exact ev_some (ev_pos rfl (ev_of works (ev_now rfl)))
/- def cavillaw03_SpanMerges.Pure : Prop := ∀ (l0 : List (S26)) (a1 : Int), (l0.length ≤ maxLen ∧ ∀ e0 ∈ l0, ((Lit.int .i64 e0.f0).wf = true ∧ (Lit.int .i64 e0.f1).wf = true)) → (Lit.int .i64 a1).wf = true → ∃ k, cavillaw03_SpanMerges.f k l0 a1 = some true -/
theorem SpanMerges : cavillaw03_SpanMerges.Pure := by
  intro l0 a1 _ _
  refine Ev.rounds ?_
  unfold cavillaw03_SpanMerges.f
  rw [few_eq]
  refine ev_some ?_
  have hl : (l0.take 20).length ≤ 20 := by rw [List.length_take]; omega
  generalize l0.take 20 = l at *
  obtain ⟨b, h1, h2⟩ := ev_near l hl l.length 0 rfl
  have easy : Ev (fun k => cavillaw03_SpanMerges.j0 k l a1 true) true := by
    refine ev_succ ?_; simp only [cavillaw03_SpanMerges.j0]
    exact ev_pos (by trivial) (ev_of works (ev_now rfl))
  refine ev_of (show Ev (fun k => cavillaw03_near.f k l) b from h1) ?_
  cases b with
  | false => exact ev_neg (by simp) easy
  | true =>
    refine ev_pos rfl ?_
    by_cases c : a1 > 300
    · rw [decide_eq_true c]; exact easy
    · rw [decide_eq_false c]; exact ev_rest l a1 hl (by omega) (fun s hs => h2 rfl s (by simpa using hs))
end Go.Proofs.Ytdminogofngncaa.Pure
