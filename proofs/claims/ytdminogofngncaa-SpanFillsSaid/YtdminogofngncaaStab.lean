/-
  The sort of at most forty-one spans: blocks of twenty, merged in place.
-/
import Derived.Test.YtdminogofngncaaSym
import Derived.Test.YtdminogofngncaaXM3
namespace Go.Proofs.Ytdminogofngncaa.X
open Go.RowKit Go.Proofs.YtdminogofngncaaW.PrintWords Go.Proofs.YtdminogofngncaaW.PrintMore Go.Proofs.Ytdminogofngncaa.Srt
theorem asc_srt (l : List S26) : Asc (srt lt l) := srt_sorted lt_tr lt_as l
theorem ev_stable39 (l : List S26) (h1 : 20 < l.length) (h2 : l.length < 40) : ∃ t, Ev (fun k => api_Span_32.f k l (l.length : Int)) t ∧ t.Perm l ∧ Asc t := by
  obtain ⟨X, Y, rfl, hX⟩ := cutat (X := l) (n := 20) (by omega)
  rw [List.length_append] at h1 h2
  have hX' : (srt lt X).length = 20 := by rw [srt_len, hX]
  have hY' : (srt lt Y).length = Y.length := srt_len _ _
  obtain ⟨M, m1, m2, m3⟩ := ev_sym 100 [] (srt lt X) (srt lt Y) [] (by omega) (by intro h; rw [h] at hX'; simp at hX') (by intro h; rw [h] at hY'; simp at hY'; omega) (asc_srt X) (asc_srt Y) (by simp only [List.length_nil]; omega)
  refine ⟨M, ?_, m2.trans ((srt_perm lt X).append (srt_perm lt Y)), m3⟩
  have b1 := ev_isort [] X Y (by simp; omega)
  have b2 := ev_isort (srt lt X) Y [] (by omega)
  rw [hX'] at b2
  simp only [List.nil_append, List.append_nil, List.length_nil, hX, Int.zero_add, Nat.zero_add, hX', hY', Int.cast_ofNat_Int] at b1 b2 m1
  unfold api_Span_32.f
  have hn : ((X ++ Y).length : Int) = 20 + (Y.length : Int) := by rw [List.length_append]; omega
  have hn' : ((20 + Y.length : Nat) : Int) = 20 + (Y.length : Int) := by omega
  rw [hn]
  rw [hn'] at m1
  have e1 : wrap64 (20 + 20) = 40 := w64 (by omega) (by omega)
  have e2 : wrap64 (2 * 20) = 40 := w64 (by omega) (by omega)
  have e3 : wrap64 (0 + 20) = 20 := w64 (by omega) (by omega)
  have e4 : wrap64 (20 * 2) = 40 := w64 (by omega) (by omega)
  refine ev_succ ?_; simp only [api_Span_32.l0]
  refine ev_pos (by omega) (ev_of b1 ?_)
  refine ev_succ ?_; simp only [api_Span_32.l0, e1]
  refine ev_neg (by omega) (ev_of b2 ?_)
  refine ev_succ ?_; simp only [api_Span_32.l1, e2]
  refine ev_pos (by omega) ?_
  refine ev_succ ?_; simp only [api_Span_32.l2, e3, e4]
  refine ev_neg (by omega) (ev_pos (by omega) (ev_of m1 ?_))
  refine ev_succ ?_; simp only [api_Span_32.l1]
  exact ev_neg (by omega) (ev_now rfl)
theorem ev_stable41 (l : List S26) (h1 : 40 ≤ l.length) (h2 : l.length ≤ 41) : ∃ t, Ev (fun k => api_Span_32.f k l (l.length : Int)) t ∧ t.Perm l ∧ Asc t := by
  obtain ⟨X, l', rfl, hX⟩ := cutat (X := l) (n := 20) (by omega)
  rw [List.length_append] at h1 h2
  obtain ⟨Y, Z, rfl, hY⟩ := cutat (X := l') (n := 20) (by omega)
  rw [List.length_append] at h1 h2
  have hX' : (srt lt X).length = 20 := by rw [srt_len, hX]
  have hY' : (srt lt Y).length = 20 := by rw [srt_len, hY]
  have hZ' : (srt lt Z).length = Z.length := srt_len _ _
  obtain ⟨M, m1, m2, m3⟩ := ev_sym 100 [] (srt lt X) (srt lt Y) (srt lt Z) (by omega) (by intro h; rw [h] at hX'; simp at hX') (by intro h; rw [h] at hY'; simp at hY') (asc_srt X) (asc_srt Y) (by simp only [List.length_nil]; omega)
  have hM : M.length = 40 := by rw [m2.length_eq, List.length_append]; omega
  have b1 := ev_isort [] X (Y ++ Z) (by simp; omega)
  have b2 := ev_isort (srt lt X) Y Z (by omega)
  have b3 := ev_isort (srt lt X ++ srt lt Y) Z [] (by rw [List.length_append]; omega)
  rw [hX'] at b2
  rw [List.length_append, hX', hY'] at b3
  simp only [List.nil_append, List.append_nil, List.length_nil, hX, hY, Int.zero_add, Nat.zero_add, hX', hY', Int.cast_ofNat_Int, Nat.reduceAdd, Int.reduceAdd] at b1 b2 b3 m1
  have hn : ((X ++ (Y ++ Z)).length : Int) = 40 + (Z.length : Int) := by rw [List.length_append, List.length_append]; omega
  have e1 : wrap64 (20 + 20) = 40 := w64 (by omega) (by omega)
  have e2 : wrap64 (2 * 20) = 40 := w64 (by omega) (by omega)
  have e3 : wrap64 (0 + 20) = 20 := w64 (by omega) (by omega)
  have e4 : wrap64 (20 * 2) = 40 := w64 (by omega) (by omega)
  have e5 : wrap64 (40 + 20) = 60 := w64 (by omega) (by omega)
  have e6 : wrap64 (40 + 40) = 80 := w64 (by omega) (by omega)
  have e7 : wrap64 (2 * 40) = 80 := w64 (by omega) (by omega)
  have e8 : wrap64 (0 + 40) = 40 := w64 (by omega) (by omega)
  have e9 : wrap64 (40 * 2) = 80 := w64 (by omega) (by omega)
  have a1 : X ++ (Y ++ Z) = X ++ Y ++ Z := by simp
  have main : ∀ r, Ev (fun k => api_Span_32.l1 k (M ++ srt lt Z) (40 + (Z.length : Int)) 40) r → Ev (fun k => api_Span_32.f k (X ++ (Y ++ Z)) (((X ++ (Y ++ Z)).length : Nat) : Int)) r := by
    intro r hr
    unfold api_Span_32.f
    rw [hn]
    refine ev_succ ?_; simp only [api_Span_32.l0]
    refine ev_pos (by omega) (ev_of b1 ?_)
    have a2 : srt lt X ++ (Y ++ Z) = srt lt X ++ Y ++ Z := by simp
    rw [a2]
    refine ev_succ ?_; simp only [api_Span_32.l0, e1]
    refine ev_pos (by omega) (ev_of b2 ?_)
    refine ev_succ ?_; simp only [api_Span_32.l0, e5]
    refine ev_neg (by omega) (ev_of b3 ?_)
    refine ev_succ ?_; simp only [api_Span_32.l1, e2]
    refine ev_pos (by omega) ?_
    refine ev_succ ?_; simp only [api_Span_32.l2, e3, e4, e2, e6]
    refine ev_pos (by omega) (ev_of m1 ?_)
    refine ev_succ ?_; simp only [api_Span_32.l2, e5, e4]
    exact ev_neg (by omega) (ev_neg (by omega) hr)
  have p0 : (M ++ srt lt Z).Perm (X ++ (Y ++ Z)) := by
    rw [a1]
    exact (m2.trans ((srt_perm lt X).append (srt_perm lt Y))).append (srt_perm lt Z)
  by_cases c : Z = []
  · subst c
    refine ⟨M ++ srt lt [], main _ ?_, p0, by simpa [srt, srtR] using m3⟩
    refine ev_succ ?_; simp only [api_Span_32.l1]
    exact ev_neg (by simp) (ev_now rfl)
  · have hZ : Z.length ≠ 0 := fun h => c (List.length_eq_zero_iff.1 h)
    obtain ⟨T, t1, t2, t3⟩ := ev_sym 100 [] M (srt lt Z) [] (by omega) (by intro h; rw [h] at hM; simp at hM) (by intro h; rw [h] at hZ'; simp at hZ'; omega) m3 (asc_srt Z) (by simp only [List.length_nil]; omega)
    simp only [List.nil_append, List.append_nil, List.length_nil, hM, hZ', Nat.zero_add, Int.cast_ofNat_Int] at t1
    have hn' : ((40 + Z.length : Nat) : Int) = 40 + (Z.length : Int) := by omega
    rw [hn'] at t1
    refine ⟨T, main _ ?_, t2.trans p0, t3⟩
    refine ev_succ ?_; simp only [api_Span_32.l1, e7]
    refine ev_pos (by omega) ?_
    refine ev_succ ?_; simp only [api_Span_32.l2, e8, e9]
    refine ev_neg (by omega) (ev_pos (by omega) (ev_of t1 ?_))
    refine ev_succ ?_; simp only [api_Span_32.l1]
    exact ev_neg (by omega) (ev_now rfl)
theorem ev_sort41 (l : List S26) (h : l.length ≤ 41) : ∃ t, Ev (fun k => span_Sort.f k l) t ∧ t.Perm l ∧ Asc t := by
  by_cases c : l.length ≤ 20
  · exact ⟨_, ev_sort l c, srt_perm _ _, asc_srt l⟩
  have : ∃ t, Ev (fun k => api_Span_32.f k l (l.length : Int)) t ∧ t.Perm l ∧ Asc t := by
    by_cases d : l.length < 40
    · exact ev_stable39 l (by omega) d
    · exact ev_stable41 l (by omega) h
  obtain ⟨t, h1, h2⟩ := this
  refine ⟨t, ?_, h2⟩
  unfold span_Sort.f
  have hc : api_Span_26.f l = some l := by unfold api_Span_26.f; rw [if_pos (by omega)]
  rw [hc]
  refine ev_some (ev_of (a := t) ?_ (ev_now rfl))
  unfold api_Span_27.f
  exact ev_of h1 (ev_now rfl)
theorem ev_merge41 (l : List S26) (h : l.length ≤ 41) : ∃ r, Ev (fun k => span_Merge.f k l) r ∧ Nrm r ∧ ∀ x, Cov r x ↔ Cov l x := by
  obtain ⟨t, h1, h2, h3⟩ := ev_sort41 l h
  obtain ⟨r, g1, _, g2⟩ := ev_merge_of l t (by omega) h2 h3 h1
  exact ⟨r, g1, g2⟩
end Go.Proofs.Ytdminogofngncaa.X
