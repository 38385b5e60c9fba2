/-
  The sort of at most twenty spans, and the plain facts of lists of spans that the laws need.
-/
import Derived.Test.YtdminogofngncaaISort
import Derived.Test.YtdminogofngncaaXF8
import Derived.Test.YtdminogofngncaaXF7
namespace Go.Proofs.Ytdminogofngncaa.X
open Go.RowKit Go.Proofs.YtdminogofngncaaW.PrintWords Go.Proofs.YtdminogofngncaaW.PrintLast Go.Proofs.Ytdminogofngncaa.Srt
theorem ev_isort0 (M : List S26) (hl : M.length ≤ 20) : Ev (fun k => api_Span_36.f k M 0 M.length) (srt lt M) := by
  have := ev_isort [] M [] (by simp; omega)
  simpa using this
theorem ev_isort_none (M : List S26) (hl : M.length ≤ 20) : Ev (fun k => api_Span_36.f k M M.length M.length) M := by
  have := ev_isort M [] [] (by simp; omega)
  simpa [srt, srtR] using this
theorem ev_sort (l : List S26) (hl : l.length ≤ 20) : Ev (fun k => span_Sort.f k l) (srt lt l) := by
  unfold span_Sort.f
  have hc : api_Span_26.f l = some l := by unfold api_Span_26.f; rw [if_pos (by omega)]
  rw [hc]
  refine ev_some (ev_of (a := srt lt l) ?_ (ev_now rfl))
  unfold api_Span_27.f
  refine ev_of (a := srt lt l) ?_ (ev_now rfl)
  unfold api_Span_32.f
  refine ev_succ ?_; simp only [api_Span_32.l0]
  by_cases c : (20 : Int) ≤ l.length
  · have hn : l.length = 20 := by omega
    have hL : (srt lt l).length = 20 := by rw [srt_len, hn]
    have e20 : (20 : Int) = (l.length : Int) := by omega
    refine ev_pos c (ev_of (a := srt lt l) ?_ ?_)
    · have := ev_isort0 l hl
      rw [hn] at this; exact this
    refine ev_succ ?_; simp only [api_Span_32.l0]
    have e40 : wrap64 (20 + 20) = 40 := w64 (by omega) (by omega)
    rw [e40]
    refine ev_neg (by omega) (ev_of (a := srt lt l) ?_ ?_)
    · have := ev_isort_none (srt lt l) (by omega)
      rw [hL] at this; rw [hn]; exact this
    refine ev_succ ?_; simp only [api_Span_32.l1]
    exact ev_neg (by omega) (ev_now rfl)
  · refine ev_neg c (ev_of (ev_isort0 l hl) ?_)
    refine ev_succ ?_; simp only [api_Span_32.l1]
    exact ev_neg (by omega) (ev_now rfl)
theorem few_eq (l : List S26) : cavillaw03_few.f l = some (l.take 20) := by
  unfold cavillaw03_few.f
  have h : mn (l.length : Int) 20 = if (l.length : Int) ≤ 20 then (l.length : Int) else 20 := by unfold mn; split <;> omega
  rw [h]
  by_cases c : (l.length : Int) ≤ 20
  · rw [if_pos c, if_pos (by omega), if_pos (by omega)]
    simp only [Int.toNat_natCast, List.take_length]
    rw [List.take_of_length_le (by omega)]
  · rw [if_neg c, if_pos (by omega), if_pos (by omega)]; rfl
theorem rd_at (l : List S26) (i : Nat) (h : i < l.length) : rd_T26 l (i : Int) = l[i] := by
  unfold rd_T26; rw [List.getD_eq_getElem?_getD]; simp [h]
theorem drop_rd (l : List S26) (i : Nat) (h : i < l.length) : l.drop i = rd_T26 l (i : Int) :: l.drop (i + 1) := by
  rw [rd_at l i h]; exact List.drop_eq_getElem_cons h
end Go.Proofs.Ytdminogofngncaa.X
