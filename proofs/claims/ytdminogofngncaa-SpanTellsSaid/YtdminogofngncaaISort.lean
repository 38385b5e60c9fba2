/-
  What the order and the insertion sort of spans compute.
-/
import Derived.Test.YtdminogofngncaaXF36
import Derived.Test.YtdminogofngncaaXM2
namespace Go.Proofs.Ytdminogofngncaa.X
open Go.RowKit Go.Proofs.YtdminogofngncaaW.PrintWords Go.Proofs.Ytdminogofngncaa.Srt
def cmp3 (a b : Int) : Int := if a < b then -1 else if a > b then 1 else 0
theorem compare_eq (a b : Int) : cmp_Compare_int.f a b = some (cmp3 a b) := by
  unfold cmp_Compare_int.f cmp_isNaN_int.f cmp3
  simp only [bne_self_eq_false, Option.bind_some, Bool.false_eq_true, if_false]
  split
  · rfl
  · split <;> rfl
theorem ev_or (x y : Int) : Ev (fun k => cmp_Or_int.f k [x, y]) (if x = 0 then y else x) := by
  show Ev (fun k => cmp_Or_int.l0 k 0 [x, y] 2 0) _
  refine ev_succ ?_; simp only [cmp_Or_int.l0]
  refine ev_pos (by omega) (ev_pos (by omega) (ev_pos (by simp) ?_))
  have e0 : rd [x, y] 0 = x := rfl
  rw [e0]
  by_cases c : x = 0
  · rw [if_pos c]
    refine ev_pos c ?_
    refine ev_succ ?_; simp only [cmp_Or_int.l0]
    have e1 : wrap64 (0 + 1) = 1 := w64 (by omega) (by omega)
    have e2 : rd [x, y] 1 = y := rfl
    rw [e1, e2]
    refine ev_pos (by omega) (ev_pos (by omega) (ev_pos (by simp) ?_))
    by_cases d : y = 0
    · refine ev_pos d ?_
      refine ev_succ ?_; simp only [cmp_Or_int.l0]
      have e3 : wrap64 (1 + 1) = 2 := w64 (by omega) (by omega)
      rw [e3]
      exact ev_neg (by omega) (ev_now (by rw [d]))
    · exact ev_neg d (ev_now rfl)
  · rw [if_neg c]
    exact ev_neg c (ev_now rfl)
def ord (a b : S26) : Int := if cmp3 a.f0 b.f0 = 0 then cmp3 a.f1 b.f1 else cmp3 a.f0 b.f0
theorem ev_order (a b : S26) : Ev (fun k => span_Order.f k a.f0 a.f1 b.f0 b.f1) (ord a b) := by
  unfold span_Order.f
  simp only [compare_eq, Option.bind_some]
  exact ev_of (ev_or _ _) (ev_now rfl)
def lt (a b : S26) : Bool := decide (ord a b < 0)
theorem lt_iff (a b : S26) : lt a b = true ↔ (a.f0 < b.f0 ∨ (a.f0 = b.f0 ∧ a.f1 < b.f1)) := by
  unfold lt ord cmp3
  rw [decide_eq_true_iff]
  split <;> split <;> (try split) <;> (try split) <;> omega
theorem lt_not (a b : S26) : lt a b = false ↔ (b.f0 < a.f0 ∨ (a.f0 = b.f0 ∧ b.f1 ≤ a.f1)) := by
  rw [← Bool.not_eq_true, lt_iff]; omega
theorem lt_tr (a b c : S26) (h : lt a b = false) (k : lt b c = false) : lt a c = false := by
  rw [lt_not] at h k ⊢; omega
theorem lt_as (a b : S26) (h : lt a b = true) : lt b a = false := by
  rw [lt_iff] at h; rw [lt_not]; omega
/-- One goes down into what is sorted. -/
theorem ev_in (C : List S26) (x2 x8 : Int) {r : List S26} : ∀ (A B : List S26) (y : S26), (C.length : Int) + A.length < 9223372036854775807 →
    Ev (fun k => api_Span_36.l0 k (C ++ (ins lt y A).reverse ++ B) C.length x2 (wrap64 (x8 + 1))) r →
    Ev (fun k => api_Span_36.l1 k (C ++ A.reverse ++ y :: B) C.length x2 x8 ((C.length : Int) + A.length)) r := by
  intro A
  induction A with
  | nil =>
    intro B y hl h
    refine ev_succ ?_; simp only [api_Span_36.l1]
    refine ev_neg (by simp) ?_
    simpa [ins] using h
  | cons z t ih =>
    intro B y hl h
    simp only [List.length_cons, Int.natCast_add, Int.natCast_one] at hl ⊢
    have e0 : C ++ (z :: t).reverse ++ y :: B = (C ++ t.reverse) ++ z :: y :: B := by simp
    rw [e0]
    have hL : (C ++ t.reverse).length = C.length + t.length := by simp
    have e1 : wrap64 ((C.length : Int) + (t.length + 1) - 1) = C.length + t.length := by rw [w64 (by omega) (by omega)]; omega
    have e2 : ((C.length : Int) + (t.length + 1)).toNat = (C ++ t.reverse).length + 1 := by omega
    have e3 : ((C.length : Int) + t.length).toNat = (C ++ t.reverse).length := by omega
    have g1 : rd_T26 ((C ++ t.reverse) ++ z :: y :: B) ((C.length : Int) + (t.length + 1)) = y := by
      unfold rd_T26; rw [e2]; exact get_snd _ _ _ _ _
    have g2 : rd_T26 ((C ++ t.reverse) ++ z :: y :: B) ((C.length : Int) + t.length) = z := by
      unfold rd_T26; rw [e3]; exact get_fst _ _ _ _
    refine ev_succ ?_; simp only [api_Span_36.l1, e1, g1, g2]
    refine ev_pos (by omega) (ev_pos (by omega) (ev_pos (by simp; omega) (ev_pos (by omega) (ev_pos (by simp; omega) (ev_of (ev_order y z) ?_)))))
    by_cases c : ord y z < 0
    · refine ev_pos c ?_
      rw [e2, e3]
      have hs := swap_next (C ++ t.reverse) z y B
      have := ih (z :: B) y (by omega) (by
        have hi : ins lt y (z :: t) = z :: ins lt y t := by simp [ins, lt, c]
        rw [hi] at h
        simpa using h)
      rw [hs]
      simpa using this
    · refine ev_neg c ?_
      have hi : ins lt y (z :: t) = y :: z :: t := by simp [ins, lt, c]
      rw [hi] at h
      simpa using h
/-- The insertion sort of a part. -/
theorem ev_isort_l (C : List S26) (D : List S26) : ∀ (todo A : List S26), (C.length : Int) + A.length + todo.length < 9223372036854775807 →
    Ev (fun k => api_Span_36.l0 k (C ++ A.reverse ++ (todo ++ D)) C.length ((C.length : Int) + A.length + todo.length) ((C.length : Int) + A.length)) (C ++ (srtR lt A todo).reverse ++ D) := by
  intro todo
  induction todo with
  | nil =>
    intro A hl
    refine ev_succ ?_; simp only [api_Span_36.l0]
    exact ev_neg (by simp) (ev_now (by simp [srtR]))
  | cons y t ih =>
    intro A hl
    simp only [List.length_cons, Int.natCast_add, Int.natCast_one] at hl ⊢
    refine ev_succ ?_; simp only [api_Span_36.l0]
    refine ev_pos (by omega) ?_
    refine ev_in C _ _ A (t ++ D) y (by omega) ?_
    have e1 : wrap64 ((C.length : Int) + A.length + 1) = (C.length : Int) + (ins lt y A).length := by
      rw [w64 (by omega) (by omega), (ins_perm lt y A).length_eq, List.length_cons]; omega
    have := ih (ins lt y A) (by rw [(ins_perm lt y A).length_eq, List.length_cons]; omega)
    rw [e1]
    have e2 : (C.length : Int) + A.length + (t.length + 1) = (C.length : Int) + (ins lt y A).length + t.length := by
      rw [(ins_perm lt y A).length_eq, List.length_cons]; omega
    rw [e2]
    exact this
theorem ev_isort (C M D : List S26) (hl : (C.length : Int) + M.length < 9223372036854775807) :
    Ev (fun k => api_Span_36.f k (C ++ M ++ D) C.length ((C.length : Int) + M.length)) (C ++ srt lt M ++ D) := by
  unfold api_Span_36.f
  cases M with
  | nil =>
    rw [w64 (by omega) (by simp at hl; omega)]
    refine ev_succ ?_; simp only [api_Span_36.l0]
    exact ev_neg (by simp; omega) (ev_now (by simp [srt, srtR]))
  | cons y t =>
    rw [w64 (by omega) (by simp at hl; omega)]
    have := ev_isort_l C D t [y] (by simp at hl ⊢; omega)
    have e : srt lt (y :: t) = (srtR lt [y] t).reverse := rfl
    rw [e]
    simp only [List.length_cons, List.length_nil, Int.natCast_add, Int.zero_add, Int.cast_ofNat_Int] at this ⊢
    have e2 : (C.length : Int) + 1 + t.length = C.length + (t.length + 1) := by omega
    rw [e2] at this
    simpa using this
end Go.Proofs.Ytdminogofngncaa.X
