/-
  Tables of lines, as plain lists: what New, check, Line, Pos and Offset answer.
-/
import Derived.Test.YtglbfoekeloidaaEv
import Derived.Test.YtglbfoekeloidaaXF7
import Derived.Test.YtglbfoekeloidaaXF18
import Derived.Test.YtglbfoekeloidaaXF8
import Derived.Test.YtglbfoekeloidaaXF9
import Derived.Test.YtglbfoekeloidaaXF12
import Derived.Test.YtglbfoekeloidaaXPos
namespace Go.Proofs.Ytglbfoekeloidaa.X
open Go.RowKit Go.Proofs.YtglbfoekeloidaaW.PrintWords Go.Proofs.YtglbfoekeloidaaW.PrintMore

/-- The starts of the lines of the first n bytes. -/
def St (b : List Int) : Nat → List Int
  | 0 => [0]
  | n + 1 => if rd b (n : Int) = 10 then St b n ++ [(n : Int) + 1] else St b n

theorem St_succ (b : List Int) (n : Nat) : St b (n + 1) = if rd b (n : Int) = 10 then St b n ++ [(n : Int) + 1] else St b n := rfl
theorem rd_app_left {l t : List Int} {i : Int} (h0 : 0 ≤ i) (h : i < l.length) : rd (l ++ t) i = rd l i := by
  unfold rd; rw [List.getD_eq_getElem?_getD, List.getD_eq_getElem?_getD, List.getElem?_append_left (by omega)]
theorem rd_app_last {l : List Int} {x : Int} : rd (l ++ [x]) (l.length : Int) = x := by
  unfold rd; simp
theorem St_len (b : List Int) : ∀ n, 1 ≤ (St b n).length ∧ (St b n).length ≤ n + 1
  | 0 => by simp [St]
  | n + 1 => by
    have := St_len b n
    unfold St
    by_cases c : rd b (n : Int) = 10
    · rw [if_pos c, List.length_append]; simp; omega
    · rw [if_neg c]; omega
theorem St_zero (b : List Int) : ∀ n, rd (St b n) 0 = 0
  | 0 => by simp [St, rd]
  | n + 1 => by
    have := St_len b n
    unfold St
    by_cases c : rd b (n : Int) = 10
    · rw [if_pos c, rd_app_left (by omega) (by omega)]; exact St_zero b n
    · rw [if_neg c]; exact St_zero b n
theorem St_le (b : List Int) : ∀ n, ∀ x ∈ St b n, 0 ≤ x ∧ x ≤ n
  | 0 => by simp [St]
  | n + 1 => by
    intro x hx
    unfold St at hx
    by_cases c : rd b (n : Int) = 10
    · rw [if_pos c] at hx
      rcases List.mem_append.1 hx with h | h
      · have := St_le b n x h; omega
      · simp at h; omega
    · rw [if_neg c] at hx; have := St_le b n x hx; omega
theorem rd_mem {l : List Int} {i : Int} (h0 : 0 ≤ i) (h : i < l.length) : rd l i ∈ l := by
  unfold rd; rw [List.getD_eq_getElem?_getD, List.getElem?_eq_getElem (by omega)]; simp
theorem St_last (b : List Int) (n : Nat) : 0 ≤ rd (St b n) (((St b n).length : Int) - 1) ∧ rd (St b n) (((St b n).length : Int) - 1) ≤ n := by
  have := St_len b n
  exact St_le b n _ (rd_mem (by omega) (by omega))
theorem St_step (b : List Int) : ∀ n, ∀ j : Nat, 1 ≤ j → j < (St b n).length → rd (St b n) ((j : Int) - 1) < rd (St b n) j ∧ rd b (rd (St b n) j - 1) = 10 ∧ 1 ≤ rd (St b n) j
  | 0 => by intro j h1 h2; simp [St] at h2; omega
  | n + 1 => by
    intro j h1 h2
    have hl := St_len b n
    unfold St at h2 ⊢
    by_cases c : rd b (n : Int) = 10
    · rw [if_pos c] at h2 ⊢
      rw [List.length_append, List.length_singleton] at h2
      by_cases e : j = (St b n).length
      · subst e
        rw [rd_app_left (by omega) (by omega), rd_app_last]
        have := St_last b n
        refine ⟨by omega, ?_, by omega⟩
        rw [show ((n : Int) + 1 - 1) = n by omega]; exact c
      · rw [rd_app_left (by omega) (by omega), rd_app_left (by omega) (by omega)]
        exact St_step b n j h1 (by omega)
    · rw [if_neg c] at h2 ⊢
      exact St_step b n j h1 h2

structure Valid (l : List Int) (size : Int) : Prop where
  pos : 0 < l.length
  zero : rd l 0 = 0
  last : rd l ((l.length : Int) - 1) ≤ size
  step : ∀ j : Nat, 1 ≤ j → j < l.length → rd l ((j : Int) - 1) < rd l j
theorem St_valid (b : List Int) (n : Nat) : Valid (St b n) n := ⟨(St_len b n).1, St_zero b n, (St_last b n).2, fun j h1 h2 => (St_step b n j h1 h2).1⟩

theorem new_ev (b : List Int) (hb : b.length ≤ 1000000) : Ev (fun k => lines_New.f k b) (St b b.length, (b.length : Int)) := by
  have go : ∀ d i : Nat, i + d = b.length → Ev (fun k => lines_New.l0 k b (b.length : Int) i (St b i) (b.length : Int)) (St b b.length, (b.length : Int)) := by
    intro d
    induction d with
    | zero =>
      intro i hi
      refine ev_succ ?_
      simp only [lines_New.l0]
      exact ev_neg (by omega) (ev_now (by rw [show i = b.length by omega]))
    | succ d ih =>
      intro i hi
      refine ev_succ ?_
      simp only [lines_New.l0]
      refine ev_pos (by omega) (ev_pos (by omega) (ev_pos (by omega) ?_))
      have e : wrap64 ((i : Int) + 1) = ((i + 1 : Nat) : Int) := by rw [w64 (by omega) (by omega)]; omega
      have h := ih (i + 1) (by omega)
      have hl := St_len b i
      rw [e]
      by_cases c : rd b (i : Int) = 10
      · refine ev_pos c (ev_pos (by omega) ?_)
        rw [show St b (i + 1) = St b i ++ [((i + 1 : Nat) : Int)] by rw [St, if_pos c]; rfl] at h
        exact h
      · refine ev_neg c ?_
        rw [show St b (i + 1) = St b i by rw [St, if_neg c]] at h
        exact h
  unfold lines_New.f
  exact go b.length 0 (by omega)

theorem check_ev {l : List Int} {size : Int} (h : Valid l size) (hl : l.length ≤ 1000000) : Ev (fun k => lines_check.f k l size) none := by
  have hp := h.pos
  have go : ∀ d i : Nat, 1 ≤ i → i + d = l.length → Ev (fun k => lines_check.l0 k i l size) none := by
    intro d
    induction d with
    | zero =>
      intro i h1 hi
      refine ev_succ ?_
      simp only [lines_check.l0]
      exact ev_neg (by omega) (ev_now rfl)
    | succ d ih =>
      intro i h1 hi
      refine ev_succ ?_
      simp only [lines_check.l0]
      have e1 : wrap64 ((i : Int) - 1) = i - 1 := w64 (by omega) (by omega)
      have e2 : wrap64 ((i : Int) + 1) = ((i + 1 : Nat) : Int) := by rw [w64 (by omega) (by omega)]; omega
      rw [e1, e2]
      have := h.step i h1 (by omega)
      refine ev_pos (by omega) (ev_pos (by omega) (ev_pos (by omega) (ev_pos (by omega) (ev_neg (by omega) ?_))))
      exact ih (i + 1) (by omega) (by omega)
  unfold lines_check.f
  have e1 : wrap64 ((l.length : Int) - 1) = l.length - 1 := w64 (by omega) (by omega)
  rw [e1]
  refine ev_neg (by omega) (ev_pos (by omega) (ev_pos h.zero (ev_pos (by omega) (ev_pos (by omega) ?_))))
  refine ev_succ ?_
  simp only [lines_check.j0]
  have := h.last
  refine ev_neg (by simp; omega) ?_
  exact go (l.length - 1) 1 (by omega) (by omega)

theorem line_ev {l : List Int} {size : Int} (h : Valid l size) (hl : l.length ≤ 1000000) (n : Nat) (h1 : 1 ≤ n) (h2 : n ≤ l.length) :
    Ev (fun k => lines_Line.f k l size n) (rd l ((n : Int) - 1), (if n = l.length then size else rd l n), none) := by
  unfold lines_Line.f
  refine ev_of (check_ev h hl) ?_
  refine ev_pos rfl (ev_neg (by omega) ?_)
  refine ev_succ ?_
  simp only [lines_Line.j0]
  have e1 : wrap64 ((n : Int) - 1) = n - 1 := w64 (by omega) (by omega)
  rw [e1]
  refine ev_neg (by simp; omega) ?_
  by_cases c : n = l.length
  · exact ev_pos (by omega) (ev_pos (by omega) (ev_pos (by omega) (ev_now (by rw [if_pos c]))))
  · exact ev_neg (by omega) (ev_pos (by omega) (ev_pos (by omega) (ev_pos (by omega) (ev_pos (by omega) (ev_now (by rw [if_neg c]))))))
theorem line_out {l : List Int} {size n : Int} (h : Valid l size) (hl : l.length ≤ 1000000) (hn : n < 1 ∨ l.length < n) :
    Ev (fun k => lines_Line.f k l size n) (0, 0, some 4) := by
  unfold lines_Line.f
  refine ev_of (check_ev h hl) ?_
  refine ev_pos rfl ?_
  by_cases c : n < 1
  · refine ev_pos c (ev_succ ?_)
    simp only [lines_Line.j0]
    exact ev_pos trivial (ev_now rfl)
  · refine ev_neg c (ev_succ ?_)
    simp only [lines_Line.j0]
    exact ev_pos (by simp; omega) (ev_now rfl)

theorem pos_ev {l : List Int} {size off : Int} (h : Valid l size) (hl : l.length ≤ 1000000) (hs : size ≤ 1000000) (h0 : 0 ≤ off) (h1 : off ≤ size) (h2 : 0 ≤ rd l ((lineOf l off : Int) - 1)) (h3 : rd l ((lineOf l off : Int) - 1) ≤ off) :
    Ev (fun k => lines_Pos.f k l size off) ((lineOf l off : Int), off - rd l ((lineOf l off : Int) - 1) + 1, none) := by
  unfold lines_Pos.f
  refine ev_pos (by omega) (ev_of (check_ev h hl) (ev_pos rfl (ev_neg (by omega) (ev_neg (by omega) (ev_now ?_)))))
  rw [w64 (x := off - _) (by omega) (by omega), w64 (by omega) (by omega)]

theorem offset_ev {l : List Int} {size : Int} (h : Valid l size) (hl : l.length ≤ 1000000) (hs : size ≤ 1000000) (n : Nat) (h1 : 1 ≤ n) (h2 : n ≤ l.length) (c : Int) (hc : 1 ≤ c) (h0 : 0 ≤ rd l ((n : Int) - 1))
    (hr : rd l ((n : Int) - 1) + c ≤ if n = l.length then size + 1 else rd l n) (hle : (if n = l.length then size else rd l n) ≤ 1000000) :
    Ev (fun k => lines_Offset.f k l size n c) (rd l ((n : Int) - 1) + c - 1, none) := by
  unfold lines_Offset.f
  refine ev_of (line_ev h hl n h1 h2) ?_
  refine ev_pos rfl ?_
  by_cases e : n = l.length
  · rw [if_pos e] at hr hle
    simp only [if_pos e]
    refine ev_pos (by omega) (ev_neg (by omega) ?_)
    rw [w64 (x := size - _) (by omega) (by omega), w64 (x := size - _ + 1) (by omega) (by omega)]
    refine ev_neg (by omega) (ev_now ?_)
    rw [w64 (x := _ + c) (by omega) (by omega), w64 (by omega) (by omega)]
  · rw [if_neg e] at hr hle
    simp only [if_neg e]
    refine ev_neg (by omega) (ev_neg (by omega) ?_)
    rw [w64 (x := rd l (n : Int) - _) (by omega) (by omega)]
    refine ev_neg (by omega) (ev_now ?_)
    rw [w64 (x := _ + c) (by omega) (by omega), w64 (by omega) (by omega)]

theorem lineOf_eq (l : List Int) (off : Int) : lineOf l off = l.countP (fun x => !decide (x > off)) := by
  unfold lineOf
  have h : l = (List.range l.length).map (fun i : Nat => rd l (i : Int)) := by
    apply List.ext_getElem
    · simp
    · intro i h1 h2
      simp only [List.getElem_map, List.getElem_range]
      unfold rd
      rw [Int.toNat_natCast, List.getD_eq_getElem?_getD, List.getElem?_eq_getElem h1]; rfl
  conv => rhs; rw [h]
  rw [List.countP_map]; rfl

theorem St_split (b : List Int) (off : Nat) : ∀ d, ∃ t, St b (off + d) = St b off ++ t ∧ ∀ x ∈ t, (off : Int) < x
  | 0 => ⟨[], by simp, by simp⟩
  | d + 1 => by
    obtain ⟨t, ht, hx⟩ := St_split b off d
    rw [show off + (d + 1) = (off + d) + 1 by omega, St_succ]
    by_cases c : rd b ((off + d : Nat) : Int) = 10
    · refine ⟨t ++ [((off + d : Nat) : Int) + 1], by rw [if_pos c, ht, List.append_assoc], ?_⟩
      intro x h
      rcases List.mem_append.1 h with h | h
      · exact hx x h
      · simp at h; omega
    · exact ⟨t, by rw [if_neg c, ht], hx⟩
theorem lineOf_St (b : List Int) (off n : Nat) (h : off ≤ n) : lineOf (St b n) off = (St b off).length := by
  obtain ⟨t, ht, hx⟩ := St_split b off (n - off)
  rw [show off + (n - off) = n by omega] at ht
  rw [lineOf_eq, ht, List.countP_append]
  have h1 : (St b off).countP (fun x => !decide (x > (off : Int))) = (St b off).length := List.countP_eq_length.2 (fun x h => by have := St_le b off x h; simp; omega)
  have h2 : t.countP (fun x => !decide (x > (off : Int))) = 0 := List.countP_eq_zero.2 (fun x h => by have := hx x h; simp; omega)
  omega
theorem rd_St (b : List Int) (off n : Nat) (h : off ≤ n) (i : Int) (h0 : 0 ≤ i) (h1 : i < (St b off).length) : rd (St b n) i = rd (St b off) i := by
  obtain ⟨t, ht, hx⟩ := St_split b off (n - off)
  rw [show off + (n - off) = n by omega] at ht
  rw [ht, rd_app_left h0 h1]
theorem next_St (b : List Int) (off n : Nat) (h : off ≤ n) (h1 : (St b off).length < (St b n).length) : (off : Int) < rd (St b n) (St b off).length := by
  obtain ⟨t, ht, hx⟩ := St_split b off (n - off)
  rw [show off + (n - off) = n by omega] at ht
  rw [ht, List.length_append] at h1
  apply hx
  rw [ht]
  unfold rd
  rw [Int.toNat_natCast, List.getD_eq_getElem?_getD, List.getElem?_append_right (Nat.le_refl _), Nat.sub_self]
  cases t with
  | nil => simp at h1
  | cons a t => simp

theorem works_ev : Ev (fun k => cavillaw02_works.f k) true := by
  unfold cavillaw02_works.f
  have h1 := new_ev [97, 10, 98] (by decide)
  have e : St [97, 10, 98] ([97, 10, 98] : List Int).length = [0, 2] := by simp [St, rd]
  rw [e] at h1
  refine ev_of h1 ?_
  have hv : Valid [0, 2] 3 := ⟨by decide, by simp [rd], by simp [rd], fun j a b => by
    have hj : j = 1 := by simp at b; omega
    subst hj
    show rd [0, 2] 0 < rd [0, 2] 1
    decide⟩
  have hl : lineOf [0, 2] 2 = 2 := by decide
  have h2 := pos_ev (off := 2) hv (by decide) (by decide) (by decide) (by decide) (by rw [hl]; simp [rd]) (by rw [hl]; simp [rd])
  rw [hl] at h2
  refine ev_of h2 ?_
  refine ev_pos rfl (ev_pos (by simp [rd]) (ev_pos rfl (ev_now rfl)))
end Go.Proofs.Ytglbfoekeloidaa.X
