import Derived.Test.YtdminogofngncaaXF3
import Derived.Test.YtdminogofngncaaSpans
import Derived.Test.YtdminogofngncaaWorks
namespace Go.Proofs.Ytdminogofngncaa.Pure
open Go.RowKit Go.Proofs.Ytdminogofngncaa.X Go.Proofs.Ytdminogofngncaa.Srt Go.Proofs.YtdminogofngncaaW.PrintWords Go.Proofs.YtdminogofngncaaW.PrintLast

def eqb (v a : S26) : Bool := a.f0 == v.f0 && a.f1 == v.f1
theorem cnt_succ (v : S26) (l : List S26) (i : Nat) (h : i < l.length) :
    ((l.drop i).countP (eqb v) : Int) = (if eqb v (rd_T26 l i) = true then 1 else 0) + ((l.drop (i + 1)).countP (eqb v) : Int) := by
  rw [drop_rd l i h, List.countP_cons]
  split <;> simp <;> omega
theorem ev_count (x t : List S26) (n j : Nat) (ht : t.length = n) (hx : x.length = n) (hn : n ≤ 20) (hj : j < n) {r : Bool}
    (hr : Ev (fun k => cavillaw03_SpanSorts.l0 k x t n (wrap64 ((j : Int) + 1))) r) : ∀ (m i : Nat) (s : Int), m + i = n → -(i : Int) ≤ s → s ≤ i →
    s + ((x.drop i).countP (eqb (rd_T26 t j)) : Int) - ((t.drop i).countP (eqb (rd_T26 t j)) : Int) = 0 →
    Ev (fun k => cavillaw03_SpanSorts.l1 k x t j s n j n i) r := by
  intro m
  induction m with
  | zero =>
    intro i s hi h0 h1 he
    rw [List.drop_eq_nil_of_le (by omega), List.drop_eq_nil_of_le (by omega)] at he
    refine ev_succ ?_; simp only [cavillaw03_SpanSorts.l1]
    exact ev_neg (by omega) (ev_pos (by simpa using he) hr)
  | succ m ih =>
    intro i s hi h0 h1
    have i1 : (i : Int) < n := by omega
    have i2 : (0 : Int) ≤ i := by omega
    have i3 : (i : Int) < (x.length : Int) := by omega
    have i4 : (0 : Int) ≤ j := by omega
    have i5 : (j : Int) < (t.length : Int) := by omega
    have i6 : (i : Int) < (t.length : Int) := by omega
    have e1 : wrap64 ((i : Int) + 1) = ((i + 1 : Nat) : Int) := by rw [w64 (by omega) (by omega)]; omega
    have e2 : wrap64 (s + 1) = s + 1 := w64 (by omega) (by omega)
    have e3 : wrap64 (s - 1) = s - 1 := w64 (by omega) (by omega)
    have e4 : wrap64 (s + 1 - 1) = s := by rw [w64 (by omega) (by omega)]; omega
    have k1 := ih (i + 1) s (by omega) (by omega) (by omega)
    have k2 := ih (i + 1) (s + 1) (by omega) (by omega) (by omega)
    have k3 := ih (i + 1) (s - 1) (by omega) (by omega) (by omega)
    rw [cnt_succ _ x i (by omega), cnt_succ _ t i (by omega)]
    clear ih hr
    revert k1 k2 k3
    generalize ((x.drop (i + 1)).countP (eqb (rd_T26 t j)) : Int) = X
    generalize ((t.drop (i + 1)).countP (eqb (rd_T26 t j)) : Int) = T
    intro k1 k2 k3 he
    refine ev_succ ?_; simp only [cavillaw03_SpanSorts.l1]
    refine ev_pos i1 (ev_pos i2 (ev_pos i3 (ev_pos i4 (ev_pos i5 ?_))))
    rw [e1, e2, e3, e4]
    by_cases c : eqb (rd_T26 t j) (rd_T26 x i) = true <;> by_cases d : eqb (rd_T26 t j) (rd_T26 t i) = true
    · rw [if_pos c, if_pos d] at he
      exact ev_pos c (ev_pos i6 (ev_pos d (k1 (by omega))))
    · rw [if_pos c, if_neg d] at he
      exact ev_pos c (ev_pos i6 (ev_neg d (k2 (by omega))))
    · rw [if_neg c, if_pos d] at he
      exact ev_neg c (ev_pos i6 (ev_pos d (k3 (by omega))))
    · rw [if_neg c, if_neg d] at he
      exact ev_neg c (ev_pos i6 (ev_neg d (k1 (by omega))))
theorem ev_reforder (a b : S26) (h : lt b a = false) : ∃ o : Int, o ≤ 0 ∧ Ev (fun k => cavilref03_Order.f k a.f0 a.f1 b.f0 b.f1) o := by
  rw [lt_not] at h
  unfold cavilref03_Order.f
  by_cases c : a.f0 < b.f0
  · refine ⟨-1, by omega, ev_pos c ?_⟩
    refine ev_succ ?_; simp only [cavilref03_Order.j0]
    exact ev_pos (by trivial) (ev_now rfl)
  · have e : a.f0 = b.f0 := by omega
    by_cases d : a.f1 < b.f1
    · refine ⟨-1, by omega, ev_neg c (ev_pos e ?_)⟩
      refine ev_succ ?_; simp only [cavilref03_Order.j0]
      exact ev_pos (by simpa using d) (ev_now rfl)
    · refine ⟨0, by omega, ev_neg c (ev_pos e ?_)⟩
      have e' : a.f1 = b.f1 := by omega
      refine ev_succ ?_; simp only [cavilref03_Order.j0]
      exact ev_neg (by simpa using d) (ev_pos (by simp [e, e']) (ev_now rfl))
theorem ev_laws (x t : List S26) (n : Nat) (ht : t.length = n) (hx : x.length = n) (hn : n ≤ 20) (hp : t.Perm x)
    (hs : t.Pairwise (fun a b => lt b a = false)) : ∀ (m j : Nat), m + j = n → Ev (fun k => cavillaw03_SpanSorts.l0 k x t n j) true := by
  intro m
  induction m with
  | zero =>
    intro j hj
    refine ev_succ ?_; simp only [cavillaw03_SpanSorts.l0]
    exact ev_neg (by omega) (ev_of (a := true) works (ev_now rfl))
  | succ m ih =>
    intro j hj
    have hc : ∀ r, Ev (fun k => cavillaw03_SpanSorts.l0 k x t n (wrap64 ((j : Int) + 1))) r → Ev (fun k => cavillaw03_SpanSorts.j1 k x t j n j false) r := by
      intro r hr
      refine ev_succ ?_; simp only [cavillaw03_SpanSorts.j1]
      refine ev_neg (by simp) ?_
      rw [hx]
      refine ev_count x t n j ht hx hn (by omega) hr n 0 0 (by omega) (by omega) (by omega) ?_
      simp only [List.drop_zero]
      rw [hp.countP_eq]; omega
    have e1 : wrap64 ((j : Int) + 1) = ((j + 1 : Nat) : Int) := by rw [w64 (by omega) (by omega)]; omega
    have hn := hc true (by rw [e1]; exact ih (j + 1) (by omega))
    refine ev_succ ?_; simp only [cavillaw03_SpanSorts.l0]
    refine ev_pos (by omega) ?_
    by_cases c : (j : Int) > 0
    · have e2 : wrap64 ((j : Int) - 1) = ((j - 1 : Nat) : Int) := by rw [w64 (by omega) (by omega)]; omega
      rw [e2]
      have hlt : lt (rd_T26 t j) (rd_T26 t ((j - 1 : Nat) : Int)) = false := by
        rw [rd_at t j (by omega), rd_at t (j - 1) (by omega)]
        exact List.pairwise_iff_getElem.1 hs (j - 1) j (by omega) (by omega) (by omega)
      obtain ⟨o, ho, hev⟩ := ev_reforder _ _ hlt
      refine ev_pos c (ev_pos (by omega) (ev_pos (by omega) (ev_pos (by omega) (ev_pos (by omega) (ev_of hev ?_)))))
      have : decide (o > 0) = false := by simpa using ho
      rw [this]; exact hn
    · exact ev_neg c hn
/- def cavillaw03_SpanSorts.Pure : Prop := ∀ (l0 : List (S26)), (l0.length ≤ maxLen ∧ ∀ e0 ∈ l0, ((Lit.int .i64 e0.f0).wf = true ∧ (Lit.int .i64 e0.f1).wf = true)) → ∃ k, cavillaw03_SpanSorts.f k l0 = some true -/
theorem SpanSorts : cavillaw03_SpanSorts.Pure := by
  intro l0 _
  refine Ev.rounds ?_
  unfold cavillaw03_SpanSorts.f
  rw [few_eq]
  refine ev_some ?_
  have hl : (l0.take 20).length ≤ 20 := by rw [List.length_take]; omega
  refine ev_of (ev_sort _ hl) ?_
  have hL : (srt lt (l0.take 20)).length = (l0.take 20).length := srt_len _ _
  refine ev_pos (by omega) ?_
  rw [hL]
  exact ev_laws _ _ _ hL rfl hl (srt_perm _ _) (srt_sorted lt_tr lt_as _) _ 0 rfl
end Go.Proofs.Ytdminogofngncaa.Pure
