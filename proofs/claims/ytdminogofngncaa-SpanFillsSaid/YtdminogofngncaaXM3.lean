/- Several texts of this session in one: YtdminogofngncaaSpans, YtdminogofngncaaRuns, YtdminogofngncaaGaps. -/
import Derived.Test.YtdminogofngncaaISort
import Derived.Test.YtdminogofngncaaXF8
import Derived.Test.YtdminogofngncaaXM1
import Derived.Test.YtdminogofngncaaXM2
import Derived.Test.YtdminogofngncaaXF12
import Derived.Test.YtdminogofngncaaXF11
import Derived.Test.YtdminogofngncaaXF16
import Derived.Test.YtdminogofngncaaXF18
import Derived.Test.YtdminogofngncaaXF15

section
/-
  The sort of at most twenty spans, and the plain facts of lists of spans that the laws need.
-/
namespace Go.Proofs.Ytdminogofngncaa.X
open Go.RowKit Go.Proofs.YtdminogofngncaaW.PrintWords Go.Proofs.YtdminogofngncaaW.PrintLast Go.Proofs.Ytdminogofngncaa.Srt
theorem ev_isort0 (M : List S26) (hl : M.length ≤ 20) : Ev (fun k => api_Span_36.f k M 0 M.length) (srt lt M) := by
  have := ev_isort [] M [] (by simp; omega)
  simpa using this
theorem ev_isort_none (M : List S26) (hl : M.length ≤ 20) : Ev (fun k => api_Span_36.f k M M.length M.length) M := by
  have := ev_isort M [] [] (by simp; omega)
  simpa [srt, srtR] using this
theorem ev_sort (l : List S26) (hl : l.length ≤ 20) : Ev (fun k => span_Sort.f k l) (srt lt l) := by
  unfold span_Sort.f
  have hc : api_Span_26.f l = some l := by unfold api_Span_26.f; rw [if_pos (by omega)]
  rw [hc]
  refine ev_some (ev_of (a := srt lt l) ?_ (ev_now rfl))
  unfold api_Span_27.f
  refine ev_of (a := srt lt l) ?_ (ev_now rfl)
  unfold api_Span_32.f
  refine ev_succ ?_; simp only [api_Span_32.l0]
  by_cases c : (20 : Int) ≤ l.length
  · have hn : l.length = 20 := by omega
    have hL : (srt lt l).length = 20 := by rw [srt_len, hn]
    have e20 : (20 : Int) = (l.length : Int) := by omega
    refine ev_pos c (ev_of (a := srt lt l) ?_ ?_)
    · have := ev_isort0 l hl
      rw [hn] at this; exact this
    refine ev_succ ?_; simp only [api_Span_32.l0]
    have e40 : wrap64 (20 + 20) = 40 := w64 (by omega) (by omega)
    rw [e40]
    refine ev_neg (by omega) (ev_of (a := srt lt l) ?_ ?_)
    · have := ev_isort_none (srt lt l) (by omega)
      rw [hL] at this; rw [hn]; exact this
    refine ev_succ ?_; simp only [api_Span_32.l1]
    exact ev_neg (by omega) (ev_now rfl)
  · refine ev_neg c (ev_of (ev_isort0 l hl) ?_)
    refine ev_succ ?_; simp only [api_Span_32.l1]
    exact ev_neg (by omega) (ev_now rfl)
theorem few_eq (l : List S26) : cavillaw03_few.f l = some (l.take 20) := by
  unfold cavillaw03_few.f
  have h : mn (l.length : Int) 20 = if (l.length : Int) ≤ 20 then (l.length : Int) else 20 := by unfold mn; split <;> omega
  rw [h]
  by_cases c : (l.length : Int) ≤ 20
  · rw [if_pos c, if_pos (by omega), if_pos (by omega)]
    simp only [Int.toNat_natCast, List.take_length]
    rw [List.take_of_length_le (by omega)]
  · rw [if_neg c, if_pos (by omega), if_pos (by omega)]; rfl
theorem rd_at (l : List S26) (i : Nat) (h : i < l.length) : rd_T26 l (i : Int) = l[i] := by
  unfold rd_T26; rw [List.getD_eq_getElem?_getD]; simp [h]
theorem drop_rd (l : List S26) (i : Nat) (h : i < l.length) : l.drop i = rd_T26 l (i : Int) :: l.drop (i + 1) := by
  rw [rd_at l i h]; exact List.drop_eq_getElem_cons h
end Go.Proofs.Ytdminogofngncaa.X
end

section
/-
  What Merge, Gaps, Cover and the document's Runs compute: lists in normal form, told by what they cover.
-/
namespace Go.Proofs.Ytdminogofngncaa.X
open Go.RowKit Go.Proofs.YtdminogofngncaaW.PrintWords Go.Proofs.YtdminogofngncaaW.PrintMore Go.Proofs.Ytdminogofngncaa.Srt
theorem w64n (i : Nat) (h : i < 4611686018427387904) : wrap64 ((i : Int) + 1) = ((i + 1 : Nat) : Int) := by rw [w64 (by omega) (by omega)]; omega

/-! ### Cover -/
def cov : List S26 → Bool → Int → Int → Int × Int
  | [], _, u, v => (u, v)
  | s :: t, f, u, v => if s.f1 ≤ s.f0 then cov t f u v else if f = true then cov t f (mn u s.f0) (mx v s.f1) else cov t true s.f0 s.f1
theorem ev_cover_l (l : List S26) (hl : l.length < 4611686018427387904) : ∀ (m i : Nat) (f : Bool) (u v : Int), m + i = l.length →
    Ev (fun k => span_Cover.l0 k f l l.length i u v) (cov (l.drop i) f u v) := by
  intro m
  induction m with
  | zero =>
    intro i f u v hi
    rw [List.drop_eq_nil_of_le (by omega)]
    refine ev_succ ?_; simp only [span_Cover.l0]
    exact ev_neg (by omega) (ev_now rfl)
  | succ m ih =>
    intro i f u v hi
    have k1 := fun f u v => ih (i + 1) f u v (by omega)
    rw [drop_rd l i (by omega), cov]
    refine ev_succ ?_; simp only [span_Cover.l0, span_empty.f]
    rw [w64n i (by omega)]
    refine ev_pos (by omega) (ev_pos (by omega) (ev_pos (by omega) (ev_some ?_)))
    by_cases c : (rd_T26 l i).f1 ≤ (rd_T26 l i).f0
    · rw [if_pos c]; exact ev_pos (by simpa using c) (k1 _ _ _)
    · rw [if_neg c]
      refine ev_neg (by simpa using c) ?_
      by_cases d : f = true
      · rw [if_pos d]; exact ev_pos d (k1 _ _ _)
      · rw [if_neg d]; exact ev_neg d (k1 _ _ _)
theorem ev_cover (l : List S26) (hl : l.length < 4611686018427387904) : Ev (fun k => span_Cover.f k l) (cov l false 0 0) :=
  ev_cover_l l hl l.length 0 false 0 0 rfl
theorem ev_refcover_l (l : List S26) (hl : l.length < 4611686018427387904) : ∀ (m i : Nat) (f : Bool) (u v : Int), m + i = l.length →
    Ev (fun k => cavilref03_Cover.l0 k l f i u v) (cov (l.drop i) f u v) := by
  intro m
  induction m with
  | zero =>
    intro i f u v hi
    rw [List.drop_eq_nil_of_le (by omega)]
    refine ev_succ ?_; simp only [cavilref03_Cover.l0]
    exact ev_neg (by omega) (ev_now rfl)
  | succ m ih =>
    intro i f u v hi
    have k1 := fun f u v => ih (i + 1) f u v (by omega)
    rw [drop_rd l i (by omega), cov]
    have i1 : (i : Int) < (l.length : Int) := by omega
    have i2 : (0 : Int) ≤ i := by omega
    have hw := w64n i (by omega)
    refine ev_succ ?_; simp only [cavilref03_Cover.l0]
    rw [hw]
    refine ev_pos i1 (ev_pos i2 ?_)
    by_cases c : (rd_T26 l i).f1 ≤ (rd_T26 l i).f0
    · rw [if_pos c]; exact ev_pos c (k1 _ _ _)
    · rw [if_neg c]
      refine ev_neg c ?_
      by_cases d : f = true
      · rw [if_pos d]
        refine ev_pos d ?_
        refine ev_succ ?_; simp only [cavilref03_Cover.j1]
        rw [hw]
        refine ev_pos i2 (ev_pos i1 ?_)
        unfold mn mx
        by_cases a : (rd_T26 l i).f0 < u <;> by_cases b : (rd_T26 l i).f1 > v
        · rw [if_pos a, if_pos (by omega)]; exact ev_pos a (ev_pos b (k1 _ _ _))
        · rw [if_pos a, if_neg (by omega)]; exact ev_pos a (ev_neg b (k1 _ _ _))
        · rw [if_neg a, if_pos (by omega)]; exact ev_neg a (ev_pos b (k1 _ _ _))
        · rw [if_neg a, if_neg (by omega)]; exact ev_neg a (ev_neg b (k1 _ _ _))
      · rw [if_neg d]
        refine ev_neg d ?_
        refine ev_succ ?_; simp only [cavilref03_Cover.j1]
        rw [hw]
        refine ev_pos i2 (ev_pos i1 (ev_neg (by omega) (ev_neg (by omega) ?_)))
        exact k1 _ _ _
theorem ev_refcover (l : List S26) (hl : l.length < 4611686018427387904) : Ev (fun k => cavilref03_Cover.f k l) (cov l false 0 0) :=
  ev_refcover_l l hl l.length 0 false 0 0 rfl
theorem ev_cover2 (b s : S26) (hb : b.f0 < b.f1) (hs : s.f0 < s.f1) (h : b.f0 ≤ s.f0) : Ev (fun k => span_Cover.f k [⟨b.f0, b.f1⟩, ⟨s.f0, s.f1⟩]) (b.f0, mx b.f1 s.f1) := by
  have e := ev_cover [⟨b.f0, b.f1⟩, ⟨s.f0, s.f1⟩] (by simp)
  have : cov [⟨b.f0, b.f1⟩, ⟨s.f0, s.f1⟩] false 0 0 = (b.f0, mx b.f1 s.f1) := by
    simp only [cov]
    rw [if_neg (by simpa using hb), if_neg (by simp), if_neg (by simpa using hs), if_pos trivial]
    unfold mn; rw [if_neg (by simpa using h)]
  rw [this] at e; exact e

/-! ### Merge -/
theorem rd_last (p : List S26) (b : S26) : rd_T26 (p ++ [b]) (p.length : Int) = b := by
  unfold rd_T26; simp
theorem set_last (p : List S26) (b c : S26) : (p ++ [b]).set (((p.length : Nat) : Int)).toNat c = p ++ [c] := by
  simp
theorem ev_merge_l (t : List S26) (hl : t.length ≤ 1000) (hs : t.Pairwise (fun a b => a.f0 ≤ b.f0)) : ∀ (m i : Nat) (acc : List S26), m + i = t.length → acc.length ≤ i → Nrm acc →
    (∀ a ∈ acc, ∀ s ∈ t.drop i, a.f0 ≤ s.f0) →
    ∃ r, Ev (fun k => span_Merge.l0 k acc t t.length i) r ∧ r.length ≤ acc.length + m ∧ Nrm r ∧ ∀ x, Cov r x ↔ Cov acc x ∨ Cov (t.drop i) x := by
  intro m
  induction m with
  | zero =>
    intro i acc hi ha hN hle
    refine ⟨acc, ?_, by omega, hN, fun x => ?_⟩
    · refine ev_succ ?_; simp only [span_Merge.l0]
      exact ev_neg (by omega) (ev_now rfl)
    · rw [List.drop_eq_nil_of_le (by omega)]; simp [Cov.nil]
  | succ m ih =>
    intro i acc hi ha hN hle
    have i1 : (i : Int) < (t.length : Int) := by omega
    have i2 : (0 : Int) ≤ i := by omega
    have hw := w64n i (by omega)
    have hd := drop_rd t i (by omega)
    have hle' : ∀ a ∈ acc, ∀ s ∈ t.drop (i + 1), a.f0 ≤ s.f0 := fun a h1 s h2 => hle a h1 s (by rw [hd]; exact List.mem_cons_of_mem _ h2)
    have hsp : ∀ b ∈ t.drop (i + 1), (rd_T26 t i).f0 ≤ b.f0 := by
      have := hs.sublist (List.drop_sublist i t)
      rw [hd] at this
      exact (List.pairwise_cons.1 this).1
    have hac : ∀ a ∈ acc, a.f0 ≤ (rd_T26 t i).f0 := fun a h1 => hle a h1 _ (by rw [hd]; exact List.mem_cons_self ..)
    have hC : ∀ x, Cov (t.drop i) x ↔ ((rd_T26 t i).f0 ≤ x ∧ x < (rd_T26 t i).f1) ∨ Cov (t.drop (i + 1)) x := fun x => by rw [hd]; exact Cov.cons
    clear hd hle
    obtain ⟨s, hse⟩ : ∃ s, rd_T26 t i = s := ⟨_, rfl⟩
    rw [hse] at hsp hac hC
    by_cases c : s.f1 ≤ s.f0
    · obtain ⟨r, h1, h0, h2, h3⟩ := ih (i + 1) acc (by omega) (by omega) hN hle'
      refine ⟨r, ?_, by omega, h2, fun x => ?_⟩
      · refine ev_succ ?_; simp only [span_Merge.l0, span_empty.f]
        rw [hw, hse]
        exact ev_pos i1 (ev_pos i2 (ev_pos i1 (ev_some (ev_pos (by simpa using c) h1))))
      · rw [h3, hC]
        constructor
        · rintro (h | h)
          · exact .inl h
          · exact .inr (.inr h)
        · rintro (h | h | h)
          · exact .inl h
          · omega
          · exact .inr h
    have hss : s = ⟨s.f0, s.f1⟩ := rfl
    have app : (∀ a ∈ acc, a.f1 < s.f0) → ∃ r, Ev (fun k => span_Merge.l0 k (acc ++ [⟨s.f0, s.f1⟩]) t t.length ((i + 1 : Nat) : Int)) r ∧ r.length ≤ acc.length + (m + 1) ∧ Nrm r ∧ ∀ x, Cov r x ↔ Cov acc x ∨ Cov (t.drop i) x := by
      intro hf
      obtain ⟨r, h1, h0, h2, h3⟩ := ih (i + 1) (acc ++ [s]) (by omega) (by rw [List.length_append, List.length_singleton]; omega) (hN.snoc (by omega) hf) (by
        intro a ha b hb
        rcases List.mem_append.1 ha with ha | ha
        · exact hle' a ha b hb
        · rw [List.mem_singleton.1 ha]; exact hsp b hb)
      refine ⟨r, h1, by (rw [List.length_append, List.length_singleton] at h0; omega), h2, fun x => ?_⟩
      rw [h3, hC, Cov.app, Cov.cons]
      simp only [Cov.nil, or_false, or_assoc]
    rcases List.eq_nil_or_concat acc with rfl | ⟨p, b, hpb⟩
    · obtain ⟨r, h1, h2⟩ := app (by simp)
      refine ⟨r, ?_, h2⟩
      refine ev_succ ?_; simp only [span_Merge.l0, span_empty.f]
      rw [hw, hse]
      refine ev_pos i1 (ev_pos i2 (ev_pos i1 (ev_some (ev_neg (by simpa using c) (ev_neg ?_ (ev_pos (by simp) h1))))))
      rw [List.length_nil, w64 (by simp) (by simp)]; simp
    · rw [List.concat_eq_append] at hpb
      subst hpb
      have hpl : (p ++ [b]).length = p.length + 1 := by simp
      have e1 : wrap64 (((p ++ [b]).length : Int) - 1) = ((p.length : Nat) : Int) := by rw [hpl, w64 (by omega) (by omega)]; omega
      have hb := hN.init
      have hbs := hac b (by simp)
      by_cases d : s.f0 ≤ b.f1
      · obtain ⟨r, h1, h0, h2, h3⟩ := ih (i + 1) (p ++ [⟨b.f0, mx b.f1 s.f1⟩]) (by omega) (by rw [List.length_append, List.length_singleton] at ha ⊢; omega) (hb.1.snoc (by show b.f0 < mx b.f1 s.f1; unfold mx; split <;> omega) hb.2.2) (by
          intro a ha x hx
          rcases List.mem_append.1 ha with ha | ha
          · exact hle' a (List.mem_append_left _ ha) x hx
          · rw [List.mem_singleton.1 ha]; exact hle' b (by simp) x hx)
        refine ⟨r, ?_, by (rw [List.length_append, List.length_singleton] at h0 ⊢; omega), h2, fun x => ?_⟩
        · refine ev_succ ?_; simp only [span_Merge.l0, span_empty.f]
          rw [hw, hse, e1, rd_last]
          refine ev_pos i1 (ev_pos i2 (ev_pos i1 (ev_some (ev_neg (by simpa using c) (ev_pos (by omega) (ev_pos (by omega) (ev_pos (by omega) (ev_pos d ?_))))))))
          refine ev_of (ev_cover2 b s (by omega) (by omega) hbs) ?_
          rw [set_last]
          exact h1
        · rw [h3, hC, Cov.app, Cov.app, Cov.cons, Cov.cons]
          have : (b.f0 ≤ x ∧ x < mx b.f1 s.f1) ↔ (b.f0 ≤ x ∧ x < b.f1) ∨ (s.f0 ≤ x ∧ x < s.f1) := by unfold mx; split <;> omega
          show (Cov p x ∨ (b.f0 ≤ x ∧ x < mx b.f1 s.f1) ∨ _) ∨ _ ↔ _
          rw [this]
          simp only [Cov.nil, or_false, or_assoc]
      · obtain ⟨r, h1, h2⟩ := app (by
          intro a ha
          rcases List.mem_append.1 ha with ha | ha
          · have := hb.2.2 a ha; omega
          · rw [List.mem_singleton.1 ha]; omega)
        refine ⟨r, ?_, h2⟩
        refine ev_succ ?_; simp only [span_Merge.l0, span_empty.f]
        rw [hw, hse, e1, rd_last]
        exact ev_pos i1 (ev_pos i2 (ev_pos i1 (ev_some (ev_neg (by simpa using c) (ev_pos (by omega) (ev_pos (by omega) (ev_pos (by omega) (ev_neg d (ev_pos (by omega) h1)))))))))
theorem ev_merge_of (l t : List S26) (hl : l.length ≤ 1000) (hp : t.Perm l) (hs : t.Pairwise (fun a b => lt b a = false)) (he : Ev (fun k => span_Sort.f k l) t) :
    ∃ r, Ev (fun k => span_Merge.f k l) r ∧ r.length ≤ l.length ∧ Nrm r ∧ ∀ x, Cov r x ↔ Cov l x := by
  have hpl := hp.length_eq
  obtain ⟨r, h1, h0, h2, h3⟩ := ev_merge_l t (by omega) (hs.imp (fun {a b} h => by rw [lt_not] at h; omega)) t.length 0 [] rfl (by simp) Nrm.nil (by simp)
  refine ⟨r, ?_, by simp at h0; omega, h2, fun x => ?_⟩
  · unfold span_Merge.f
    exact ev_of he h1
  · rw [h3]; simp only [Cov.nil, false_or, List.drop_zero]; exact Cov.perm hp
theorem ev_merge' (l : List S26) (hl : l.length ≤ 20) : ∃ r, Ev (fun k => span_Merge.f k l) r ∧ r.length ≤ l.length ∧ Nrm r ∧ ∀ x, Cov r x ↔ Cov l x :=
  ev_merge_of l (srt lt l) (by omega) (srt_perm _ _) (srt_sorted lt_tr lt_as _) (ev_sort l hl)
theorem ev_merge (l : List S26) (hl : l.length ≤ 20) : ∃ r, Ev (fun k => span_Merge.f k l) r ∧ Nrm r ∧ ∀ x, Cov r x ↔ Cov l x := by
  obtain ⟨r, h1, _, h2⟩ := ev_merge' l hl
  exact ⟨r, h1, h2⟩

/-! ### Has and Runs -/
def has (l : List S26) (x : Int) : Bool := l.any (fun s => decide (s.f0 ≤ x) && decide (x < s.f1))
theorem has_iff (l : List S26) (x : Int) : has l x = true ↔ Cov l x := by
  unfold has Cov; simp [List.any_eq_true]
theorem ev_has (l : List S26) (x : Int) (hl : l.length < 4611686018427387904) : ∀ (m i : Nat), m + i = l.length → Ev (fun k => cavilref03_Has.l0 k l x i) (has (l.drop i) x) := by
  intro m
  induction m with
  | zero =>
    intro i hi
    rw [List.drop_eq_nil_of_le (by omega)]
    refine ev_succ ?_; simp only [cavilref03_Has.l0]
    exact ev_neg (by omega) (ev_now rfl)
  | succ m ih =>
    intro i hi
    have k1 := ih (i + 1) (by omega)
    rw [drop_rd l i (by omega)]
    refine ev_succ ?_; simp only [cavilref03_Has.l0]
    rw [w64n i (by omega)]
    have hh : has (rd_T26 l i :: l.drop (i + 1)) x = ((decide ((rd_T26 l i).f0 ≤ x) && decide (x < (rd_T26 l i).f1)) || has (l.drop (i + 1)) x) := rfl
    rw [hh]
    refine ev_pos (by omega) (ev_pos (by omega) ?_)
    by_cases a : (rd_T26 l i).f0 ≤ x
    · refine ev_pos a ?_
      by_cases b : x < (rd_T26 l i).f1
      · exact ev_pos b (ev_now (by simp [a, b]))
      · refine ev_neg b ?_
        have : ((decide ((rd_T26 l i).f0 ≤ x) && decide (x < (rd_T26 l i).f1)) || has (l.drop (i + 1)) x) = has (l.drop (i + 1)) x := by simp [b]
        rw [this]; exact k1
    · refine ev_neg a ?_
      have : ((decide ((rd_T26 l i).f0 ≤ x) && decide (x < (rd_T26 l i).f1)) || has (l.drop (i + 1)) x) = has (l.drop (i + 1)) x := by simp [a]
      rw [this]; exact k1
theorem ev_runs_l (l : List S26) (hl : l.length < 4611686018427387904) (lo hi : Int) (inv : Bool) (h0 : -1000 ≤ lo) (h1 : hi ≤ 1000) : ∀ (m : Nat) (x : Int) (acc : List S26), (m : Int) + x = hi → lo ≤ x → (acc.length : Int) ≤ x - lo → Nrm acc →
    (∀ a ∈ acc, a.f1 ≤ x) → (∀ y, Cov acc y ↔ lo ≤ y ∧ y < x ∧ has l y ≠ inv) →
    ∃ r, Ev (fun k => cavilref03_Runs.l0 k l hi inv acc x) r ∧ Nrm r ∧ ∀ y, Cov r y ↔ lo ≤ y ∧ y < hi ∧ has l y ≠ inv := by
  intro m
  induction m with
  | zero =>
    intro x acc hx hlo hal hN hle hC
    refine ⟨acc, ?_, hN, fun y => ?_⟩
    · refine ev_succ ?_; simp only [cavilref03_Runs.l0]
      exact ev_neg (by omega) (ev_now rfl)
    · rw [hC]; have : x = hi := by omega
      rw [this]
  | succ m ih =>
    intro x acc hx hlo hal hN hle hC
    have hxh : x < hi := by omega
    have hw : wrap64 (x + 1) = x + 1 := w64 (by omega) (by omega)
    have hy : ∀ y, y < x + 1 ↔ y < x ∨ y = x := fun y => by omega
    have eh : Ev (fun k => cavilref03_Has.f k l x) (has l x) := ev_has l x hl l.length 0 rfl
    by_cases c : has l x = inv
    · obtain ⟨r, g1, g2⟩ := ih (x + 1) acc (by omega) (by omega) (by omega) hN (fun a ha => by have := hle a ha; omega) (fun y => by
        rw [hC, hy]
        constructor
        · rintro ⟨a, b, d⟩; exact ⟨a, .inl b, d⟩
        · rintro ⟨a, b | b, d⟩
          · exact ⟨a, b, d⟩
          · subst b; exact absurd c d)
      refine ⟨r, ?_, g2⟩
      refine ev_succ ?_; simp only [cavilref03_Runs.l0]
      rw [hw]
      exact ev_pos hxh (ev_of eh (ev_pos (by simpa using c) g1))
    have app : (∀ a ∈ acc, a.f1 < x) → ∃ r, Ev (fun k => cavilref03_Runs.l0 k l hi inv (acc ++ [⟨x, x + 1⟩]) (x + 1)) r ∧ Nrm r ∧ ∀ y, Cov r y ↔ lo ≤ y ∧ y < hi ∧ has l y ≠ inv := by
      intro hf
      refine ih (x + 1) (acc ++ [⟨x, x + 1⟩]) (by omega) (by omega) (by rw [List.length_append, List.length_singleton]; omega) (hN.snoc (by show x < x + 1; omega) hf) ?_ ?_
      · intro a ha
        rcases List.mem_append.1 ha with ha | ha
        · have := hle a ha; omega
        · rw [List.mem_singleton.1 ha]; exact Int.le_refl _
      · intro y
        rw [Cov.app, hC, Cov.cons, hy]
        simp only [Cov.nil, or_false]
        constructor
        · rintro (⟨a, b, d⟩ | ⟨a, b⟩)
          · exact ⟨a, .inl b, d⟩
          · have : y = x := by omega
            subst this; exact ⟨hlo, .inr rfl, c⟩
        · rintro ⟨a, b | b, d⟩
          · exact .inl ⟨a, b, d⟩
          · exact .inr (by omega)
    have hbn : ¬ ((has l x == inv) = true) := by simpa using c
    rcases List.eq_nil_or_concat acc with rfl | ⟨p, b, hpb⟩
    · obtain ⟨r, g1, g2⟩ := app (by simp)
      refine ⟨r, ?_, g2⟩
      refine ev_succ ?_; simp only [cavilref03_Runs.l0]
      rw [hw]
      exact ev_pos hxh (ev_of eh (ev_neg hbn (ev_neg (by simp) (ev_pos (by simp) g1))))
    · rw [List.concat_eq_append] at hpb
      subst hpb
      have hpl : (p ++ [b]).length = p.length + 1 := by simp
      have e1 : wrap64 (((p ++ [b]).length : Int) - 1) = ((p.length : Nat) : Int) := by rw [hpl, w64 (by omega) (by omega)]; omega
      have hb := hN.init
      by_cases d : b.f1 = x
      · obtain ⟨r, g1, g2⟩ := ih (x + 1) (p ++ [⟨b.f0, x + 1⟩]) (by omega) (by omega) (by rw [List.length_append, List.length_singleton] at hal ⊢; omega) (hb.1.snoc (by show b.f0 < x + 1; omega) hb.2.2) (by
          intro a ha
          rcases List.mem_append.1 ha with ha | ha
          · have := hle a (List.mem_append_left _ ha); omega
          · rw [List.mem_singleton.1 ha]; exact Int.le_refl _) (by
          intro y
          have h := hC y
          rw [Cov.app, Cov.cons] at h ⊢
          simp only [Cov.nil, or_false] at h ⊢
          have hbx : b.f0 ≤ x := by omega
          have hlob : lo ≤ b.f0 ∧ b.f0 < x := by
            have := (hC b.f0).1 (Cov.app.2 (.inr (Cov.cons.2 (.inl ⟨by omega, hb.2.1⟩)))); exact ⟨this.1, this.2.1⟩
          by_cases e : y = x
          · subst e
            constructor
            · rintro _; exact ⟨hlo, by omega, c⟩
            · rintro _; exact .inr ⟨by show b.f0 ≤ y; omega, by show y < y + 1; omega⟩
          · have e2 : (b.f0 ≤ y ∧ y < x + 1) ↔ (b.f0 ≤ y ∧ y < b.f1) := by omega
            show Cov p y ∨ (b.f0 ≤ y ∧ y < x + 1) ↔ _
            rw [e2, h, hy]
            constructor
            · rintro ⟨a, b, d⟩; exact ⟨a, .inl b, d⟩
            · rintro ⟨a, b | b, d⟩
              · exact ⟨a, b, d⟩
              · exact absurd b e)
        refine ⟨r, ?_, g2⟩
        refine ev_succ ?_; simp only [cavilref03_Runs.l0]
        rw [hw, e1, rd_last, set_last]
        exact ev_pos hxh (ev_of eh (ev_neg hbn (ev_pos (by omega) (ev_pos (by omega) (ev_pos (by omega) (ev_pos d g1))))))
      · obtain ⟨r, g1, g2⟩ := app (by
          intro a ha
          rcases List.mem_append.1 ha with ha | ha
          · have h1 := hb.2.2 a ha; have := hle b (by simp); omega
          · rw [List.mem_singleton.1 ha]; have := hle b (by simp); omega)
        refine ⟨r, ?_, g2⟩
        refine ev_succ ?_; simp only [cavilref03_Runs.l0]
        rw [hw, e1, rd_last]
        exact ev_pos hxh (ev_of eh (ev_neg hbn (ev_pos (by omega) (ev_pos (by omega) (ev_pos (by omega) (ev_neg d (ev_pos (by omega) g1)))))))
theorem ev_runs (l : List S26) (hl : l.length < 4611686018427387904) (lo hi : Int) (inv : Bool) (h0 : -1000 ≤ lo) (h1 : hi ≤ 1000) :
    ∃ r, Ev (fun k => cavilref03_Runs.f k l lo hi inv) r ∧ Nrm r ∧ ∀ y, Cov r y ↔ lo ≤ y ∧ y < hi ∧ has l y ≠ inv := by
  by_cases c : lo ≤ hi
  · exact ev_runs_l l hl lo hi inv h0 h1 (hi - lo).toNat lo [] (by omega) (by omega) (by simp) Nrm.nil (by simp) (fun y => ⟨fun h => absurd h Cov.nil, fun h => by omega⟩)
  · refine ⟨[], ?_, Nrm.nil, fun y => ⟨fun h => absurd h Cov.nil, fun h => by omega⟩⟩
    show Ev (fun k => cavilref03_Runs.l0 k l hi inv [] lo) []
    refine ev_succ ?_; simp only [cavilref03_Runs.l0]
    exact ev_neg (by omega) (ev_now rfl)
end Go.Proofs.Ytdminogofngncaa.X
end

section
/-
  What Gaps computes, and the document's Gaps.
-/
namespace Go.Proofs.Ytdminogofngncaa.X
open Go.RowKit Go.Proofs.YtdminogofngncaaW.PrintWords Go.Proofs.YtdminogofngncaaW.PrintMore Go.Proofs.Ytdminogofngncaa.Srt
theorem ev_same_l (l : List S26) (hl : l.length < 4611686018427387904) : ∀ (m i : Nat), m + i = l.length → Ev (fun k => cavilref03_Same.l0 k l l i) true := by
  intro m
  induction m with
  | zero =>
    intro i hi
    refine ev_succ ?_; simp only [cavilref03_Same.l0]
    exact ev_neg (by omega) (ev_now rfl)
  | succ m ih =>
    intro i hi
    refine ev_succ ?_; simp only [cavilref03_Same.l0]
    rw [w64n i (by omega)]
    exact ev_pos (by omega) (ev_pos (by omega) (ev_pos (by omega) (ev_neg (by simp) (ih (i + 1) (by omega)))))
theorem ev_same (l : List S26) (hl : l.length < 4611686018427387904) : Ev (fun k => cavilref03_Same.f k l l) true := by
  unfold cavilref03_Same.f
  exact ev_pos rfl (ev_same_l l hl l.length 0 rfl)
def chk (s : S26) (n : Int) : Option Int := if s.f0 > s.f1 then some 5 else if s.f0 < 0 then some 4 else if s.f1 > n then some 4 else none
theorem check_eq (s : S26) (n : Int) : span_Check.f s.f0 s.f1 n = some (chk s n) := by
  unfold span_Check.f chk; split <;> (try rfl); split <;> (try rfl); split <;> rfl
theorem refcheck_eq (s : S26) (n : Int) : cavilref03_Check.f s.f0 s.f1 n = some ((chk s n).getD 0) := by
  unfold cavilref03_Check.f chk; split <;> (try rfl); split <;> (try rfl); split <;> rfl
theorem chk_or (s : S26) (n : Int) : (chk s n = none ∧ 0 ≤ s.f0 ∧ s.f0 ≤ s.f1 ∧ s.f1 ≤ n) ∨ chk s n = some 4 ∨ chk s n = some 5 := by
  unfold chk
  by_cases a : s.f0 > s.f1
  · rw [if_pos a]; simp
  · rw [if_neg a]
    by_cases b : s.f0 < 0
    · rw [if_pos b]; simp
    · rw [if_neg b]
      by_cases c : s.f1 > n
      · rw [if_pos c]; simp
      · rw [if_neg c]; left; refine ⟨rfl, ?_, ?_, ?_⟩ <;> omega
/-- The first fault of a list of spans. -/
def flt (n : Int) : List S26 → Option Int
  | [] => none
  | s :: t => if (chk s n).isNone = true then flt n t else chk s n
theorem flt_none (n : Int) : ∀ l : List S26, flt n l = none → ∀ s ∈ l, 0 ≤ s.f0 ∧ s.f0 ≤ s.f1 ∧ s.f1 ≤ n
  | [], _ => by simp
  | s :: t, h => by
    unfold flt at h
    rcases chk_or s n with ⟨e, h1⟩ | e | e
    · rw [e] at h
      intro a ha
      rcases List.mem_cons.1 ha with rfl | ha
      · exact h1
      · exact flt_none n t h a ha
    · rw [e] at h; simp at h
    · rw [e] at h; simp at h
theorem flt_or (n : Int) : ∀ l : List S26, flt n l = none ∨ flt n l = some 4 ∨ flt n l = some 5
  | [] => .inl rfl
  | s :: t => by
    unfold flt
    rcases chk_or s n with ⟨e, _⟩ | e | e
    · rw [e]; exact flt_or n t
    · rw [e]; simp
    · rw [e]; simp
/-- The gaps of what is in normal form. -/
theorem ev_gaps_l (N : List S26) (n : Int) (hl : N.length ≤ 1000) (hN : Nrm N) (h1 : ∀ s ∈ N, s.f1 ≤ n) : ∀ (m i : Nat) (acc : List S26) (at_ : Int), m + i = N.length → acc.length ≤ i → Nrm acc → (∀ a ∈ acc, a.f1 < at_) → (∀ s ∈ N.drop i, at_ ≤ s.f0) → (at_ ≤ n ∨ acc = []) →
    ∃ r, Ev (fun k => span_Gaps.l1 k acc at_ (N ++ [⟨n, n⟩]) (((N ++ [⟨n, n⟩] : List S26)).length : Int) i) (r, none) ∧ r.length ≤ acc.length + m + 1 ∧ Nrm r ∧ ∀ x, Cov r x ↔ Cov acc x ∨ (at_ ≤ x ∧ x < n ∧ ¬ Cov (N.drop i) x) := by
  intro m
  have hq : (N ++ [⟨n, n⟩] : List S26).length = N.length + 1 := by simp
  induction m with
  | zero =>
    intro i acc at_ hi hal hA hlt hge hn
    have ei : i = N.length := by omega
    subst ei
    have e1 := w64n N.length (by omega)
    have fin : ∀ (a : List S26) (u : Int), Ev (fun k => span_Gaps.l1 k a u (N ++ [⟨n, n⟩]) (((N ++ [⟨n, n⟩] : List S26)).length : Int) ((N.length + 1 : Nat) : Int)) (a, none) := by
      intro a u
      refine ev_succ ?_; simp only [span_Gaps.l1]
      exact ev_neg (by omega) (ev_now rfl)
    rw [List.drop_length]
    by_cases c : at_ < n
    · refine ⟨acc ++ [⟨at_, n⟩], ?_, by (rw [List.length_append, List.length_singleton]; omega), hA.snoc c hlt, fun x => ?_⟩
      · refine ev_succ ?_; simp only [span_Gaps.l1]
        rw [rd_last, e1]
        exact ev_pos (by omega) (ev_pos (by omega) (ev_pos (by omega) (ev_pos c (ev_pos (by omega) (fin _ _)))))
      · rw [Cov.app, Cov.cons]
        simp only [Cov.nil, or_false, not_false_eq_true, and_true]
    · refine ⟨acc, ?_, by omega, hA, fun x => ?_⟩
      · refine ev_succ ?_; simp only [span_Gaps.l1]
        rw [rd_last, e1]
        exact ev_pos (by omega) (ev_pos (by omega) (ev_pos (by omega) (ev_neg c (fin _ _))))
      · constructor
        · exact fun h => .inl h
        · rintro (h | h)
          · exact h
          · omega
  | succ m ih =>
    intro i acc at_ hi hal hA hlt hge hn
    have e1 := w64n i (by omega)
    have hil : i < N.length := by omega
    have hd := drop_rd N i hil
    have er : rd_T26 (N ++ [⟨n, n⟩]) (i : Int) = rd_T26 N (i : Int) := by
      rw [rd_at _ i (by omega), rd_at _ i hil, List.getElem_append_left hil]
    have hsm : rd_T26 N (i : Int) ∈ N := by rw [rd_at _ i hil]; exact List.getElem_mem _
    have hNd : Nrm (N.drop i) := ⟨hN.1.sublist (List.drop_sublist i N), fun s hs => hN.2 s (List.mem_of_mem_drop hs)⟩
    rw [hd] at hNd hge
    have hs0 := hge _ (List.mem_cons_self ..)
    have hc := Nrm.cons.1 hNd
    have hs1 := h1 _ hsm
    have hC : ∀ x, Cov (N.drop i) x ↔ ((rd_T26 N (i : Int)).f0 ≤ x ∧ x < (rd_T26 N (i : Int)).f1) ∨ Cov (N.drop (i + 1)) x := fun x => by rw [hd]; exact Cov.cons
    have hlow : ∀ x, Cov (N.drop (i + 1)) x → (rd_T26 N (i : Int)).f1 < x := fun x hx => hNd.low hx
    clear hge hd
    obtain ⟨s, hse⟩ : ∃ s, rd_T26 N (i : Int) = s := ⟨_, rfl⟩
    rw [hse] at hs0 hs1 hC hlow er hc
    have hge' : ∀ a ∈ N.drop (i + 1), s.f1 ≤ a.f0 := fun a ha => by have := hc.2.1 a ha; omega
    by_cases c : at_ < s.f0
    · obtain ⟨r, g1, g0, g2, g3⟩ := ih (i + 1) (acc ++ [⟨at_, s.f0⟩]) s.f1 (by omega) (by rw [List.length_append, List.length_singleton]; omega) (hA.snoc c hlt) (by
        intro a ha
        rcases List.mem_append.1 ha with ha | ha
        · have := hlt a ha; omega
        · rw [List.mem_singleton.1 ha]; exact hc.1) hge' (.inl hs1)
      refine ⟨r, ?_, by (rw [List.length_append, List.length_singleton] at g0; omega), g2, fun x => ?_⟩
      · refine ev_succ ?_; simp only [span_Gaps.l1]
        rw [er, e1]
        exact ev_pos (by omega) (ev_pos (by omega) (ev_pos (by omega) (ev_pos c (ev_pos (by omega) g1))))
      · rw [g3, hC, Cov.app, Cov.cons]
        simp only [Cov.nil, or_false, or_assoc]
        constructor
        · rintro (h | h | h)
          · exact .inl h
          · refine .inr ⟨h.1, by have := hc.1; omega, ?_⟩
            rintro (k | k)
            · omega
            · have := hlow x k; have := hc.1; omega
          · refine .inr ⟨by have := hc.1; omega, h.2.1, ?_⟩
            rintro (k | k)
            · omega
            · exact h.2.2 k
        · rintro (h | ⟨h0, h2, h3⟩)
          · exact .inl h
          · by_cases d : x < s.f0
            · exact .inr (.inl ⟨h0, d⟩)
            · refine .inr (.inr ⟨?_, h2, fun k => h3 (.inr k)⟩)
              by_cases e : s.f1 ≤ x
              · exact e
              · exact absurd (.inl ⟨by omega, by omega⟩) h3
    · obtain ⟨r, g1, g0, g2, g3⟩ := ih (i + 1) acc s.f1 (by omega) (by omega) hA (by
        intro a ha
        have := hlt a ha; have := hc.1; omega) hge' (.inl hs1)
      refine ⟨r, ?_, by omega, g2, fun x => ?_⟩
      · refine ev_succ ?_; simp only [span_Gaps.l1]
        rw [er, e1]
        exact ev_pos (by omega) (ev_pos (by omega) (ev_pos (by omega) (ev_neg c g1)))
      · rw [g3, hC]
        constructor
        · rintro (h | h)
          · exact .inl h
          · refine .inr ⟨by have := hc.1; omega, h.2.1, ?_⟩
            rintro (k | k)
            · omega
            · exact h.2.2 k
        · rintro (h | ⟨h0, h2, h3⟩)
          · exact .inl h
          · refine .inr ⟨?_, h2, fun k => h3 (.inr k)⟩
            by_cases e : s.f1 ≤ x
            · exact e
            · exact absurd (.inl ⟨by omega, by omega⟩) h3
/-- Gaps: the faults first. -/
theorem ev_gaps_f (l : List S26) (n : Int) (hl : l.length ≤ 1000) {r : List S26 × Option Int} (hr : flt n l = none → Ev (fun k => (span_Merge.f k l).bind fun t194 => (if t194.length < 8796093022208 then ((some (t194 ++ [(⟨n, n⟩ : S26)] : List (S26))).bind fun y197 => (span_Gaps.l1 k ([] : List (S26)) 0 y197 (y197.length : Int) 0)) else (none))) r)
    (hf : ∀ c, flt n l = some c → r = ([], some c)) : Ev (fun k => span_Gaps.f k l n) r := by
  show Ev (fun k => span_Gaps.l0 k l n l l.length ((0 : Nat) : Int)) r
  suffices h : ∀ (m i : Nat), m + i = l.length → flt n (l.drop i) = flt n l → Ev (fun k => span_Gaps.l0 k l n l l.length (i : Int)) r from h l.length 0 rfl rfl
  intro m
  induction m with
  | zero =>
    intro i hi hd
    rw [List.drop_eq_nil_of_le (by omega)] at hd
    refine ev_succ ?_; simp only [span_Gaps.l0]
    exact ev_neg (by omega) (hr hd.symm)
  | succ m ih =>
    intro i hi hd
    have e1 := w64n i (by omega)
    rw [drop_rd l i (by omega), flt] at hd
    refine ev_succ ?_; simp only [span_Gaps.l0]
    rw [e1, check_eq]
    refine ev_pos (by omega) (ev_pos (by omega) (ev_pos (by omega) (ev_some ?_)))
    by_cases c : (chk (rd_T26 l (i : Int)) n).isNone = true
    · rw [if_pos c] at hd
      exact ev_pos c (ih (i + 1) (by omega) hd)
    · rw [if_neg c] at hd
      refine ev_neg c (ev_now ?_)
      cases hk : chk (rd_T26 l (i : Int)) n with
      | none => rw [hk] at c; simp at c
      | some v => rw [hk] at hd; rw [hf v hd.symm]; rfl
theorem ev_refgaps_f (l : List S26) (n : Int) (hl : l.length ≤ 1000) {r : List S26 × Int} (hr : flt n l = none → Ev (fun k => (cavilref03_Runs.f k l 0 n true).bind fun t307 => (some (t307, (0 : Int)))) r)
    (hf : ∀ c, flt n l = some c → r = ([], c)) : Ev (fun k => cavilref03_Gaps.f k l n) r := by
  show Ev (fun k => cavilref03_Gaps.l0 k l n ((0 : Nat) : Int)) r
  suffices h : ∀ (m i : Nat), m + i = l.length → flt n (l.drop i) = flt n l → Ev (fun k => cavilref03_Gaps.l0 k l n (i : Int)) r from h l.length 0 rfl rfl
  intro m
  induction m with
  | zero =>
    intro i hi hd
    rw [List.drop_eq_nil_of_le (by omega)] at hd
    refine ev_succ ?_; simp only [cavilref03_Gaps.l0]
    exact ev_neg (by omega) (hr hd.symm)
  | succ m ih =>
    intro i hi hd
    have e1 := w64n i (by omega)
    rw [drop_rd l i (by omega), flt] at hd
    refine ev_succ ?_; simp only [cavilref03_Gaps.l0]
    rw [e1, refcheck_eq]
    refine ev_pos (by omega) (ev_pos (by omega) (ev_some ?_))
    rcases chk_or (rd_T26 l (i : Int)) n with ⟨e, _⟩ | e | e
    · rw [e] at hd ⊢
      exact ev_pos rfl (ih (i + 1) (by omega) hd)
    · rw [e] at hd ⊢
      refine ev_neg (by simp) (ev_now ?_)
      rw [hf 4 hd.symm]; rfl
    · rw [e] at hd ⊢
      refine ev_neg (by simp) (ev_now ?_)
      rw [hf 5 hd.symm]; rfl
theorem ev_gaps' (l : List S26) (n : Int) (hl : l.length ≤ 20) (_ : n ≤ 1000) : flt n l = none →
    ∃ r, Ev (fun k => span_Gaps.f k l n) (r, none) ∧ r.length ≤ l.length + 1 ∧ Nrm r ∧ ∀ x, Cov r x ↔ 0 ≤ x ∧ x < n ∧ ¬ Cov l x := by
  intro hf
  have hb := flt_none n l hf
  obtain ⟨N, h1, h0, h2, h3⟩ := ev_merge' l hl
  have hN0 : ∀ s ∈ N, 0 ≤ s.f0 ∧ s.f1 ≤ n := by
    intro s hs
    have hp := h2.2 s hs
    obtain ⟨a, ha, h4, h5⟩ := (h3 s.f0).1 ⟨s, hs, by omega, hp⟩
    obtain ⟨b, hb', h6, h7⟩ := (h3 (s.f1 - 1)).1 ⟨s, hs, by omega, by omega⟩
    have := hb a ha; have := hb b hb'
    omega
  have hNl : N.length ≤ 1000 := by
    by_cases c : 0 ≤ n
    · have : ∀ (M : List S26) (lo : Int), Nrm M → (∀ s ∈ M, lo ≤ s.f0 ∧ s.f1 ≤ n) → lo ≤ n → (M.length : Int) ≤ n - lo := by
        intro M
        induction M with
        | nil => intro lo _ _ h; simp; omega
        | cons s t ih =>
          intro lo hM hs hlo
          have hc := Nrm.cons.1 hM
          have h0 := hs s (List.mem_cons_self ..)
          have := ih s.f1 hc.2.2 (fun a ha => ⟨by have := hc.2.1 a ha; omega, (hs a (List.mem_cons_of_mem _ ha)).2⟩) h0.2
          rw [List.length_cons]; have := hc.1; omega
      have := this N 0 h2 hN0 c
      omega
    · cases N with
      | nil => simp
      | cons s t =>
        have h0 := hN0 s (List.mem_cons_self ..)
        have := (Nrm.cons.1 h2).1
        omega
  obtain ⟨r, g1, g0, g2, g3⟩ := ev_gaps_l N n hNl h2 (fun s hs => (hN0 s hs).2) N.length 0 [] 0 rfl (by simp) Nrm.nil (by simp) (fun s hs => (hN0 s (by simpa using hs)).1) (.inr rfl)
  refine ⟨r, ?_, by (simp at g0; omega), g2, fun x => ?_⟩
  · refine ev_gaps_f l n (by omega) (fun _ => ?_) (fun c hc => by rw [hf] at hc; simp at hc)
    refine ev_of h1 (ev_pos (by omega) (ev_some ?_))
    exact g1
  · rw [g3]; simp only [Cov.nil, false_or, List.drop_zero]; rw [h3]
theorem ev_gaps (l : List S26) (n : Int) (hl : l.length ≤ 20) (hn : n ≤ 1000) (h : flt n l = none) :
    ∃ r, Ev (fun k => span_Gaps.f k l n) (r, none) ∧ Nrm r ∧ ∀ x, Cov r x ↔ 0 ≤ x ∧ x < n ∧ ¬ Cov l x := by
  obtain ⟨r, h1, _, h2⟩ := ev_gaps' l n hl hn h
  exact ⟨r, h1, h2⟩
end Go.Proofs.Ytdminogofngncaa.X
end
