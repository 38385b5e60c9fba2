import Derived.Test.YtdminogofngncaaXF4
import Derived.Test.YtdminogofngncaaStab
import Derived.Test.YtdminogofngncaaWorks
namespace Go.Proofs.Ytdminogofngncaa.Pure
open Go.RowKit Go.Proofs.Ytdminogofngncaa.X Go.Proofs.YtdminogofngncaaW.PrintWords Go.Proofs.YtdminogofngncaaW.PrintLast
/-! What the spans of a list sum up to. -/
def lsum : List S26 → Int
  | [] => 0
  | s :: t => (s.f1 - s.f0) + lsum t
def ind (s : S26) (x : Int) : Int := if s.f0 ≤ x ∧ x < s.f1 then 1 else 0
def inds : List S26 → Int → Int
  | [], _ => 0
  | s :: t, x => ind s x + inds t x
def tot (f : Int → Int) : Nat → Int
  | 0 => 0
  | n + 1 => tot f n + f n
theorem tot_add (f g : Int → Int) : ∀ n, tot (fun x => f x + g x) n = tot f n + tot g n
  | 0 => rfl
  | n + 1 => by simp only [tot, tot_add f g n]; omega
theorem tot_ind (s : S26) (h0 : 0 ≤ s.f0) (h1 : s.f0 ≤ s.f1) : ∀ n : Nat, tot (ind s) n = (if s.f1 < (n : Int) then s.f1 else n) - (if s.f0 < (n : Int) then s.f0 else n)
  | 0 => by simp only [tot]; rw [if_neg (by omega), if_neg (by omega)]; omega
  | n + 1 => by
    simp only [tot, tot_ind s h0 h1 n, ind]
    split <;> split <;> split <;> split <;> split <;> omega
theorem tot_inds (n : Nat) : ∀ l : List S26, (∀ s ∈ l, 0 ≤ s.f0 ∧ s.f0 ≤ s.f1 ∧ s.f1 ≤ n) → tot (inds l) n = lsum l
  | [], _ => by
    have : ∀ m, tot (inds []) m = 0 := by
      intro m
      induction m with
      | zero => rfl
      | succ m ih => show tot (inds []) m + inds [] m = 0; rw [ih]; rfl
    exact this n
  | s :: t, h => by
    have hs := h s (List.mem_cons_self ..)
    have e : inds (s :: t) = fun x => ind s x + inds t x := rfl
    rw [e, tot_add, tot_inds n t (fun a ha => h a (List.mem_cons_of_mem _ ha)), tot_ind s hs.1 hs.2.1, lsum]
    by_cases c : s.f1 < (n : Int)
    · rw [if_pos c, if_pos (by omega)]
    · rw [if_neg c]
      by_cases d : s.f0 < (n : Int)
      · rw [if_pos d]; omega
      · rw [if_neg d]; omega
theorem inds_app (x : Int) (m : List S26) : ∀ l : List S26, inds (l ++ m) x = inds l x + inds m x
  | [] => by simp [inds]
  | s :: t => by simp only [List.cons_append, inds, inds_app x m t]; omega
theorem inds_nrm (x : Int) : ∀ l : List S26, Nrm l → (Cov l x → inds l x = 1) ∧ (¬ Cov l x → inds l x = 0)
  | [], _ => ⟨fun h => absurd h Cov.nil, fun _ => rfl⟩
  | s :: t, h => by
    have ih := inds_nrm x t (Nrm.cons.1 h).2.2
    have hs := (Nrm.cons.1 h).1
    simp only [inds, ind, Cov.cons]
    by_cases c : s.f0 ≤ x ∧ x < s.f1
    · rw [if_pos c]
      have : ¬ Cov t x := fun hx => by have := h.low hx; omega
      rw [ih.2 this]
      exact ⟨fun _ => rfl, fun hn => absurd (.inl c) hn⟩
    · rw [if_neg c]
      constructor
      · rintro (h1 | h1)
        · exact absurd h1 c
        · rw [ih.1 h1]; rfl
      · intro hn; rw [ih.2 (fun h1 => hn (.inr h1))]; rfl
theorem tot_one (f : Int → Int) : ∀ n : Nat, (∀ x : Int, 0 ≤ x → x < n → f x = 1) → tot f n = n
  | 0, _ => rfl
  | n + 1, h => by
    simp only [tot]
    rw [tot_one f n (fun x h0 h1 => h x h0 (by omega)), h n (by omega) (by omega)]; omega
theorem ev_sum (n : Int) (M : List S26) (l : List S26) (hl : l.length ≤ 100) (hb : ∀ s ∈ l, 0 ≤ s.f0 ∧ s.f0 ≤ s.f1 ∧ s.f1 ≤ 255) {r : Bool} : ∀ (m i : Nat) (c : Int), m + i = l.length → 0 ≤ c → c ≤ 255 * i →
    Ev (fun k => if n = 0 then (if (M.length : Int) = 0 then ((cavillaw03_works.f k).bind fun t284 => (some t284)) else (some false)) else ((cavilref03_Same.f k M (([(⟨0, n⟩ : S26)] : List (S26)))).bind fun t288 => (if t288 = true then (if c + lsum (l.drop i) = n then ((cavillaw03_works.f k).bind fun t289 => (some t289)) else (some false)) else (some false)))) r →
    Ev (fun k => cavillaw03_SpanFills.l0 k n M c l l.length i) r := by
  intro m
  induction m with
  | zero =>
    intro i c hi h0 h1 h
    rw [List.drop_eq_nil_of_le (by omega), lsum, Int.add_zero] at h
    refine ev_succ ?_; simp only [cavillaw03_SpanFills.l0]
    exact ev_neg (by omega) h
  | succ m ih =>
    intro i c hi h0 h1 h
    have hd := drop_rd l i (by omega)
    have hs := hb (rd_T26 l (i : Int)) (by rw [rd_at l i (by omega)]; exact List.getElem_mem _)
    rw [hd, lsum] at h
    have e1 := w64n i (by omega)
    have e2 : wrap64 (((rd_T26 l (i : Int)).f1) - ((rd_T26 l (i : Int)).f0)) = ((rd_T26 l (i : Int)).f1) - ((rd_T26 l (i : Int)).f0) := w64 (by omega) (by omega)
    have e3 : wrap64 (c + (((rd_T26 l (i : Int)).f1) - ((rd_T26 l (i : Int)).f0))) = c + (((rd_T26 l (i : Int)).f1) - ((rd_T26 l (i : Int)).f0)) := w64 (by omega) (by omega)
    refine ev_succ ?_; simp only [cavillaw03_SpanFills.l0]
    rw [e1, e2, e3]
    refine ev_pos (by omega) (ev_pos (by omega) (ev_pos (by omega) (ih (i + 1) _ (by omega) (by omega) (by omega) ?_)))
    rw [← Int.add_assoc] at h
    exact h
theorem SpanFills : cavillaw03_SpanFills.Pure := by
  intro l0 a1 _ ha
  have hu : 0 ≤ a1 ∧ a1 ≤ 255 := by
    simp only [Lit.wf, IntKind.min, IntKind.max, IntKind.signed, IntKind.bits, Bool.and_eq_true] at ha
    have h1 := ha.1; have h2 := ha.2
    simp at h1 h2
    omega
  refine Ev.rounds ?_
  unfold cavillaw03_SpanFills.f
  rw [few_eq, w64 (x := a1) (by omega) (by omega)]
  refine ev_some ?_
  have hl : (l0.take 20).length ≤ 20 := by rw [List.length_take]; omega
  generalize l0.take 20 = l at *
  rcases hf : flt a1 l with _ | c
  · obtain ⟨G, g1, g0, g2, g3⟩ := ev_gaps' l a1 hl (by omega) hf
    obtain ⟨N, n1, n0, n2, n3⟩ := ev_merge' l hl
    have hb := flt_none a1 l hf
    have hin : ∀ x, Cov l x → 0 ≤ x ∧ x < a1 := by
      rintro x ⟨s, hs, h1, h2⟩
      have := hb s hs; omega
    obtain ⟨N', k1, k2, k3⟩ := ev_merge N (by omega)
    have eN : N' = N := Nrm.same k2 n2 k3
    subst eN
    obtain ⟨G', j1, j2, j3⟩ := ev_merge41 G (by omega)
    have eG : G' = G := Nrm.same j2 g2 j3
    subst eG
    obtain ⟨M, m1, m2, m3⟩ := ev_merge41 (N' ++ G') (by rw [List.length_append]; omega)
    have hM : ∀ x, Cov M x ↔ 0 ≤ x ∧ x < a1 := by
      intro x
      rw [m3, Cov.app, n3, g3]
      constructor
      · rintro (h | h)
        · exact hin x h
        · exact ⟨h.1, h.2.1⟩
      · rintro ⟨h1, h2⟩
        by_cases c : Cov l x
        · exact .inl c
        · exact .inr ⟨h1, h2, c⟩
    have hbn : ∀ (X : List S26), Nrm X → (∀ x, Cov X x → 0 ≤ x ∧ x < a1) → ∀ s ∈ X, 0 ≤ s.f0 ∧ s.f0 ≤ s.f1 ∧ s.f1 ≤ a1 := by
      intro X hX hc s hs
      have hp := hX.2 s hs
      have h1 := hc s.f0 ⟨s, hs, by omega, hp⟩
      have h2 := hc (s.f1 - 1) ⟨s, hs, by omega, by omega⟩
      omega
    have bN := hbn N' n2 (fun x hx => hin x ((n3 x).1 hx))
    have bG := hbn G' g2 (fun x hx => ⟨((g3 x).1 hx).1, ((g3 x).1 hx).2.1⟩)
    have ball : ∀ s ∈ N' ++ G', 0 ≤ s.f0 ∧ s.f0 ≤ s.f1 ∧ s.f1 ≤ a1 := by
      intro s hs
      rcases List.mem_append.1 hs with hs | hs
      · exact bN s hs
      · exact bG s hs
    have hsum : lsum (N' ++ G') = a1 := by
      have e : ((a1.toNat : Nat) : Int) = a1 := by omega
      rw [← tot_inds a1.toNat (N' ++ G') (fun s hs => by rw [e]; exact ball s hs), tot_one _ _ ?_, e]
      intro x h1 h2
      rw [inds_app]
      have i1 := inds_nrm x N' n2
      have i2 := inds_nrm x G' g2
      by_cases c : Cov l x
      · rw [i1.1 ((n3 x).2 c), i2.2 (fun h => ((g3 x).1 h).2.2 c)]; rfl
      · rw [i1.2 (fun h => c ((n3 x).1 h)), i2.1 ((g3 x).2 ⟨h1, by omega, c⟩)]; rfl
    refine ev_of g1 (ev_pos rfl (ev_of n1 (ev_of k1 (ev_of (ev_same N' (by omega)) (ev_pos rfl (ev_of j1 (ev_of (ev_same G' (by omega)) ?_)))))))
    refine ev_succ ?_; simp only [cavillaw03_SpanFills.j0]
    have w1 : Ev (fun k => (cavillaw03_works.f k).bind fun t => (some t)) true := ev_of works (ev_now rfl)
    refine ev_neg (by simp) (ev_some (ev_pos (by simp; omega) (ev_some (ev_pos (by simp; omega) ?_))))
    rw [List.nil_append]
    refine ev_of m1 (ev_some (ev_pos (by simp; omega) (ev_some (ev_pos (by simp; omega) (ev_some ?_)))))
    rw [List.nil_append]
    refine ev_sum a1 M (N' ++ G') (by rw [List.length_append]; omega) (fun s hs => by have := ball s hs; omega) _ 0 0 rfl (by omega) (by omega) ?_
    rw [List.drop_zero, Int.zero_add, hsum]
    by_cases c : a1 = 0
    · have : M = [] := Nrm.same m2 Nrm.nil (fun x => ⟨fun h => by have := (hM x).1 h; omega, fun h => absurd h Cov.nil⟩)
      subst this
      exact ev_pos c (ev_pos (by simp) w1)
    · have : M = [⟨0, a1⟩] := Nrm.same m2 (Nrm.cons.2 ⟨by show (0 : Int) < a1; omega, by simp, Nrm.nil⟩) (fun x => by
        rw [hM, Cov.cons]; simp only [Cov.nil, or_false])
      subst this
      exact ev_neg c (ev_of (ev_same _ (by simp)) (ev_pos rfl (ev_pos rfl w1)))
  · refine ev_of (a := (([] : List S26), some c)) ?_ ?_
    · exact ev_gaps_f l a1 (by omega) (fun hc => by rw [hf] at hc; simp at hc) (fun d hd => by rw [hf] at hd; rw [← hd])
    · exact ev_neg (by simp) (ev_pos (by simp) (ev_of works (ev_now rfl)))
end Go.Proofs.Ytdminogofngncaa.Pure
