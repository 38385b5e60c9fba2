/- Several texts of this session in one: YtdminogofngncaaSrt, YtdminogofngncaaEv, YtdminogofngncaaNrm. -/
import Derived.Test.YtdminogofngncaaWWords
import Derived.Test.YtdminogofngncaaWMore
import Derived.Test.YtdminogofngncaaX0

section
/-
  Plain lists: insertion into a list that stands the last element first, and the sort that it makes: a permutation, in order, and stable.
-/
namespace Go.Proofs.Ytdminogofngncaa.Srt
section
variable {α : Type} (lt : α → α → Bool)
/-- y goes into a list that stands the last element first, behind all that are not above it. -/
def ins (y : α) : List α → List α
  | [] => [y]
  | z :: t => if lt y z = true then z :: ins y t else y :: z :: t
/-- acc: what is sorted, the last element first. -/
def srtR : List α → List α → List α
  | acc, [] => acc
  | acc, y :: t => srtR (ins lt y acc) t
def srt (l : List α) : List α := (srtR lt [] l).reverse
theorem ins_perm (y : α) : ∀ l : List α, (ins lt y l).Perm (y :: l)
  | [] => List.Perm.refl _
  | z :: t => by
    unfold ins
    by_cases c : lt y z = true
    · rw [if_pos c]; exact ((ins_perm y t).cons z).trans (List.Perm.swap _ _ _)
    · rw [if_neg c]
theorem srtR_perm : ∀ (l acc : List α), (srtR lt acc l).Perm (acc ++ l)
  | [], acc => by simp [srtR]
  | y :: t, acc => by
    refine (srtR_perm t (ins lt y acc)).trans ?_
    refine ((ins_perm lt y acc).append_right t).trans ?_
    exact (List.perm_middle (l₁ := acc) (l₂ := t) (a := y)).symm
theorem srt_perm (l : List α) : (srt lt l).Perm l := by
  unfold srt
  exact (List.reverse_perm _).trans (by simpa using srtR_perm lt l [])
theorem srt_len (l : List α) : (srt lt l).length = l.length := (srt_perm lt l).length_eq
theorem srtR_len (l acc : List α) : (srtR lt acc l).length = acc.length + l.length := by rw [(srtR_perm lt l acc).length_eq, List.length_append]
/-- In order, the last one first: none is above one ahead of it in the list. -/
def Desc (l : List α) : Prop := l.Pairwise (fun a b => lt a b = false)
variable {lt}
theorem ins_desc (htr : ∀ a b c, lt a b = false → lt b c = false → lt a c = false) (has : ∀ a b, lt a b = true → lt b a = false) (y : α) : ∀ l : List α, Desc lt l → Desc lt (ins lt y l)
  | [], _ => List.pairwise_singleton _ _
  | z :: t, h => by
    have h1 := List.pairwise_cons.1 h
    unfold ins
    by_cases c : lt y z = true
    · rw [if_pos c]
      refine List.pairwise_cons.2 ⟨fun b hb => ?_, ins_desc htr has y t h1.2⟩
      rcases List.mem_cons.1 ((ins_perm lt y t).mem_iff.1 hb) with rfl | hb
      · exact has _ _ c
      · exact h1.1 b hb
    · rw [if_neg c]
      have c' : lt y z = false := by simpa using c
      refine List.pairwise_cons.2 ⟨fun b hb => ?_, h⟩
      rcases List.mem_cons.1 hb with rfl | hb
      · exact c'
      · exact htr _ _ _ c' (h1.1 b hb)
theorem srtR_desc (htr : ∀ a b c, lt a b = false → lt b c = false → lt a c = false) (has : ∀ a b, lt a b = true → lt b a = false) : ∀ (l acc : List α), Desc lt acc → Desc lt (srtR lt acc l)
  | [], _, h => h
  | y :: t, acc, h => srtR_desc htr has t _ (ins_desc htr has y acc h)
theorem srt_sorted (htr : ∀ a b c, lt a b = false → lt b c = false → lt a c = false) (has : ∀ a b, lt a b = true → lt b a = false) (l : List α) : (srt lt l).Pairwise (fun a b => lt b a = false) := by
  unfold srt
  rw [List.pairwise_reverse]
  exact srtR_desc htr has l [] List.Pairwise.nil
end
/-! Two neighbours change places. -/
section
variable {α : Type}
theorem get_fst (d : α) (A : List α) (z : α) (B : List α) : (A ++ z :: B).getD A.length d = z := by
  rw [List.getD_eq_getElem?_getD, List.getElem?_append_right (Nat.le_refl _)]; simp
theorem get_snd (d : α) (A : List α) (z y : α) (B : List α) : (A ++ z :: y :: B).getD (A.length + 1) d = y := by
  rw [List.getD_eq_getElem?_getD, List.getElem?_append_right (by omega)]; simp
theorem swap_next (A : List α) (z y : α) (B : List α) : ((A ++ z :: y :: B).set (A.length + 1) z).set A.length y = A ++ y :: z :: B := by
  rw [List.set_append_right _ _ (by omega)]
  simp only [Nat.add_sub_cancel_left, List.set_cons_succ, List.set_cons_zero]
  rw [List.set_append_right _ _ (by omega)]
  simp
end
end Go.Proofs.Ytdminogofngncaa.Srt
end

section
/-
  Small lemmas on 'with enough rounds it answers r' (Ev), and on wraps.
-/
namespace Go.Proofs.Ytdminogofngncaa.X
open Go.RowKit Go.Proofs.YtdminogofngncaaW.PrintWords
section
variable {α β : Type} {r : α}
theorem ev_pos {c : Prop} [Decidable c] {A B : Nat → Option α} (h : c) (k : Ev A r) : Ev (fun n => if c then A n else B n) r := Ev.congr (fun _ => if_pos h) k
theorem ev_neg {c : Prop} [Decidable c] {A B : Nat → Option α} (h : ¬ c) (k : Ev B r) : Ev (fun n => if c then A n else B n) r := Ev.congr (fun _ => if_neg h) k
theorem ev_now {x : Option α} (h : x = some r) : Ev (fun _ => x) r := ⟨0, fun _ _ => h⟩
theorem ev_some {a : β} {f : Nat → β → Option α} (k : Ev (fun n => f n a) r) : Ev (fun n => (some a).bind (f n)) r := k
theorem ev_succ {g : Nat → Option α} (k : Ev (fun n => g (n + 1)) r) : Ev g r := Ev.step (fun _ => rfl) k
theorem ev_of {a : β} {g : Nat → Option β} {f : Nat → β → Option α} (h : Ev g a) (k : Ev (fun n => f n a) r) : Ev (fun n => (g n).bind (f n)) r := Ev.bind h k
end
theorem w64 {x : Int} (h0 : -9223372036854775808 ≤ x) (h1 : x ≤ 9223372036854775807) : wrap64 x = x := by unfold wrap64; omega
end Go.Proofs.Ytdminogofngncaa.X
end

section
/-
  Plain: lists of spans in their normal form (rising, apart, none empty) are told by what they cover.
-/
namespace Go.Proofs.Ytdminogofngncaa.X
def Cov (l : List S26) (x : Int) : Prop := ∃ s ∈ l, s.f0 ≤ x ∧ x < s.f1
def Nrm (l : List S26) : Prop := l.Pairwise (fun a b => a.f1 < b.f0) ∧ ∀ s ∈ l, s.f0 < s.f1
theorem Cov.nil {x : Int} : ¬ Cov [] x := by rintro ⟨s, h, _⟩; simp at h
theorem Cov.cons {s : S26} {l : List S26} {x : Int} : Cov (s :: l) x ↔ (s.f0 ≤ x ∧ x < s.f1) ∨ Cov l x := by
  unfold Cov; simp
theorem Cov.app {l m : List S26} {x : Int} : Cov (l ++ m) x ↔ Cov l x ∨ Cov m x := by
  unfold Cov; simp only [List.mem_append]
  constructor
  · rintro ⟨s, h | h, e⟩
    · exact .inl ⟨s, h, e⟩
    · exact .inr ⟨s, h, e⟩
  · rintro (⟨s, h, e⟩ | ⟨s, h, e⟩)
    · exact ⟨s, .inl h, e⟩
    · exact ⟨s, .inr h, e⟩
theorem Cov.perm {l m : List S26} (h : l.Perm m) {x : Int} : Cov l x ↔ Cov m x := by
  unfold Cov; simp only [h.mem_iff]
theorem Nrm.nil : Nrm [] := ⟨List.Pairwise.nil, by simp⟩
theorem Nrm.cons {s : S26} {l : List S26} : Nrm (s :: l) ↔ s.f0 < s.f1 ∧ (∀ b ∈ l, s.f1 < b.f0) ∧ Nrm l := by
  unfold Nrm
  simp only [List.pairwise_cons, List.mem_cons, forall_eq_or_imp]
  constructor
  · rintro ⟨⟨a, b⟩, c, d⟩; exact ⟨c, a, b, d⟩
  · rintro ⟨c, a, b, d⟩; exact ⟨⟨a, b⟩, c, d⟩
theorem Nrm.snoc {s : S26} {l : List S26} (h : Nrm l) (hs : s.f0 < s.f1) (hl : ∀ a ∈ l, a.f1 < s.f0) : Nrm (l ++ [s]) := by
  refine ⟨List.pairwise_append.2 ⟨h.1, List.pairwise_singleton _ _, ?_⟩, ?_⟩
  · intro a ha b hb; simp at hb; subst hb; exact hl a ha
  · intro a ha
    rcases List.mem_append.1 ha with ha | ha
    · exact h.2 a ha
    · simp at ha; subst ha; exact hs
theorem Nrm.init {s : S26} {l : List S26} (h : Nrm (l ++ [s])) : Nrm l ∧ s.f0 < s.f1 ∧ ∀ a ∈ l, a.f1 < s.f0 := by
  obtain ⟨h1, h2⟩ := h
  have h3 := List.pairwise_append.1 h1
  exact ⟨⟨h3.1, fun a ha => h2 a (List.mem_append_left _ ha)⟩, h2 s (by simp), fun a ha => h3.2.2 a ha s (by simp)⟩
theorem Nrm.low {s : S26} {l : List S26} (h : Nrm (s :: l)) {x : Int} (hx : Cov l x) : s.f1 < x := by
  obtain ⟨b, hb, h0, _⟩ := hx
  have := (Nrm.cons.1 h).2.1 b hb; omega
theorem Nrm.first {s : S26} {l : List S26} (h : Nrm (s :: l)) {x : Int} (hx : Cov (s :: l) x) : s.f0 ≤ x := by
  have h1 := (Nrm.cons.1 h).1
  rcases Cov.cons.1 hx with h2 | h2
  · omega
  · have := h.low h2; omega
theorem Nrm.at0 {s : S26} {l : List S26} (h : Nrm (s :: l)) : Cov (s :: l) s.f0 := Cov.cons.2 (.inl ⟨by omega, (Nrm.cons.1 h).1⟩)
theorem Nrm.not1 {s : S26} {l : List S26} (h : Nrm (s :: l)) : ¬ Cov (s :: l) s.f1 := by
  intro hx
  rcases Cov.cons.1 hx with h2 | h2
  · omega
  · have := h.low h2; omega
theorem Nrm.tail {s : S26} {l : List S26} (h : Nrm (s :: l)) {x : Int} : Cov l x ↔ Cov (s :: l) x ∧ s.f1 < x := by
  constructor
  · intro hx; exact ⟨Cov.cons.2 (.inr hx), h.low hx⟩
  · rintro ⟨hx, h1⟩
    rcases Cov.cons.1 hx with h2 | h2
    · omega
    · exact h2
theorem Nrm.same : ∀ {l m : List S26}, Nrm l → Nrm m → (∀ x, Cov l x ↔ Cov m x) → l = m
  | [], [], _, _, _ => rfl
  | [], s :: _, _, hm, h => absurd ((h _).2 hm.at0) Cov.nil
  | s :: _, [], hl, _, h => absurd ((h _).1 hl.at0) Cov.nil
  | s :: l, t :: m, hl, hm, h => by
    have e0 : s.f0 = t.f0 := by
      have h1 := hm.first ((h _).1 hl.at0)
      have h2 := hl.first ((h _).2 hm.at0)
      omega
    have hs := (Nrm.cons.1 hl).1
    have ht := (Nrm.cons.1 hm).1
    have e1 : s.f1 = t.f1 := by
      by_cases c : s.f1 < t.f1
      · exact absurd ((h s.f1).2 (Cov.cons.2 (.inl ⟨by omega, c⟩))) hl.not1
      · by_cases d : t.f1 < s.f1
        · exact absurd ((h t.f1).1 (Cov.cons.2 (.inl ⟨by omega, d⟩))) hm.not1
        · omega
    have e : s = t := by cases s; cases t; simp_all
    subst e
    rw [Nrm.same (Nrm.cons.1 hl).2.2 (Nrm.cons.1 hm).2.2 (fun x => by rw [hl.tail, hm.tail, h x])]
theorem Nrm.len : ∀ (M : List S26) (lo hi : Int), Nrm M → (∀ x, Cov M x → lo ≤ x ∧ x < hi) → lo ≤ hi → (M.length : Int) ≤ hi - lo
  | [], lo, hi, _, _, h => by simp; omega
  | s :: t, lo, hi, hM, hs, hlo => by
    have hc := Nrm.cons.1 hM
    have h0 := hs _ hM.at0
    have h1 := hs (s.f1 - 1) (Cov.cons.2 (.inl ⟨by omega, by omega⟩))
    have := Nrm.len t s.f1 hi hc.2.2 (fun x hx => ⟨by have := hM.low hx; omega, (hs x (Cov.cons.2 (.inr hx))).2⟩) (by omega)
    rw [List.length_cons]; omega
theorem runs_len {M : List S26} (h : Nrm M) (hs : ∀ x, Cov M x → -1000 ≤ x ∧ x < 1000) : M.length < 4611686018427387904 := by
  have := Nrm.len M (-1000) 1000 h hs (by omega)
  omega
end Go.Proofs.Ytdminogofngncaa.X
end
