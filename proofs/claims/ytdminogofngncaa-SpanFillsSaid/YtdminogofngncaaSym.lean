/-
  The merge in place: two sorted parts side by side become one sorted part.
-/
import Derived.Test.YtdminogofngncaaXF37
import Derived.Test.YtdminogofngncaaRot
namespace Go.Proofs.Ytdminogofngncaa.X
open Go.RowKit Go.Proofs.YtdminogofngncaaW.PrintWords Go.Proofs.YtdminogofngncaaW.PrintMore Go.Proofs.Ytdminogofngncaa.Srt
/-- In order. -/
def Asc (l : List S26) : Prop := l.Pairwise (fun a b => lt b a = false)
theorem lt_refl (a : S26) : lt a a = false := by rw [lt_not]; omega
theorem half (a b : Nat) (hb : a + b < 4611686018427387904) : wrap64 (IntKind.u64.wrap (wrap64 ((a : Int) + b)) / 2) = (((a + b) / 2 : Nat) : Int) := by
  rw [w64 (x := (a : Int) + b) (by omega) (by omega), Go.IntWalk.u64_in _ (by omega), w64 (by omega) (by omega)]; omega
theorem asc_rd {P X Q l : List S26} (h : Asc X) (hl : l = P ++ X ++ Q) (p q : Nat) (h1 : P.length ≤ p) (h2 : p ≤ q) (h3 : q < P.length + X.length) : lt (rd_T26 l (q : Int)) (rd_T26 l (p : Int)) = false := by
  subst hl
  have e : ∀ i : Nat, P.length ≤ i → (hi : i < P.length + X.length) → rd_T26 (P ++ X ++ Q) (i : Int) = X[i - P.length] := by
    intro i h0 hi
    unfold rd_T26
    rw [Int.toNat_natCast, List.getD_eq_getElem?_getD, List.append_assoc, List.getElem?_append_right h0, List.getElem?_append_left (by omega), List.getElem?_eq_getElem (by omega)]
    rfl
  rw [e q (by omega) h3, e p h1 (by omega)]
  by_cases c : p = q
  · subst c; exact lt_refl _
  · exact List.pairwise_iff_getElem.1 h (p - P.length) (q - P.length) (by omega) (by omega) (by omega)
theorem mem_rd {P X Q l : List S26} (hl : l = P ++ X ++ Q) {b : S26} (h : b ∈ X) : ∃ p : Nat, P.length ≤ p ∧ p < P.length + X.length ∧ rd_T26 l (p : Int) = b := by
  obtain ⟨i, hi, rfl⟩ := List.getElem_of_mem h
  refine ⟨P.length + i, by omega, by omega, ?_⟩
  subst hl
  unfold rd_T26
  rw [Int.toNat_natCast, List.getD_eq_getElem?_getD, List.append_assoc, List.getElem?_append_right (by omega), List.getElem?_append_left (by omega), List.getElem?_eq_getElem (by omega)]
  simp
theorem cutat {X : List S26} {n : Nat} (h : n ≤ X.length) : ∃ A B, X = A ++ B ∧ A.length = n := ⟨X.take n, X.drop n, (List.take_append_drop _ _).symm, by rw [List.length_take]; omega⟩
theorem asc_app {A B : List S26} : Asc (A ++ B) ↔ Asc A ∧ Asc B ∧ ∀ x ∈ A, ∀ y ∈ B, lt y x = false := List.pairwise_append
/-- A search that halves. -/
theorem bsearch {α : Type} (F : Int → Int → Nat → Option α) (good : Nat → Bool) (i0 j0 : Nat) (mono : ∀ p q, i0 ≤ p → p ≤ q → q < j0 → good q = true → good p = true)
    (step : ∀ (i j : Nat) (r : α), i0 ≤ i → i < j → j ≤ j0 → Ev (if good ((i + j) / 2) = true then F (((i + j) / 2 + 1 : Nat) : Int) j else F i (((i + j) / 2 : Nat) : Int)) r → Ev (F i j) r) :
    ∀ m i j, j ≤ i + m → i0 ≤ i → i ≤ j → j ≤ j0 → (∀ p, i0 ≤ p → p < i → good p = true) → (∀ p, j ≤ p → p < j0 → good p = false) →
    ∃ s : Nat, i0 ≤ s ∧ s ≤ j0 ∧ (∀ p, i0 ≤ p → p < s → good p = true) ∧ (∀ p, s ≤ p → p < j0 → good p = false) ∧ ∀ r, Ev (F s s) r → Ev (F i j) r := by
  intro m
  induction m with
  | zero =>
    intro i j h1 h2 h3 h4 h5 h6
    have : i = j := by omega
    subst this
    exact ⟨i, h2, h4, h5, h6, fun r h => h⟩
  | succ m ih =>
    intro i j h1 h2 h3 h4 h5 h6
    by_cases c : i = j
    · subst c; exact ⟨i, h2, h4, h5, h6, fun r h => h⟩
    by_cases d : good ((i + j) / 2) = true
    · obtain ⟨s, g1, g2, g3, g4, g5⟩ := ih ((i + j) / 2 + 1) j (by omega) (by omega) (by omega) h4 (fun p hp hq => mono p _ hp (by omega) (by omega) d) h6
      refine ⟨s, g1, g2, g3, g4, fun r h => step i j r h2 (by omega) h4 ?_⟩
      rw [if_pos d]; exact g5 r h
    · have d' : good ((i + j) / 2) = false := by simpa using d
      obtain ⟨s, g1, g2, g3, g4, g5⟩ := ih i ((i + j) / 2) (by omega) h2 (by omega) (by omega) h5 (fun p hp hq => by
        cases e : good p with
        | false => rfl
        | true => rw [mono _ p (by omega) hp hq e] at d'; exact d')
      refine ⟨s, g1, g2, g3, g4, fun r h => step i j r h2 (by omega) h4 ?_⟩
      rw [if_neg d]; exact g5 r h
/-- One goes up over those that stand behind it. -/
theorem ev_up (R : List S26) (x : S26) : ∀ (B C : List S26), (C.length : Int) + B.length + R.length < 4611686018427387904 →
    Ev (fun k => api_Span_37.l1 k (C ++ x :: B ++ R) ((C.length : Int) + 1 + B.length) C.length) (C ++ B ++ x :: R) := by
  intro B
  induction B with
  | nil =>
    intro C hl
    have e : wrap64 ((C.length : Int) + 1 + ([] : List S26).length - 1) = C.length := by rw [w64 (by simp) (by simp at hl ⊢; omega)]; simp
    refine ev_succ ?_; simp only [api_Span_37.l1, e]
    exact ev_neg (by omega) (ev_now (by simp))
  | cons y t ih =>
    intro C hl
    simp only [List.length_cons, Int.natCast_add, Int.cast_ofNat_Int] at hl ⊢
    have e : wrap64 ((C.length : Int) + 1 + (t.length + 1) - 1) = (C.length : Int) + 1 + t.length := by rw [w64 (by omega) (by omega)]; omega
    have e1 : wrap64 ((C.length : Int) + 1) = (C.length : Int) + 1 := w64 (by omega) (by omega)
    have a1 : C ++ x :: (y :: t) ++ R = C ++ x :: (y :: t ++ R) := by simp
    have a2 : C ++ x :: (y :: t ++ R) = (C ++ [x]) ++ y :: (t ++ R) := by simp
    have g1 : rd_T26 (C ++ x :: (y :: t) ++ R) (C.length : Int) = x := by rw [a1]; exact rd_mid _ _ _ _ rfl
    have g2 : rd_T26 (C ++ x :: (y :: t) ++ R) ((C.length : Int) + 1) = y := by rw [a1, a2]; exact rd_mid _ _ _ _ (by simp)
    have s1 : ((C ++ x :: (y :: t) ++ R).set (C.length : Int).toNat y).set ((C.length : Int) + 1).toNat x = (C ++ [y]) ++ x :: t ++ R := by
      rw [a1, set_mid _ _ _ _ _ rfl]
      have a3 : C ++ y :: (y :: t ++ R) = (C ++ [y]) ++ y :: (t ++ R) := by simp
      rw [a3, set_mid _ _ _ _ _ (by simp)]
      simp
    refine ev_succ ?_; simp only [api_Span_37.l1, e, e1, g1, g2]
    rw [s1]
    refine ev_pos (by omega) (ev_pos (by omega) (ev_pos (by simp; omega) (ev_pos (by omega) (ev_pos (by simp; omega) ?_))))
    have := ih (C ++ [y]) (by simp; omega)
    have e3 : ((C ++ [y]).length : Int) = (C.length : Int) + 1 := by simp
    rw [e3] at this
    have e4 : (C.length : Int) + 1 + (t.length + 1) = (C.length : Int) + 1 + 1 + t.length := by omega
    rw [e4]
    simpa using this
/-- One goes down before those that stand ahead of it. -/
theorem ev_down (C : List S26) (x : S26) : ∀ (A R : List S26), (C.length : Int) + A.length + R.length < 4611686018427387904 →
    Ev (fun k => api_Span_37.l3 k (C ++ A.reverse ++ x :: R) C.length ((C.length : Int) + A.length)) (C ++ x :: A.reverse ++ R) := by
  intro A
  induction A with
  | nil =>
    intro R hl
    refine ev_succ ?_; simp only [api_Span_37.l3]
    exact ev_neg (by simp) (ev_now (by simp))
  | cons z t ih =>
    intro R hl
    simp only [List.length_cons, Int.natCast_add, Int.cast_ofNat_Int] at hl ⊢
    have e0 : C ++ (z :: t).reverse ++ x :: R = (C ++ t.reverse) ++ z :: x :: R := by simp
    rw [e0]
    have hL : (C ++ t.reverse).length = C.length + t.length := by simp
    have e1 : wrap64 ((C.length : Int) + (t.length + 1) - 1) = C.length + t.length := by rw [w64 (by omega) (by omega)]; omega
    have e2 : ((C.length : Int) + (t.length + 1)).toNat = (C ++ t.reverse).length + 1 := by omega
    have e3 : ((C.length : Int) + t.length).toNat = (C ++ t.reverse).length := by omega
    have g1 : rd_T26 ((C ++ t.reverse) ++ z :: x :: R) ((C.length : Int) + (t.length + 1)) = x := by
      unfold rd_T26; rw [e2]; exact get_snd _ _ _ _ _
    have g2 : rd_T26 ((C ++ t.reverse) ++ z :: x :: R) ((C.length : Int) + t.length) = z := by
      unfold rd_T26; rw [e3]; exact get_fst _ _ _ _
    refine ev_succ ?_; simp only [api_Span_37.l3, e1, g1, g2]
    refine ev_pos (by omega) (ev_pos (by omega) (ev_pos (by simp; omega) (ev_pos (by omega) (ev_pos (by simp; omega) ?_))))
    rw [e2, e3]
    have hs := swap_next (C ++ t.reverse) z x R
    rw [hs]
    have := ih (z :: R) (by simp; omega)
    simpa using this
/-- One ahead of a sorted part. -/
theorem ev_sym1 (C B D : List S26) (x : S26) (hB : Asc B) (hl : (C.length : Int) + 1 + B.length + D.length < 2305843009213693952) :
    ∃ M, Ev (fun k => api_Span_37.l0 k (C ++ x :: B ++ D) C.length ((C.length : Int) + 1) ((C.length : Int) + 1 + B.length)) (C ++ M ++ D) ∧ M.Perm (x :: B) ∧ Asc M := by
  obtain ⟨L, hL⟩ : ∃ L, L = C ++ x :: B ++ D := ⟨_, rfl⟩
  have hL2 : L = (C ++ [x]) ++ B ++ D := by rw [hL]; simp
  have hLl : L.length = C.length + 1 + B.length + D.length := by rw [hL]; simp; omega
  have hx : rd_T26 L (C.length : Int) = x := by rw [hL]; have : C ++ x :: B ++ D = C ++ x :: (B ++ D) := by simp
                                                rw [this]; exact rd_mid _ _ _ _ rfl
  have hP : (C ++ [x]).length = C.length + 1 := by simp
  have hm : ∀ p q : Nat, C.length + 1 ≤ p → p ≤ q → q < C.length + 1 + B.length → lt (rd_T26 L (q : Int)) (rd_T26 L (p : Int)) = false := fun p q h1 h2 h3 => asc_rd hB hL2 p q (by omega) h2 (by omega)
  obtain ⟨s, g1, g2, g3, g4, g5⟩ := bsearch (fun i j k => api_Span_37.l0 k L (C.length : Int) i j) (fun p => lt (rd_T26 L (p : Int)) x) (C.length + 1) (C.length + 1 + B.length) (by
    intro p q h1 h2 h3 h4
    cases e : lt (rd_T26 L (p : Int)) x with
    | true => rfl
    | false => rw [lt_tr _ _ _ (hm p q h1 h2 h3) e] at h4; exact h4) (by
    intro i j r h1 h2 h3 hr
    refine ev_succ ?_; simp only [api_Span_37.l0]
    rw [half i j (by omega), hx]
    refine ev_pos (by omega) (ev_pos (by omega) (ev_pos (by omega) (ev_pos (by omega) (ev_pos (by omega) (ev_of (ev_order _ _) ?_)))))
    have e1 : wrap64 ((((i + j) / 2 : Nat) : Int) + 1) = (((i + j) / 2 + 1 : Nat) : Int) := by rw [w64 (by omega) (by omega)]; omega
    rw [e1]
    by_cases c : ord (rd_T26 L (((i + j) / 2 : Nat) : Int)) x < 0
    · rw [if_pos (by simpa [lt] using c)] at hr; exact ev_pos c hr
    · rw [if_neg (by simpa [lt] using c)] at hr; exact ev_neg c hr) B.length (C.length + 1) (C.length + 1 + B.length) (by omega) (by omega) (by omega) (by omega) (fun p h1 h2 => by omega) (fun p h1 h2 => by omega)
  obtain ⟨B1, B2, rfl, hB1⟩ := cutat (X := B) (n := s - (C.length + 1)) (by omega)
  rw [List.length_append] at *
  have hA := asc_app.1 hB
  have c1 : ∀ b ∈ B1, lt b x = true := by
    intro b hb
    obtain ⟨p, h1, h2, rfl⟩ := mem_rd (l := L) (P := C ++ [x]) (X := B1) (Q := B2 ++ D) (by rw [hL2]; simp) hb
    simp only [List.length_append, List.length_singleton] at h1 h2
    exact g3 p (by omega) (by omega)
  have c2 : ∀ b ∈ B2, lt b x = false := by
    intro b hb
    obtain ⟨p, h1, h2, rfl⟩ := mem_rd (l := L) (P := C ++ [x] ++ B1) (X := B2) (Q := D) (by rw [hL2]; simp) hb
    simp only [List.length_append, List.length_singleton] at h1 h2
    exact g4 p (by omega) (by omega)
  refine ⟨B1 ++ x :: B2, ?_, List.perm_middle, ?_⟩
  · rw [← hL]
    have e2 : (C.length : Int) + 1 = ((C.length + 1 : Nat) : Int) := by omega
    have e3 : (C.length : Int) + 1 + ((B1.length + B2.length : Nat) : Int) = ((C.length + 1 + (B1.length + B2.length) : Nat) : Int) := by omega
    rw [e3, e2]
    refine g5 _ ?_
    have := ev_up (B2 ++ D) x B1 C (by rw [List.length_append]; omega)
    refine ev_succ ?_; simp only [api_Span_37.l0]
    refine ev_neg (by omega) ?_
    have e4 : ((s : Nat) : Int) = (C.length : Int) + 1 + B1.length := by omega
    rw [e4, hL]
    simpa using this
  · refine asc_app.2 ⟨hA.1, List.pairwise_cons.2 ⟨fun b hb => c2 b hb, hA.2.1⟩, ?_⟩
    intro b hb y hy
    rcases List.mem_cons.1 hy with rfl | hy
    · exact lt_as _ _ (c1 b hb)
    · exact hA.2.2 b hb y hy
/-- One behind a sorted part. -/
theorem ev_sym2 (C A D : List S26) (x : S26) (hA : Asc A) (hl : (C.length : Int) + A.length + 1 + D.length < 2305843009213693952) :
    ∃ M, Ev (fun k => api_Span_37.l2 k (C ++ A ++ x :: D) ((C.length : Int) + A.length) C.length ((C.length : Int) + A.length)) (C ++ M ++ D) ∧ M.Perm (A ++ [x]) ∧ Asc M := by
  obtain ⟨L, hL⟩ : ∃ L, L = C ++ A ++ x :: D := ⟨_, rfl⟩
  have hLl : L.length = C.length + A.length + 1 + D.length := by rw [hL]; simp; omega
  have hx : rd_T26 L ((C.length : Int) + A.length) = x := by rw [hL]; exact rd_mid _ _ _ _ (by simp)
  have hm : ∀ p q : Nat, C.length ≤ p → p ≤ q → q < C.length + A.length → lt (rd_T26 L (q : Int)) (rd_T26 L (p : Int)) = false := fun p q h1 h2 h3 => asc_rd hA hL p q h1 h2 h3
  obtain ⟨s, g1, g2, g3, g4, g5⟩ := bsearch (fun i j k => api_Span_37.l2 k L ((C.length : Int) + A.length) i j) (fun p => !lt x (rd_T26 L (p : Int))) (C.length) (C.length + A.length) (by
    intro p q h1 h2 h3 h4
    have h4' : lt x (rd_T26 L (q : Int)) = false := by simpa using h4
    simpa using lt_tr _ _ _ h4' (hm p q h1 h2 h3)) (by
    intro i j r h1 h2 h3 hr
    refine ev_succ ?_; simp only [api_Span_37.l2]
    rw [half i j (by omega), hx]
    refine ev_pos (by omega) (ev_pos (by omega) (ev_pos (by omega) (ev_pos (by omega) (ev_pos (by omega) (ev_of (ev_order _ _) ?_)))))
    have e1 : wrap64 ((((i + j) / 2 : Nat) : Int) + 1) = (((i + j) / 2 + 1 : Nat) : Int) := by rw [w64 (by omega) (by omega)]; omega
    rw [e1]
    by_cases c : ord x (rd_T26 L (((i + j) / 2 : Nat) : Int)) < 0
    · rw [if_neg (by simpa [lt] using c)] at hr; exact ev_pos c hr
    · rw [if_pos (by simpa [lt] using c)] at hr; exact ev_neg c hr) A.length C.length (C.length + A.length) (by omega) (by omega) (by omega) (by omega) (fun p h1 h2 => by omega) (fun p h1 h2 => by omega)
  obtain ⟨A1, A2, rfl, hA1⟩ := cutat (X := A) (n := s - C.length) (by omega)
  rw [List.length_append] at *
  have hA' := asc_app.1 hA
  have c1 : ∀ b ∈ A1, lt x b = false := by
    intro b hb
    obtain ⟨p, h1, h2, rfl⟩ := mem_rd (l := L) (P := C) (X := A1) (Q := A2 ++ x :: D) (by rw [hL]; simp) hb
    simpa using g3 p (by omega) (by omega)
  have c2 : ∀ b ∈ A2, lt x b = true := by
    intro b hb
    obtain ⟨p, h1, h2, rfl⟩ := mem_rd (l := L) (P := C ++ A1) (X := A2) (Q := x :: D) (by rw [hL]; simp) hb
    simp only [List.length_append] at h1 h2
    simpa using g4 p (by omega) (by omega)
  refine ⟨A1 ++ x :: A2, ?_, ?_, ?_⟩
  · rw [← hL]
    have e3 : (C.length : Int) + ((A1.length + A2.length : Nat) : Int) = ((C.length + (A1.length + A2.length) : Nat) : Int) := by omega
    rw [e3] at g5 ⊢
    refine g5 _ ?_
    have := ev_down (C ++ A1) x A2.reverse D (by simp; omega)
    refine ev_succ ?_; simp only [api_Span_37.l2]
    refine ev_neg (by omega) ?_
    have e4 : ((s : Nat) : Int) = ((C ++ A1).length : Int) := by rw [List.length_append]; omega
    have e5 : ((C.length + (A1.length + A2.length) : Nat) : Int) = ((C ++ A1).length : Int) + (A2.reverse.length : Int) := by rw [List.length_append, List.length_reverse]; omega
    rw [e4, e5, hL]
    simpa using this
  · have : (A1 ++ A2 ++ [x]).Perm (A1 ++ x :: A2) := by
      rw [List.append_assoc]
      exact List.Perm.append_left _ (List.perm_append_singleton x A2)
    exact this.symm
  · refine asc_app.2 ⟨hA'.1, List.pairwise_cons.2 ⟨fun b hb => lt_as _ _ (c2 b hb), hA'.2.1⟩, ?_⟩
    intro b hb y hy
    rcases List.mem_cons.1 hy with rfl | hy
    · exact c1 b hb
    · exact hA'.2.2 b hb y hy
/-- The place where two sorted parts are cut: what goes to the left is not above what goes to the right. -/
theorem ev_cut (C A B D : List S26) (hA : Asc A) (hB : Asc B) (h1 : 1 < A.length) (h2 : 1 < B.length) (hl : (C.length : Int) + A.length + B.length + D.length < 1152921504606846976) (i0 j0 : Nat)
    (hi : ((A.length > (A.length + B.length) / 2) ∧ i0 = C.length + (A.length + B.length) / 2 - B.length ∧ j0 = C.length + (A.length + B.length) / 2) ∨ (¬ (A.length > (A.length + B.length) / 2) ∧ i0 = C.length ∧ j0 = C.length + A.length)) (mid : Nat) (hmid : mid = C.length + (A.length + B.length) / 2) :
    ∃ A1 A2 B1 B2, A = A1 ++ A2 ∧ B = B1 ++ B2 ∧ A1.length + B1.length = (A.length + B.length) / 2 ∧ (∀ x ∈ A1, ∀ y ∈ B2, lt y x = false) ∧ (∀ y ∈ B1, ∀ x ∈ A2, lt x y = false) ∧
      ∀ (L : List S26), L = C ++ A ++ B ++ D → ∀ r, Ev (fun k => api_Span_37.l4 k L C.length ((C.length + A.length : Nat) : Int) ((C.length + A.length + B.length : Nat) : Int) mid ((mid + (C.length + A.length) : Nat) : Int) ((C.length + A1.length : Nat) : Int) ((C.length + A1.length : Nat) : Int) ((mid + (C.length + A.length) - 1 : Nat) : Int)) r →
        Ev (fun k => api_Span_37.l4 k L C.length ((C.length + A.length : Nat) : Int) ((C.length + A.length + B.length : Nat) : Int) mid ((mid + (C.length + A.length) : Nat) : Int) i0 j0 ((mid + (C.length + A.length) - 1 : Nat) : Int)) r := by
  obtain ⟨L, hL⟩ : ∃ L, L = C ++ A ++ B ++ D := ⟨_, rfl⟩
  have hLl : L.length = C.length + A.length + B.length + D.length := by rw [hL]; simp; omega
  have hCA : (C ++ A).length = C.length + A.length := by simp
  have hmA : ∀ p q : Nat, C.length ≤ p → p ≤ q → q < C.length + A.length → lt (rd_T26 L (q : Int)) (rd_T26 L (p : Int)) = false := fun p q h1 h2 h3 => asc_rd hA (show L = C ++ A ++ (B ++ D) by rw [hL]; simp) p q h1 h2 h3
  have hmB : ∀ p q : Nat, C.length + A.length ≤ p → p ≤ q → q < C.length + A.length + B.length → lt (rd_T26 L (q : Int)) (rd_T26 L (p : Int)) = false := fun p q h1 h2 h3 => asc_rd hB (show L = (C ++ A) ++ B ++ D by rw [hL]) p q (by omega) h2 (by omega)
  obtain ⟨n1, hn1⟩ : ∃ n1, n1 = mid + (C.length + A.length) - 1 := ⟨_, rfl⟩
  have hr1 : ∀ c, i0 ≤ c → c < j0 → C.length ≤ c ∧ c < C.length + A.length ∧ c ≤ n1 ∧ C.length + A.length ≤ n1 - c ∧ n1 - c < C.length + A.length + B.length := by
    intro c h3 h4
    rcases hi with ⟨a, b, d⟩ | ⟨a, b, d⟩ <;> omega
  have hij : i0 ≤ j0 := by rcases hi with ⟨a, b, d⟩ | ⟨a, b, d⟩ <;> omega
  obtain ⟨s, g1, g2, g3, g4, g5⟩ := bsearch (fun i j k => api_Span_37.l4 k L C.length ((C.length + A.length : Nat) : Int) ((C.length + A.length + B.length : Nat) : Int) mid ((mid + (C.length + A.length) : Nat) : Int) i j (n1 : Int)) (fun c => !lt (rd_T26 L ((n1 - c : Nat) : Int)) (rd_T26 L (c : Int))) i0 j0 (by
    intro p q h3 h4 h5 h6
    have a := hr1 p h3 (by omega)
    have b := hr1 q (by omega) h5
    have h6' : lt (rd_T26 L ((n1 - q : Nat) : Int)) (rd_T26 L (q : Int)) = false := by simpa using h6
    have k1 := hmB (n1 - q) (n1 - p) (by omega) (by omega) (by omega)
    have k2 := hmA p q (by omega) h4 (by omega)
    simpa using lt_tr _ _ _ k1 (lt_tr _ _ _ h6' k2)) (by
    intro i j r h3 h4 h5 hr
    have a := hr1 ((i + j) / 2) (by omega) (by omega)
    have e0 : wrap64 ((n1 : Int) - (((i + j) / 2 : Nat) : Int)) = ((n1 - (i + j) / 2 : Nat) : Int) := by rw [w64 (by omega) (by omega)]; omega
    refine ev_succ ?_; simp only [api_Span_37.l4]
    rw [half i j (by omega), e0]
    refine ev_pos (by omega) (ev_pos (by omega) (ev_pos (by omega) (ev_pos (by omega) (ev_pos (by omega) (ev_of (ev_order _ _) ?_)))))
    have e1 : wrap64 ((((i + j) / 2 : Nat) : Int) + 1) = (((i + j) / 2 + 1 : Nat) : Int) := by rw [w64 (by omega) (by omega)]; omega
    rw [e1]
    by_cases c : ord (rd_T26 L ((n1 - (i + j) / 2 : Nat) : Int)) (rd_T26 L (((i + j) / 2 : Nat) : Int)) < 0
    · rw [if_neg (by simpa [lt] using c)] at hr; exact ev_pos c hr
    · rw [if_pos (by simpa [lt] using c)] at hr; exact ev_neg c hr) (j0 - i0) i0 j0 (by omega) (by omega) hij (by omega) (fun p h1 h2 => by omega) (fun p h1 h2 => by omega)
  have hs : C.length ≤ s ∧ s ≤ C.length + A.length ∧ s ≤ mid ∧ mid - s ≤ B.length := by rcases hi with ⟨a, b, d⟩ | ⟨a, b, d⟩ <;> omega
  obtain ⟨A1, A2, rfl, hA1⟩ := cutat (X := A) (n := s - C.length) (by omega)
  obtain ⟨B1, B2, rfl, hB1⟩ := cutat (X := B) (n := mid - s) (by omega)
  simp only [List.length_append] at *
  have hv : s = C.length + A1.length := by omega
  refine ⟨A1, A2, B1, B2, rfl, rfl, by omega, ?_, ?_, ?_⟩
  · intro x hx y hy
    obtain ⟨p, a1, a2, rfl⟩ := mem_rd (l := L) (P := C) (X := A1) (Q := A2 ++ (B1 ++ B2) ++ D) (by rw [hL]; simp) hx
    obtain ⟨q, b1, b2, rfl⟩ := mem_rd (l := L) (P := C ++ (A1 ++ A2) ++ B1) (X := B2) (Q := D) (by rw [hL]; simp) hy
    simp only [List.length_append] at b1 b2
    by_cases c : s = i0
    · rcases hi with ⟨a, b, d⟩ | ⟨a, b, d⟩ <;> omega
    have k0 := g3 (s - 1) (by omega) (by omega)
    have k0' : lt (rd_T26 L ((n1 - (s - 1) : Nat) : Int)) (rd_T26 L ((s - 1 : Nat) : Int)) = false := by simpa using k0
    have k1 := hmA p (s - 1) (by omega) (by omega) (by omega)
    have k2 := hmB (n1 - (s - 1)) q (by omega) (by omega) (by omega)
    exact lt_tr _ _ _ k2 (lt_tr _ _ _ k0' k1)
  · intro y hy x hx
    obtain ⟨p, a1, a2, rfl⟩ := mem_rd (l := L) (P := C ++ A1) (X := A2) (Q := (B1 ++ B2) ++ D) (by rw [hL]; simp) hx
    obtain ⟨q, b1, b2, rfl⟩ := mem_rd (l := L) (P := C ++ (A1 ++ A2)) (X := B1) (Q := B2 ++ D) (by rw [hL]; simp) hy
    simp only [List.length_append] at a1 a2 b1 b2
    by_cases c : s = j0
    · rcases hi with ⟨a, b, d⟩ | ⟨a, b, d⟩ <;> omega
    have k0 := g4 s (by omega) (by omega)
    have k0' : lt (rd_T26 L ((n1 - s : Nat) : Int)) (rd_T26 L ((s : Nat) : Int)) = true := by simpa using k0
    have k0'' := lt_as _ _ k0'
    have k1 := hmA s p (by omega) (by omega) (by omega)
    have k2 := hmB q (n1 - s) (by omega) (by omega) (by omega)
    exact lt_tr _ _ _ k1 (lt_tr _ _ _ k0'' k2)
  · intro L' hL' r hr
    rw [← hL] at hL'
    subst hL'
    rw [← hn1] at hr ⊢
    rw [← hv] at hr
    exact g5 r hr
/-- The two halves, once the cut is found. -/
theorem sym_code (C A1 A2 B1 B2 D M1 M2 : List S26) (mid fin : Nat) (n1 : Int) (hm : mid = C.length + A1.length + B1.length) (hf : fin = mid + A2.length + B2.length) (hl : fin + D.length < 1152921504606846976)
    (k1 : (A1 ≠ [] ∧ B1 ≠ []) → Ev (fun k => api_Span_37.f k (C ++ A1 ++ B1 ++ (A2 ++ B2 ++ D)) C.length ((C.length + A1.length : Nat) : Int) mid) (C ++ M1 ++ (A2 ++ B2 ++ D))) (q1 : ¬ (A1 ≠ [] ∧ B1 ≠ []) → M1 = A1 ++ B1)
    (k2 : (A2 ≠ [] ∧ B2 ≠ []) → Ev (fun k => api_Span_37.f k ((C ++ M1) ++ A2 ++ B2 ++ D) mid ((mid + A2.length : Nat) : Int) (fin : Int)) ((C ++ M1) ++ M2 ++ D)) (q2 : ¬ (A2 ≠ [] ∧ B2 ≠ []) → M2 = A2 ++ B2) :
    Ev (fun k => api_Span_37.l4 k (C ++ (A1 ++ A2) ++ (B1 ++ B2) ++ D) C.length ((C.length + (A1.length + A2.length) : Nat) : Int) fin mid ((mid + (C.length + (A1.length + A2.length)) : Nat) : Int) ((C.length + A1.length : Nat) : Int) ((C.length + A1.length : Nat) : Int) n1) (C ++ (M1 ++ M2) ++ D) := by
  have hlen : ∀ X : List S26, X = [] ↔ X.length = 0 := fun X => List.length_eq_zero_iff.symm
  have tail : Ev (fun k => if (mid : Int) < ((mid + A2.length : Nat) : Int) then (if ((mid + A2.length : Nat) : Int) < (fin : Int) then ((api_Span_37.f k ((C ++ M1) ++ A2 ++ B2 ++ D) mid ((mid + A2.length : Nat) : Int) fin).bind fun t150 => (some t150)) else (some ((C ++ M1) ++ A2 ++ B2 ++ D))) else (some ((C ++ M1) ++ A2 ++ B2 ++ D))) (C ++ (M1 ++ M2) ++ D) := by
    by_cases c : A2 = []
    · have h0 := (hlen A2).1 c
      refine ev_neg (by omega) (ev_now ?_)
      rw [q2 (fun h => h.1 c)]; simp
    · have h0 : A2.length ≠ 0 := fun h => c ((hlen A2).2 h)
      refine ev_pos (by omega) ?_
      by_cases d : B2 = []
      · have h1 := (hlen B2).1 d
        refine ev_neg (by omega) (ev_now ?_)
        rw [q2 (fun h => h.2 d)]; simp
      · have h1 : B2.length ≠ 0 := fun h => d ((hlen B2).2 h)
        refine ev_pos (by omega) ?_
        have := k2 ⟨c, d⟩
        exact ev_of this (ev_now (by simp))
  have j8 : ∀ (fl : Bool), fl = decide (A1 ≠ [] ∧ B1 ≠ []) → Ev (fun k => api_Span_37.j8 k (C ++ A1 ++ B1 ++ A2 ++ B2 ++ D) C.length fin mid ((C.length + A1.length : Nat) : Int) ((mid + A2.length : Nat) : Int) fl) (C ++ (M1 ++ M2) ++ D) := by
    intro fl hfl
    refine ev_succ ?_; simp only [api_Span_37.j8]
    by_cases c : A1 ≠ [] ∧ B1 ≠ []
    · rw [decide_eq_true c] at hfl
      refine ev_pos hfl ?_
      have e : C ++ A1 ++ B1 ++ A2 ++ B2 ++ D = C ++ A1 ++ B1 ++ (A2 ++ B2 ++ D) := by simp
      have e' : C ++ M1 ++ (A2 ++ B2 ++ D) = (C ++ M1) ++ A2 ++ B2 ++ D := by simp
      have := k1 c
      rw [e'] at this
      rw [e]
      exact ev_of this tail
    · rw [decide_eq_false c] at hfl
      refine ev_neg (by rw [hfl]; simp) ?_
      have e : C ++ A1 ++ B1 ++ A2 ++ B2 ++ D = (C ++ M1) ++ A2 ++ B2 ++ D := by rw [q1 c]; simp
      rw [e]
      exact tail
  have j7 : Ev (fun k => api_Span_37.j7 k (C ++ A1 ++ B1 ++ A2 ++ B2 ++ D) C.length fin mid ((C.length + A1.length : Nat) : Int) ((mid + A2.length : Nat) : Int)) (C ++ (M1 ++ M2) ++ D) := by
    refine ev_succ ?_; simp only [api_Span_37.j7]
    by_cases c : A1 = []
    · have h0 := (hlen A1).1 c
      exact ev_neg (by omega) (j8 false (by simp [c]))
    · have h0 : A1.length ≠ 0 := fun h => c ((hlen A1).2 h)
      refine ev_pos (by omega) (j8 _ ?_)
      by_cases d : B1 = []
      · have h1 := (hlen B1).1 d
        rw [decide_eq_false (by omega)]; simp [d]
      · have h1 : B1.length ≠ 0 := fun h => d ((hlen B1).2 h)
        rw [decide_eq_true (by omega)]; simp [c, d]
  have j6 : ∀ (fl : Bool), fl = decide (A2 ≠ [] ∧ B1 ≠ []) → Ev (fun k => api_Span_37.j6 k (C ++ (A1 ++ A2) ++ (B1 ++ B2) ++ D) C.length ((C.length + (A1.length + A2.length) : Nat) : Int) fin mid ((C.length + A1.length : Nat) : Int) ((mid + A2.length : Nat) : Int) fl) (C ++ (M1 ++ M2) ++ D) := by
    intro fl hfl
    refine ev_succ ?_; simp only [api_Span_37.j6]
    by_cases c : A2 ≠ [] ∧ B1 ≠ []
    · rw [decide_eq_true c] at hfl
      refine ev_pos hfl ?_
      have := ev_rot (C ++ A1) A2 B1 (B2 ++ D) c.1 c.2 (by simp only [List.length_append]; omega) (a := ((C.length + A1.length : Nat) : Int)) (m := ((C.length + (A1.length + A2.length) : Nat) : Int)) (b := ((mid + A2.length : Nat) : Int)) (by simp only [List.length_append]) (by simp only [List.length_append]; omega) (by simp only [List.length_append]; omega)
      have e : C ++ (A1 ++ A2) ++ (B1 ++ B2) ++ D = C ++ A1 ++ A2 ++ B1 ++ (B2 ++ D) := by simp
      have e' : C ++ A1 ++ B1 ++ A2 ++ (B2 ++ D) = C ++ A1 ++ B1 ++ A2 ++ B2 ++ D := by simp
      rw [e'] at this
      rw [e]
      exact ev_of this j7
    · rw [decide_eq_false c] at hfl
      refine ev_neg (by rw [hfl]; simp) ?_
      have e : C ++ (A1 ++ A2) ++ (B1 ++ B2) ++ D = C ++ A1 ++ B1 ++ A2 ++ B2 ++ D := by
        cases A2 with
        | nil => simp
        | cons x t =>
          cases B1 with
          | nil => simp
          | cons y u => exact absurd ⟨by simp, by simp⟩ c
      rw [e]
      exact j7
  refine ev_succ ?_; simp only [api_Span_37.l4]
  have e3 : wrap64 (((mid + (C.length + (A1.length + A2.length)) : Nat) : Int) - ((C.length + A1.length : Nat) : Int)) = ((mid + A2.length : Nat) : Int) := by rw [w64 (by omega) (by omega)]; omega
  rw [e3]
  refine ev_neg (by omega) ?_
  by_cases c : A2 = []
  · have h0 := (hlen A2).1 c
    exact ev_neg (by omega) (j6 false (by simp [c]))
  · have h0 : A2.length ≠ 0 := fun h => c ((hlen A2).2 h)
    refine ev_pos (by omega) (j6 _ ?_)
    by_cases d : B1 = []
    · have h1 := (hlen B1).1 d
      rw [decide_eq_false (by omega)]; simp [d]
    · have h1 : B1.length ≠ 0 := fun h => d ((hlen B1).2 h)
      rw [decide_eq_true (by omega)]; simp [c, d]
theorem sym_nums (c a b mid fin : Nat) (hmid : mid = c + (a + b) / 2) (hfin : fin = c + a + b) (hl : fin < 1152921504606846976) :
    wrap64 (IntKind.u64.wrap (wrap64 ((c : Int) + (fin : Int))) / 2) = (mid : Int) ∧ wrap64 ((mid : Int) + ((c + a : Nat) : Int)) = ((mid + (c + a) : Nat) : Int) ∧
    (0 < c + a → wrap64 (((mid + (c + a) : Nat) : Int) - 1) = ((mid + (c + a) - 1 : Nat) : Int)) ∧ wrap64 (((mid + (c + a) : Nat) : Int) - (fin : Int)) = ((mid : Int) + (c + a : Nat) - fin) := by
  refine ⟨?_, ?_, ?_, ?_⟩
  · rw [half c fin (by omega)]; omega
  · rw [w64 (by omega) (by omega)]; omega
  · intro h; rw [w64 (by omega) (by omega)]; omega
  · rw [w64 (by omega) (by omega)]; omega
/-- The merge in place. -/
theorem ev_sym : ∀ (n : Nat) (C A B D : List S26), A.length + B.length ≤ n → A ≠ [] → B ≠ [] → Asc A → Asc B → (C.length : Int) + A.length + B.length + D.length < 1152921504606846976 →
    ∃ M, Ev (fun k => api_Span_37.f k (C ++ A ++ B ++ D) C.length ((C.length + A.length : Nat) : Int) ((C.length + A.length + B.length : Nat) : Int)) (C ++ M ++ D) ∧ M.Perm (A ++ B) ∧ Asc M := by
  intro n
  induction n with
  | zero =>
    intro C A B D hn hA0
    cases A with
    | nil => exact absurd rfl hA0
    | cons _ _ => simp at hn
  | succ n ih =>
    intro C A B D hn hA0 hB0 hA hB hl
    have hA1 : 0 < A.length := List.length_pos_iff.2 hA0
    have hB1 : 0 < B.length := List.length_pos_iff.2 hB0
    have e1 : wrap64 (((C.length + A.length : Nat) : Int) - C.length) = A.length := by rw [w64 (by omega) (by omega)]; omega
    have e2 : wrap64 (((C.length + A.length + B.length : Nat) : Int) - ((C.length + A.length : Nat) : Int)) = B.length := by rw [w64 (by omega) (by omega)]; omega
    by_cases a : A.length = 1
    · obtain ⟨x, rfl⟩ := List.length_eq_one_iff.1 a
      obtain ⟨M, m1, m2, m3⟩ := ev_sym1 C B D x hB (by simp at hl; omega)
      refine ⟨M, ?_, by simpa using m2, m3⟩
      refine ev_succ ?_; simp only [api_Span_37.f]
      rw [e1]
      refine ev_pos (by simp) ?_
      have e3 : ((C.length + [x].length : Nat) : Int) = (C.length : Int) + 1 := by simp
      have e4 : ((C.length + [x].length + B.length : Nat) : Int) = (C.length : Int) + 1 + B.length := by simp
      rw [e3, e4]
      simpa using m1
    by_cases b : B.length = 1
    · obtain ⟨x, rfl⟩ := List.length_eq_one_iff.1 b
      obtain ⟨M, m1, m2, m3⟩ := ev_sym2 C A D x hA (by simp at hl; omega)
      refine ⟨M, ?_, m2, m3⟩
      refine ev_succ ?_; simp only [api_Span_37.f]
      rw [e1, e2]
      refine ev_neg (by omega) (ev_pos (by simp) ?_)
      have e3 : ((C.length + A.length : Nat) : Int) = (C.length : Int) + A.length := by omega
      rw [e3]
      simpa using m1
    obtain ⟨mid, hmid⟩ : ∃ mid, mid = C.length + (A.length + B.length) / 2 := ⟨_, rfl⟩
    obtain ⟨i0, j0, hij⟩ : ∃ i0 j0, ((A.length > (A.length + B.length) / 2) ∧ i0 = C.length + (A.length + B.length) / 2 - B.length ∧ j0 = C.length + (A.length + B.length) / 2) ∨ (¬ (A.length > (A.length + B.length) / 2) ∧ i0 = C.length ∧ j0 = C.length + A.length) := by
      by_cases c : A.length > (A.length + B.length) / 2
      · exact ⟨_, _, .inl ⟨c, rfl, rfl⟩⟩
      · exact ⟨_, _, .inr ⟨c, rfl, rfl⟩⟩
    obtain ⟨A1, A2, B1, B2, rfl, rfl, hc, x1, x2, hev⟩ := ev_cut C A B D hA hB (by omega) (by omega) hl i0 j0 hij mid hmid
    have dA := asc_app.1 hA
    have dB := asc_app.1 hB
    simp only [List.length_append] at *
    have left : ∃ M1, M1.Perm (A1 ++ B1) ∧ Asc M1 ∧ ((A1 ≠ [] ∧ B1 ≠ []) → Ev (fun k => api_Span_37.f k (C ++ A1 ++ B1 ++ (A2 ++ B2 ++ D)) C.length ((C.length + A1.length : Nat) : Int) mid) (C ++ M1 ++ (A2 ++ B2 ++ D))) ∧ (¬ (A1 ≠ [] ∧ B1 ≠ []) → M1 = A1 ++ B1) := by
      by_cases c : A1 ≠ [] ∧ B1 ≠ []
      · obtain ⟨M1, m1, m2, m3⟩ := ih C A1 B1 (A2 ++ B2 ++ D) (by omega) c.1 c.2 dA.1 dB.1 (by simp only [List.length_append]; omega)
        have e : C.length + A1.length + B1.length = mid := by omega
        rw [e] at m1
        exact ⟨M1, m2, m3, fun _ => m1, fun h => absurd c h⟩
      · refine ⟨A1 ++ B1, List.Perm.refl _, ?_, fun h => absurd h c, fun _ => rfl⟩
        cases A1 with
        | nil => exact dB.1
        | cons x t =>
          cases B1 with
          | nil => simpa using dA.1
          | cons y u => exact absurd ⟨by simp, by simp⟩ c
    obtain ⟨M1, p1, o1, k1, q1⟩ := left
    have hM1 : M1.length = A1.length + B1.length := by rw [p1.length_eq, List.length_append]
    have right : ∃ M2, M2.Perm (A2 ++ B2) ∧ Asc M2 ∧ ((A2 ≠ [] ∧ B2 ≠ []) → Ev (fun k => api_Span_37.f k ((C ++ M1) ++ A2 ++ B2 ++ D) mid ((mid + A2.length : Nat) : Int) ((C.length + (A1.length + A2.length) + (B1.length + B2.length) : Nat) : Int)) ((C ++ M1) ++ M2 ++ D)) ∧ (¬ (A2 ≠ [] ∧ B2 ≠ []) → M2 = A2 ++ B2) := by
      by_cases c : A2 ≠ [] ∧ B2 ≠ []
      · have hCM : (C ++ M1).length = mid := by rw [List.length_append]; omega
        obtain ⟨M2, m1, m2, m3⟩ := ih (C ++ M1) A2 B2 D (by omega) c.1 c.2 dA.2.1 dB.2.1 (by rw [hCM]; omega)
        rw [hCM] at m1
        have e : mid + A2.length + B2.length = C.length + (A1.length + A2.length) + (B1.length + B2.length) := by omega
        rw [e] at m1
        exact ⟨M2, m2, m3, fun _ => m1, fun h => absurd c h⟩
      · refine ⟨A2 ++ B2, List.Perm.refl _, ?_, fun h => absurd h c, fun _ => rfl⟩
        cases A2 with
        | nil => exact dB.2.1
        | cons x t =>
          cases B2 with
          | nil => simpa using dA.2.1
          | cons y u => exact absurd ⟨by simp, by simp⟩ c
    obtain ⟨M2, p2, o2, k2, q2⟩ := right
    refine ⟨M1 ++ M2, ?_, ?_, ?_⟩
    · -- the code
      obtain ⟨fin, hfin⟩ : ∃ fin, fin = C.length + (A1.length + A2.length) + (B1.length + B2.length) := ⟨_, rfl⟩
      rw [← hfin] at hev k2 ⊢
      have l4 := hev _ rfl (C ++ (M1 ++ M2) ++ D) (sym_code C A1 A2 B1 B2 D M1 M2 mid fin _ (by omega) (by omega) (by omega) k1 q1 k2 q2)
      clear hev k1 q1 k2 q2 x1 x2 ih dA dB hA hB p1 p2 o1 o2
      obtain ⟨e5, e6, e7, e8⟩ := sym_nums C.length (A1.length + A2.length) (B1.length + B2.length) mid fin hmid hfin (by omega)
      refine ev_succ ?_; simp only [api_Span_37.f]
      rw [← hfin] at e2
      rw [e1, e2, e5, e6, e8]
      clear e1 e2 e5 e6 e8
      refine ev_neg (by clear e7 l4; omega) (ev_neg (by clear e7 l4; omega) ?_)
      rcases hij with ⟨a1, b1, d1⟩ | ⟨a1, b1, d1⟩
      · refine ev_pos (by clear e7 l4; omega) ?_
        refine ev_succ ?_; simp only [api_Span_37.j4]
        rw [e7 (by clear e7 l4; omega)]
        clear e7
        have e9 : (mid : Int) + (C.length + (A1.length + A2.length) : Nat) - fin = (i0 : Int) := by omega
        have e10 : (mid : Int) = (j0 : Int) := by omega
        rw [e9]
        rw [← e10] at l4
        exact l4
      · refine ev_neg (by clear e7 l4; omega) ?_
        refine ev_succ ?_; simp only [api_Span_37.j4]
        rw [e7 (by clear e7 l4; omega)]
        clear e7
        rw [b1, d1] at l4
        exact l4
    · refine (List.Perm.append p1 p2).trans ?_
      have : (A1 ++ B1 ++ (A2 ++ B2)).Perm (A1 ++ A2 ++ (B1 ++ B2)) := by
        rw [List.append_assoc, List.append_assoc]
        refine List.Perm.append_left A1 ?_
        rw [← List.append_assoc, ← List.append_assoc]
        exact List.Perm.append_right B2 List.perm_append_comm
      exact this
    · refine asc_app.2 ⟨o1, o2, fun x hx y hy => ?_⟩
      rcases List.mem_append.1 (p1.mem_iff.1 hx) with hx | hx <;> rcases List.mem_append.1 (p2.mem_iff.1 hy) with hy | hy
      · exact dA.2.2 x hx y hy
      · exact x1 x hx y hy
      · exact x2 x hx y hy
      · exact dB.2.2 x hx y hy
end Go.Proofs.Ytdminogofngncaa.X
