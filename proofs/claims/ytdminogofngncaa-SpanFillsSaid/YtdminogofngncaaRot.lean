/-
  Swaps of ranges, and the rotation made of them.
-/
import Derived.Test.YtdminogofngncaaXF38
import Derived.Test.YtdminogofngncaaISort
namespace Go.Proofs.Ytdminogofngncaa.X
open Go.RowKit Go.Proofs.YtdminogofngncaaW.PrintWords Go.Proofs.YtdminogofngncaaW.PrintMore Go.Proofs.Ytdminogofngncaa.Srt
theorem rd_mid (A B : List S26) (z : S26) (i : Int) (hi : i = A.length) : rd_T26 (A ++ z :: B) i = z := by
  subst hi; unfold rd_T26; exact get_fst _ _ _ _
theorem set_mid (A B : List S26) (z y : S26) (i : Int) (hi : i = A.length) : (A ++ z :: B).set i.toNat y = A ++ y :: B := by
  subst hi; rw [Int.toNat_natCast, List.set_append_right _ _ (Nat.le_refl _)]; simp
/-- The swap of two ranges as long as one another. -/
theorem ev_swap_l (P W Q : List S26) (N : Nat) : ∀ (U V U' V' : List S26), U.length = V.length → U'.length = V'.length →
    (P.length : Int) + W.length + Q.length + 2 * N < 4611686018427387904 → U.length + U'.length = N →
    Ev (fun k => api_Span_39.l0 k (P ++ V' ++ U ++ W ++ U' ++ V ++ Q) P.length ((P.length : Int) + N + W.length) N U'.length) (P ++ V' ++ V ++ W ++ U' ++ U ++ Q) := by
  intro U
  induction U with
  | nil =>
    intro V U' V' h1 h2 hl hN
    cases V with
    | cons _ _ => simp at h1
    | nil =>
    simp only [List.length_nil] at hN
    refine ev_succ ?_; simp only [api_Span_39.l0]
    exact ev_neg (by omega) (ev_now rfl)
  | cons u U ih =>
    intro V U' V' h1 h2 hl hN
    cases V with
    | nil => simp at h1
    | cons v V =>
    simp only [List.length_cons, Nat.add_right_cancel_iff] at h1 hN
    have e0 : wrap64 ((P.length : Int) + N + W.length + U'.length) = (P.length : Int) + N + W.length + U'.length := w64 (by omega) (by omega)
    have e1 : wrap64 ((P.length : Int) + U'.length) = (P.length : Int) + U'.length := w64 (by omega) (by omega)
    have e2 : wrap64 ((U'.length : Int) + 1) = ((U' ++ [u]).length : Int) := by rw [w64 (by omega) (by omega)]; simp
    have a1 : P ++ V' ++ (u :: U) ++ W ++ U' ++ (v :: V) ++ Q = (P ++ V') ++ u :: (U ++ W ++ U' ++ v :: V ++ Q) := by simp
    have a2 : P ++ V' ++ (u :: U) ++ W ++ U' ++ (v :: V) ++ Q = (P ++ V' ++ u :: U ++ W ++ U') ++ v :: (V ++ Q) := by simp
    have g1 : rd_T26 (P ++ V' ++ (u :: U) ++ W ++ U' ++ (v :: V) ++ Q) ((P.length : Int) + U'.length) = u := by
      rw [a1]; exact rd_mid _ _ _ _ (by simp; omega)
    have g2 : rd_T26 (P ++ V' ++ (u :: U) ++ W ++ U' ++ (v :: V) ++ Q) ((P.length : Int) + N + W.length + U'.length) = v := by
      rw [a2]; exact rd_mid _ _ _ _ (by simp; omega)
    have s1 : ((P ++ V' ++ (u :: U) ++ W ++ U' ++ (v :: V) ++ Q).set ((P.length : Int) + U'.length).toNat v).set ((P.length : Int) + N + W.length + U'.length).toNat u = P ++ (V' ++ [v]) ++ U ++ W ++ (U' ++ [u]) ++ V ++ Q := by
      rw [a1, set_mid _ _ _ _ _ (by simp; omega)]
      have a3 : (P ++ V') ++ v :: (U ++ W ++ U' ++ v :: V ++ Q) = (P ++ V' ++ v :: U ++ W ++ U') ++ v :: (V ++ Q) := by simp
      rw [a3, set_mid _ _ _ _ _ (by simp; omega)]
      simp
    have := ih V (U' ++ [u]) (V' ++ [v]) h1 (by simp; omega) hl (by simp; omega)
    refine ev_succ ?_; simp only [api_Span_39.l0, e0, e1, e2, g1, g2]
    rw [s1]
    refine ev_pos (by omega) (ev_pos (by omega) (ev_pos (by simp; omega) (ev_pos (by omega) (ev_pos (by simp; omega) ?_))))
    have f : P ++ (V' ++ [v]) ++ V ++ W ++ (U' ++ [u]) ++ U ++ Q = P ++ V' ++ (v :: V) ++ W ++ U' ++ (u :: U) ++ Q := by simp
    rw [f] at this
    exact this
theorem ev_swap (P U W V Q : List S26) (h : U.length = V.length) (hl : (P.length : Int) + U.length + W.length + V.length + Q.length < 4611686018427387904) {a b n : Int} (ha : a = P.length) (hb : b = (P.length : Int) + U.length + W.length) (hn : n = U.length) :
    Ev (fun k => api_Span_39.f k (P ++ U ++ W ++ V ++ Q) a b n) (P ++ V ++ W ++ U ++ Q) := by
  subst ha; subst hb; subst hn
  have := ev_swap_l P W Q U.length U V [] [] h rfl (by omega) (by simp)
  simpa [api_Span_39.f] using this
/-- The rotation. -/
theorem ev_rot_l : ∀ (s : Nat) (P U V Q : List S26), U.length + V.length ≤ s → U ≠ [] → V ≠ [] → (P.length : Int) + U.length + V.length + Q.length < 4611686018427387904 →
    Ev (fun k => api_Span_38.l0 k (P ++ U ++ V ++ Q) ((P.length : Int) + U.length) U.length V.length) (P ++ V ++ U ++ Q) := by
  intro s
  induction s with
  | zero =>
    intro P U V Q hs hU hV
    cases U with
    | nil => exact absurd rfl hU
    | cons _ _ => simp at hs;
  | succ s ih =>
    intro P U V Q hs hU hV hl
    have hU0 : 0 < U.length := List.length_pos_iff.2 hU
    have hV0 : 0 < V.length := List.length_pos_iff.2 hV
    have e0 : wrap64 ((P.length : Int) + U.length - U.length) = P.length := by rw [w64 (by omega) (by omega)]; omega
    refine ev_succ ?_; simp only [api_Span_38.l0]
    rw [e0]
    by_cases c : U.length = V.length
    · refine ev_pos (by omega) (ev_of (a := P ++ V ++ U ++ Q) ?_ (ev_now rfl))
      have := ev_swap P U [] V Q c (by simp; omega) (a := P.length) (b := (P.length : Int) + U.length) (n := U.length) rfl (by simp) rfl
      simpa using this
    refine ev_neg (by omega) ?_
    by_cases d : U.length > V.length
    · refine ev_pos (by omega) ?_
      obtain ⟨U1, U2, hu, h1⟩ : ∃ U1 U2, U = U1 ++ U2 ∧ U1.length = V.length := ⟨U.take V.length, U.drop V.length, (List.take_append_drop _ _).symm, by rw [List.length_take]; omega⟩
      subst hu
      rw [List.length_append] at d hs hl
      have sw := ev_swap P U1 U2 V Q h1 (by omega) (a := P.length) (b := (P.length : Int) + (U1 ++ U2).length) (n := V.length) rfl (by rw [List.length_append]; omega) (by omega)
      refine ev_of (a := P ++ V ++ U2 ++ U1 ++ Q) ?_ ?_
      · simpa using sw
      · have e1 : wrap64 (((U1 ++ U2).length : Int) - V.length) = U2.length := by rw [List.length_append, w64 (by omega) (by omega)]; omega
        have := ih (P ++ V) U2 U1 Q (by omega) (by intro h; rw [h] at d; simp at d; omega) (by intro h; rw [h] at h1; simp at h1; omega) (by rw [List.length_append]; omega)
        rw [e1]
        have e2 : ((P.length : Int) + (U1 ++ U2).length) = (P ++ V).length + U2.length := by rw [List.length_append, List.length_append]; omega
        rw [e2, ← h1]
        simpa using this
    · refine ev_neg (by omega) ?_
      obtain ⟨V1, V2, hv, h1⟩ : ∃ V1 V2, V = V1 ++ V2 ∧ V2.length = U.length := ⟨V.take (V.length - U.length), V.drop (V.length - U.length), (List.take_append_drop _ _).symm, by rw [List.length_drop]; omega⟩
      subst hv
      rw [List.length_append] at d hs hl c
      have hV1 : V1 ≠ [] := by intro h; rw [h] at c; simp at c; omega
      have e3 : wrap64 (wrap64 ((P.length : Int) + U.length + (V1 ++ V2).length) - U.length) = (P.length : Int) + U.length + V1.length := by
        rw [List.length_append, w64 (x := (P.length : Int) + U.length + (V1.length + V2.length : Nat)) (by omega) (by omega), w64 (by omega) (by omega)]; omega
      have sw := ev_swap P U V1 V2 Q h1.symm (by omega) (a := P.length) (b := (P.length : Int) + U.length + V1.length) (n := U.length) rfl rfl rfl
      refine ev_of (a := P ++ V2 ++ V1 ++ U ++ Q) ?_ ?_
      · rw [e3]; simpa using sw
      · have e1 : wrap64 (((V1 ++ V2).length : Int) - U.length) = V1.length := by rw [List.length_append, w64 (by omega) (by omega)]; omega
        have := ih P V2 V1 (U ++ Q) (by omega) (by intro h; rw [h] at h1; simp at h1; omega) hV1 (by rw [List.length_append]; omega)
        rw [e1, ← h1]
        simpa using this
theorem ev_rot (P U V Q : List S26) (hU : U ≠ []) (hV : V ≠ []) (hl : (P.length : Int) + U.length + V.length + Q.length < 4611686018427387904) {a m b : Int} (ha : a = P.length) (hm : m = (P.length : Int) + U.length) (hb : b = (P.length : Int) + U.length + V.length) :
    Ev (fun k => api_Span_38.f k (P ++ U ++ V ++ Q) a m b) (P ++ V ++ U ++ Q) := by
  subst ha; subst hm; subst hb
  unfold api_Span_38.f
  have e1 : wrap64 ((P.length : Int) + U.length - P.length) = U.length := by rw [w64 (by omega) (by omega)]; omega
  have e2 : wrap64 ((P.length : Int) + U.length + V.length - ((P.length : Int) + U.length)) = V.length := by rw [w64 (by omega) (by omega)]; omega
  rw [e1, e2]
  exact ev_rot_l _ P U V Q (Nat.le_refl _) hU hV hl
end Go.Proofs.Ytdminogofngncaa.X
