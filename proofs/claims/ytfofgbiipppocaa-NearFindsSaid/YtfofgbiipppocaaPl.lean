/-
  The plain laws: what the document's One tells; the fixed names.
-/
import Derived.Test.YtfofgbiipppocaaXF8
import Derived.Test.YtfofgbiipppocaaXF10
import Derived.Test.YtfofgbiipppocaaDp
import Derived.Test.YtfofgbiipppocaaOne
import Derived.Test.YtfofgbiipppocaaXRefL
namespace Go.Proofs.Ytfofgbiipppocaa.X
open Go.RowKit Go.Proofs.YtfofgbiipppocaaW.PrintWords Go.Proofs.YtfofgbiipppocaaW.PrintMore Go.Proofs.Ytfofgbiipppocaa.Near Go.Proofs.Ytfofgbiipppocaa.XR
theorem works_at : cavillaw34_works.f 400 = some true := by decide +kernel
theorem works : Ev (fun k => cavillaw34_works.f k) true := Ev.of cavillaw34_works.mono works_at
theorem BL_bytes (a : ByteArray) : BL a = bytesOf a := by
  apply List.ext_getElem
  · rw [BL_len, bytesOf_length]
  · intro i h1 h2
    have h : i < a.size := by rw [BL_len] at h1; exact h1
    have e : rd (bytesOf a) (i : Int) = bt a (i : Int) := rd_bytesOf a i
    unfold rd at e
    rw [Int.toNat_natCast, List.getD_eq_getElem?_getD, List.getElem?_eq_getElem h2] at e
    have e2 : (BL a)[i]? = some (bt a (i : Int)) := by
      unfold BL
      rw [BL_map, List.getElem?_map, List.getElem?_range h]; rfl
    rw [List.getElem?_eq_getElem h1] at e2
    rw [Option.some.inj e2, ← e]; rfl
theorem BL_eq (a b : ByteArray) : BL a = BL b ↔ a.toList = b.toList := by
  rw [BL_bytes, BL_bytes, ByteArray.toList_eq, ByteArray.toList_eq]
  unfold bytesOf
  constructor
  · intro h
    have := congrArg (List.map (fun i : Int => UInt8.ofNat i.toNat)) h
    simpa [List.map_map, Function.comp_def] using this
  · intro h; rw [h]
theorem BL_app (a b : ByteArray) : BL (a ++ b) = BL a ++ BL b := by
  rw [BL_bytes, BL_bytes, BL_bytes]
  unfold bytesOf
  rw [← List.map_append]
  congr 1
theorem BL_ext (a : ByteArray) (i j : Nat) : BL (a.extract i j) = ((BL a).take j).drop i := by
  rw [BL_bytes, BL_bytes]
  unfold bytesOf
  rw [← List.map_take, ← List.map_drop]
  congr 1
  simp [ByteArray.data_extract, Array.toList_extract, List.drop_take]
theorem dist_ev (a b : ByteArray) (ha : a.size ≤ 1000) (hb : b.size ≤ 1000) : Ev (fun n => near_Distance.f n a b) (dst (BL a) (BL b) : Int) := by
  have h := ev_distance a b ha hb
  have e : cell a b a.size b.size = (dst (BL a) (BL b) : Int) := by unfold cell BL; rw [dst_rev]
  rw [e] at h; exact h
section
variable (a b : ByteArray) (ha : a.size ≤ 100) (hb : b.size ≤ 100)
def W1 (i : Nat) : Prop := i < a.size ∧ (BL a).take i ++ (BL a).drop (i + 1) = BL b
def W2 (i : Nat) : Prop := i < b.size ∧ (BL b).take i ++ (BL b).drop (i + 1) = BL a
def W3 (i : Nat) : Prop := i < a.size ∧ i < b.size ∧ (BL a).take i = (BL b).take i ∧ (BL a).drop (i + 1) = (BL b).drop (i + 1)
def W4 (i : Nat) : Prop := i + 1 < a.size ∧ (BL a).take i ++ (((BL a).drop (i + 1)).take 1 ++ (((BL a).drop i).take 1 ++ (BL a).drop (i + 2))) = BL b
def WQ (i : Nat) : Prop := W1 a b i ∨ W2 a b i ∨ W3 a b i ∨ W4 a b i
def From (i : Nat) (r : Bool) : Prop := r = true ↔ ∃ j, i ≤ j ∧ j ≤ a.size ∧ WQ a b j
variable {a b}
include ha in
theorem one_j4 {i : Nat} (hi : i ≤ a.size) {x : Bool} (hx : x = true ↔ W4 a b i) (h1 : ¬ W1 a b i) (h2 : ¬ W2 a b i) (h3 : ¬ W3 a b i) {r : Bool} (hr : From a b i r) (ih : ∀ r', From a b (i + 1) r' → Ev (fun k => cavilref34_One.l0 k a b ((i + 1 : Nat) : Int)) r') :
    Ev (fun k => cavilref34_One.j4 k a b (i : Int) x) r := by
  have e1 : wrap64 ((i : Int) + 1) = ((i + 1 : Nat) : Int) := by rw [w64 (by omega) (by omega)]; omega
  refine ev_succ ?_; simp only [cavilref34_One.j4]
  by_cases c : x = true
  · have : r = true := hr.2 ⟨i, Nat.le_refl _, hi, .inr (.inr (.inr (hx.1 c)))⟩
    subst this
    exact ev_pos c (ev_now rfl)
  · rw [e1]
    refine ev_neg c (ih r ?_)
    have h4 : ¬ W4 a b i := fun h => c (hx.2 h)
    constructor
    · intro h
      obtain ⟨j, j1, j2, j3⟩ := hr.1 h
      refine ⟨j, ?_, j2, j3⟩
      rcases Nat.lt_or_ge i j with d | d
      · exact d
      · have : j = i := by omega
        subst this
        rcases j3 with k | k | k | k
        · exact absurd k h1
        · exact absurd k h2
        · exact absurd k h3
        · exact absurd k h4
    · rintro ⟨j, j1, j2, j3⟩
      exact hr.2 ⟨j, by omega, j2, j3⟩
theorem beq_bl (x y : ByteArray) : ((x.toList == y.toList) = true) ↔ BL x = BL y := by rw [beq_iff_eq, BL_eq]
include ha in
theorem one_j3 {i : Nat} (hi : i ≤ a.size) {x : Bool} (hx : x = true ↔ W3 a b i) (h1 : ¬ W1 a b i) (h2 : ¬ W2 a b i) {r : Bool} (hr : From a b i r) (ih : ∀ r', From a b (i + 1) r' → Ev (fun k => cavilref34_One.l0 k a b ((i + 1 : Nat) : Int)) r') :
    Ev (fun k => cavilref34_One.j3 k a b (i : Int) x) r := by
  have e1 : wrap64 ((i : Int) + 1) = ((i + 1 : Nat) : Int) := by rw [w64 (by omega) (by omega)]; omega
  have e2 : wrap64 ((i : Int) + 2) = ((i + 2 : Nat) : Int) := by rw [w64 (by omega) (by omega)]; omega
  refine ev_succ ?_; simp only [cavilref34_One.j3]
  rw [e1, e2]
  clear e1 e2
  by_cases c : x = true
  · have : r = true := hr.2 ⟨i, Nat.le_refl _, hi, .inr (.inr (.inl (hx.1 c)))⟩
    subst this
    exact ev_pos c (ev_now rfl)
  · refine ev_neg c ?_
    have h3 : ¬ W3 a b i := fun h => c (hx.2 h)
    by_cases d : i + 1 < a.size
    · refine ev_pos (by omega) (ev_pos (by omega) (ev_pos (by omega) (ev_pos (by omega) (ev_pos (by omega) (ev_pos (by omega) (ev_pos ?_ (ev_pos (by omega) (ev_pos (by omega) (ev_pos ?_ (ev_pos (by omega) (ev_pos ?_ (one_j4 ha hi ?_ h1 h2 h3 hr ih)))))))))))) 
      · simp only [ByteArray.size_extract]; omega
      · simp only [ByteArray.size_append, ByteArray.size_extract]; omega
      · simp only [ByteArray.size_append, ByteArray.size_extract]; omega
      · rw [beq_bl]
        simp only [BL_app, BL_ext, Int.toNat_natCast]
        unfold W4
        have l := BL_len a
        rw [List.drop_zero, show (BL a).take a.size = BL a from List.take_of_length_le (by omega), List.append_assoc, List.append_assoc, List.drop_take, List.drop_take, show i + 2 - (i + 1) = 1 by omega, show i + 1 - i = 1 by omega]
        exact ⟨fun h => ⟨d, h⟩, fun h => h.2⟩
    · refine ev_neg (by omega) (one_j4 ha hi ?_ h1 h2 h3 hr ih)
      exact ⟨fun h => by simp at h, fun h => absurd h.1 d⟩
include ha in
theorem one_j2 {i : Nat} (hi : i ≤ a.size) {x : Bool} (hx : x = true ↔ W2 a b i) (h1 : ¬ W1 a b i) {r : Bool} (hr : From a b i r) (ih : ∀ r', From a b (i + 1) r' → Ev (fun k => cavilref34_One.l0 k a b ((i + 1 : Nat) : Int)) r') :
    Ev (fun k => cavilref34_One.j2 k a b (i : Int) x) r := by
  have e1 : wrap64 ((i : Int) + 1) = ((i + 1 : Nat) : Int) := by rw [w64 (by omega) (by omega)]; omega
  refine ev_succ ?_; simp only [cavilref34_One.j2]
  rw [e1]
  clear e1
  by_cases c : x = true
  · have : r = true := hr.2 ⟨i, Nat.le_refl _, hi, .inr (.inl (hx.1 c))⟩
    subst this
    exact ev_pos c (ev_now rfl)
  · refine ev_neg c ?_
    have h2 : ¬ W2 a b i := fun h => c (hx.2 h)
    by_cases d : i < a.size
    · refine ev_pos (by omega) ?_
      by_cases d2 : i < b.size
      · refine ev_pos (by omega) (ev_pos (by omega) (ev_pos (by omega) (ev_pos (by omega) ?_)))
        by_cases t : (a.extract 0 (i : Int).toNat).toList = (b.extract 0 (i : Int).toNat).toList
        · refine ev_pos t (ev_pos (by omega) (ev_pos (by omega) (ev_pos (by omega) (one_j3 ha hi ?_ h1 h2 hr ih))))
          rw [beq_bl]
          rw [← BL_eq] at t
          simp only [BL_ext, Int.toNat_natCast, List.drop_zero] at t ⊢
          rw [show (BL a).take a.size = BL a from List.take_of_length_le (by rw [BL_len]; omega), show (BL b).take b.size = BL b from List.take_of_length_le (by rw [BL_len]; omega)]
          exact ⟨fun h => ⟨d, d2, t, h⟩, fun h => h.2.2.2⟩
        · refine ev_neg t (one_j3 ha hi ?_ h1 h2 hr ih)
          rw [← BL_eq] at t
          simp only [BL_ext, Int.toNat_natCast, List.drop_zero] at t
          exact ⟨fun h => by simp at h, fun h => absurd h.2.2.1 t⟩
      · refine ev_neg (by omega) (one_j3 ha hi ?_ h1 h2 hr ih)
        exact ⟨fun h => by simp at h, fun h => absurd h.2.1 d2⟩
    · refine ev_neg (by omega) (one_j3 ha hi ?_ h1 h2 hr ih)
      exact ⟨fun h => by simp at h, fun h => absurd h.1 d⟩
include ha hb in
theorem one_j1 {i : Nat} (hi : i ≤ a.size) {x : Bool} (hx : x = true ↔ W1 a b i) {r : Bool} (hr : From a b i r) (ih : ∀ r', From a b (i + 1) r' → Ev (fun k => cavilref34_One.l0 k a b ((i + 1 : Nat) : Int)) r') :
    Ev (fun k => cavilref34_One.j1 k a b (i : Int) x) r := by
  have e1 : wrap64 ((i : Int) + 1) = ((i + 1 : Nat) : Int) := by rw [w64 (by omega) (by omega)]; omega
  refine ev_succ ?_; simp only [cavilref34_One.j1]
  rw [e1]
  clear e1
  by_cases c : x = true
  · have : r = true := hr.2 ⟨i, Nat.le_refl _, hi, .inl (hx.1 c)⟩
    subst this
    exact ev_pos c (ev_now rfl)
  · refine ev_neg c ?_
    have h1 : ¬ W1 a b i := fun h => c (hx.2 h)
    by_cases d : i < b.size
    · refine ev_pos (by omega) (ev_pos (by omega) (ev_pos (by omega) (ev_pos (by omega) (ev_pos (by omega) (ev_pos ?_ (one_j2 ha hi ?_ h1 hr ih))))))
      · simp only [ByteArray.size_extract]; omega
      · rw [beq_bl]
        simp only [BL_app, BL_ext, Int.toNat_natCast, List.drop_zero]
        rw [show (BL b).take b.size = BL b from List.take_of_length_le (by rw [BL_len]; omega)]
        exact ⟨fun h => ⟨d, h⟩, fun h => h.2⟩
    · refine ev_neg (by omega) (one_j2 ha hi ?_ h1 hr ih)
      exact ⟨fun h => by simp at h, fun h => absurd h.1 d⟩
include ha hb in
theorem one_l0 : ∀ (m i : Nat), m + i = a.size + 1 → ∀ r, From a b i r → Ev (fun k => cavilref34_One.l0 k a b (i : Int)) r := by
  intro m
  induction m with
  | zero =>
    intro i hi r hr
    refine ev_succ ?_; simp only [cavilref34_One.l0]
    refine ev_neg (by omega) (ev_now ?_)
    cases r with
    | false => rfl
    | true =>
      obtain ⟨j, j1, j2, _⟩ := hr.1 rfl
      omega
  | succ m ih =>
    intro i hi r hr
    have e1 : wrap64 ((i : Int) + 1) = ((i + 1 : Nat) : Int) := by rw [w64 (by omega) (by omega)]; omega
    refine ev_succ ?_; simp only [cavilref34_One.l0]
    rw [e1]
    clear e1
    refine ev_pos (by omega) ?_
    by_cases d : i < a.size
    · refine ev_pos (by omega) (ev_pos (by omega) (ev_pos (by omega) (ev_pos (by omega) (ev_pos ?_ (one_j1 ha hb (by omega) ?_ hr (ih (i + 1) (by omega)))))))
      · simp only [ByteArray.size_extract]; omega
      · rw [beq_bl]
        simp only [BL_app, BL_ext, Int.toNat_natCast, List.drop_zero]
        rw [show (BL a).take a.size = BL a from List.take_of_length_le (by rw [BL_len]; omega)]
        exact ⟨fun h => ⟨d, h⟩, fun h => h.2⟩
    · refine ev_neg (by omega) (one_j1 ha hb (by omega) ?_ hr (ih (i + 1) (by omega)))
      exact ⟨fun h => by simp at h, fun h => absurd h.1 d⟩
include ha hb in
theorem one_ev : Ev (fun k => cavilref34_One.f k a b) (decide (dst (BL a) (BL b) = 1)) := by
  unfold cavilref34_One.f
  by_cases c : a.toList = b.toList
  · refine ev_pos c (ev_now ?_)
    rw [(dst_zero _ _).2 ((BL_eq a b).2 c)]; rfl
  · refine ev_neg c (one_l0 ha hb (a.size + 1) 0 rfl _ ?_)
    unfold From
    rw [decide_eq_true_eq, dst_one, stp_iff, BL_len, BL_len]
    constructor
    · rintro ⟨_, j, h⟩
      exact ⟨j, Nat.zero_le _, h⟩
    · rintro ⟨j, _, h⟩
      exact ⟨fun e => c ((BL_eq a b).1 e), j, h⟩
end
end Go.Proofs.Ytfofgbiipppocaa.X
