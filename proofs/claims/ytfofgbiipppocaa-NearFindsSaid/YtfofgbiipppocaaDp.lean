/-
  What Distance computes: the least number of steps.
-/
import Derived.Test.YtfofgbiipppocaaDst
import Derived.Test.YtfofgbiipppocaaXF6
import Derived.Test.YtfofgbiipppocaaEv
namespace Go.Proofs.Ytfofgbiipppocaa.X
open Go.RowKit Go.Proofs.YtfofgbiipppocaaW.PrintWords Go.Proofs.YtfofgbiipppocaaW.PrintMore Go.Proofs.Ytfofgbiipppocaa.Near
/-- A row of the table, till below u. -/
def Row (m : Nat) (l : List Int) (u : Nat) (f : Nat → Int) : Prop := l.length = m + 1 ∧ ∀ k, k < u → rd l (k : Int) = f k
theorem rd_set (l : List Int) (i j : Nat) (v : Int) (hi : i < l.length) : rd (l.set i v) (j : Int) = if j = i then v else rd l (j : Int) := by
  unfold rd
  rw [List.getD_eq_getElem?_getD, List.getD_eq_getElem?_getD, List.getElem?_set]
  simp only [Int.toNat_natCast]
  by_cases c : i = j
  · subst c; simp [hi]
  · rw [if_neg c, if_neg (fun h => c h.symm)]
theorem Row.set {m : Nat} {l : List Int} {u : Nat} {f : Nat → Int} (h : Row m l u f) (hu : u ≤ m) : Row m (l.set u (f u)) (u + 1) f := by
  refine ⟨by rw [List.length_set]; exact h.1, fun k hk => ?_⟩
  rw [rd_set _ _ _ _ (by rw [h.1]; omega)]
  by_cases c : k = u
  · rw [if_pos c, c]
  · rw [if_neg c]; exact h.2 k (by omega)
theorem Row.reset {m : Nat} {l : List Int} {u : Nat} {f : Nat → Int} (h : Row m l u f) (hu : u ≤ m) (w : Int) : Row m (l.set u w) u f := by
  refine ⟨by rw [List.length_set]; exact h.1, fun k hk => ?_⟩
  rw [rd_set _ _ _ _ (by rw [h.1]; omega), if_neg (by omega)]
  exact h.2 k hk
section
variable (a b : ByteArray) (ha : a.size ≤ 1000) (hb : b.size ≤ 1000)
include ha hb
/-- The last deed at a place: the turned ones. -/
theorem ev_j4 (i k : Nat) (hi : i < a.size) (hk : k < b.size) (older old row : List Int) (fl : Bool) (v : Int) (hv : row.length = b.size + 1) (hr : rd row ((k + 1 : Nat) : Int) = v) (hr' : ∀ q, q < k + 1 → rd row (q : Int) = cell a b (i + 1) q)
    (ho : fl = true → 1 ≤ i ∧ 1 ≤ k ∧ Row b.size older (b.size + 1) (fun q => cell a b (i - 1) q)) (_ : 0 ≤ v ∧ v ≤ 10000)
    (hc : cell a b (i + 1) (k + 1) = if fl = true then mn v (cell a b (i - 1) (k - 1) + 1) else v) {r : Int}
    (hn : ∀ row', Row b.size row' (k + 2) (fun q => cell a b (i + 1) q) → Ev (fun n => near_Distance.l2 n a b older old row' ((i + 1 : Nat) : Int) ((k + 2 : Nat) : Int)) r) :
    Ev (fun n => near_Distance.j4 n a b older old row ((i + 1 : Nat) : Int) ((k + 1 : Nat) : Int) fl) r := by
  have e1 : wrap64 (((k + 1 : Nat) : Int) + 1) = ((k + 2 : Nat) : Int) := by rw [w64 (by omega) (by omega)]; omega
  refine ev_succ ?_; simp only [near_Distance.j4]
  rw [e1]
  have base : Row b.size row (k + 1) (fun q => cell a b (i + 1) q) := ⟨hv, hr'⟩
  by_cases c : fl = true
  · rw [if_pos c] at hc
    obtain ⟨o1, o2, o3⟩ := ho c
    have e2 : wrap64 (((k + 1 : Nat) : Int) - 2) = ((k - 1 : Nat) : Int) := by clear hc hr o3 hr' hn base; rw [w64 (by omega) (by omega)]; omega
    have e3 : rd older ((k - 1 : Nat) : Int) = cell a b (i - 1) (k - 1) := o3.2 _ (by omega)
    have g := cell_ge a b (i - 1) (k - 1)
    have e4 : wrap64 (cell a b (i - 1) (k - 1) + 1) = cell a b (i - 1) (k - 1) + 1 := by clear hc hr o3 hr' hn base e3 e2; exact w64 (by omega) (by omega)
    rw [e2, e3, e4, hr]
    have o4 := o3.1
    clear e1 e2 e4
    refine ev_pos c (ev_pos (by omega) (ev_pos (by omega) (ev_pos (by omega) (ev_pos (by omega) ?_))))
    refine hn _ ?_
    have := Row.set base (by omega)
    simp only [Int.toNat_natCast]
    rw [← hc]
    exact this
  · rw [if_neg c] at hc
    refine ev_neg c (hn _ ?_)
    refine ⟨hv, fun q hq => ?_⟩
    by_cases d : q = k + 1
    · rw [d, hr, ← hc]
    · exact hr' q (by omega)
theorem ev_j3 (i k : Nat) (hi : i < a.size) (hk : k < b.size) (older old row : List Int) (x11 : Int) (hx : x11 = if bt a (i : Int) = bt b (k : Int) then 0 else 1)
    (hold : Row b.size old (b.size + 1) (fun q => cell a b i q)) (hrow : Row b.size row (k + 1) (fun q => cell a b (i + 1) q)) (hol : older.length = b.size + 1) (ho : 1 ≤ i → Row b.size older (b.size + 1) (fun q => cell a b (i - 1) q)) {r : Int}
    (hn : ∀ row', Row b.size row' (k + 2) (fun q => cell a b (i + 1) q) → Ev (fun n => near_Distance.l2 n a b older old row' ((i + 1 : Nat) : Int) ((k + 2 : Nat) : Int)) r) :
    Ev (fun n => near_Distance.j3 n a b older old row ((i + 1 : Nat) : Int) ((k + 1 : Nat) : Int) x11) r := by
  have hx01 : 0 ≤ x11 ∧ x11 ≤ 1 := by rw [hx]; split <;> omega
  have g1 := cell_ge a b i (k + 1)
  have g2 := cell_ge a b (i + 1) k
  have g3 := cell_ge a b i k
  have r1 : rd old ((k + 1 : Nat) : Int) = cell a b i (k + 1) := hold.2 _ (by omega)
  have r2 : rd row ((k : Nat) : Int) = cell a b (i + 1) k := hrow.2 _ (by omega)
  have r3 : rd old ((k : Nat) : Int) = cell a b i k := hold.2 _ (by omega)
  have l1 := hold.1
  have l2 := hrow.1
  obtain ⟨w, hw⟩ : ∃ w, w = mn (mn (cell a b i (k + 1) + 1) (cell a b (i + 1) k + 1)) (cell a b i k + x11) := ⟨_, rfl⟩
  have w0 : 0 ≤ w ∧ w ≤ 10000 := by rw [hw]; unfold mn; split <;> split <;> omega
  obtain ⟨y, hy⟩ : ∃ y, y = row.set (k + 1) w := ⟨_, rfl⟩
  have y1 : y.length = b.size + 1 := by rw [hy, List.length_set]; exact l2
  have y2 : rd y ((k + 1 : Nat) : Int) = w := by rw [hy, rd_set _ _ _ _ (by omega), if_pos rfl]
  have y3 : ∀ q, q < k + 1 → rd y (q : Int) = cell a b (i + 1) q := by
    intro q hq
    rw [hy, rd_set _ _ _ _ (by omega), if_neg (by omega)]
    exact hrow.2 q hq
  have hj4 : ∀ fl : Bool, (fl = true ↔ (0 < i ∧ 0 < k ∧ bt a (i : Int) = bt b ((k - 1 : Nat) : Int) ∧ bt a ((i - 1 : Nat) : Int) = bt b (k : Int))) → Ev (fun n => near_Distance.j4 n a b older old y ((i + 1 : Nat) : Int) ((k + 1 : Nat) : Int) fl) r := by
    intro fl hfl
    refine ev_j4 a b ha hb i k hi hk older old y fl w y1 y2 y3 (fun h => ⟨(hfl.1 h).1, (hfl.1 h).2.1, ho (hfl.1 h).1⟩) w0 ?_ hn
    by_cases c : fl = true
    · rw [if_pos c]
      obtain ⟨i0, k0, t1, t2⟩ := hfl.1 c
      obtain ⟨i', rfl⟩ : ∃ i', i = i' + 1 := ⟨i - 1, by omega⟩
      obtain ⟨k', rfl⟩ : ∃ k', k = k' + 1 := ⟨k - 1, by omega⟩
      rw [hw, hx]
      exact cell_turn a b i' k' (by simpa using t1) (by simpa using t2)
    · rw [if_neg c, hw, hx]
      exact cell_base a b i k (fun h => c (hfl.2 h))
  have e1 : wrap64 (cell a b i (k + 1) + 1) = cell a b i (k + 1) + 1 := by clear hw hy y2 r1 r2 r3; exact w64 (by omega) (by omega)
  have e2 : wrap64 (cell a b (i + 1) k + 1) = cell a b (i + 1) k + 1 := by clear hw hy y2 r1 r2 r3 e1; exact w64 (by omega) (by omega)
  have e3 : wrap64 (cell a b i k + x11) = cell a b i k + x11 := by clear hw hy y2 r1 r2 r3 e1 e2; exact w64 (by omega) (by omega)
  have e4 : wrap64 (((k + 1 : Nat) : Int) - 1) = (k : Int) := by clear hw hy y2 r1 r2 r3 e1 e2 e3; rw [w64 (by omega) (by omega)]; omega
  have e5 : wrap64 (((i + 1 : Nat) : Int) - 1) = (i : Int) := by clear hw hy y2 r1 r2 r3 e1 e2 e3 e4; rw [w64 (by omega) (by omega)]; omega
  have e6 : 0 < k → wrap64 (((k + 1 : Nat) : Int) - 2) = ((k - 1 : Nat) : Int) := by intro h; clear hw hy y2 r1 r2 r3 e1 e2 e3 e4 e5; rw [w64 (by omega) (by omega)]; omega
  have e7 : 0 < i → wrap64 (((i + 1 : Nat) : Int) - 2) = ((i - 1 : Nat) : Int) := by intro h; clear hw hy y2 r1 r2 r3 e1 e2 e3 e4 e5 e6; rw [w64 (by omega) (by omega)]; omega
  refine ev_succ ?_; simp only [near_Distance.j3]
  rw [e4, e5, r1, r2, r3, e1, e2, e3, ← hw, Int.toNat_natCast, ← hy]
  clear e1 e2 e3 e4 e5 r1 r2 r3 hw hy y2 g1 g2 g3
  refine ev_pos (by clear e6 e7; omega) (ev_pos (by clear e6 e7; omega) (ev_pos (by clear e6 e7; omega) (ev_pos (by clear e6 e7; omega) (ev_pos (by clear e6 e7; omega) (ev_pos (by clear e6 e7; omega) (ev_some ?_))))))
  by_cases c1 : 0 < i
  · rw [e7 c1]
    clear e7
    refine ev_pos (by clear e6; omega) ?_
    by_cases c2 : 0 < k
    · rw [e6 c2]
      clear e6
      refine ev_pos (by omega) (ev_pos (by omega) (ev_pos (by omega) (ev_pos (by omega) (ev_pos (by omega) ?_))))
      by_cases c3 : bt a (i : Int) = bt b ((k - 1 : Nat) : Int)
      · refine ev_pos c3 (ev_pos (by omega) (ev_pos (by omega) (ev_pos (by omega) (hj4 _ ?_))))
        rw [beq_iff_eq]
        exact ⟨fun h => ⟨c1, c2, c3, h⟩, fun h => h.2.2.2⟩
      · exact ev_neg c3 (hj4 false ⟨fun h => by simp at h, fun h => absurd h.2.2.1 c3⟩)
    · exact ev_neg (by clear e6; omega) (hj4 false ⟨fun h => by simp at h, fun h => absurd h.2.1 c2⟩)
  · exact ev_neg (by clear e6 e7; omega) (hj4 false ⟨fun h => by simp at h, fun h => absurd h.1 c1⟩)
theorem ev_l2 (i : Nat) (hi : i < a.size) (older old : List Int) (hold : Row b.size old (b.size + 1) (fun q => cell a b i q)) (hol : older.length = b.size + 1) (ho : 1 ≤ i → Row b.size older (b.size + 1) (fun q => cell a b (i - 1) q)) {r : Int}
    (hn : ∀ row', Row b.size row' (b.size + 1) (fun q => cell a b (i + 1) q) → Ev (fun n => near_Distance.l1 n a b old row' older ((i + 2 : Nat) : Int)) r) : ∀ (m k : Nat), m + k = b.size → ∀ row, Row b.size row (k + 1) (fun q => cell a b (i + 1) q) →
    Ev (fun n => near_Distance.l2 n a b older old row ((i + 1 : Nat) : Int) ((k + 1 : Nat) : Int)) r := by
  have e2 : wrap64 (((i + 1 : Nat) : Int) + 1) = ((i + 2 : Nat) : Int) := by rw [w64 (by omega) (by omega)]; omega
  have e5 : wrap64 (((i + 1 : Nat) : Int) - 1) = (i : Int) := by rw [w64 (by omega) (by omega)]; omega
  intro m
  induction m with
  | zero =>
    intro k hk row hrow
    have : k = b.size := by clear e2 e5; omega
    subst this
    refine ev_succ ?_; simp only [near_Distance.l2]
    rw [e2]
    exact ev_neg (by clear e2 e5; omega) (hn row hrow)
  | succ m ih =>
    intro k hk row hrow
    have e4 : wrap64 (((k + 1 : Nat) : Int) - 1) = (k : Int) := by clear e2 e5; rw [w64 (by omega) (by omega)]; omega
    have hj := fun x11 hx => ev_j3 a b ha hb i k hi (by clear e2 e4 e5; omega) older old row x11 hx hold hrow hol ho (fun row' h' => ih (k + 1) (by clear e2 e4 e5; omega) row' h')
    refine ev_succ ?_; simp only [near_Distance.l2]
    rw [e4, e5]
    clear e2 e4 e5
    refine ev_pos (by omega) (ev_pos (by omega) (ev_pos (by omega) (ev_pos (by omega) (ev_pos (by omega) ?_))))
    by_cases c : bt a (i : Int) = bt b (k : Int)
    · exact ev_pos c (hj 0 (by rw [if_pos c]))
    · exact ev_neg c (hj 1 (by rw [if_neg c]))
theorem ev_l1 : ∀ (m i : Nat), m + i = a.size → ∀ older old row : List Int, Row b.size old (b.size + 1) (fun q => cell a b i q) → older.length = b.size + 1 → (1 ≤ i → Row b.size older (b.size + 1) (fun q => cell a b (i - 1) q)) → row.length = b.size + 1 →
    Ev (fun n => near_Distance.l1 n a b older old row ((i + 1 : Nat) : Int)) (cell a b a.size b.size) := by
  intro m
  induction m with
  | zero =>
    intro i hi older old row hold hol ho hrl
    have : i = a.size := by omega
    subst this
    have l1 := hold.1
    have r1 : rd old ((b.size : Nat) : Int) = cell a b a.size b.size := hold.2 _ (by omega)
    refine ev_succ ?_; simp only [near_Distance.l1]
    refine ev_neg (by omega) (ev_pos (by omega) (ev_pos (by omega) (ev_now ?_)))
    rw [r1]
  | succ m ih =>
    intro i hi older old row hold hol ho hrl
    refine ev_succ ?_; simp only [near_Distance.l1]
    refine ev_pos (by omega) (ev_pos (by omega) ?_)
    have h0 : Row b.size (row.set (0 : Int).toNat ((i + 1 : Nat) : Int)) 1 (fun q => cell a b (i + 1) q) := by
      have := Row.set (m := b.size) (l := row) (u := 0) (f := fun q => cell a b (i + 1) q) ⟨hrl, fun k hk => by omega⟩ (by omega)
      rw [cell_zero' a b (i + 1)] at this
      exact this
    exact ev_l2 a b ha hb i (by omega) older old hold hol ho (fun row' h' => ih (i + 1) (by omega) old row' older h' hold.1 (fun _ => hold) hol) b.size 0 (by omega) _ h0
theorem ev_l0 (older row : List Int) (h1 : older.length = b.size + 1) (h2 : row.length = b.size + 1) : ∀ (m j : Nat), m + j = b.size + 1 → ∀ old : List Int, Row b.size old j (fun q => (q : Int)) →
    Ev (fun n => near_Distance.l0 n a b older old row ((b.size + 1 : Nat) : Int) j) (cell a b a.size b.size) := by
  intro m
  induction m with
  | zero =>
    intro j hj old hold
    have : j = b.size + 1 := by omega
    subst this
    refine ev_succ ?_; simp only [near_Distance.l0]
    refine ev_neg (by omega) ?_
    refine ev_l1 a b ha hb a.size 0 (by omega) older old row ⟨hold.1, fun k hk => ?_⟩ h1 (fun h => by omega) h2
    rw [hold.2 k hk]; exact (cell_zero a b k).symm
  | succ m ih =>
    intro j hj old hold
    have l := hold.1
    have e1 : wrap64 ((j : Int) + 1) = ((j + 1 : Nat) : Int) := by rw [w64 (by omega) (by omega)]; omega
    refine ev_succ ?_; simp only [near_Distance.l0]
    rw [e1]
    clear e1
    refine ev_pos (by omega) (ev_pos (by omega) (ev_pos (by omega) (ih (j + 1) (by omega) _ ?_)))
    rw [Int.toNat_natCast]
    exact Row.set hold (by omega)
/-- Distance is the least number of steps. -/
theorem ev_distance : Ev (fun n => near_Distance.f n a b) (cell a b a.size b.size) := by
  unfold near_Distance.f
  have e1 : wrap64 ((b.size : Int) + 1) = ((b.size + 1 : Nat) : Int) := by rw [w64 (by omega) (by omega)]; omega
  rw [e1, Int.toNat_natCast]
  clear e1
  refine ev_pos (by omega) (ev_pos (by omega) (ev_some ?_))
  rw [List.length_replicate]
  exact ev_l0 a b ha hb _ _ (by simp) (by simp) (b.size + 1) 0 (by omega) _ ⟨by simp, fun k hk => by omega⟩
end
end Go.Proofs.Ytfofgbiipppocaa.X
