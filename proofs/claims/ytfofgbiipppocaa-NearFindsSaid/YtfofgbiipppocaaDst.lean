/-
  The least number of steps as a function, and its table by beginnings.
-/
import Derived.Test.YtfofgbiipppocaaAl
import Derived.Test.YtfofgbiipppocaaWMore
namespace Go.Proofs.Ytfofgbiipppocaa.Near
open Go.RowKit Go.Proofs.YtfofgbiipppocaaW.PrintWords Go.Proofs.YtfofgbiipppocaaW.PrintMore
section
variable {α : Type} [DecidableEq α]
theorem Lst.exists (a b : List α) : ∃ n, Lst a b n := by
  have h : ∀ (m n : Nat), n ≤ m → Al a b n → ∃ n, Lst a b n := by
    intro m
    induction m with
    | zero =>
      intro n hn h
      exact ⟨n, h, fun k _ => by omega⟩
    | succ m ih =>
      intro n hn h
      by_cases c : ∃ k, k ≤ m ∧ Al a b k
      · obtain ⟨k, hk, h'⟩ := c; exact ih k hk h'
      · refine ⟨n, h, fun k hk => ?_⟩
        by_cases d : n ≤ k
        · exact d
        · exact absurd ⟨k, by omega, hk⟩ c
  obtain ⟨n, h0, _⟩ := Al.most a b
  exact h n n (Nat.le_refl _) h0
noncomputable def dst (a b : List α) : Nat := Classical.choose (Lst.exists a b)
theorem dst_lst (a b : List α) : Lst a b (dst a b) := Classical.choose_spec (Lst.exists a b)
theorem dst_of {a b : List α} {n : Nat} (h : Lst a b n) : dst a b = n := (dst_lst a b).uniq h
theorem dst_nil (b : List α) : dst [] b = b.length := dst_of (Lst.nil_left b)
theorem dst_nil' (a : List α) : dst a [] = a.length := dst_of (Lst.nil_right a)
theorem dst_symm (a b : List α) : dst a b = dst b a := dst_of (dst_lst b a).symm
theorem dst_rev (a b : List α) : dst a.reverse b.reverse = dst a b := (dst_of (dst_lst a.reverse b.reverse).rev).symm
theorem dst_most (a b : List α) : dst a b ≤ max a.length b.length := by
  obtain ⟨n, h, k⟩ := Al.most a b
  exact Nat.le_trans ((dst_lst a b).2 n h) k
theorem dst_least (a b : List α) : a.length ≤ b.length + dst a b ∧ b.length ≤ a.length + dst a b := (dst_lst a b).1.diff
theorem dst_zero (a b : List α) : dst a b = 0 ↔ a = b := by
  constructor
  · intro h; have := (dst_lst a b).1; rw [h] at this; exact this.zero
  · rintro rfl; exact Nat.le_zero.1 ((dst_lst a a).2 0 (Al.same a))
theorem dst_cons (x y : α) (a b : List α) :
    (∀ a' b', a = y :: a' → b = x :: b' → dst (x :: a) (y :: b) = min (min (min (dst a (y :: b) + 1) (dst (x :: a) b + 1)) (dst a b + if x = y then 0 else 1)) (dst a' b' + 1)) ∧
    ((¬ ∃ a' b', a = y :: a' ∧ b = x :: b') → dst (x :: a) (y :: b) = min (min (dst a (y :: b) + 1) (dst (x :: a) b + 1)) (dst a b + if x = y then 0 else 1)) := by
  constructor
  · rintro a' b' rfl rfl
    have := Lst.step (dst_lst (y :: a') (y :: x :: b')) (dst_lst (x :: y :: a') (x :: b')) (dst_lst (y :: a') (x :: b')) (s := dst a' b') (fun a2 b2 h1 h2 => by
      injection h1 with _ h1; injection h2 with _ h2; subst h1; subst h2; exact dst_lst _ _) True ⟨fun _ => ⟨_, _, rfl, rfl⟩, fun _ => trivial⟩
    rw [if_pos trivial] at this
    exact dst_of this
  · intro hn
    have := Lst.step (dst_lst a (y :: b)) (dst_lst (x :: a) b) (dst_lst a b) (s := 0) (fun a2 b2 h1 h2 => absurd ⟨a2, b2, h1, h2⟩ hn) False ⟨fun h => h.elim, fun h => hn h⟩
    rw [if_neg (fun h => h)] at this
    exact dst_of this
end
/-- The beginning of a text, its last byte first. -/
def RP (a : ByteArray) : Nat → List Int
  | 0 => []
  | n + 1 => bt a (n : Int) :: RP a n
theorem RP_len (a : ByteArray) : ∀ n, (RP a n).length = n
  | 0 => rfl
  | n + 1 => by simp [RP, RP_len a n]
/-- The table. -/
noncomputable def cell (a b : ByteArray) (i k : Nat) : Int := (dst (RP a i) (RP b k) : Int)
theorem cell_zero (a b : ByteArray) (k : Nat) : cell a b 0 k = k := by unfold cell; rw [RP, dst_nil, RP_len]
theorem cell_zero' (a b : ByteArray) (i : Nat) : cell a b i 0 = i := by unfold cell; rw [show RP b 0 = [] from rfl, dst_nil', RP_len]
theorem cell_ge (a b : ByteArray) (i k : Nat) : 0 ≤ cell a b i k ∧ cell a b i k ≤ i + k := by
  have := dst_most (RP a i) (RP b k)
  rw [RP_len, RP_len] at this
  unfold cell; omega
theorem min_mn (p q : Nat) : ((min p q : Nat) : Int) = mn (p : Int) (q : Int) := by unfold mn; split <;> omega
/-- What is told at a place of the table, of the row ahead and its own. -/
theorem cell_base (a b : ByteArray) (i k : Nat) (h : ¬ (0 < i ∧ 0 < k ∧ bt a (i : Int) = bt b ((k - 1 : Nat) : Int) ∧ bt a ((i - 1 : Nat) : Int) = bt b (k : Int))) :
    cell a b (i + 1) (k + 1) = mn (mn (cell a b i (k + 1) + 1) (cell a b (i + 1) k + 1)) (cell a b i k + if bt a (i : Int) = bt b (k : Int) then 0 else 1) := by
  unfold cell
  rw [show RP a (i + 1) = bt a (i : Int) :: RP a i from rfl, show RP b (k + 1) = bt b (k : Int) :: RP b k from rfl]
  rw [(dst_cons _ _ _ _).2 ?_]
  · rw [min_mn, min_mn]
    have e : ((dst (RP a i) (RP b k) + (if bt a (i : Int) = bt b (k : Int) then 0 else 1) : Nat) : Int) = (dst (RP a i) (RP b k) : Int) + (if bt a (i : Int) = bt b (k : Int) then 0 else 1) := by split <;> omega
    rw [e]; rfl
  · rintro ⟨a', b', h1, h2⟩
    cases i with
    | zero => simp [RP] at h1
    | succ i =>
      cases k with
      | zero => simp [RP] at h2
      | succ k =>
        simp only [RP, List.cons.injEq] at h1 h2
        exact h ⟨by omega, by omega, by simpa using h2.1.symm, by simpa using h1.1⟩
theorem cell_turn (a b : ByteArray) (i k : Nat) (h1 : bt a ((i + 1 : Nat) : Int) = bt b (k : Int)) (h2 : bt a (i : Int) = bt b ((k + 1 : Nat) : Int)) :
    cell a b (i + 2) (k + 2) = mn (mn (mn (cell a b (i + 1) (k + 2) + 1) (cell a b (i + 2) (k + 1) + 1)) (cell a b (i + 1) (k + 1) + if bt a ((i + 1 : Nat) : Int) = bt b ((k + 1 : Nat) : Int) then 0 else 1)) (cell a b i k + 1) := by
  unfold cell
  rw [show RP a (i + 2) = bt a ((i + 1 : Nat) : Int) :: RP a (i + 1) from rfl, show RP b (k + 2) = bt b ((k + 1 : Nat) : Int) :: RP b (k + 1) from rfl]
  rw [(dst_cons _ _ _ _).1 (RP a i) (RP b k) (by rw [RP, h2]) (by rw [RP, h1])]
  rw [min_mn, min_mn, min_mn]
  have e : ((dst (RP a (i + 1)) (RP b (k + 1)) + (if bt a ((i + 1 : Nat) : Int) = bt b ((k + 1 : Nat) : Int) then 0 else 1) : Nat) : Int) = (dst (RP a (i + 1)) (RP b (k + 1)) : Int) + (if bt a ((i + 1 : Nat) : Int) = bt b ((k + 1 : Nat) : Int) then 0 else 1) := by split <;> omega
  rw [e]; rfl
end Go.Proofs.Ytfofgbiipppocaa.Near
