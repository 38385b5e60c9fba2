/-
  Plain lists: the ways from one list to another one by steps (an element put in, taken out, changed, or two neighbours turned), and the least number of steps.
-/
namespace Go.Proofs.Ytfofgbiipppocaa.Near
section
variable {α : Type} [DecidableEq α]
inductive Al : List α → List α → Nat → Prop
  | nil : Al [] [] 0
  | del (x : α) {a b n} : Al a b n → Al (x :: a) b (n + 1)
  | ins (y : α) {a b n} : Al a b n → Al a (y :: b) (n + 1)
  | sub (x y : α) {a b n} : Al a b n → Al (x :: a) (y :: b) (n + if x = y then 0 else 1)
  | tr (x y : α) {a b n} : Al a b n → Al (x :: y :: a) (y :: x :: b) (n + 1)
theorem Al.symm {a b : List α} {n} (h : Al a b n) : Al b a n := by
  induction h with
  | nil => exact .nil
  | del x _ ih => exact .ins x ih
  | ins y _ ih => exact .del y ih
  | sub x y _ ih =>
    have := Al.sub y x ih
    by_cases c : x = y
    · subst c; exact this
    · rw [if_neg (fun h => c h.symm)] at this; rw [if_neg c]; exact this
  | tr x y _ ih => exact .tr y x ih
theorem Al.left : ∀ b : List α, Al [] b b.length
  | [] => .nil
  | y :: b => .ins y (Al.left b)
theorem Al.right : ∀ a : List α, Al a [] a.length
  | [] => .nil
  | x :: a => .del x (Al.right a)
theorem Al.same : ∀ a : List α, Al a a 0
  | [] => .nil
  | x :: a => by have := Al.sub x x (Al.same a); rw [if_pos rfl] at this; exact this
theorem Al.del' (x : α) {a b : List α} {n} (h : Al a b n) : Al (a ++ [x]) b (n + 1) := by
  induction h with
  | nil => exact .del x .nil
  | del z _ ih => exact .del z ih
  | ins y _ ih => exact .ins y ih
  | sub z y _ ih => have := Al.sub z y ih; rw [show ∀ p q : Nat, p + 1 + q = p + q + 1 from fun p q => by omega] at this; exact this
  | tr z y _ ih => exact .tr z y ih
theorem Al.ins' (y : α) {a b : List α} {n} (h : Al a b n) : Al a (b ++ [y]) (n + 1) := (h.symm.del' y).symm
theorem Al.sub' (x y : α) {a b : List α} {n} (h : Al a b n) : Al (a ++ [x]) (b ++ [y]) (n + if x = y then 0 else 1) := by
  induction h with
  | nil => exact .sub x y .nil
  | del z _ ih => have := Al.del z ih; rw [show ∀ p q : Nat, p + q + 1 = p + 1 + q from fun p q => by omega] at this; exact this
  | ins z _ ih => have := Al.ins z ih; rw [show ∀ p q : Nat, p + q + 1 = p + 1 + q from fun p q => by omega] at this; exact this
  | @sub z u _ _ n _ ih =>
    have := Al.sub z u ih
    rw [show ∀ p q r : Nat, p + q + r = p + r + q from fun p q r => by omega] at this; exact this
  | tr z u _ ih => have := Al.tr z u ih; rw [show ∀ p q : Nat, p + q + 1 = p + 1 + q from fun p q => by omega] at this; exact this
theorem Al.tr' (x y : α) {a b : List α} {n} (h : Al a b n) : Al (a ++ [x, y]) (b ++ [y, x]) (n + 1) := by
  induction h with
  | nil => exact .tr x y .nil
  | del z _ ih => exact .del z ih
  | ins z _ ih => exact .ins z ih
  | sub z u _ ih => have := Al.sub z u ih; rw [show ∀ p q : Nat, p + 1 + q = p + q + 1 from fun p q => by omega] at this; exact this
  | tr z u _ ih => exact .tr z u ih
theorem Al.rev {a b : List α} {n} (h : Al a b n) : Al a.reverse b.reverse n := by
  induction h with
  | nil => exact .nil
  | del z _ ih => simpa using ih.del' z
  | ins z _ ih => simpa using ih.ins' z
  | sub z u _ ih => simpa using ih.sub' z u
  | tr z u _ ih => simpa using ih.tr' u z
/-- The least number of steps. -/
def Lst (a b : List α) (n : Nat) : Prop := Al a b n ∧ ∀ m, Al a b m → n ≤ m
theorem Lst.uniq {a b : List α} {n m} (h : Lst a b n) (k : Lst a b m) : n = m := Nat.le_antisymm (h.2 _ k.1) (k.2 _ h.1)
theorem Lst.symm {a b : List α} {n} (h : Lst a b n) : Lst b a n := ⟨h.1.symm, fun m k => h.2 m k.symm⟩
theorem Lst.rev {a b : List α} {n} (h : Lst a.reverse b.reverse n) : Lst a b n := by
  refine ⟨by simpa using h.1.rev, fun m k => h.2 m k.rev⟩
theorem Al.diff {a b : List α} {n} (h : Al a b n) : a.length ≤ b.length + n ∧ b.length ≤ a.length + n := by
  induction h with
  | nil => simp
  | del z _ ih => simp only [List.length_cons]; omega
  | ins z _ ih => simp only [List.length_cons]; omega
  | sub z u _ ih => simp only [List.length_cons]; omega
  | tr z u _ ih => simp only [List.length_cons]; omega
theorem Al.zero {a b : List α} (h : Al a b 0) : a = b := by
  generalize hn : 0 = n at h
  induction h with
  | nil => rfl
  | del => omega
  | ins => omega
  | sub z u _ ih =>
    by_cases c : z = u
    · subst c; rw [if_pos rfl] at hn; rw [ih (by omega)]
    · rw [if_neg c] at hn; omega
  | tr => omega
theorem Al.most : ∀ a b : List α, ∃ n, Al a b n ∧ n ≤ max a.length b.length
  | [], b => ⟨_, Al.left b, by simp⟩
  | a, [] => ⟨_, Al.right a, by simp⟩
  | x :: a, y :: b => by
    obtain ⟨n, h, k⟩ := Al.most a b
    refine ⟨_, Al.sub x y h, ?_⟩
    simp only [List.length_cons]
    split <;> omega
theorem Lst.nil_left (b : List α) : Lst [] b b.length := ⟨Al.left b, fun m h => by have := h.diff; simp at this; omega⟩
theorem Lst.nil_right (a : List α) : Lst a [] a.length := ⟨Al.right a, fun m h => by have := h.diff; simp at this; omega⟩
/-- The first step: each of the ways on. r: the turned ones, if they can be turned. -/
theorem Lst.step {x y : α} {a b : List α} {p q r s : Nat} (hp : Lst a (y :: b) p) (hq : Lst (x :: a) b q) (hr : Lst a b r)
    (hs : (∀ a' b', a = y :: a' → b = x :: b' → Lst a' b' s)) (t : Prop) [Decidable t] (ht : t ↔ ∃ a' b', a = y :: a' ∧ b = x :: b') :
    Lst (x :: a) (y :: b) (if t then min (min (min (p + 1) (q + 1)) (r + if x = y then 0 else 1)) (s + 1) else min (min (p + 1) (q + 1)) (r + if x = y then 0 else 1)) := by
  have h1 := Al.del x hp.1
  have h2 := Al.ins y hq.1
  have h3 := Al.sub x y hr.1
  have least : ∀ m, Al (x :: a) (y :: b) m → p + 1 ≤ m ∨ q + 1 ≤ m ∨ (r + if x = y then 0 else 1) ≤ m ∨ (t ∧ s + 1 ≤ m) := by
    intro m h
    cases h with
    | del _ k => exact .inl (by have := hp.2 _ k; omega)
    | ins _ k => exact .inr (.inl (by have := hq.2 _ k; omega))
    | sub _ _ k => exact .inr (.inr (.inl (by have := hr.2 _ k; omega)))
    | tr _ _ k => exact .inr (.inr (.inr ⟨ht.2 ⟨_, _, rfl, rfl⟩, by have := (hs _ _ rfl rfl).2 _ k; omega⟩))
  generalize (r + if x = y then 0 else 1) = r' at *
  by_cases c : t
  · rw [if_pos c]
    obtain ⟨a', b', rfl, rfl⟩ := ht.1 c
    have h4 := Al.tr x y (hs a' b' rfl rfl).1
    refine ⟨?_, fun m h => by have := least m h; omega⟩
    rcases Nat.le_total (p + 1) (q + 1) with d | d <;> rcases Nat.le_total (min (p + 1) (q + 1)) r' with e | e <;> rcases Nat.le_total (min (min (p + 1) (q + 1)) r') (s + 1) with f | f <;> simp only [Nat.min_def] at * <;> (repeat' split at *) <;> (first | assumption | omega | skip)
  · rw [if_neg c]
    refine ⟨?_, fun m h => by
      rcases least m h with k | k | k | k
      · omega
      · omega
      · omega
      · exact absurd k.1 c⟩
    rcases Nat.le_total (p + 1) (q + 1) with d | d <;> rcases Nat.le_total (min (p + 1) (q + 1)) r' with e | e <;> simp only [Nat.min_def] at * <;> (repeat' split at *) <;> (first | assumption | omega | skip)
end
end Go.Proofs.Ytfofgbiipppocaa.Near
