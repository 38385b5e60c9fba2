/-
  Plain lists: one step away.
-/
import Derived.Test.YtfofgbiipppocaaDst
namespace Go.Proofs.Ytfofgbiipppocaa.Near
section
variable {α : Type}
/-- One step. -/
def Stp (a b : List α) : Prop := (∃ p x s, a = p ++ x :: s ∧ b = p ++ s) ∨ (∃ p x s, b = p ++ x :: s ∧ a = p ++ s) ∨ (∃ p x y s, a = p ++ x :: s ∧ b = p ++ y :: s) ∨ (∃ p x y s, a = p ++ x :: y :: s ∧ b = p ++ y :: x :: s)
theorem Stp.cons {a b : List α} (z : α) (h : Stp a b) : Stp (z :: a) (z :: b) := by
  rcases h with ⟨p, x, s, rfl, rfl⟩ | ⟨p, x, s, rfl, rfl⟩ | ⟨p, x, y, s, rfl, rfl⟩ | ⟨p, x, y, s, rfl, rfl⟩
  · exact .inl ⟨z :: p, x, s, rfl, rfl⟩
  · exact .inr (.inl ⟨z :: p, x, s, rfl, rfl⟩)
  · exact .inr (.inr (.inl ⟨z :: p, x, y, s, rfl, rfl⟩))
  · exact .inr (.inr (.inr ⟨z :: p, x, y, s, rfl, rfl⟩))
end
section
variable {α : Type} [DecidableEq α]
theorem Al.pre {a b : List α} {n} (h : Al a b n) : ∀ p : List α, Al (p ++ a) (p ++ b) n
  | [] => h
  | x :: p => by have := Al.sub x x (Al.pre h p); rw [if_pos rfl] at this; exact this
theorem Al.stp {a b : List α} {n} (h : Al a b n) : n ≤ 1 → a = b ∨ Stp a b := by
  induction h with
  | nil => intro _; exact .inl rfl
  | @del x a b n k _ => intro h; have : n = 0 := by omega
                        subst this; rw [k.zero]; exact .inr (.inl ⟨[], x, b, rfl, rfl⟩)
  | @ins x a b n k _ => intro h; have : n = 0 := by omega
                        subst this; rw [k.zero]; exact .inr (.inr (.inl ⟨[], x, b, rfl, rfl⟩))
  | @sub x y a b n k ih =>
    intro h
    by_cases c : x = y
    · subst c
      rw [if_pos rfl] at h
      rcases ih h with rfl | h
      · exact .inl rfl
      · exact .inr (h.cons x)
    · rw [if_neg c] at h
      have : n = 0 := by omega
      subst this; rw [k.zero]; exact .inr (.inr (.inr (.inl ⟨[], x, y, b, rfl, rfl⟩)))
  | @tr x y a b n k _ => intro h; have : n = 0 := by omega
                         subst this; rw [k.zero]; exact .inr (.inr (.inr (.inr ⟨[], x, y, b, rfl, rfl⟩)))
theorem Stp.al {a b : List α} (h : Stp a b) : ∃ n, Al a b n ∧ n ≤ 1 := by
  rcases h with ⟨p, x, s, rfl, rfl⟩ | ⟨p, x, s, rfl, rfl⟩ | ⟨p, x, y, s, rfl, rfl⟩ | ⟨p, x, y, s, rfl, rfl⟩
  · exact ⟨1, (Al.del x (Al.same s)).pre p, Nat.le_refl _⟩
  · exact ⟨1, (Al.ins x (Al.same s)).pre p, Nat.le_refl _⟩
  · exact ⟨_, (Al.sub x y (Al.same s)).pre p, by split <;> omega⟩
  · exact ⟨1, (Al.tr x y (Al.same s)).pre p, Nat.le_refl _⟩
theorem dst_one (a b : List α) : dst a b = 1 ↔ a ≠ b ∧ Stp a b := by
  constructor
  · intro h
    have h1 : a ≠ b := fun e => by rw [(dst_zero a b).2 e] at h; omega
    have := (dst_lst a b).1
    rw [h] at this
    rcases this.stp (Nat.le_refl _) with e | e
    · exact absurd e h1
    · exact ⟨h1, e⟩
  · rintro ⟨h1, h2⟩
    obtain ⟨n, h3, h4⟩ := h2.al
    have := (dst_lst a b).2 n h3
    have h0 : dst a b ≠ 0 := fun e => h1 ((dst_zero a b).1 e)
    omega
end
section
variable {α : Type}
/-- The same with the places told. -/
theorem stp_iff (a b : List α) : Stp a b ↔ ∃ i, i ≤ a.length ∧ ((i < a.length ∧ a.take i ++ a.drop (i + 1) = b) ∨ (i < b.length ∧ b.take i ++ b.drop (i + 1) = a) ∨
    (i < a.length ∧ i < b.length ∧ a.take i = b.take i ∧ a.drop (i + 1) = b.drop (i + 1)) ∨ (i + 1 < a.length ∧ a.take i ++ ((a.drop (i + 1)).take 1 ++ ((a.drop i).take 1 ++ a.drop (i + 2))) = b)) := by
  constructor
  · rintro (⟨p, x, s, rfl, rfl⟩ | ⟨p, x, s, rfl, rfl⟩ | ⟨p, x, y, s, rfl, rfl⟩ | ⟨p, x, y, s, rfl, rfl⟩)
    · exact ⟨p.length, by simp, .inl ⟨by simp, by simp [List.drop_append]⟩⟩
    · exact ⟨p.length, by simp, .inr (.inl ⟨by simp, by simp [List.drop_append]⟩)⟩
    · exact ⟨p.length, by simp, .inr (.inr (.inl ⟨by simp, by simp, by simp, by simp [List.drop_append]⟩))⟩
    · exact ⟨p.length, by simp, .inr (.inr (.inr ⟨by simp, by simp [List.drop_append, List.drop_eq_nil_of_le]⟩))⟩
  · rintro ⟨i, hi, ⟨h1, rfl⟩ | ⟨h1, rfl⟩ | ⟨h1, h2, h3, h4⟩ | ⟨h1, rfl⟩⟩
    · refine .inl ⟨a.take i, a[i], a.drop (i + 1), ?_, rfl⟩
      rw [List.getElem_cons_drop, List.take_append_drop]
    · refine .inr (.inl ⟨b.take i, b[i], b.drop (i + 1), ?_, rfl⟩)
      rw [List.getElem_cons_drop, List.take_append_drop]
    · refine .inr (.inr (.inl ⟨a.take i, a[i], b[i], a.drop (i + 1), ?_, ?_⟩))
      · rw [List.getElem_cons_drop, List.take_append_drop]
      · rw [h3, h4, List.getElem_cons_drop, List.take_append_drop]
    · refine .inr (.inr (.inr ⟨a.take i, a[i], a[i + 1], a.drop (i + 2), ?_, ?_⟩))
      · rw [show i + 2 = i + 1 + 1 from rfl, List.getElem_cons_drop, List.getElem_cons_drop, List.take_append_drop]
      · congr 1
        rw [show (a.drop (i + 1)).take 1 = [a[i + 1]] by rw [List.drop_eq_getElem_cons h1]; rfl, show (a.drop i).take 1 = [a[i]] by rw [List.drop_eq_getElem_cons (show i < a.length by omega)]; rfl]
        rfl
end
end Go.Proofs.Ytfofgbiipppocaa.Near
