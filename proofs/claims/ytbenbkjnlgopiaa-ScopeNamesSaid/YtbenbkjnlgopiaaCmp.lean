/-
  Plain lists of texts: what stands in order, compacted: strictly rising, and just the same texts.
-/
import Derived.Lib.SlicesCompact
import Derived.Sort.Walk0
import Derived.Sort.KeysCollected
namespace Go.Proofs.Ytbenbkjnlgopiaa.Cmp
open Go.Lib
abbrev T := List UInt8
theorem lt_of_le_ne {a b : T} (h : a ≤ b) (hn : a ≠ b) : a < b := by
  by_cases c : a < b
  · exact c
  · exact absurd (List.le_antisymm h (List.not_lt.1 c)) hn
theorem inv (d : Array T) (hs : ∀ i j, i ≤ j → j < d.size → d[i]! ≤ d[j]!) : ∀ m, m ≤ d.size → (compactUpTo d m).Pairwise (fun a b => a < b) ∧ ∀ x, x ∈ compactUpTo d m ↔ ∃ j, j < m ∧ d[j]! = x := by
  intro m
  induction m with
  | zero => intro _; exact ⟨by simp [compactUpTo], fun x => by simp [compactUpTo]⟩
  | succ m ih =>
    intro hm
    obtain ⟨h1, h2⟩ := ih (by omega)
    rw [compactUpTo_succ]
    by_cases hk : keeps d m = true
    · rw [if_pos hk]
      have hk' : m = 0 ∨ d[m]! ≠ d[m - 1]! := by simpa [keeps] using hk
      refine ⟨List.pairwise_append.2 ⟨h1, List.pairwise_singleton _ _, fun a ha b hb => ?_⟩, fun x => ?_⟩
      · rw [List.mem_singleton.1 hb]
        obtain ⟨j, hj, rfl⟩ := (h2 a).1 ha
        rcases hk' with rfl | hne
        · omega
        · have h3 : d[m - 1]! < d[m]! := lt_of_le_ne (hs (m - 1) m (by omega) (by omega)) (fun e => hne e.symm)
          exact Std.lt_of_le_of_lt (hs j (m - 1) (by omega) (by omega)) h3
      · rw [List.mem_append, List.mem_singleton, h2]
        constructor
        · rintro (⟨j, hj, e⟩ | e)
          · exact ⟨j, by omega, e⟩
          · exact ⟨m, by omega, e.symm⟩
        · rintro ⟨j, hj, e⟩
          by_cases c : j < m
          · exact .inl ⟨j, c, e⟩
          · have : j = m := by omega
            subst this; exact .inr e.symm
    · rw [if_neg hk, List.append_nil]
      have hk' : m ≠ 0 ∧ d[m]! = d[m - 1]! := by
        have : keeps d m = false := by simpa using hk
        simpa [keeps, not_or] using this
      refine ⟨h1, fun x => ?_⟩
      rw [h2]
      constructor
      · rintro ⟨j, hj, e⟩; exact ⟨j, by omega, e⟩
      · rintro ⟨j, hj, e⟩
        by_cases c : j < m
        · exact ⟨j, c, e⟩
        · have : j = m := by omega
          subst this
          exact ⟨j - 1, by omega, by rw [← hk'.2]; exact e⟩
theorem compact_spec (l : List T) (hs : l.Pairwise (fun a b => a ≤ b)) : (compact l).Pairwise (fun a b => a < b) ∧ ∀ x, x ∈ compact l ↔ x ∈ l := by
  have h := inv l.toArray (fun i j hij hj => by
    have hj' : j < l.length := by simpa using hj
    have e1 : l.toArray[i]! = l[i] := by simp [getElem!_pos, show i < l.length by omega]
    have e2 : l.toArray[j]! = l[j] := by simp [getElem!_pos, hj']
    rw [e1, e2]
    by_cases c : i = j
    · subst c; exact List.le_refl _
    · exact List.pairwise_iff_getElem.1 hs i j (by omega) hj' (by omega)) l.length (by simp)
  refine ⟨h.1, fun x => ?_⟩
  rw [show x ∈ compact l ↔ x ∈ compactUpTo l.toArray l.length from Iff.rfl, h.2]
  constructor
  · rintro ⟨j, hj, e⟩
    have e1 : l.toArray[j]! = l[j] := by simp [getElem!_pos, hj]
    rw [← e, e1]; exact List.getElem_mem hj
  · intro hx
    obtain ⟨j, hj, e⟩ := List.getElem_of_mem hx
    exact ⟨j, hj, by rw [← e]; simp [getElem!_pos, hj]⟩
/-- Two strictly rising lists of the same texts are the same. -/
theorem rising_ext : ∀ {a b : List T}, a.Pairwise (fun x y => x < y) → b.Pairwise (fun x y => x < y) → (∀ x, x ∈ a ↔ x ∈ b) → a = b
  | [], [], _, _, _ => rfl
  | [], y :: b, _, _, h => absurd ((h y).2 List.mem_cons_self) (by simp)
  | x :: a, [], _, _, h => absurd ((h x).1 List.mem_cons_self) (by simp)
  | x :: a, y :: b, ha, hb, h => by
    have ha1 : ∀ z ∈ a, x < z := fun z hz => List.rel_of_pairwise_cons ha hz
    have hb1 : ∀ z ∈ b, y < z := fun z hz => List.rel_of_pairwise_cons hb hz
    have e : x = y := by
      rcases List.mem_cons.1 ((h x).1 List.mem_cons_self) with e | e
      · exact e
      · rcases List.mem_cons.1 ((h y).2 List.mem_cons_self) with e' | e'
        · exact e'.symm
        · exact absurd (List.lt_trans (hb1 x e) (ha1 y e')) (List.lt_irrefl _)
    subst e
    have : a = b := rising_ext ha.of_cons hb.of_cons (fun z => by
      constructor
      · intro hz
        rcases List.mem_cons.1 ((h z).1 (List.mem_cons_of_mem _ hz)) with e | e
        · subst e; exact absurd (ha1 z hz) (List.lt_irrefl _)
        · exact e
      · intro hz
        rcases List.mem_cons.1 ((h z).2 (List.mem_cons_of_mem _ hz)) with e | e
        · subst e; exact absurd (hb1 z hz) (List.lt_irrefl _)
        · exact e)
    rw [this]
end Go.Proofs.Ytbenbkjnlgopiaa.Cmp
