/-
  Sorting by changing neighbours is the stable sort.
-/
import Derived.Test.YteakcggbolfelaaDoorPl
import Derived.Laws.Strings
namespace Go.Proofs.YteakcggbolfelaaDoor
open Go.RowKit Go.Proofs.YteakcggbolfelaaDoorW.PrintWords Go.Proofs.YteakcggbolfelaaDoor.Srt
set_option linter.unusedVariables false
section
variable {α β : Type} (lt : α → α → Bool)
/-- Neighbours i - 1 and i. -/
def stepB (l : List α) (i : Nat) : List α := match l[i]?, l[i - 1]? with
  | some a, some b => if lt a b = true then swapAt l i (i - 1) else l
  | _, _ => l
def bubI : Nat → Nat → List α → List α
  | 0, _, l => l
  | m + 1, i, l => if i < l.length then bubI m (i + 1) (stepB lt l i) else l
def bubN : Nat → List α → List α
  | 0, l => l
  | n + 1, l => bubN n (bubI lt l.length 1 l)
/-- One way through the list: the greatest so far is carried on. -/
def pass : α → List α → List α
  | x, [] => [x]
  | x, y :: t => if lt y x = true then y :: pass x t else x :: pass y t
theorem stepB_len (l : List α) (i : Nat) : (stepB lt l i).length = l.length := by
  unfold stepB; split
  · split
    · exact swapAt_len _ _ _
    · rfl
  · rfl
theorem bubI_len : ∀ (m i : Nat) (l : List α), (bubI lt m i l).length = l.length
  | 0, _, _ => rfl
  | m + 1, i, l => by
    simp only [bubI]; split
    · rw [bubI_len m, stepB_len]
    · rfl
theorem step_at (A : List α) (x y : α) (t : List α) : stepB lt (A ++ x :: y :: t) (A.length + 1) = if lt y x = true then A ++ y :: x :: t else A ++ x :: y :: t := by
  have h1 : (A ++ x :: y :: t)[A.length + 1]? = some y := by rw [List.getElem?_append_right (by omega)]; simp
  have h2 : (A ++ x :: y :: t)[A.length + 1 - 1]? = some x := by rw [List.getElem?_append_right (by omega)]; simp
  unfold stepB
  rw [h1, h2]
  simp only []
  split
  · unfold swapAt
    rw [h1, h2]
    simp only [Nat.add_sub_cancel]
    exact swap_next A x y t
  · rfl
theorem bubI_pass : ∀ (t A : List α) (x : α) (m : Nat), t.length ≤ m → bubI lt m (A.length + 1) (A ++ x :: t) = A ++ pass lt x t
  | [], A, x, m, h => by
    cases m with
    | zero => rfl
    | succ m =>
      simp only [bubI]
      rw [if_neg (by simp)]; rfl
  | y :: t, A, x, m, h => by
    cases m with
    | zero => simp at h
    | succ m =>
      simp only [bubI]
      rw [if_pos (by simp), step_at]
      simp only [List.length_cons] at h
      by_cases c : lt y x = true
      · rw [if_pos c]
        have := bubI_pass t (A ++ [y]) x m (by omega)
        rw [show A ++ y :: x :: t = (A ++ [y]) ++ x :: t by simp, show A.length + 1 + 1 = (A ++ [y]).length + 1 by simp, this]
        simp [pass, c]
      · rw [if_neg c]
        have := bubI_pass t (A ++ [x]) y m (by omega)
        rw [show A ++ x :: y :: t = (A ++ [x]) ++ y :: t by simp, show A.length + 1 + 1 = (A ++ [x]).length + 1 by simp, this]
        simp [pass, c]
def passL : List α → List α
  | [] => []
  | x :: t => pass lt x t
theorem bubI_eq (l : List α) : bubI lt l.length 1 l = passL lt l := by
  cases l with
  | nil => rfl
  | cons x t => exact bubI_pass lt t [] x (t.length + 1) (by omega)
theorem pass_perm : ∀ (t : List α) (x : α), (pass lt x t).Perm (x :: t)
  | [], x => List.Perm.refl _
  | y :: t, x => by
    simp only [pass]; split
    · exact ((pass_perm t x).cons y).trans (List.Perm.swap _ _ _)
    · exact (pass_perm t y).cons x
theorem passL_perm (l : List α) : (passL lt l).Perm l := by
  cases l with
  | nil => exact List.Perm.refl _
  | cons x t => exact pass_perm lt t x
variable {lt}
/-- What a way through leaves last is the greatest. -/
theorem pass_last (htr : ∀ a b c, lt a b = false → lt b c = false → lt a c = false) (has : ∀ a b, lt a b = true → lt b a = false) : ∀ (t : List α) (x : α), ∃ A m, pass lt x t = A ++ [m] ∧ lt m x = false ∧ ∀ a ∈ A, lt m a = false
  | [], x => by
    have hx : lt x x = false := by
      cases h : lt x x with
      | false => rfl
      | true => have := has x x h; rw [h] at this; cases this
    exact ⟨[], x, rfl, hx, fun a ha => by cases ha⟩
  | y :: t, x => by
    simp only [pass]
    by_cases c : lt y x = true
    · rw [if_pos c]
      obtain ⟨A, m, e, h1, h2⟩ := pass_last htr has t x
      refine ⟨y :: A, m, by rw [e]; rfl, h1, fun a ha => ?_⟩
      rcases List.mem_cons.1 ha with rfl | ha
      · exact htr _ _ _ h1 (has _ _ c)
      · exact h2 a ha
    · rw [if_neg c]
      have c' : lt y x = false := by simpa using c
      obtain ⟨A, m, e, h1, h2⟩ := pass_last htr has t y
      refine ⟨x :: A, m, by rw [e]; rfl, htr _ _ _ h1 c', fun a ha => ?_⟩
      rcases List.mem_cons.1 ha with rfl | ha
      · exact htr _ _ _ h1 c'
      · exact h2 a ha
/-- What stands in order at the end stays. -/
theorem pass_append : ∀ (t : List α) (x : α) (B : List α), (∀ a ∈ x :: t, ∀ b ∈ B, lt b a = false) → B.Pairwise (fun a b => lt b a = false) → pass lt x (t ++ B) = pass lt x t ++ B
  | [], x, [], _, _ => rfl
  | [], x, b :: B, h, hp => by
    have hb := h x List.mem_cons_self b List.mem_cons_self
    show pass lt x (b :: B) = [x] ++ b :: B
    simp only [pass]
    rw [if_neg (by simp [hb])]
    have := pass_append [] b B (fun a ha c hc => by
      obtain rfl := List.mem_singleton.1 ha
      exact (List.pairwise_cons.1 hp).1 c hc) (List.pairwise_cons.1 hp).2
    rw [List.nil_append] at this
    rw [this]; rfl
  | y :: t, x, B, h, hp => by
    show pass lt x (y :: (t ++ B)) = pass lt x (y :: t) ++ B
    simp only [pass]
    split
    · rw [pass_append t x B (fun a ha => h a (by rcases List.mem_cons.1 ha with rfl | ha; exact List.mem_cons_self; exact List.mem_cons_of_mem _ (List.mem_cons_of_mem _ ha))) hp]; rfl
    · rw [pass_append t y B (fun a ha => h a (List.mem_cons_of_mem _ ha)) hp]; rfl
theorem bubN_sorted (htr : ∀ a b c, lt a b = false → lt b c = false → lt a c = false) (has : ∀ a b, lt a b = true → lt b a = false) : ∀ (n : Nat) (A B : List α), A.length = n → (∀ a ∈ A, ∀ b ∈ B, lt b a = false) → B.Pairwise (fun a b => lt b a = false) → (bubN lt n (A ++ B)).Pairwise (fun a b => lt b a = false)
  | 0, A, B, h, _, hp => by
    obtain rfl := List.length_eq_zero_iff.1 h
    exact hp
  | n + 1, [], B, h, _, _ => by simp at h
  | n + 1, x :: t, B, h, hab, hp => by
    simp only [bubN, bubI_eq]
    have e : passL lt (x :: t ++ B) = pass lt x t ++ B := pass_append t x B hab hp
    obtain ⟨A, m, e2, h1, h2⟩ := pass_last htr has t x
    have hperm : (A ++ [m]).Perm (x :: t) := by rw [← e2]; exact pass_perm lt t x
    rw [e, e2, List.append_assoc]
    refine bubN_sorted htr has n A ([m] ++ B) ?_ (fun a ha b hb => ?_) ?_
    · have := hperm.length_eq; simp at this h; omega
    · rcases List.mem_append.1 hb with hb | hb
      · obtain rfl := List.mem_singleton.1 hb; exact h2 a ha
      · exact hab a (hperm.mem_iff.1 (List.mem_append_left _ ha)) b hb
    · refine List.pairwise_cons.2 ⟨fun b hb => hab m (hperm.mem_iff.1 (by simp)) b hb, hp⟩
/-! Equal keys stay as they stood. -/
theorem pass_filter (f : α → Bool) (hf : ∀ a b, lt a b = true → ¬ (f a = true ∧ f b = true)) : ∀ (t : List α) (x : α), (pass lt x t).filter f = (x :: t).filter f
  | [], x => rfl
  | y :: t, x => by
    simp only [pass]
    by_cases c : lt y x = true
    · rw [if_pos c]
      have ih := pass_filter f hf t x
      have hn := hf y x c
      cases hy : f y with
      | false => simp only [List.filter_cons, hy] at ih ⊢; simpa using ih
      | true =>
        cases hx : f x with
        | true => exact absurd ⟨hy, hx⟩ hn
        | false => simp only [List.filter_cons, hy, hx] at ih ⊢; simpa using ih
    · rw [if_neg c]
      have ih := pass_filter f hf t y
      rw [List.filter_cons, List.filter_cons, ih]
theorem bubN_filter (f : α → Bool) (hf : ∀ a b, lt a b = true → ¬ (f a = true ∧ f b = true)) : ∀ (n : Nat) (l : List α), (bubN lt n l).filter f = l.filter f
  | 0, _ => rfl
  | n + 1, l => by
    simp only [bubN, bubI_eq]
    rw [bubN_filter f hf n]
    cases l with
    | nil => rfl
    | cons x t => exact pass_filter f hf t x
theorem ins_filter (f : α → Bool) (hf : ∀ a b, lt a b = true → ¬ (f a = true ∧ f b = true)) (y : α) : ∀ l : List α, (ins lt y l).filter f = (y :: l).filter f
  | [] => rfl
  | z :: t => by
    unfold ins
    by_cases c : lt y z = true
    · rw [if_pos c]
      have ih := ins_filter f hf y t
      have hn := hf y z c
      cases hy : f y with
      | false => simp only [List.filter_cons, hy] at ih ⊢; simp [ih]
      | true =>
        cases hz : f z with
        | true => exact absurd ⟨hy, hz⟩ hn
        | false => simp only [List.filter_cons, hy, hz] at ih ⊢; simpa using ih
    · rw [if_neg c]
theorem srtR_filter (f : α → Bool) (hf : ∀ a b, lt a b = true → ¬ (f a = true ∧ f b = true)) : ∀ (l acc : List α), (srtR lt acc l).filter f = (l.filter f).reverse ++ acc.filter f
  | [], acc => by simp [srtR]
  | y :: t, acc => by
    simp only [srtR]
    rw [srtR_filter f hf t, ins_filter f hf]
    simp only [List.filter_cons]
    cases f y <;> simp
theorem srt_filter (f : α → Bool) (hf : ∀ a b, lt a b = true → ¬ (f a = true ∧ f b = true)) (l : List α) : (srt lt l).filter f = l.filter f := by
  unfold srt
  rw [List.filter_reverse, srtR_filter f hf]
  simp
theorem bubN_perm : ∀ (n : Nat) (l : List α), (bubN lt n l).Perm l
  | 0, _ => List.Perm.refl _
  | n + 1, l => by
    simp only [bubN, bubI_eq]
    exact (bubN_perm n _).trans (passL_perm lt l)
end
/-- In order, and equal keys as they stood: there is one such list. -/
theorem stable_unique {α : Type} (key : α → ByteArray) : ∀ (l l' : List α), l.Pairwise (fun a b => ltB (key b) (key a) = false) → l'.Pairwise (fun a b => ltB (key b) (key a) = false) → l.Perm l' → (∀ k, l.filter (fun a => decide (key a = k)) = l'.filter (fun a => decide (key a = k))) → l = l'
  | [], l', _, _, hp, _ => (List.nil_perm.1 hp).symm
  | a :: t, [], _, _, hp, _ => absurd hp.length_eq (by simp)
  | a :: t, b :: t', h, h', hp, hf => by
    have ek : key a = key b := by
      have ma : a ∈ b :: t' := hp.mem_iff.1 List.mem_cons_self
      have mb : b ∈ a :: t := hp.mem_iff.2 List.mem_cons_self
      rcases List.mem_cons.1 ma with e | ma
      · rw [e]
      · rcases List.mem_cons.1 mb with e | mb
        · rw [e]
        · exact ltB_anti _ _ ((List.pairwise_cons.1 h').1 a ma) ((List.pairwise_cons.1 h).1 b mb)
    have e : a = b := by
      have := hf (key a)
      rw [List.filter_cons, List.filter_cons, if_pos (by simp), if_pos (by simp [ek])] at this
      injection this
    subst e
    have hp2 := (List.perm_cons a).1 hp
    rw [stable_unique key t t' (List.pairwise_cons.1 h).2 (List.pairwise_cons.1 h').2 hp2 (fun k => by
      have := hf k
      rw [List.filter_cons, List.filter_cons] at this
      by_cases c : decide (key a = k) = true
      · rw [if_pos c, if_pos c] at this; injection this
      · rw [if_neg c, if_neg c] at this; exact this)]
theorem bub_srt {α : Type} (key : α → ByteArray) (l : List α) : bubN (fun a b => ltB (key a) (key b)) l.length l = srt (fun a b => ltB (key a) (key b)) l := by
  have htr : ∀ a b c : α, ltB (key a) (key b) = false → ltB (key b) (key c) = false → ltB (key a) (key c) = false := fun a b c => ltB_tr _ _ _
  have has : ∀ a b : α, ltB (key a) (key b) = true → ltB (key b) (key a) = false := fun a b => ltB_as _ _
  have hs := bubN_sorted htr has l.length l [] rfl (fun a _ b hb => by cases hb) List.Pairwise.nil
  rw [List.append_nil] at hs
  refine stable_unique key _ _ hs (srt_sorted htr has l) ((bubN_perm _ _).trans (srt_perm _ l).symm) (fun k => ?_)
  have hf : ∀ a b : α, ltB (key a) (key b) = true → ¬ (decide (key a = k) = true ∧ decide (key b = k) = true) := fun a b h hk => by
    rw [of_decide_eq_true hk.1, of_decide_eq_true hk.2] at h
    have := ltB_as _ _ h
    rw [h] at this; cases this
  rw [bubN_filter _ hf, srt_filter _ hf]
theorem bytesLess_ltB : ∀ (a b : List UInt8), Op.bytesLess a b = decide (Lib.compareBytes a b < 0)
  | [], [] => rfl
  | [], _ :: _ => rfl
  | _ :: _, [] => rfl
  | a :: s, b :: t => by
    simp only [Op.bytesLess, Lib.compareBytes]
    by_cases c : a < b
    · simp [c]
    · by_cases d : b < a
      · have e : (a == b) = false := by
          rw [beq_eq_false_iff_ne]
          rintro rfl
          exact c d
        simp [c, d, e]
      · have e : a = b := UInt8.toNat_inj.1 (Nat.le_antisymm (Nat.le_of_not_lt d) (Nat.le_of_not_lt c))
        subst e
        rw [bytesLess_ltB s t]
        simp
theorem less_eq (a b : ByteArray) : Op.bytesLess a.toList b.toList = ltB a b := by
  rw [ByteArray.toList_eq, ByteArray.toList_eq, bytesLess_ltB]; rfl
end Go.Proofs.YteakcggbolfelaaDoor
