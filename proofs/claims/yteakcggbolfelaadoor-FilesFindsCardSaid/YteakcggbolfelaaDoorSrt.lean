/-
  Plain lists: insertion into a list that stands the last element first, and the sort that it makes: a permutation, in order, and stable.
-/
namespace Go.Proofs.YteakcggbolfelaaDoor.Srt
section
variable {α : Type} (lt : α → α → Bool)
/-- y goes into a list that stands the last element first, behind all that are not above it. -/
def ins (y : α) : List α → List α
  | [] => [y]
  | z :: t => if lt y z = true then z :: ins y t else y :: z :: t
/-- acc: what is sorted, the last element first. -/
def srtR : List α → List α → List α
  | acc, [] => acc
  | acc, y :: t => srtR (ins lt y acc) t
def srt (l : List α) : List α := (srtR lt [] l).reverse
theorem ins_perm (y : α) : ∀ l : List α, (ins lt y l).Perm (y :: l)
  | [] => List.Perm.refl _
  | z :: t => by
    unfold ins
    by_cases c : lt y z = true
    · rw [if_pos c]; exact ((ins_perm y t).cons z).trans (List.Perm.swap _ _ _)
    · rw [if_neg c]
theorem srtR_perm : ∀ (l acc : List α), (srtR lt acc l).Perm (acc ++ l)
  | [], acc => by simp [srtR]
  | y :: t, acc => by
    refine (srtR_perm t (ins lt y acc)).trans ?_
    refine ((ins_perm lt y acc).append_right t).trans ?_
    exact (List.perm_middle (l₁ := acc) (l₂ := t) (a := y)).symm
theorem srt_perm (l : List α) : (srt lt l).Perm l := by
  unfold srt
  exact (List.reverse_perm _).trans (by simpa using srtR_perm lt l [])
theorem srt_len (l : List α) : (srt lt l).length = l.length := (srt_perm lt l).length_eq
theorem srtR_len (l acc : List α) : (srtR lt acc l).length = acc.length + l.length := by rw [(srtR_perm lt l acc).length_eq, List.length_append]
/-- In order, the last one first: none is above one ahead of it in the list. -/
def Desc (l : List α) : Prop := l.Pairwise (fun a b => lt a b = false)
variable {lt}
theorem ins_desc (htr : ∀ a b c, lt a b = false → lt b c = false → lt a c = false) (has : ∀ a b, lt a b = true → lt b a = false) (y : α) : ∀ l : List α, Desc lt l → Desc lt (ins lt y l)
  | [], _ => List.pairwise_singleton _ _
  | z :: t, h => by
    have h1 := List.pairwise_cons.1 h
    unfold ins
    by_cases c : lt y z = true
    · rw [if_pos c]
      refine List.pairwise_cons.2 ⟨fun b hb => ?_, ins_desc htr has y t h1.2⟩
      rcases List.mem_cons.1 ((ins_perm lt y t).mem_iff.1 hb) with rfl | hb
      · exact has _ _ c
      · exact h1.1 b hb
    · rw [if_neg c]
      have c' : lt y z = false := by simpa using c
      refine List.pairwise_cons.2 ⟨fun b hb => ?_, h⟩
      rcases List.mem_cons.1 hb with rfl | hb
      · exact c'
      · exact htr _ _ _ c' (h1.1 b hb)
theorem srtR_desc (htr : ∀ a b c, lt a b = false → lt b c = false → lt a c = false) (has : ∀ a b, lt a b = true → lt b a = false) : ∀ (l acc : List α), Desc lt acc → Desc lt (srtR lt acc l)
  | [], _, h => h
  | y :: t, acc, h => srtR_desc htr has t _ (ins_desc htr has y acc h)
theorem srt_sorted (htr : ∀ a b c, lt a b = false → lt b c = false → lt a c = false) (has : ∀ a b, lt a b = true → lt b a = false) (l : List α) : (srt lt l).Pairwise (fun a b => lt b a = false) := by
  unfold srt
  rw [List.pairwise_reverse]
  exact srtR_desc htr has l [] List.Pairwise.nil
end
/-! A sort by what a map keeps. -/
section
variable {α β : Type} {lt : α → α → Bool} {lt' : β → β → Bool} {f : α → β}
theorem ins_map (h : ∀ a b, lt' (f a) (f b) = lt a b) (y : α) : ∀ l : List α, ins lt' (f y) (l.map f) = (ins lt y l).map f
  | [] => rfl
  | z :: t => by
    simp only [List.map_cons, ins, h]
    by_cases c : lt y z = true
    · rw [if_pos c, if_pos c, ins_map h y t, List.map_cons]
    · rw [if_neg c, if_neg c, List.map_cons, List.map_cons]
theorem srtR_map (h : ∀ a b, lt' (f a) (f b) = lt a b) : ∀ (l acc : List α), srtR lt' (acc.map f) (l.map f) = (srtR lt acc l).map f
  | [], _ => rfl
  | y :: t, acc => by
    simp only [List.map_cons, srtR]
    rw [ins_map h, srtR_map h]
theorem srt_map (h : ∀ a b, lt' (f a) (f b) = lt a b) (l : List α) : srt lt' (l.map f) = (srt lt l).map f := by
  unfold srt
  rw [List.map_reverse, ← srtR_map h]
  rfl
end
/-! Two neighbours change places. -/
section
variable {α : Type}
theorem get_fst (d : α) (A : List α) (z : α) (B : List α) : (A ++ z :: B).getD A.length d = z := by
  rw [List.getD_eq_getElem?_getD, List.getElem?_append_right (Nat.le_refl _)]; simp
theorem get_snd (d : α) (A : List α) (z y : α) (B : List α) : (A ++ z :: y :: B).getD (A.length + 1) d = y := by
  rw [List.getD_eq_getElem?_getD, List.getElem?_append_right (by omega)]; simp
theorem swap_next (A : List α) (z y : α) (B : List α) : ((A ++ z :: y :: B).set (A.length + 1) z).set A.length y = A ++ y :: z :: B := by
  rw [List.set_append_right _ _ (by omega)]
  simp only [Nat.add_sub_cancel_left, List.set_cons_succ, List.set_cons_zero]
  rw [List.set_append_right _ _ (by omega)]
  simp
end
end Go.Proofs.YteakcggbolfelaaDoor.Srt
