/-
  What the printed sorts of packages and of files compute, of fewer than twenty: the stable sort by name.
-/
import Derived.Test.YteakcggbolfelaaDoorVM
import Derived.Test.YteakcggbolfelaaDoorUM
import Derived.Test.YteakcggbolfelaaDoorSrt
namespace Go.Proofs.YteakcggbolfelaaDoor
open Go.RowKit Go.Proofs.YteakcggbolfelaaDoorW.PrintWords Go.Proofs.YteakcggbolfelaaDoor.Srt
section
variable {α β : Type} {r : α}
theorem ev_pos {c : Prop} [Decidable c] {A B : Nat → Option α} (h : c) (k : Ev A r) : Ev (fun n => if c then A n else B n) r := Ev.congr (fun _ => if_pos h) k
theorem ev_neg {c : Prop} [Decidable c] {A B : Nat → Option α} (h : ¬ c) (k : Ev B r) : Ev (fun n => if c then A n else B n) r := Ev.congr (fun _ => if_neg h) k
theorem ev_now {x : Option α} (h : x = some r) : Ev (fun _ => x) r := ⟨0, fun _ _ => h⟩
theorem ev_some {a : β} {f : Nat → β → Option α} (k : Ev (fun n => f n a) r) : Ev (fun n => (some a).bind (f n)) r := k
theorem ev_succ {g : Nat → Option α} (k : Ev (fun n => g (n + 1)) r) : Ev g r := Ev.step (fun _ => rfl) k
theorem ev_of {a : β} {g : Nat → Option β} {f : Nat → β → Option α} (h : Ev g a) (k : Ev (fun n => f n a) r) : Ev (fun n => (g n).bind (f n)) r := Ev.bind h k
end
theorem w64 {x : Int} (h0 : -9223372036854775808 ≤ x) (h1 : x ≤ 9223372036854775807) : wrap64 x = x := by unfold wrap64; omega
/-- Is one text ahead of another. -/
def ltB (a b : ByteArray) : Bool := decide (X.cmpN a b < 0)
theorem cmpL_not : ∀ (a b : List UInt8), ¬ Lib.compareBytes a b < 0 → ∀ c, ¬ Lib.compareBytes b c < 0 → ¬ Lib.compareBytes a c < 0
  | [], [], _, c, h => h
  | [], _ :: _, h, _, _ => by simp [Lib.compareBytes] at h
  | _ :: _, [], _, c, h => by
    cases c with
    | nil => simp [Lib.compareBytes]
    | cons x t => simp [Lib.compareBytes] at h
  | a :: as_, b :: bs, h, c, k => by
    cases c with
    | nil => simp [Lib.compareBytes]
    | cons x t =>
      simp only [Lib.compareBytes] at h k ⊢
      have tri : ∀ x y : UInt8, x < y ∨ x = y ∨ y < x := fun x y => by
        rcases Nat.lt_trichotomy x.toNat y.toNat with h | h | h
        · exact .inl h
        · exact .inr (.inl (UInt8.toNat_inj.1 h))
        · exact .inr (.inr h)
      have trn : ∀ x y z : UInt8, x < y → y < z → x < z := fun x y z h1 h2 => Nat.lt_trans (m := y.toNat) h1 h2
      have irr : ∀ x : UInt8, ¬ x < x := fun x h => Nat.lt_irrefl x.toNat h
      have asy : ∀ x y : UInt8, x < y → ¬ y < x := fun x y h1 h2 => irr _ (trn _ _ _ h1 h2)
      rcases tri a b with h1 | rfl | h1
      · rw [if_pos h1] at h; exact absurd h (by decide)
      · rw [if_neg (irr _), if_neg (irr _)] at h
        rcases tri a x with h2 | rfl | h2
        · rw [if_pos h2] at k; exact absurd k (by decide)
        · rw [if_neg (irr _), if_neg (irr _)] at k ⊢
          exact cmpL_not as_ bs h t k
        · rw [if_neg (asy _ _ h2), if_pos h2]; decide
      · rcases tri b x with h2 | rfl | h2
        · rw [if_pos h2] at k; exact absurd k (by decide)
        · rw [if_neg (asy _ _ h1), if_pos h1]; decide
        · have h3 := trn _ _ _ h2 h1
          rw [if_neg (asy _ _ h3), if_pos h3]; decide
theorem cmpL_asym : ∀ (a b : List UInt8), Lib.compareBytes a b < 0 → ¬ Lib.compareBytes b a < 0
  | [], [], h => by simp [Lib.compareBytes] at h
  | [], _ :: _, _ => by simp [Lib.compareBytes]
  | _ :: _, [], h => by simp [Lib.compareBytes] at h
  | a :: as_, b :: bs, h => by
    simp only [Lib.compareBytes] at h ⊢
    by_cases c : a < b
    · have n : ¬ b < a := fun h2 => Nat.lt_irrefl a.toNat (Nat.lt_trans (m := b.toNat) c h2)
      rw [if_neg n, if_pos c]; decide
    · by_cases d : b < a
      · rw [if_neg c, if_pos d] at h; exact absurd h (by decide)
      · rw [if_neg c, if_neg d] at h
        rw [if_neg d, if_neg c]
        exact cmpL_asym as_ bs h
theorem ltB_tr (a b c : ByteArray) (h : ltB a b = false) (k : ltB b c = false) : ltB a c = false := by
  unfold ltB at *
  exact decide_eq_false (cmpL_not _ _ (of_decide_eq_false h) _ (of_decide_eq_false k))
theorem ltB_as (a b : ByteArray) (h : ltB a b = true) : ltB b a = false := by
  unfold ltB at *
  exact decide_eq_false (cmpL_asym _ _ (of_decide_eq_true h))
namespace V
def lt (a b : S47) : Bool := ltB a.f0 b.f0
/-- One goes down into what is sorted. -/
theorem ev_in (C : List S47) (x2 x8 : Int) {r : List S47} : ∀ (A B : List S47) (y : S47), (C.length : Int) + A.length < 9223372036854775807 →
    Ev (fun k => api_Package_66.l0 k (C ++ (ins lt y A).reverse ++ B) C.length x2 (wrap64 (x8 + 1))) r →
    Ev (fun k => api_Package_66.l1 k (C ++ A.reverse ++ y :: B) C.length x2 x8 ((C.length : Int) + A.length)) r := by
  intro A
  induction A with
  | nil =>
    intro B y hl h
    refine ev_succ ?_; simp only [api_Package_66.l1]
    refine ev_neg (by simp) ?_
    simpa [ins] using h
  | cons z t ih =>
    intro B y hl h
    simp only [List.length_cons, Int.natCast_add, Int.natCast_one] at hl ⊢
    have e0 : C ++ (z :: t).reverse ++ y :: B = (C ++ t.reverse) ++ z :: y :: B := by simp
    rw [e0]
    have hL : (C ++ t.reverse).length = C.length + t.length := by simp
    have e1 : wrap64 ((C.length : Int) + (t.length + 1) - 1) = C.length + t.length := by rw [w64 (by omega) (by omega)]; omega
    have e2 : ((C.length : Int) + (t.length + 1)).toNat = (C ++ t.reverse).length + 1 := by omega
    have e3 : ((C.length : Int) + t.length).toNat = (C ++ t.reverse).length := by omega
    have g1 : rd_T47 ((C ++ t.reverse) ++ z :: y :: B) ((C.length : Int) + (t.length + 1)) = y := by
      unfold rd_T47; rw [e2]; exact get_snd _ _ _ _ _
    have g2 : rd_T47 ((C ++ t.reverse) ++ z :: y :: B) ((C.length : Int) + t.length) = z := by
      unfold rd_T47; rw [e3]; exact get_fst _ _ _ _
    refine ev_succ ?_; simp only [api_Package_66.l1, e1, g1, g2]
    refine ev_pos (by omega) (ev_pos (by omega) (ev_pos (by simp; omega) (ev_pos (by omega) (ev_pos (by simp; omega) (ev_some (a := X.cmpN y.f0 z.f0) ?_)))))
    by_cases c : X.cmpN y.f0 z.f0 < 0
    · refine ev_pos c ?_
      rw [e2, e3]
      have hs := swap_next (C ++ t.reverse) z y B
      have := ih (z :: B) y (by omega) (by
        have hi : ins lt y (z :: t) = z :: ins lt y t := by simp [ins, lt, ltB, c]
        rw [hi] at h
        simpa using h)
      rw [hs]
      simpa using this
    · refine ev_neg c ?_
      have hi : ins lt y (z :: t) = y :: z :: t := by simp [ins, lt, ltB, c]
      rw [hi] at h
      simpa using h
/-- The insertion sort of a part. -/
theorem ev_isort_l (C : List S47) (D : List S47) : ∀ (todo A : List S47), (C.length : Int) + A.length + todo.length < 9223372036854775807 →
    Ev (fun k => api_Package_66.l0 k (C ++ A.reverse ++ (todo ++ D)) C.length ((C.length : Int) + A.length + todo.length) ((C.length : Int) + A.length)) (C ++ (srtR lt A todo).reverse ++ D) := by
  intro todo
  induction todo with
  | nil =>
    intro A hl
    refine ev_succ ?_; simp only [api_Package_66.l0]
    exact ev_neg (by simp) (ev_now (by simp [srtR]))
  | cons y t ih =>
    intro A hl
    simp only [List.length_cons, Int.natCast_add, Int.natCast_one] at hl ⊢
    refine ev_succ ?_; simp only [api_Package_66.l0]
    refine ev_pos (by omega) ?_
    refine ev_in C _ _ A (t ++ D) y (by omega) ?_
    have e1 : wrap64 ((C.length : Int) + A.length + 1) = (C.length : Int) + (ins lt y A).length := by
      rw [w64 (by omega) (by omega), (ins_perm lt y A).length_eq, List.length_cons]; omega
    have := ih (ins lt y A) (by rw [(ins_perm lt y A).length_eq, List.length_cons]; omega)
    rw [e1]
    have e2 : (C.length : Int) + A.length + (t.length + 1) = (C.length : Int) + (ins lt y A).length + t.length := by
      rw [(ins_perm lt y A).length_eq, List.length_cons]; omega
    rw [e2]
    exact this
theorem ev_isort (C M D : List S47) (hl : (C.length : Int) + M.length < 9223372036854775807) :
    Ev (fun k => api_Package_66.f k (C ++ M ++ D) C.length ((C.length : Int) + M.length)) (C ++ srt lt M ++ D) := by
  unfold api_Package_66.f
  cases M with
  | nil =>
    rw [w64 (by omega) (by simp at hl; omega)]
    refine ev_succ ?_; simp only [api_Package_66.l0]
    exact ev_neg (by simp; omega) (ev_now (by simp [srt, srtR]))
  | cons y t =>
    rw [w64 (by omega) (by simp at hl; omega)]
    have := ev_isort_l C D t [y] (by simp at hl ⊢; omega)
    have e : srt lt (y :: t) = (srtR lt [y] t).reverse := rfl
    rw [e]
    simp only [List.length_cons, List.length_nil, Int.natCast_add, Int.zero_add, Int.cast_ofNat_Int] at this ⊢
    have e2 : (C.length : Int) + 1 + t.length = C.length + (t.length + 1) := by omega
    rw [e2] at this
    simpa using this
theorem ev_sort (l : List S47) (hl : l.length < 20) : Ev (fun k => api_Package_37.f k l) (srt lt l) := by
  unfold api_Package_37.f
  refine ev_of (a := srt lt l) ?_ (ev_now rfl)
  unfold api_Package_50.f
  refine ev_succ ?_; simp only [api_Package_50.l0]
  refine ev_neg (by omega) ?_
  refine ev_of (a := srt lt l) ?_ ?_
  · have := ev_isort [] l [] (by simp; omega)
    simpa using this
  · refine ev_succ ?_; simp only [api_Package_50.l1]
    exact ev_neg (by omega) (ev_now rfl)
end V
namespace U
def lt (a b : S37) : Bool := ltB a.f0 b.f0
/-- One goes down into what is sorted. -/
theorem ev_in (C : List S37) (x2 x8 : Int) {r : List S37} : ∀ (A B : List S37) (y : S37), (C.length : Int) + A.length < 9223372036854775807 →
    Ev (fun k => api_File_69.l0 k (C ++ (ins lt y A).reverse ++ B) C.length x2 (wrap64 (x8 + 1))) r →
    Ev (fun k => api_File_69.l1 k (C ++ A.reverse ++ y :: B) C.length x2 x8 ((C.length : Int) + A.length)) r := by
  intro A
  induction A with
  | nil =>
    intro B y hl h
    refine ev_succ ?_; simp only [api_File_69.l1]
    refine ev_neg (by simp) ?_
    simpa [ins] using h
  | cons z t ih =>
    intro B y hl h
    simp only [List.length_cons, Int.natCast_add, Int.natCast_one] at hl ⊢
    have e0 : C ++ (z :: t).reverse ++ y :: B = (C ++ t.reverse) ++ z :: y :: B := by simp
    rw [e0]
    have hL : (C ++ t.reverse).length = C.length + t.length := by simp
    have e1 : wrap64 ((C.length : Int) + (t.length + 1) - 1) = C.length + t.length := by rw [w64 (by omega) (by omega)]; omega
    have e2 : ((C.length : Int) + (t.length + 1)).toNat = (C ++ t.reverse).length + 1 := by omega
    have e3 : ((C.length : Int) + t.length).toNat = (C ++ t.reverse).length := by omega
    have g1 : rd_T37 ((C ++ t.reverse) ++ z :: y :: B) ((C.length : Int) + (t.length + 1)) = y := by
      unfold rd_T37; rw [e2]; exact get_snd _ _ _ _ _
    have g2 : rd_T37 ((C ++ t.reverse) ++ z :: y :: B) ((C.length : Int) + t.length) = z := by
      unfold rd_T37; rw [e3]; exact get_fst _ _ _ _
    refine ev_succ ?_; simp only [api_File_69.l1, e1, g1, g2]
    refine ev_pos (by omega) (ev_pos (by omega) (ev_pos (by simp; omega) (ev_pos (by omega) (ev_pos (by simp; omega) (ev_some (a := X.cmpN y.f0 z.f0) ?_)))))
    by_cases c : X.cmpN y.f0 z.f0 < 0
    · refine ev_pos c ?_
      rw [e2, e3]
      have hs := swap_next (C ++ t.reverse) z y B
      have := ih (z :: B) y (by omega) (by
        have hi : ins lt y (z :: t) = z :: ins lt y t := by simp [ins, lt, ltB, c]
        rw [hi] at h
        simpa using h)
      rw [hs]
      simpa using this
    · refine ev_neg c ?_
      have hi : ins lt y (z :: t) = y :: z :: t := by simp [ins, lt, ltB, c]
      rw [hi] at h
      simpa using h
/-- The insertion sort of a part. -/
theorem ev_isort_l (C : List S37) (D : List S37) : ∀ (todo A : List S37), (C.length : Int) + A.length + todo.length < 9223372036854775807 →
    Ev (fun k => api_File_69.l0 k (C ++ A.reverse ++ (todo ++ D)) C.length ((C.length : Int) + A.length + todo.length) ((C.length : Int) + A.length)) (C ++ (srtR lt A todo).reverse ++ D) := by
  intro todo
  induction todo with
  | nil =>
    intro A hl
    refine ev_succ ?_; simp only [api_File_69.l0]
    exact ev_neg (by simp) (ev_now (by simp [srtR]))
  | cons y t ih =>
    intro A hl
    simp only [List.length_cons, Int.natCast_add, Int.natCast_one] at hl ⊢
    refine ev_succ ?_; simp only [api_File_69.l0]
    refine ev_pos (by omega) ?_
    refine ev_in C _ _ A (t ++ D) y (by omega) ?_
    have e1 : wrap64 ((C.length : Int) + A.length + 1) = (C.length : Int) + (ins lt y A).length := by
      rw [w64 (by omega) (by omega), (ins_perm lt y A).length_eq, List.length_cons]; omega
    have := ih (ins lt y A) (by rw [(ins_perm lt y A).length_eq, List.length_cons]; omega)
    rw [e1]
    have e2 : (C.length : Int) + A.length + (t.length + 1) = (C.length : Int) + (ins lt y A).length + t.length := by
      rw [(ins_perm lt y A).length_eq, List.length_cons]; omega
    rw [e2]
    exact this
theorem ev_isort (C M D : List S37) (hl : (C.length : Int) + M.length < 9223372036854775807) :
    Ev (fun k => api_File_69.f k (C ++ M ++ D) C.length ((C.length : Int) + M.length)) (C ++ srt lt M ++ D) := by
  unfold api_File_69.f
  cases M with
  | nil =>
    rw [w64 (by omega) (by simp at hl; omega)]
    refine ev_succ ?_; simp only [api_File_69.l0]
    exact ev_neg (by simp; omega) (ev_now (by simp [srt, srtR]))
  | cons y t =>
    rw [w64 (by omega) (by simp at hl; omega)]
    have := ev_isort_l C D t [y] (by simp at hl ⊢; omega)
    have e : srt lt (y :: t) = (srtR lt [y] t).reverse := rfl
    rw [e]
    simp only [List.length_cons, List.length_nil, Int.natCast_add, Int.zero_add, Int.cast_ofNat_Int] at this ⊢
    have e2 : (C.length : Int) + 1 + t.length = C.length + (t.length + 1) := by omega
    rw [e2] at this
    simpa using this
theorem ev_sort (l : List S37) (hl : l.length < 20) : Ev (fun k => api_File_40.f k l) (srt lt l) := by
  unfold api_File_40.f
  refine ev_of (a := srt lt l) ?_ (ev_now rfl)
  unfold api_File_52.f
  refine ev_succ ?_; simp only [api_File_52.l0]
  refine ev_neg (by omega) ?_
  refine ev_of (a := srt lt l) ?_ ?_
  · have := ev_isort [] l [] (by simp; omega)
    simpa using this
  · refine ev_succ ?_; simp only [api_File_52.l1]
    exact ev_neg (by omega) (ev_now rfl)
end U
namespace U
theorem ev_copied_l (l : List S47) (hl : l.length < 1000000) (hf : ∀ x ∈ l, x.f1.length < 1000000) : ∀ (B A : List S47), l = A ++ B → Ev (fun k => files_copied.l0 k A l (l.length : Int) (A.length : Int)) l
  | [], A, h => by
    subst h
    refine ev_succ ?_; simp only [files_copied.l0]
    exact ev_neg (by simp) (ev_now (by simp))
  | b :: B, A, h => by
    have hA : A.length < l.length := by rw [h]; simp
    have g : rd_T47 l (A.length : Int) = b := by
      unfold rd_T47; rw [h, Int.toNat_natCast]; exact get_fst _ _ _ _
    refine ev_succ ?_; simp only [files_copied.l0, g]
    refine ev_pos (by omega) (ev_pos (by omega) (ev_pos (by omega) ?_))
    have hb := hf b (by rw [h]; simp)
    have e : api_File_47.f b.f1 = some b.f1 := by unfold api_File_47.f; rw [if_pos hb]
    rw [e]
    refine ev_some (a := b.f1) (ev_pos (by omega) ?_)
    have e1 : wrap64 ((A.length : Int) + 1) = ((A ++ [b]).length : Int) := by rw [w64 (by omega) (by omega)]; simp
    rw [e1]
    exact ev_copied_l l hl hf B (A ++ [b]) (by rw [h]; simp)
theorem ev_copied (l : List S47) (hl : l.length < 1000000) (hf : ∀ x ∈ l, x.f1.length < 1000000) : Ev (fun k => files_copied.f k l) l := by
  unfold files_copied.f
  exact ev_copied_l l hl hf l [] rfl
end U
end Go.Proofs.YteakcggbolfelaaDoor
