/-
  The document's Check tells what the program's does.
-/
import Derived.Test.YteakcggbolfelaaDoorPl
import Derived.Laws.Strings
namespace Go.Proofs.YteakcggbolfelaaDoor.Y
open Go.RowKit Go.Proofs.YteakcggbolfelaaDoorW.PrintWords Go.Proofs.YteakcggbolfelaaDoorW.PrintMore Go.Proofs.YteakcggbolfelaaDoor.Srt
set_option linter.unusedVariables false
/-- The error's number, and the name that it is about. -/
def told : Option Er → Int × ByteArray
  | some (.lack s c) => (c, s)
  | _ => (0, ⟨#[]⟩)
theorem toList_iff (a b : ByteArray) : a.toList = b.toList ↔ a = b := by
  rw [ByteArray.toList_eq, ByteArray.toList_eq]
  constructor
  · intro h
    cases a; cases b
    simp only [ByteArray.mk.injEq]
    exact Array.toList_inj.1 h
  · rintro rfl; rfl
theorem rd47 (l : List S47) (i : Nat) (h : i < l.length) : rd_T47 l (i : Int) = l[i] := by
  unfold rd_T47; rw [Int.toNat_natCast, List.getD_eq_getElem?_getD, List.getElem?_eq_getElem h]; rfl
theorem rd37 (l : List S37) (i : Nat) (h : i < l.length) : rd_T37 l (i : Int) = l[i] := by
  unfold rd_T37; rw [Int.toNat_natCast, List.getD_eq_getElem?_getD, List.getElem?_eq_getElem h]; rfl
theorem drop_take_next {α : Type} (l : List α) (i k : Nat) (hk : k < i) (hi : i ≤ l.length) : (l.take i).drop k = l[k] :: (l.take i).drop (k + 1) := by
  rw [List.drop_eq_getElem_cons (by rw [List.length_take]; omega), List.getElem_take]
open Classical in
theorem ref_dupF (x0 : List S47) (x5 : Int) (l : List S37) (hl : l.length < 1000) (i : Nat) (hi : i < l.length) (R : Int × ByteArray) (ht : l[i].f1.length ≤ 300)
    (h3 : Ev (fun n => cavilref05_Check.l3 n x0 x5 l ((i + 1 : Nat) : Int)) R) : ∀ (m k : Nat), k + m = i →
    Ev (fun n => cavilref05_Check.l4 n x0 x5 l (i : Int) (k : Int)) (if l[i].f0 ∈ ((l.take i).drop k).map S37.f0 then (6, l[i].f0) else R)
  | 0, k, h => by
    obtain rfl : k = i := by omega
    rw [List.drop_eq_nil_of_le (by rw [List.length_take]; omega), if_neg (by simp)]
    refine ev_succ ?_; simp only [cavilref05_Check.l4]
    have e1 : wrap64 ((k : Int) + 1) = ((k + 1 : Nat) : Int) := by rw [w64 (by omega) (by omega)]; omega
    rw [rd37 l k hi, e1]
    exact ev_neg (by omega) (ev_pos (by omega) (ev_pos (by omega) (ev_neg (by omega) h3)))
  | m + 1, k, h => by
    have hk : k < l.length := by omega
    refine ev_succ ?_; simp only [cavilref05_Check.l4]
    have e1 : wrap64 ((k : Int) + 1) = ((k + 1 : Nat) : Int) := by rw [w64 (by omega) (by omega)]; omega
    rw [rd37 l i hi, rd37 l k hk, e1]
    refine ev_pos (by omega) (ev_pos (by omega) (ev_pos (by omega) (ev_pos (by omega) (ev_pos (by omega) ?_))))
    rw [drop_take_next l i k (by omega) (by omega), List.map_cons]
    by_cases c : l[k].f0 = l[i].f0
    · rw [if_pos (by rw [c]; exact List.mem_cons_self)]
      exact ev_pos ((toList_iff _ _).2 c) (ev_now rfl)
    · refine ev_neg (fun h => c ((toList_iff _ _).1 h)) ?_
      have ih := ref_dupF x0 x5 l hl i hi R ht h3 m (k + 1) (by omega)
      by_cases d : l[i].f0 ∈ ((l.take i).drop (k + 1)).map S37.f0
      · rw [if_pos d] at ih
        rw [if_pos (List.mem_cons_of_mem _ d)]; exact ih
      · rw [if_neg d] at ih
        rw [if_neg (fun hm => by rcases List.mem_cons.1 hm with e | hm; exact c e.symm; exact d hm)]; exact ih
theorem ref_files (x0 : List S47) (x5 : Int) (l : List S37) (hl : l.length < 1000) (hf : ∀ f ∈ l, FOk f) (R : Int × ByteArray) (h1 : Ev (fun n => cavilref05_Check.l1 n x0 (wrap64 (x5 + 1))) R) :
    ∀ (m i : Nat), i + m = l.length → Ev (fun n => cavilref05_Check.l3 n x0 x5 l (i : Int)) (match chkT ((l.take i).map S37.f0) (l.drop i) with | some e => told (some e) | none => R)
  | 0, i, h => by
    rw [List.drop_eq_nil_of_le (by omega)]
    refine ev_succ ?_; simp only [cavilref05_Check.l3]
    exact ev_neg (by omega) h1
  | m + 1, i, h => by
    have hi : i < l.length := by omega
    obtain ⟨hn, ht⟩ := hf _ (List.getElem_mem hi)
    have hm : l[i].f0.size ≤ maxLen := by have h2 : (70 : Nat) ≤ maxLen := by decide
                                          omega
    refine ev_succ ?_; simp only [cavilref05_Check.l3]
    rw [rd37 l i hi]
    have e1 : cavilref05_Name.f l[i].f0 true = some (X.nameOk l[i].f0 true) := by unfold cavilref05_Name.f; rw [if_pos hm]
    rw [e1, List.drop_eq_getElem_cons hi]
    refine ev_pos (by omega) (ev_pos (by omega) (ev_some (a := X.nameOk l[i].f0 true) ?_))
    simp only [chkT]
    have ih := ref_files x0 x5 l hl hf R h1 m (i + 1) (by omega)
    have eb : (l.take (i + 1)).map S37.f0 = (l.take i).map S37.f0 ++ [l[i].f0] := by rw [List.take_succ_eq_append_getElem hi, List.map_append]; rfl
    rw [eb] at ih
    have hd := ref_dupF x0 x5 l hl i hi _ ht ih i 0 (by omega)
    rw [List.drop_zero] at hd
    cases hb : X.nameOk l[i].f0 true with
    | false => exact ev_neg (by simp) (ev_now rfl)
    | true =>
      refine ev_pos rfl ?_
      by_cases d : l[i].f0 ∈ (l.take i).map S37.f0
      · rw [if_pos d] at hd
        have e2 : fst' l[i].f0 true ((l.take i).map S37.f0) = some (.lack l[i].f0 6) := by unfold fst'; rw [if_pos rfl, if_pos ((Lib.containsS_iff _ _).2 d)]
        rw [e2]; exact hd
      · rw [if_neg d] at hd
        have e2 : fst' l[i].f0 true ((l.take i).map S37.f0) = none := by unfold fst'; rw [if_pos rfl, if_neg (fun h => d ((Lib.containsS_iff _ _).1 h))]
        rw [e2]; exact hd
open Classical in
theorem ref_dupP (l : List S47) (hl : l.length < 1000) (i : Nat) (hi : i < l.length) (R : Int × ByteArray)
    (h3 : Ev (fun n => cavilref05_Check.l3 n l (i : Int) l[i].f1 0) R) : ∀ (m k : Nat), k + m = i →
    Ev (fun n => cavilref05_Check.l2 n l (i : Int) (k : Int)) (if l[i].f0 ∈ ((l.take i).drop k).map S47.f0 then (6, l[i].f0) else R)
  | 0, k, h => by
    obtain rfl : k = i := by omega
    rw [List.drop_eq_nil_of_le (by rw [List.length_take]; omega), if_neg (by simp)]
    refine ev_succ ?_; simp only [cavilref05_Check.l2]
    rw [rd47 l k hi]
    exact ev_neg (by omega) (ev_pos (by omega) (ev_pos (by omega) h3))
  | m + 1, k, h => by
    have hk : k < l.length := by omega
    refine ev_succ ?_; simp only [cavilref05_Check.l2]
    have e1 : wrap64 ((k : Int) + 1) = ((k + 1 : Nat) : Int) := by rw [w64 (by omega) (by omega)]; omega
    rw [rd47 l i hi, rd47 l k hk, e1]
    refine ev_pos (by omega) (ev_pos (by omega) (ev_pos (by omega) (ev_pos (by omega) (ev_pos (by omega) ?_))))
    rw [drop_take_next l i k (by omega) (by omega), List.map_cons]
    by_cases c : l[k].f0 = l[i].f0
    · rw [if_pos (by rw [c]; exact List.mem_cons_self)]
      exact ev_pos ((toList_iff _ _).2 c) (ev_now rfl)
    · refine ev_neg (fun h => c ((toList_iff _ _).1 h)) ?_
      have ih := ref_dupP l hl i hi R h3 m (k + 1) (by omega)
      by_cases d : l[i].f0 ∈ ((l.take i).drop (k + 1)).map S47.f0
      · rw [if_pos d] at ih
        rw [if_pos (List.mem_cons_of_mem _ d)]; exact ih
      · rw [if_neg d] at ih
        rw [if_neg (fun hm => by rcases List.mem_cons.1 hm with e | hm; exact c e.symm; exact d hm)]; exact ih
theorem ref_packs (l : List S47) (hl : l.length < 1000) (hf : ∀ p ∈ l, POk p) :
    ∀ (m i : Nat), i + m = l.length → Ev (fun n => cavilref05_Check.l1 n l (i : Int)) (told (chkP ((l.take i).map S47.f0) (l.drop i)))
  | 0, i, h => by
    rw [List.drop_eq_nil_of_le (by omega)]
    refine ev_succ ?_; simp only [cavilref05_Check.l1]
    exact ev_neg (by omega) (ev_now rfl)
  | m + 1, i, h => by
    have hi : i < l.length := by omega
    obtain ⟨hn, hc, ht⟩ := hf _ (List.getElem_mem hi)
    have hm : l[i].f0.size ≤ maxLen := by have h2 : (140 : Nat) ≤ maxLen := by decide
                                          omega
    refine ev_succ ?_; simp only [cavilref05_Check.l1]
    rw [rd47 l i hi]
    have e1 : cavilref05_Path.f l[i].f0 = some (X.pathOk l[i].f0) := by unfold cavilref05_Path.f; rw [if_pos hm]
    rw [e1, List.drop_eq_getElem_cons hi]
    refine ev_pos (by omega) (ev_pos (by omega) (ev_some (a := X.pathOk l[i].f0) ?_))
    simp only [chkP]
    have ih := ref_packs l hl hf m (i + 1) (by omega)
    have eb : (l.take (i + 1)).map S47.f0 = (l.take i).map S47.f0 ++ [l[i].f0] := by rw [List.take_succ_eq_append_getElem hi, List.map_append]; rfl
    have e4 : wrap64 ((i : Int) + 1) = ((i + 1 : Nat) : Int) := by rw [w64 (by omega) (by omega)]; omega
    rw [eb, ← e4] at ih
    have h3 := ref_files l (i : Int) l[i].f1 (by omega) ht _ ih l[i].f1.length 0 (by omega)
    rw [List.take_zero, List.map_nil, List.drop_zero] at h3
    have hd := ref_dupP l hl i hi _ h3 i 0 (by omega)
    rw [List.drop_zero] at hd
    cases hb : X.pathOk l[i].f0 with
    | false => exact ev_neg (by simp) (ev_now rfl)
    | true =>
      refine ev_pos rfl ?_
      by_cases d : l[i].f0 ∈ (l.take i).map S47.f0
      · rw [if_pos d] at hd
        have e2 : fst' l[i].f0 true ((l.take i).map S47.f0) = some (.lack l[i].f0 6) := by unfold fst'; rw [if_pos rfl, if_pos ((Lib.containsS_iff _ _).2 d)]
        rw [e2]; exact hd
      · rw [if_neg d] at hd
        have e2 : fst' l[i].f0 true ((l.take i).map S47.f0) = none := by unfold fst'; rw [if_pos rfl, if_neg (fun h => d ((Lib.containsS_iff _ _).1 h))]
        rw [e2]
        simp only []
        cases hq : chkT [] l[i].f1 with
        | none => rw [hq] at hd; exact hd
        | some e => rw [hq] at hd; exact hd
theorem ref_long (l : List S47) (hl : l.length < 1000) (hf : ∀ p ∈ l, POk p) (R : Int × ByteArray) (h1 : Ev (fun n => cavilref05_Check.l1 n l 0) R) :
    ∀ (m i : Nat), i + m = l.length → Ev (fun n => cavilref05_Check.l0 n l (i : Int)) R
  | 0, i, h => by
    refine ev_succ ?_; simp only [cavilref05_Check.l0]
    exact ev_neg (by omega) h1
  | m + 1, i, h => by
    have hi : i < l.length := by omega
    have hc := (hf _ (List.getElem_mem hi)).2.1
    refine ev_succ ?_; simp only [cavilref05_Check.l0]
    have e4 : wrap64 ((i : Int) + 1) = ((i + 1 : Nat) : Int) := by rw [w64 (by omega) (by omega)]; omega
    rw [rd47 l i hi, e4]
    exact ev_pos (by omega) (ev_pos (by omega) (ev_neg (by omega) (ref_long l hl hf R h1 m (i + 1) (by omega))))
theorem ev_refCheck (l : List S47) (h : FewOk l) : Ev (fun k => cavilref05_Check.f k l) (told (chkP [] l)) := by
  have hl : l.length < 1000 := by have := h.1; omega
  unfold cavilref05_Check.f
  refine ev_neg (by omega) ?_
  have h1 := ref_packs l hl h.2 l.length 0 (by omega)
  rw [List.take_zero, List.map_nil, List.drop_zero] at h1
  exact ref_long l hl h.2 _ h1 l.length 0 (by omega)
/-- The errors are about names, and of the 25. -/
theorem fst_form {s : ByteArray} {may : Bool} {ah : List ByteArray} {e : Er} (h : fst' s may ah = some e) : ∃ c, e = .lack s c ∧ 1 ≤ c ∧ c ≤ 25 := by
  unfold fst' at h
  cases may with
  | false => simp at h; exact ⟨8, h.symm, by decide, by decide⟩
  | true =>
    rw [if_pos rfl] at h
    split at h
    · exact ⟨6, (Option.some.inj h).symm, by decide, by decide⟩
    · cases h
theorem chkT_form : ∀ (l : List S37) (ah : List ByteArray) (e : Er), chkT ah l = some e → ∃ s c, e = .lack s c ∧ 1 ≤ c ∧ c ≤ 25
  | [], _, _, h => by cases h
  | f :: t, ah, e, h => by
    simp only [chkT] at h
    cases hq : fst' f.f0 (X.nameOk f.f0 true) ah with
    | some e' => rw [hq] at h; obtain rfl := Option.some.inj h; obtain ⟨c, h1⟩ := fst_form hq; exact ⟨_, c, h1⟩
    | none => rw [hq] at h; exact chkT_form t _ e h
theorem chkP_form : ∀ (l : List S47) (ah : List ByteArray) (e : Er), chkP ah l = some e → ∃ s c, e = .lack s c ∧ 1 ≤ c ∧ c ≤ 25
  | [], _, _, h => by cases h
  | f :: t, ah, e, h => by
    simp only [chkP] at h
    cases hq : fst' f.f0 (X.pathOk f.f0) ah with
    | some e' => rw [hq] at h; obtain rfl := Option.some.inj h; obtain ⟨c, h1⟩ := fst_form hq; exact ⟨_, c, h1⟩
    | none =>
      rw [hq] at h
      cases ht : chkT [] f.f1 with
      | some e' => rw [ht] at h; obtain rfl := Option.some.inj h; exact chkT_form _ _ _ ht
      | none => rw [ht] at h; exact chkP_form t _ e h
end Go.Proofs.YteakcggbolfelaaDoor.Y
