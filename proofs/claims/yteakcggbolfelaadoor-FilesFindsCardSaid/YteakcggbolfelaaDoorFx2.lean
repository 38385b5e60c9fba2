/-
  The document's Find; Find and Replace of lists told twice.
-/
import Derived.Test.YteakcggbolfelaaDoorRl
import Derived.Test.YteakcggbolfelaaDoorYM3
import Derived.Laws.Strings
namespace Go.Proofs.YteakcggbolfelaaDoor.Y
open Go.RowKit Go.Proofs.YteakcggbolfelaaDoorW.PrintWords Go.Proofs.YteakcggbolfelaaDoorW.PrintLast Go.Proofs.YteakcggbolfelaaDoorW.PrintMore
set_option linter.unusedVariables false
set_option linter.unusedSimpArgs false
theorem toList_iff (a b : ByteArray) : a.toList = b.toList ↔ a = b := by
  rw [ByteArray.toList_eq, ByteArray.toList_eq]
  constructor
  · intro h
    cases a; cases b
    simp only [ByteArray.mk.injEq]
    exact Array.toList_inj.1 h
  · rintro rfl; rfl
theorem rd47 (l : List S47) (i : Nat) (h : i < l.length) : rd_T47 l (i : Int) = l[i] := by
  unfold rd_T47; rw [Int.toNat_natCast, List.getD_eq_getElem?_getD, List.getElem?_eq_getElem h]; rfl
theorem rd37 (l : List S37) (i : Nat) (h : i < l.length) : rd_T37 l (i : Int) = l[i] := by
  unfold rd_T37; rw [Int.toNat_natCast, List.getD_eq_getElem?_getD, List.getElem?_eq_getElem h]; rfl
def pl2 : Option (Nat × Nat) → Int × Int
  | none => (-1, -1)
  | some (i, k) => (i, k)
theorem find_inner (l : List S47) (name : ByteArray) (i : Nat) (hi : i < l.length) (hn : l[i].f1.length < 1000000) : ∀ (m j : Nat), j + m = l[i].f1.length →
    Ev (fun n => cavilref05_Find.l1 n l name (i : Int) (j : Int)) (pl2 ((firstI ((l[i].f1.map S37.f0).drop j) name).map (fun q => (i, q + j))))
  | 0, j, h => by
    rw [List.drop_eq_nil_of_le (by rw [List.length_map]; omega)]
    refine ev_succ ?_; simp only [cavilref05_Find.l1, rd47 l i hi]
    exact ev_pos (by omega) (ev_pos (by omega) (ev_neg (by omega) (ev_now rfl)))
  | m + 1, j, h => by
    have hj : j < l[i].f1.length := by omega
    have hd : (l[i].f1.map S37.f0).drop j = l[i].f1[j].f0 :: (l[i].f1.map S37.f0).drop (j + 1) := by
      rw [List.drop_eq_getElem_cons (by rw [List.length_map]; exact hj), List.getElem_map]
    refine ev_succ ?_; simp only [cavilref05_Find.l1, rd47 l i hi, rd37 _ j hj]
    rw [hd]
    refine ev_pos (by omega) (ev_pos (by omega) (ev_pos (by omega) (ev_pos (by omega) ?_)))
    by_cases c : l[i].f1[j].f0 = name
    · refine ev_pos ((toList_iff _ _).2 c) (ev_now ?_)
      rw [c, firstI_yes]; simp [pl2]
    · refine ev_neg (fun h => c ((toList_iff _ _).1 h)) ?_
      have e1 : wrap64 ((j : Int) + 1) = ((j + 1 : Nat) : Int) := by rw [w64 (by omega) (by omega)]; omega
      have ih := find_inner l name i hi hn m (j + 1) (by omega)
      rw [e1, firstI_no c, Option.map_map]
      have e2 : ((fun q => (i, q + j)) ∘ fun x => x + 1) = (fun q : Nat => (i, q + (j + 1))) := by funext x; show (i, x + 1 + j) = (i, x + (j + 1)); rw [Nat.add_assoc, Nat.add_comm 1 j]
      rw [e2]
      exact ih
theorem find_outer (l : List S47) (path name : ByteArray) (hl : l.length < 1000000) (hf : ∀ p ∈ l, p.f1.length < 1000000) : ∀ (m i : Nat), i + m = l.length →
    Ev (fun n => cavilref05_Find.l0 n l path name (i : Int)) (pl2 ((firstI ((l.map S47.f0).drop i) path).bind (fun q => (firstI ((l.getD (q + i) z47).f1.map S37.f0) name).map (fun k => (q + i, k)))))
  | 0, i, h => by
    rw [List.drop_eq_nil_of_le (by rw [List.length_map]; omega)]
    refine ev_succ ?_; simp only [cavilref05_Find.l0]
    exact ev_neg (by omega) (ev_now rfl)
  | m + 1, i, h => by
    have hi : i < l.length := by omega
    have hd : (l.map S47.f0).drop i = l[i].f0 :: (l.map S47.f0).drop (i + 1) := by
      rw [List.drop_eq_getElem_cons (by rw [List.length_map]; exact hi), List.getElem_map]
    refine ev_succ ?_; simp only [cavilref05_Find.l0, rd47 l i hi]
    rw [hd]
    refine ev_pos (by omega) (ev_pos (by omega) ?_)
    by_cases c : l[i].f0 = path
    · refine ev_pos ((toList_iff _ _).2 c) ?_
      have h1 := find_inner l name i hi (hf _ (List.getElem_mem hi)) l[i].f1.length 0 (by omega)
      rw [c, firstI_yes]
      have e2 : l.getD i z47 = l[i] := by rw [List.getD_eq_getElem?_getD, List.getElem?_eq_getElem hi]; rfl
      simp only [Option.bind_some, Nat.zero_add]
      rw [e2]
      rw [List.drop_zero] at h1
      simpa using h1
    · refine ev_neg (fun h => c ((toList_iff _ _).1 h)) ?_
      have e1 : wrap64 ((i : Int) + 1) = ((i + 1 : Nat) : Int) := by rw [w64 (by omega) (by omega)]; omega
      have ih := find_outer l path name hl hf m (i + 1) (by omega)
      rw [e1, firstI_no c, Option.bind_map]
      have e2 : ((fun q => (firstI ((l.getD (q + i) z47).f1.map S37.f0) name).map (fun k => (q + i, k))) ∘ fun x => x + 1) = (fun q : Nat => (firstI ((l.getD (q + (i + 1)) z47).f1.map S37.f0) name).map (fun k => (q + (i + 1), k))) := by
        funext x; show (firstI ((l.getD (x + 1 + i) z47).f1.map S37.f0) name).map (fun k => (x + 1 + i, k)) = _
        rw [Nat.add_assoc, Nat.add_comm 1 i]
      rw [e2]
      exact ih
theorem ev_find (l : List S47) (path name : ByteArray) (hl : l.length < 1000000) (hf : ∀ p ∈ l, p.f1.length < 1000000) : Ev (fun n => cavilref05_Find.f n l path name) (pl2 (placeL l path name)) := by
  have h := find_outer l path name hl hf l.length 0 (by omega)
  rw [List.drop_zero] at h
  have e : placeL l path name = (firstI (l.map S47.f0) path).bind (fun q => (firstI ((l.getD (q + 0) z47).f1.map S37.f0) name).map (fun k => (q + 0, k))) := by
    unfold placeL
    cases h1 : firstI (l.map S47.f0) path with
    | none => rfl
    | some i =>
      simp only [Option.bind_some, Nat.add_zero]
      cases h2 : firstI ((l.getD i z47).f1.map S37.f0) name <;> rfl
  rw [e]
  exact h
section
variable {w : World} {A : Option Addr} {c : Nat} {zs : List ZP}
theorem Pk.szs (h : Pk w A c zs) : (zs.map ZP.y).length = zs.length ∧ (zs.map ZP.y).length ≤ c ∧ (zs.map ZP.y).length < 1000000 ∧ ∀ p ∈ zs.map ZP.y, p.f1.length < 1000000 := by
  have e0 : (zs.map ZP.y).length = zs.length := List.length_map _
  exact ⟨e0, by rw [e0]; exact h.le, by have := h.fw.1; omega, fun p hp => by have := (h.fw.2 p hp).2.1; omega⟩
theorem refFind_pk (h : Pk w A c zs) (path name : ByteArray) : Calls Tryd.prog 19 #[.slice A zs.length c, .string path, .string name] w fun e w' => e = .returned (.tuple #[.int .i64 (pl2 (placeL (zs.map ZP.y) path name)).1, .int .i64 (pl2 (placeL (zs.map ZP.y) path name)).2]) ∧ Below w.heap.size w w' := by
  obtain ⟨e0, s1, s2, s3⟩ := h.szs
  obtain ⟨k, hk⟩ := ev_find (zs.map ZP.y) path name s2 s3
  have hc := cavilref05_Find.calls k A c (zs.map ZP.y) path name _ _ w h.cy s1 (hk k (Nat.le_refl _))
  rw [e0] at hc
  exact hc.mono (fun e w' h => ⟨h.1, h.2.below⟩)
theorem find_none_pk (h : Pk w A c zs) {path name : ByteArray} (hp : placeL (zs.map ZP.y) path name = none) : Calls Tryd.prog 18 #[.slice A zs.length c, .string path, .string name] w fun e w' => e = .returned (.tuple #[.agg #[.string ⟨#[]⟩, .slice none 0 0], noneW]) ∧ Below w.heap.size w w' := by
  obtain ⟨e0, s1, s2, s3⟩ := h.szs
  have hc := find_none path name h.cy s1 s2 s3 hp
  rw [e0] at hc
  exact hc
theorem find_some_pk (h : Pk w A c zs) {path name : ByteArray} {i k : Nat} (hp : placeL (zs.map ZP.y) path name = some (i, k)) {tx : List Int} (ht : (((zs.map ZP.y).getD i z47).f1.getD k z37).f1 = tx) :
    Calls Tryd.prog 18 #[.slice A zs.length c, .string path, .string name] w fun e w' => ∃ A1 c1, e = .returned (.tuple #[.agg #[.string name, .slice A1 tx.length c1], .nilIface]) ∧ tx.length ≤ c1 ∧ Kd.C (Kd.int .u8) w A1 tx.length tx ∧ Below w.heap.size w w' := by
  obtain ⟨e0, s1, s2, s3⟩ := h.szs
  have hc := find_some path name h.cy s1 s2 s3 hp
  rw [e0, ht] at hc
  exact hc
theorem replace_none_pk (h : Pk w A c zs) {path name : ByteArray} (hp : placeL (zs.map ZP.y) path name = none) (At : Option Addr) (ct m : Nat) : Calls Tryd.prog 20 #[.slice A zs.length c, .string path, .string name, .slice At m ct] w fun e w' => e = .returned (.tuple #[.slice none 0 0, noneW]) ∧ Below w.heap.size w w' := by
  obtain ⟨e0, s1, s2, s3⟩ := h.szs
  have hc := replace_none (At := At) (ct := ct) (m := m) path name h.cy s1 s2 s3 hp
  rw [e0] at hc
  exact hc
end
/-- A replaced file stands where it stood. -/
theorem place_repl {l : List S47} {path name : ByteArray} {i k : Nat} (hp : placeL l path name = some (i, k)) (tx : List Int) : placeL (replY l i k tx) path name = some (i, k) ∧ (((replY l i k tx).getD i z47).f1.getD k z37).f1 = tx ∧ replY (replY l i k tx) i k (((l.getD i z47).f1.getD k z37).f1) = l := by
  obtain ⟨p1, p2, p3, p4⟩ := placeL_lt hp
  have hgi : (replY l i k tx).getD i z47 = ⟨(l.getD i z47).f0, (l.getD i z47).f1.set k ⟨((l.getD i z47).f1.getD k z37).f0, tx⟩⟩ := by
    unfold replY; rw [List.getD_eq_getElem?_getD, List.getElem?_set_self p1]; rfl
  have hn1 : (replY l i k tx).map S47.f0 = l.map S47.f0 := by
    unfold replY
    rw [List.map_set]
    apply List.ext_getElem?
    intro j
    by_cases c : i = j
    · subst c
      rw [List.getElem?_set_self (by rw [List.length_map]; exact p1), List.getElem?_map, List.getElem?_eq_getElem p1, List.getD_eq_getElem?_getD, List.getElem?_eq_getElem p1]; rfl
    · rw [List.getElem?_set_ne c]
  have hn2 : ((l.getD i z47).f1.set k ⟨((l.getD i z47).f1.getD k z37).f0, tx⟩).map S37.f0 = (l.getD i z47).f1.map S37.f0 := by
    rw [List.map_set]
    apply List.ext_getElem?
    intro j
    by_cases c : k = j
    · subst c
      rw [List.getElem?_set_self (by rw [List.length_map]; exact p2), List.getElem?_map, List.getElem?_eq_getElem p2, List.getD_eq_getElem?_getD, List.getElem?_eq_getElem p2]; rfl
    · rw [List.getElem?_set_ne c]
  have hgk : ((l.getD i z47).f1.set k ⟨((l.getD i z47).f1.getD k z37).f0, tx⟩).getD k z37 = ⟨((l.getD i z47).f1.getD k z37).f0, tx⟩ := by
    rw [List.getD_eq_getElem?_getD, List.getElem?_set_self p2]; rfl
  refine ⟨?_, by rw [hgi]; simp only [hgk], ?_⟩
  · unfold placeL at hp ⊢
    rw [hn1]
    cases h1 : firstI (l.map S47.f0) path with
    | none => rw [h1] at hp; cases hp
    | some i' =>
      rw [h1] at hp
      simp only [] at hp ⊢
      cases h2 : firstI ((l.getD i' z47).f1.map S37.f0) name with
      | none => rw [h2] at hp; cases hp
      | some k' =>
        rw [h2] at hp
        obtain ⟨rfl, rfl⟩ := Prod.mk.inj (Option.some.inj hp)
        rw [hgi]
        simp only []
        rw [hn2, h2]
  · have e0 : replY (replY l i k tx) i k (((l.getD i z47).f1.getD k z37).f1) = (replY l i k tx).set i ⟨((replY l i k tx).getD i z47).f0, ((replY l i k tx).getD i z47).f1.set k ⟨(((replY l i k tx).getD i z47).f1.getD k z37).f0, ((l.getD i z47).f1.getD k z37).f1⟩⟩ := rfl
    rw [e0, hgi]
    simp only [hgk]
    unfold replY
    rw [List.set_set, List.set_set]
    apply List.ext_getElem?
    intro j
    by_cases c : i = j
    · subst c
      rw [List.getElem?_set_self p1, List.getElem?_eq_getElem p1]
      congr 1
      have e1 : l.getD i z47 = l[i] := by rw [List.getD_eq_getElem?_getD, List.getElem?_eq_getElem p1]; rfl
      rw [e1] at p2 ⊢
      have e2 : l[i].f1.getD k z37 = l[i].f1[k] := by rw [List.getD_eq_getElem?_getD, List.getElem?_eq_getElem p2]; rfl
      rw [e2]
      have e3 : l[i].f1.set k (⟨l[i].f1[k].f0, l[i].f1[k].f1⟩ : S37) = l[i].f1 := List.set_getElem_self p2
      show (⟨l[i].f0, l[i].f1.set k ⟨l[i].f1[k].f0, l[i].f1[k].f1⟩⟩ : S47) = l[i]
      rw [e3]
    · rw [List.getElem?_set_ne c]
end Go.Proofs.YteakcggbolfelaaDoor.Y
