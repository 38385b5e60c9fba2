/-
  The plain facts of names: sorted, without doubles, what is found; how many entries stand at one depth.
-/
import Derived.Test.YtbenbkjnlgopiaaAll
namespace Go.Proofs.Ytbenbkjnlgopiaa.X
open Go.RowKit Go.Maps Go.Proofs.YtbenbkjnlgopiaaW.PrintWords Go.Proofs.YtbenbkjnlgopiaaW.PrintLast Go.Proofs.YtbenbkjnlgopiaaW.PrintMore
open Go.Proofs.Ytbenbkjnlgopiaa.XS Go.Sort
set_option linter.unusedVariables false
set_option linter.unusedSimpArgs false
def dl (b : ByteArray) : List UInt8 := b.data.toList
theorem dl_DB (x : List UInt8) : dl (DB x) = x := by unfold dl DB; simp
theorem DB_dl (x : ByteArray) : DB (dl x) = x := by unfold dl DB; simp
theorem tl_dl (x : ByteArray) : x.toList = dl x := ByteArray.toList_eq x
theorem dl_inj {x y : ByteArray} (h : dl x = dl y) : x = y := by rw [← DB_dl x, h, DB_dl]
theorem key_size {w : World} {mb : Nat} {es : Lv} (hown : w.ownsMap Try.prog 9 (plainElem Try.prog 3) mb es.length (mapD es)) {n : ByteArray} (h : (lk es n).isSome = true) : n.size ≤ maxLen := by
  obtain ⟨es2, hD, hko⟩ := hown.keysOf
  have hh := has_mapD n es
  rw [h, hD, has_eq, List.any_eq_true] at hh
  obtain ⟨p, hp, he⟩ := hh
  obtain ⟨v, hv⟩ := hko p hp
  obtain ⟨x, _, hx, hl⟩ := Maps.keyOf_str Try.underlying9 hv
  rw [hx] at he
  have he' : x = n.data.toList := by simpa [Lit.sameKey] using he
  rw [he'] at hl
  simpa using hl
theorem srt_perm (l : List ByteArray) : (srt l).Perm l := by
  have h := (List.mergeSort_perm (l.map (·.data.toList)) (fun x y => decide (x ≤ y))).map DB
  rw [List.map_map] at h
  have e : l.map (DB ∘ fun x => x.data.toList) = l := by
    rw [show (DB ∘ fun x : ByteArray => x.data.toList) = id by funext x; exact DB_dl x, List.map_id]
  rw [e] at h
  exact h
theorem srt_le (l : List ByteArray) : ((srt l).map dl).Pairwise (fun a b => a ≤ b) := by
  unfold srt
  rw [List.map_map, show (dl ∘ DB) = id by funext x; exact dl_DB x, List.map_id]
  have h := List.pairwise_mergeSort (le := fun (x y : List UInt8) => decide (x ≤ y)) (fun a b c h1 h2 => by simp only [decide_eq_true_eq] at *; exact List.le_trans h1 h2) (fun a b => by simp only [Bool.or_eq_true, decide_eq_true_eq]; exact List.le_total a b) (l.map (·.data.toList))
  exact h.imp (fun h => by simpa using h)
theorem nm_mem (es : Lv) (x : ByteArray) : x ∈ nmL es ↔ (lk es x).isSome = true := by
  unfold nmL
  rw [(srt_perm _).mem_iff, lk_some_iff, List.mem_map]
  constructor
  · rintro ⟨p, hp, rfl⟩; exact ⟨p, hp, rfl⟩
  · rintro ⟨p, hp, h⟩; exact ⟨p, hp, dl_inj (by rw [← tl_dl, ← tl_dl]; exact h)⟩
theorem nm_lt {es : Lv} (hk : (es.map (fun q => q.1.toList)).Nodup) : ((nmL es).map dl).Pairwise (fun a b => a < b) := by
  have h1 : ((nmL es).map dl).Nodup := by
    unfold nmL
    refine ((srt_perm (es.map (·.1))).map dl).nodup_iff.2 ?_
    rw [List.map_map]
    exact data_nodup hk
  exact ((srt_le _).and h1).imp (fun h => Cmp.lt_of_le_ne h.1 h.2)
theorem fnd_iff (n : ByteArray) : ∀ (q : List Sc) (k : Nat), (fnd n q k).isSome = true ↔ ∃ p, p ∈ q ∧ (lk p.2.2 n).isSome = true
  | [], k => by simp [fnd]
  | p :: r, k => by
    unfold fnd
    cases c : lk p.2.2 n with
    | some v => simp only [Option.isSome_some, true_iff]; exact ⟨p, List.mem_cons_self, by rw [c]; rfl⟩
    | none =>
      simp only []
      rw [fnd_iff n r (k + 1)]
      constructor
      · rintro ⟨p', h, h2⟩; exact ⟨p', List.mem_cons_of_mem _ h, h2⟩
      · rintro ⟨p', h, h2⟩
        rcases List.mem_cons.1 h with rfl | h
        · rw [c] at h2; cases h2
        · exact ⟨p', h, h2⟩
theorem cat_mem (q : List Sc) (x : ByteArray) : x ∈ cat q ↔ (fnd x q 0).isSome = true := by
  unfold cat
  rw [List.mem_flatMap, fnd_iff]
  constructor
  · rintro ⟨p, hp, h⟩; exact ⟨p, hp, (nm_mem _ _).1 h⟩
  · rintro ⟨p, hp, h⟩; exact ⟨p, hp, (nm_mem _ _).2 h⟩
theorem cmp_dl (l : List ByteArray) : (cmp l).map dl = Lib.compact (l.map dl) := by
  unfold cmp
  rw [List.map_map, show (dl ∘ DB) = id by funext x; exact dl_DB x, List.map_id]; rfl
theorem all_lt (q : List Sc) : ((allL q).map dl).Pairwise (fun a b => a < b) := by
  unfold allL
  rw [cmp_dl]
  exact (Cmp.compact_spec _ (srt_le _)).1
theorem all_mem (q : List Sc) (x : ByteArray) : x ∈ allL q ↔ (fnd x q 0).isSome = true := by
  rw [← cat_mem, ← (srt_perm (cat q)).mem_iff]
  have h : ∀ l : List ByteArray, x ∈ l ↔ dl x ∈ l.map dl := fun l => by
    rw [List.mem_map]
    exact ⟨fun h => ⟨x, h, rfl⟩, fun ⟨y, hy, e⟩ => by rw [← dl_inj e]; exact hy⟩
  rw [h, h (srt (cat q))]
  unfold allL
  rw [cmp_dl]
  exact (Cmp.compact_spec _ (srt_le _)).2 _
theorem cat_len : ∀ q : List Sc, (cat q).length = (inOf q).length
  | [] => rfl
  | p :: r => by
    rw [show cat (p :: r) = nmL p.2.2 ++ cat r from rfl, show inOf (p :: r) = inOf r ++ p.2.2.reverse.map (fun q => (r.length, q.2, q.1)) from rfl]
    simp [nmL_len, cat_len r]; omega
theorem all_len (q : List Sc) : (allL q).length ≤ (inOf q).length := by
  rw [← cat_len]
  unfold allL cmp
  rw [List.length_map]
  refine Nat.le_trans (Lib.compact_length_le _) ?_
  rw [List.length_map, srt_len]
  exact Nat.le_refl _
theorem inOf_app : ∀ (pre q : List Sc), (inOf q).length ≤ (inOf (pre ++ q)).length
  | [], q => Nat.le_refl _
  | p :: pre, q => by
    have := inOf_app pre q
    rw [show inOf (p :: pre ++ q) = inOf (pre ++ q) ++ p.2.2.reverse.map (fun x => ((pre ++ q).length, x.2, x.1)) from rfl, List.length_append]
    omega
theorem inOf_own (s : Sc) (r : List Sc) : s.2.2.length ≤ (inOf (s :: r)).length := by
  rw [show inOf (s :: r) = inOf r ++ s.2.2.reverse.map (fun q => (r.length, q.2, q.1)) from rfl]
  simp
/-- How many entries stand at one depth. -/
def cnt (i : Nat) (L : List Ent) : Nat := (L.filter (fun e => e.1 == i)).length
theorem cnt_succ {i : Nat} {L : List Ent} {j : Nat} {e : Ent} (h : L[j]? = some e) : cnt i (L.take (j + 1)) = cnt i (L.take j) + if e.1 = i then 1 else 0 := by
  obtain ⟨hj, rfl⟩ := List.getElem?_eq_some_iff.1 h
  unfold cnt
  rw [List.take_succ_eq_append_getElem hj, List.filter_append, List.length_append]
  congr 1
  by_cases c : L[j].1 = i
  · rw [if_pos c]; rw [List.filter_cons_of_pos (by simpa using c)]; rfl
  · rw [if_neg c]; rw [List.filter_cons_of_neg (by simpa using c)]; rfl
theorem cnt_le (i : Nat) (L : List Ent) : cnt i L ≤ L.length := List.length_filter_le _ _
theorem cnt_all (pre : List Sc) (s : Sc) (r : List Sc) : cnt r.length (inOf (pre ++ s :: r)) = s.2.2.length := by
  induction pre with
  | nil =>
    unfold cnt
    rw [show inOf ([] ++ s :: r) = inOf r ++ s.2.2.reverse.map (fun q => (r.length, q.2, q.1)) from rfl, List.filter_append, List.length_append]
    have h1 : (inOf r).filter (fun e => e.1 == r.length) = [] := by
      rw [List.filter_eq_nil_iff]
      intro e he h
      have := inOf_lt r e he
      have : e.1 = r.length := by simpa using h
      omega
    have h2 : (s.2.2.reverse.map (fun q => (r.length, q.2, q.1))).filter (fun e : Ent => e.1 == r.length) = s.2.2.reverse.map (fun q => (r.length, q.2, q.1)) := by
      rw [List.filter_eq_self]
      intro e he
      obtain ⟨q, _, rfl⟩ := List.mem_map.1 he
      simp
    rw [h1, h2]; simp
  | cons p pre ih =>
    unfold cnt at ih ⊢
    rw [show inOf (p :: pre ++ s :: r) = inOf (pre ++ s :: r) ++ p.2.2.reverse.map (fun q => ((pre ++ s :: r).length, q.2, q.1)) from rfl, List.filter_append, List.length_append, ih]
    have h2 : (p.2.2.reverse.map (fun q => ((pre ++ s :: r).length, q.2, q.1))).filter (fun e : Ent => e.1 == r.length) = [] := by
      rw [List.filter_eq_nil_iff]
      intro e he h
      obtain ⟨q, _, rfl⟩ := List.mem_map.1 he
      have : (pre ++ s :: r).length = r.length := by simpa using h
      simp only [List.length_append, List.length_cons] at this
      omega
    rw [h2]; rfl
theorem rise {l : List ByteArray} (h : (l.map dl).Pairwise (fun a b => a < b)) {i j : Nat} {x y : ByteArray} (hij : i < j) (hx : l[i]? = some x) (hy : l[j]? = some y) : dl x < dl y := by
  obtain ⟨hi, rfl⟩ := List.getElem?_eq_some_iff.1 hx
  obtain ⟨hj, rfl⟩ := List.getElem?_eq_some_iff.1 hy
  have := List.pairwise_iff_getElem.1 h i j (by simpa using hi) (by simpa using hj) hij
  simpa using this
theorem rise_b {l : List ByteArray} (h : (l.map dl).Pairwise (fun a b => a < b)) {i j : Nat} {x y : ByteArray} (hij : i < j) (hx : l[i]? = some x) (hy : l[j]? = some y) : Op.bytesLess x.toList y.toList = true := by
  rw [bytesLess_eq, tl_dl, tl_dl, decide_eq_true_eq]; exact rise h hij hx hy
def hasn (n : ByteArray) (l : List ByteArray) : Bool := l.any (fun x => x.toList == n.toList)
theorem hasn_succ {n : ByteArray} {l : List ByteArray} {j : Nat} {x : ByteArray} (h : l[j]? = some x) : hasn n (l.take (j + 1)) = (hasn n (l.take j) || (x.toList == n.toList)) := by
  obtain ⟨hj, rfl⟩ := List.getElem?_eq_some_iff.1 h
  unfold hasn
  rw [List.take_succ_eq_append_getElem hj, List.any_append]; simp
theorem hasn_all (n : ByteArray) (q : List Sc) : hasn n (allL q) = (fnd n q 0).isSome := by
  rw [Bool.eq_iff_iff, ← all_mem]
  unfold hasn
  rw [List.any_eq_true]
  constructor
  · rintro ⟨x, hx, h⟩
    have : x = n := dl_inj (by rw [← tl_dl, ← tl_dl]; simpa using h)
    rw [← this]; exact hx
  · intro h; exact ⟨n, h, by simp⟩
theorem fnd_size {w : World} {q : List Sc} {o : Value} (hc : Chain w q o) {n : ByteArray} (h : (fnd n q 0).isSome = true) : n.size ≤ maxLen := by
  obtain ⟨p, hp, hl⟩ := (fnd_iff n q 0).1 h
  have : ∀ (q : List Sc) (o : Value), Chain w q o → p ∈ q → ∃ o', ScAt w p.1 p.2.1 o' p.2.2 := by
    intro q
    induction q with
    | nil => intro o _ h; cases h
    | cons a r ih =>
      rintro o ⟨_, o', h2, h3⟩ hp
      rcases List.mem_cons.1 hp with rfl | hp
      · exact ⟨_, h2⟩
      · exact ih _ h3 hp
  obtain ⟨o', hs⟩ := this q o hc hp
  exact key_size hs.own hl
/-- A row that is one's own: its cells, and where it lies. -/
theorem own_at {N : Nat} {v : Value} {l : List ByteArray} {w : World} (h : w.ownsRow N 9 1 v l.length (l.map Value.string)) :
    ∃ A c, v = .slice A l.length c ∧ ∀ j x, l[j]? = some x → ∃ g, A = some ⟨g, 0, none⟩ ∧ g < w.heap.size ∧ w.cell? ⟨g, j, none⟩ = some (.string x) := by
  rcases h.2 with ⟨rfl, hz⟩ | ⟨g, cap, cur, rfl, hbg, hb, h1, h2, h3, h4⟩
  · obtain rfl := List.eq_nil_of_length_eq_zero hz
    exact ⟨none, 0, rfl, fun j x hj => by simp at hj⟩
  · refine ⟨_, _, rfl, fun j x hj => ⟨g, rfl, (Array.getElem?_eq_some_iff.1 hb).1, ?_⟩⟩
    have := h.cells (g := g) rfl j (.string x) (by rw [List.getElem?_map, hj]; rfl)
    rwa [add_plain] at this
end Go.Proofs.Ytbenbkjnlgopiaa.X
