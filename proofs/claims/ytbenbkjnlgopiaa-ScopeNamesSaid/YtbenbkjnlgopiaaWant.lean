/-
  The plain law of ScopeFinds: the innermost entry of a name among what was put in is what is found.
-/
import Derived.Test.YtbenbkjnlgopiaaInner
namespace Go.Proofs.Ytbenbkjnlgopiaa.X
open Go.RowKit Go.Maps
set_option linter.unusedVariables false
abbrev Wt := Int × Int × ByteArray
def wstep (i : Nat) (n : ByteArray) (st : Wt) (e : Ent) : Wt := if (e.2.2.toList == n.toList) = true ∧ (e.1 : Int) ≤ i ∧ (e.1 : Int) > st.1 then ((e.1 : Int), e.2.1, e.2.2) else st
abbrev wt0 : Wt := (-1, 0, ⟨#[]⟩)
/-- What is found from a scope on: level and number. -/
def res (n : ByteArray) : List Sc → Int × Int
  | [] => (-1, 0)
  | p :: r => match lk p.2.2 n with | some v => ((r.length : Int), v) | none => res n r
theorem res_lt (n : ByteArray) : ∀ q : List Sc, (res n q).1 < q.length
  | [] => by simp [res]
  | p :: r => by
    unfold res
    cases lk p.2.2 n with
    | some v => simp only [List.length_cons]; omega
    | none => have := res_lt n r; simp only [List.length_cons]; omega
theorem wfold_other (i : Nat) (n : ByteArray) : ∀ (L : List Ent) (st : Wt), (∀ e, e ∈ L → ¬ ((e.2.2.toList == n.toList) = true ∧ (e.1 : Int) ≤ i ∧ (e.1 : Int) > st.1)) → L.foldl (wstep i n) st = st
  | [], _, _ => rfl
  | e :: L, st, h => by
    rw [List.foldl_cons]
    have : wstep i n st e = st := by unfold wstep; rw [if_neg (h e List.mem_cons_self)]
    rw [this]
    exact wfold_other i n L st (fun e' he => h e' (List.mem_cons_of_mem _ he))
theorem wfold_level (i l : Nat) (n : ByteArray) (hl : (l : Int) ≤ i) : ∀ (es : Lv) (st : Wt), (es.map (fun q => q.1.toList)).Nodup → st.1 < l →
    (((es.reverse.map (fun q => (l, q.2, q.1))).foldl (wstep i n) st).1, ((es.reverse.map (fun q => (l, q.2, q.1))).foldl (wstep i n) st).2.1) = match lk es n with | some v => ((l : Int), v) | none => (st.1, st.2.1)
  | [], st, _, _ => rfl
  | q :: es, st, hn, hs => by
    rw [List.map_cons, List.nodup_cons] at hn
    rw [List.reverse_cons, List.map_append, List.foldl_append, List.map_cons, List.map_nil, List.foldl_cons, List.foldl_nil]
    have ih := wfold_level i l n hl es st hn.2 hs
    by_cases c : (q.1.toList == n.toList) = true
    · have hnone : lk es n = none := by
        unfold lk
        rw [Option.map_eq_none_iff, List.find?_eq_none]
        intro x hx hxn
        refine hn.1 (List.mem_map.2 ⟨x, hx, ?_⟩)
        rw [beq_iff_eq.1 c, ← beq_iff_eq.1 hxn]
      have hsome : lk (q :: es) n = some q.2 := by unfold lk; rw [List.find?_cons_of_pos (by exact c)]; rfl
      rw [hnone] at ih
      rw [hsome]
      generalize ((es.reverse.map (fun q => (l, q.2, q.1))).foldl (wstep i n) st) = X at ih
      have ih' : (X.1, X.2.1) = (st.1, st.2.1) := ih
      have e1 : X.1 = st.1 := (Prod.mk.inj ih').1
      unfold wstep
      rw [if_pos ⟨c, hl, by rw [e1]; exact hs⟩]
    · have hsame : lk (q :: es) n = lk es n := by unfold lk; rw [List.find?_cons_of_neg (by simpa using c)]
      rw [hsame]
      have : ∀ X, wstep i n X (l, q.2, q.1) = X := fun X => by unfold wstep; rw [if_neg (fun h => c h.1)]
      rw [this]
      exact ih
theorem wfold_res (i : Nat) (n : ByteArray) : ∀ q : List Sc, (q.length : Int) ≤ i + 1 → (∀ p, p ∈ q → (p.2.2.map (fun x => x.1.toList)).Nodup) →
    (((inOf q).foldl (wstep i n) wt0).1, ((inOf q).foldl (wstep i n) wt0).2.1) = res n q
  | [], _, _ => rfl
  | p :: r, h, hk => by
    have ih := wfold_res i n r (by simp only [List.length_cons] at h; omega) (fun x hx => hk x (List.mem_cons_of_mem _ hx))
    rw [show inOf (p :: r) = inOf r ++ p.2.2.reverse.map (fun q => (r.length, q.2, q.1)) from rfl, List.foldl_append]
    generalize (inOf r).foldl (wstep i n) wt0 = X at ih
    have e1 : X.1 = (res n r).1 := by rw [← ih]
    have hlt := res_lt n r
    rw [wfold_level i r.length n (by simp only [List.length_cons] at h; omega) p.2.2 X (hk p List.mem_cons_self) (by omega)]
    unfold res
    cases lk p.2.2 n with
    | some v => rfl
    | none => exact ih
/-- Over all scopes: those further in play no part. -/
theorem wfold_all (n : ByteArray) (pre : List Sc) (s : Sc) (r : List Sc) (hk : ∀ p, p ∈ s :: r → (p.2.2.map (fun x => x.1.toList)).Nodup) :
    (((inOf (pre ++ s :: r)).foldl (wstep r.length n) wt0).1, ((inOf (pre ++ s :: r)).foldl (wstep r.length n) wt0).2.1) = res n (s :: r) := by
  induction pre with
  | nil => exact wfold_res r.length n (s :: r) (by simp) hk
  | cons p pre ih =>
    rw [show inOf (p :: pre ++ s :: r) = inOf (pre ++ s :: r) ++ p.2.2.reverse.map (fun q => ((pre ++ s :: r).length, q.2, q.1)) from rfl, List.foldl_append]
    rw [wfold_other r.length n _ _ (fun e he h => by
      obtain ⟨q, _, rfl⟩ := List.mem_map.1 he
      have := h.2.1
      simp only [List.length_append, List.length_cons] at this
      omega)]
    exact ih
theorem fnd_res (n : ByteArray) : ∀ (q : List Sc) (k : Nat), match fnd n q k with
    | some x => res n q = ((q.length : Int) - 1 - ((x.2 : Int) - k), x.1) ∧ k ≤ x.2 ∧ x.2 < k + q.length
    | none => res n q = (-1, 0)
  | [], _ => rfl
  | p :: r, k => by
    unfold fnd res
    cases c : lk p.2.2 n with
    | some v => simp only [List.length_cons]; refine ⟨?_, by omega, by omega⟩; congr 1; omega
    | none =>
      have h := fnd_res n r (k + 1)
      simp only []
      cases d : fnd n r (k + 1) with
      | none => rw [d] at h; exact h
      | some x =>
        rw [d] at h
        obtain ⟨h1, h2, h3⟩ := h
        refine ⟨?_, by omega, by simp only [List.length_cons]; omega⟩
        rw [h1]; congr 1; simp only [List.length_cons]; omega
end Go.Proofs.Ytbenbkjnlgopiaa.X
