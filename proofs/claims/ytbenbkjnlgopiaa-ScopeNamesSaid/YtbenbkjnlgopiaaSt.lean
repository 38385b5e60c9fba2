/-
  The deeds: what stands in memory behind them; how it goes on.
-/
import Derived.Test.YtbenbkjnlgopiaaWk
import Derived.WalkSmall
import Derived.Maps.AppendAt
namespace Go.Proofs.Ytbenbkjnlgopiaa.X
open Go.WideMaps (keyOf_string_mk)
open Go.RowKit Go.Maps Go.Proofs.YtbenbkjnlgopiaaW.PrintWords Go.Proofs.YtbenbkjnlgopiaaW.PrintLast Go.Proofs.YtbenbkjnlgopiaaW.PrintMore
set_option linter.unusedVariables false
set_option linter.unusedSimpArgs false
/-- The entries, in the order in which they were put in: level, number, name. -/
abbrev Ent := Nat × Int × ByteArray
def inOf : List Sc → List Ent
  | [] => []
  | p :: r => inOf r ++ p.2.2.reverse.map (fun q => (r.length, q.2, q.1))
def entC (e : Ent) : List Value := [.int .i64 (e.1 : Int), .int .i64 e.2.1, .string e.2.2]
def inC (l : List Ent) : List Value := l.flatMap entC
def ptrs (ls : List Sc) : List Value := ls.reverse.map (fun p => .pointer (some ⟨p.1, 0, none⟩))
structure St (N : Nat) (w0 w : World) (ls : List Sc) (v5 v6 : Value) : Prop where
  ne : ls ≠ []
  all : w.ownsRow N 29 1 v5 ls.length (ptrs ls)
  inn : w.ownsRow N 41 3 v6 (inOf ls).length (inC (inOf ls))
  ch : ∃ o, Chain w ls o
  mbs : (ls.map (fun p => p.2.1)).Nodup
  lo : ∀ p, p ∈ ls → N ≤ p.1 ∧ N ≤ p.2.1
  keys : ∀ p, p ∈ ls → (p.2.2.map (fun q => q.1.toList)).Nodup
  below : Below N w0 w
theorem info29 : (Try.prog.info? 29).map (fun i => (i.zero, i.size, i.bytes)) = some (some (.pointer none), 1, 8) := by kernel_rfl
theorem info41 : (Try.prog.info? 41).map (fun i => (i.zero, i.size, i.bytes)) = some (some (.agg #[.int .i64 0, .int .i64 0, .string ⟨#[]⟩]), 3, 32) := by kernel_rfl
theorem inC_len (l : List Ent) : (inC l).length = l.length * 3 := by
  induction l with
  | nil => rfl
  | cons e l ih => unfold inC at ih ⊢; rw [List.flatMap_cons, List.length_append, ih, List.length_cons]; simp [entC]; omega
theorem ptrs_len (ls : List Sc) : (ptrs ls).length = ls.length := by simp [ptrs]
theorem st_start {w w1 : World} (s : ScAt w1 (w.heap.size + 1) w.heap.size (.pointer none) []) (b : Below w.heap.size w w1) :
    St w.heap.size w (w1.alloc (.cells #[.pointer (some ⟨w.heap.size + 1, 0, none⟩)] 29)) [(w.heap.size + 1, w.heap.size, [])] (.slice (some ⟨w1.heap.size, 0, none⟩) 1 1) (.slice none 0 0) where
  ne := by simp
  all := World.ownsRow_lit w1 #[.pointer (some ⟨w.heap.size + 1, 0, none⟩)] 1 b.size (by unfold maxLen; omega) rfl
  inn := World.ownsRow_nil _ _ _ _
  ch := ⟨_, rfl, _, s.keep (Below.heap_alloc w1 _ _ s.lt.1) (Below.heap_alloc w1 _ _ s.lt.2), rfl⟩
  mbs := by simp
  lo := fun p hp => by rw [List.mem_singleton.1 hp]; exact ⟨by show _ ≤ w.heap.size + 1; omega, Nat.le_refl _⟩
  keys := fun p hp => by rw [List.mem_singleton.1 hp]; simp
  below := b.alloc b.size _
theorem Chain.grown {X X' : World} {N e size n : Nat} {v : Value} {xs : List Value} (ho : X.ownsRow N e size v n xs) (he : e ≠ 49) (hg : X.grownBy X' v.ownBlock) : ∀ {ls : List Sc} {o : Value}, Chain X ls o → Chain X' ls o
  | [], _, h => h
  | p :: r, _, ⟨h1, o', h2, h3⟩ => by
    refine ⟨h1, o', h2.keep (hg.block _ h2.lt.1 ?_) (hg.block _ h2.lt.2 ?_), Chain.grown ho he hg h3⟩
    · exact own_ne ho h2.cells he
    · intro e1
      obtain ⟨es, clock, hb, _⟩ := h2.own
      obtain ⟨cells, hc⟩ := own_typed ho p.2.1 e1.symm
      rw [hc] at hb; cases hb
theorem St.below' {N : Nat} {w0 wr w' : World} {ls : List Sc} {v5 v6 : Value} (h : St N w0 wr ls v5 v6) (hb : Below wr.heap.size wr w') : St N w0 w' ls v5 v6 where
  ne := h.ne
  all := pw_own_below h.all hb
  inn := pw_own_below h.inn hb
  ch := let ⟨o, k⟩ := h.ch; ⟨o, k.below hb⟩
  mbs := h.mbs
  lo := h.lo
  keys := h.keys
  below := h.below.trans (hb.mono (by obtain ⟨o, k⟩ := h.ch; cases ls with | nil => exact absurd rfl h.ne | cons p r => have := k.lt p List.mem_cons_self; have := h.lo p List.mem_cons_self; omega))
theorem St.size {N : Nat} {w0 w : World} {ls : List Sc} {v5 v6 : Value} (h : St N w0 w ls v5 v6) : N ≤ w.heap.size := by
  obtain ⟨o, k⟩ := h.ch
  cases ls with
  | nil => exact absurd rfl h.ne
  | cons p r => have := k.lt p List.mem_cons_self; have := h.lo p List.mem_cons_self; omega
theorem St.push {N : Nat} {w0 wr W w2 w3 : World} {ob2 : Obj} {p : Sc} {r : List Sc} {v5 v6 v5' : Value} (h : St N w0 wr (p :: r) v5 v6) (hW : Below wr.heap.size wr W)
    (s2 : ScAt w2 (W.heap.size + 1) W.heap.size (.pointer (some ⟨p.1, 0, none⟩)) []) (b2 : Below W.heap.size W w2)
    (ho : w3.ownsRow N 29 1 v5' ((p :: r).length + 1) (ptrs (p :: r) ++ [.pointer (some ⟨W.heap.size + 1, 0, none⟩)])) (hg : (w2.alloc ob2).grownBy w3 v5.ownBlock) :
    St N w0 w3 ((W.heap.size + 1, W.heap.size, []) :: p :: r) v5' v6 := by
  have hb : Below wr.heap.size wr (w2.alloc ob2) := (hW.trans (b2.mono hW.size)).alloc (Nat.le_trans hW.size b2.size) _
  have hX := h.below' hb
  obtain ⟨o, k⟩ := hX.ch
  obtain ⟨rfl, o', k1, k2⟩ := k
  have hs := h.size
  have hWs := hW.size
  have s3 : ScAt (w2.alloc ob2) (W.heap.size + 1) W.heap.size (.pointer (some ⟨p.1, 0, none⟩)) [] := s2.keep (Below.heap_alloc w2 _ _ s2.lt.1) (Below.heap_alloc w2 _ _ s2.lt.2)
  have hch : Chain (w2.alloc ob2) ((W.heap.size + 1, W.heap.size, []) :: p :: r) (.pointer (some ⟨W.heap.size + 1, 0, none⟩)) := ⟨rfl, _, s3, rfl, _, k1, k2⟩
  obtain ⟨o0, k0⟩ := h.ch
  exact {
    ne := by simp
    all := by
      have e : ptrs ((W.heap.size + 1, W.heap.size, []) :: p :: r) = ptrs (p :: r) ++ [.pointer (some ⟨W.heap.size + 1, 0, none⟩)] := by simp [ptrs]
      rw [e]; exact ho
    inn := by
      have e : inOf ((W.heap.size + 1, W.heap.size, []) :: p :: r) = inOf (p :: r) := by show inOf (p :: r) ++ _ = _; simp
      rw [e]
      exact own_other hX.inn hg (own_type_ne hX.inn hX.all (by decide))
    ch := ⟨_, Chain.grown hX.all (by decide) hg hch⟩
    mbs := by
      rw [List.map_cons, List.nodup_cons]
      refine ⟨fun hm => ?_, h.mbs⟩
      obtain ⟨q, hq, e⟩ := List.mem_map.1 hm
      have := (k0.lt q hq).2
      simp only at e
      omega
    lo := fun q hq => by
      rcases List.mem_cons.1 hq with rfl | hq
      · exact ⟨by show _ ≤ W.heap.size + 1; omega, by show _ ≤ W.heap.size; omega⟩
      · exact h.lo q hq
    keys := fun q hq => by
      rcases List.mem_cons.1 hq with rfl | hq
      · simp
      · exact h.keys q hq
    below := hX.below.grown hg hX.size (fun j hj => own_base hX.all j hj) }
theorem in_nil {W : World} {N : Nat} {v6 : Value} {L : List Ent} (h : W.ownsRow N 41 3 v6 L.length (inC L)) : ∃ A c, v6 = .slice A L.length c := by
  rcases h.2 with ⟨rfl, e⟩ | ⟨g, cap, cur, rfl, _⟩
  · rw [e]; exact ⟨_, _, rfl⟩
  · exact ⟨_, _, rfl⟩
theorem inC_snoc (L : List Ent) (e : Ent) : inC (L ++ [e]) = inC L ++ entC e := by unfold inC; rw [List.flatMap_append]; simp
theorem in_snoc {W : World} {N : Nat} {v6 : Value} {L : List Ent} {e : Ent} (h : W.ownsRow N 41 3 v6 (L ++ [e]).length (inC (L ++ [e]))) :
    ∃ g c, v6 = .slice (some ⟨g, 0, none⟩) (L.length + 1) c ∧ W.cell? ⟨g, L.length * 3, none⟩ = some (.int .i64 (e.1 : Int)) ∧ L.length + 1 ≤ c ∧ W.ownsRow N 41 3 (.slice (some ⟨g, 0, none⟩) L.length c) L.length (inC L) := by
  rw [List.length_append, List.length_singleton, inC_snoc] at h
  rcases h.2 with ⟨_, e0⟩ | ⟨g, cap, cur, rfl, k1, k2, k3, k4⟩
  · omega
  · refine ⟨g, cap, rfl, ?_, k3, ownsRow_pop (inC_len L) h⟩
    have hx : (inC L ++ entC e)[L.length * 3]? = some (.int .i64 (e.1 : Int)) := by
      rw [List.getElem?_append_right (by rw [inC_len]; exact Nat.le_refl _), inC_len, Nat.sub_self]; rfl
    have hc := h.cells (g := g) rfl (L.length * 3) _ hx
    rw [add_plain] at hc
    exact hc
/-- All levels are lower than the number of scopes. -/
theorem inOf_lt : ∀ (ls : List Sc) (e : Ent), e ∈ inOf ls → e.1 < ls.length
  | [], e, h => by simp [inOf] at h
  | p :: r, e, h => by
    rcases List.mem_append.1 (show e ∈ inOf r ++ p.2.2.reverse.map (fun q => (r.length, q.2, q.1)) from h) with h | h
    · have := inOf_lt r e h; simp; omega
    · obtain ⟨q, _, rfl⟩ := List.mem_map.1 h; simp
theorem ptrs_cons (p : Sc) (r : List Sc) : ptrs (p :: r) = ptrs r ++ [.pointer (some ⟨p.1, 0, none⟩)] := by simp [ptrs]
theorem St.pop {N : Nat} {w0 w : World} {p : Sc} {r : List Sc} {g cap : Nat} {v6 v6' : Value} (h : St N w0 w (p :: r) (.slice (some ⟨g, 0, none⟩) (r.length + 1) cap) v6) (hr : r ≠ []) (ho : w.ownsRow N 41 3 v6' (inOf r).length (inC (inOf r))) :
    St N w0 w r (.slice (some ⟨g, 0, none⟩) r.length cap) v6' := by
  obtain ⟨o, k⟩ := h.ch
  obtain ⟨_, o', _, k2⟩ := k
  have ha := h.all
  rw [ptrs_cons] at ha
  exact {
    ne := hr
    all := ownsRow_pop (by rw [ptrs_len]; omega) ha
    inn := ho
    ch := ⟨o', k2⟩
    mbs := by have := h.mbs; rw [List.map_cons, List.nodup_cons] at this; exact this.2
    lo := fun q hq => h.lo q (List.mem_cons_of_mem _ hq)
    keys := fun q hq => h.keys q (List.mem_cons_of_mem _ hq)
    below := h.below }
theorem entC_len (e : Ent) : (entC e).length = 3 := rfl
theorem inC_get : ∀ (L : List Ent) (j k : Nat) (e : Ent), L[j]? = some e → k < 3 → (inC L)[j * 3 + k]? = (entC e)[k]?
  | [], j, k, e, h, _ => by simp at h
  | x :: L, 0, k, e, h, hk => by
    have : x = e := by simpa using h
    subst this
    show (entC x ++ inC L)[0 * 3 + k]? = _
    rw [Nat.zero_mul, Nat.zero_add, List.getElem?_append_left (by rw [entC_len]; exact hk)]
  | x :: L, j + 1, k, e, h, hk => by
    show (entC x ++ inC L)[(j + 1) * 3 + k]? = _
    rw [List.getElem?_append_right (by rw [entC_len]; omega), entC_len, show (j + 1) * 3 + k - 3 = j * 3 + k by omega]
    exact inC_get L j k e (by simpa using h) hk
theorem in_at {W : World} {N : Nat} {v6 : Value} {L : List Ent} (h : W.ownsRow N 41 3 v6 L.length (inC L)) :
    ∃ A c, v6 = .slice A L.length c ∧ ∀ j e, L[j]? = some e → ∃ g, A = some ⟨g, 0, none⟩ ∧ g < W.heap.size ∧ W.cell? ⟨g, j * 3, none⟩ = some (.int .i64 (e.1 : Int)) ∧ W.cell? ⟨g, j * 3 + 1, none⟩ = some (.int .i64 e.2.1) ∧ W.cell? ⟨g, j * 3 + 2, none⟩ = some (.string e.2.2) := by
  have hh := h
  rcases h.2 with ⟨rfl, e0⟩ | ⟨g, cap, cur, rfl, k1, k2, k3, k4⟩
  · refine ⟨none, 0, by rw [e0], fun j e hj => ?_⟩
    have := (List.getElem?_eq_some_iff.1 hj).1
    omega
  · refine ⟨_, _, rfl, fun j e hj => ⟨g, rfl, (Array.getElem?_eq_some_iff.1 k2).1, ?_, ?_, ?_⟩⟩
    · have := hh.cells (g := g) rfl (j * 3 + 0) _ ((inC_get L j 0 e hj (by omega)).trans rfl)
      rwa [add_plain] at this
    · have := hh.cells (g := g) rfl (j * 3 + 1) _ ((inC_get L j 1 e hj (by omega)).trans rfl)
      rwa [add_plain] at this
    · have := hh.cells (g := g) rfl (j * 3 + 2) _ ((inC_get L j 2 e hj (by omega)).trans rfl)
      rwa [add_plain] at this
/-- Is the name there on this level? -/
def hit (l : Nat) (n : ByteArray) (e : Ent) : Bool := decide (e.1 = l) && (e.2.2.toList == n.toList)
def wantOf (l : Nat) (n : ByteArray) (L : List Ent) : Int := if L.any (hit l n) = true then 6 else 0
theorem want_succ {l : Nat} {n : ByteArray} {L : List Ent} {j : Nat} {e : Ent} (h : L[j]? = some e) : wantOf l n (L.take (j + 1)) = if hit l n e = true then 6 else wantOf l n (L.take j) := by
  obtain ⟨hj, rfl⟩ := List.getElem?_eq_some_iff.1 h
  unfold wantOf
  rw [List.take_succ_eq_append_getElem hj, List.any_append]
  by_cases c : hit l n L[j] = true
  · rw [if_pos c, if_pos (by simp [c])]
  · rw [if_neg c]
    have : hit l n L[j] = false := by simpa using c
    rw [List.any_cons, List.any_nil, this, Bool.or_false, Bool.or_false]
theorem want_model (p : Sc) (r : List Sc) (n : ByteArray) : wantOf r.length n (inOf (p :: r)) = if (lk p.2.2 n).isSome = true then 6 else 0 := by
  unfold wantOf
  have e : (inOf (p :: r)).any (hit r.length n) = (lk p.2.2 n).isSome := by
    rw [show inOf (p :: r) = inOf r ++ p.2.2.reverse.map (fun q => (r.length, q.2, q.1)) from rfl, List.any_append]
    have h1 : (inOf r).any (hit r.length n) = false := by
      rw [List.any_eq_false]
      intro x hx
      have := inOf_lt r x hx
      unfold hit
      rw [decide_eq_false (by omega)]; simp
    rw [h1, Bool.false_or, List.any_map, List.any_reverse]
    unfold lk
    rw [Option.isSome_map]
    induction p.2.2 with
    | nil => rfl
    | cons q es ih =>
      rw [List.any_cons, List.find?_cons, ih]
      by_cases c : (q.1.toList == n.toList) = true
      · simp [hit, c]
      · have c' : (q.1.toList == n.toList) = false := by simpa using c
        simp [hit, c']
  rw [e]
theorem own_turned {X X' : World} {N e size n mb : Nat} {v : Value} {xs : List Value} (h : X.ownsRow N e size v n xs) (ht : X.mapTurned X' mb) : X'.ownsRow N e size v n xs := by
  refine own_other h ht.grown ?_
  cases hv : v.ownBlock with
  | none => exact .inl rfl
  | some k =>
    refine .inr fun e1 => ?_
    injection e1 with e1
    subst e1
    obtain ⟨cells, hc⟩ := own_typed h k hv
    obtain ⟨es, clock, es', clock', hb, _⟩ := ht
    rw [hc] at hb; cases hb
theorem Chain.turned {X X' : World} {mb : Nat} (ht : X.mapTurned X' mb) : ∀ {ls : List Sc} {o : Value}, Chain X ls o → (∀ p, p ∈ ls → p.2.1 ≠ mb) → Chain X' ls o
  | [], _, h, _ => h
  | p :: r, _, ⟨h1, o', h2, h3⟩, hne => by
    refine ⟨h1, o', h2.keep (turned_keep ht h2.lt.1 ?_) (turned_keep ht h2.lt.2 (hne p List.mem_cons_self)), Chain.turned ht h3 (fun q hq => hne q (List.mem_cons_of_mem _ hq))⟩
    intro e
    obtain ⟨es, clock, es', clock', hb, _⟩ := ht
    rw [← e, h2.cells] at hb; cases hb
theorem St.put {N : Nat} {w0 X0 X1 X2 X4 : World} {ob : Obj} {p : Sc} {r : List Sc} {o' : Value} {n : ByteArray} {v : Int} {v5 v6 v6' : Value} (h : St N w0 X0 (p :: r) v5 v6) (hc : Chain X0 r o')
    (hs : ScAt X1 p.1 p.2.1 o' ((n, v) :: p.2.2)) (ht : X0.mapTurned X1 p.2.1) (hb : Below X1.heap.size X1 X2) (hn : lk p.2.2 n = none)
    (ho : X4.ownsRow N 41 3 v6' ((inOf (p :: r)).length + 1) (inC (inOf (p :: r)) ++ entC (r.length, v, n))) (hg : (X2.alloc ob).grownBy X4 v6.ownBlock) :
    St N w0 X4 ((p.1, p.2.1, (n, v) :: p.2.2) :: r) v5 v6' := by
  have hs0 := h.size
  have hlo := h.lo p List.mem_cons_self
  have hsz : X0.heap.size ≤ X1.heap.size := ht.grown.size
  have hbb : Below X1.heap.size X1 (X2.alloc ob) := hb.alloc hb.size _
  have hmb := h.mbs
  rw [List.map_cons, List.nodup_cons] at hmb
  have hne : ∀ q, q ∈ r → q.2.1 ≠ p.2.1 := fun q hq e => hmb.1 (List.mem_map.2 ⟨q, hq, e⟩)
  have a3 := pw_own_below (own_turned h.all ht) hbb
  have i3 := pw_own_below (own_turned h.inn ht) hbb
  have c1 : Chain X1 ((p.1, p.2.1, (n, v) :: p.2.2) :: r) (.pointer (some ⟨p.1, 0, none⟩)) := ⟨rfl, _, hs, Chain.turned ht hc hne⟩
  have hin : inOf ((p.1, p.2.1, (n, v) :: p.2.2) :: r) = inOf (p :: r) ++ [(r.length, v, n)] := by
    show inOf r ++ _ = (inOf r ++ _) ++ _
    simp
  exact {
    ne := by simp
    all := by
      have e : ptrs ((p.1, p.2.1, (n, v) :: p.2.2) :: r) = ptrs (p :: r) := by simp [ptrs]
      rw [e]
      exact own_other a3 hg (own_type_ne a3 i3 (by decide))
    inn := by
      rw [hin, inC_snoc, List.length_append, List.length_singleton]
      exact ho
    ch := ⟨_, Chain.grown i3 (by decide) hg (c1.below hbb)⟩
    mbs := by rw [List.map_cons, List.nodup_cons]; exact hmb
    lo := fun q hq => by
      rcases List.mem_cons.1 hq with rfl | hq
      · exact hlo
      · exact h.lo q (List.mem_cons_of_mem _ hq)
    keys := fun q hq => by
      rcases List.mem_cons.1 hq with rfl | hq
      · show (((n, v) :: p.2.2).map (fun q => q.1.toList)).Nodup
        rw [List.map_cons, List.nodup_cons]
        refine ⟨fun hm => ?_, h.keys p List.mem_cons_self⟩
        obtain ⟨x, hx, e⟩ := List.mem_map.1 hm
        unfold lk at hn
        rw [Option.map_eq_none_iff, List.find?_eq_none] at hn
        exact hn x hx (by simpa using e)
      · exact h.keys q (List.mem_cons_of_mem _ hq)
    below := (((h.below.trans (turned_below ht hlo.2 hs0)).trans (hbb.mono (by omega)))).grown hg (by have := hb.size; simp; omega) (fun j hj => own_base i3 j hj) }
theorem in_after {N : Nat} {w0 X0 X1 X2 : World} {ls : List Sc} {v5 v6 : Value} {mb : Nat} {L : List Ent} (h : St N w0 X0 ls v5 v6) (hL : inOf ls = L) (ht : X0.mapTurned X1 mb) (hb : Below X1.heap.size X1 X2) (ob : Obj) :
    (X2.alloc ob).ownsRow N 41 3 v6 L.length (inC L) := by
  have h1 := h.inn
  rw [hL] at h1
  exact pw_own_below (pw_own_below (own_turned h1 ht) hb) ((Below.refl _ _).alloc (Nat.le_refl _) _)
theorem size_after {N : Nat} {w0 X0 X1 X2 : World} {ls : List Sc} {v5 v6 : Value} {mb : Nat} (h : St N w0 X0 ls v5 v6) (ht : X0.mapTurned X1 mb) (hb : Below X1.heap.size X1 X2) (ob : Obj) : N ≤ (X2.alloc ob).heap.size := by
  have h1 := h.size
  have h2 := ht.grown.size
  have h3 := hb.size
  simp; omega
end Go.Proofs.Ytbenbkjnlgopiaa.X
