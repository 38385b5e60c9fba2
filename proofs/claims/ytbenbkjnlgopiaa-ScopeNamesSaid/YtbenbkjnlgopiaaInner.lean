/-
  ScopeInner, walked: it answers true; for whatever deeds, deed and name.
-/
import Derived.Test.YtbenbkjnlgopiaaRun
namespace Go.Proofs.Ytbenbkjnlgopiaa.X
open Go.RowKit Go.Maps Go.Proofs.YtbenbkjnlgopiaaW.PrintWords Go.Proofs.YtbenbkjnlgopiaaW.PrintLast Go.Proofs.YtbenbkjnlgopiaaW.PrintMore
set_option linter.unusedVariables false
set_option linter.unusedSimpArgs false
theorem st_top {N : Nat} {w0 w : World} {ls : List Sc} {v5 v6 : Value} (h : St N w0 w ls v5 v6) :
    ∃ p r g cap, ls = p :: r ∧ v5 = .slice (some ⟨g, 0, none⟩) (r.length + 1) cap ∧ w.cell? ⟨g, r.length, none⟩ = some (.pointer (some ⟨p.1, 0, none⟩)) ∧ Chain w (p :: r) (.pointer (some ⟨p.1, 0, none⟩)) ∧ r.length + 1 ≤ cap := by
  cases ls with
  | nil => exact absurd rfl h.ne
  | cons p r =>
    obtain ⟨o, hc⟩ := h.ch
    have ho := hc.1
    subst ho
    have ha := h.all
    rcases ha.2 with ⟨_, e⟩ | ⟨g, cap, cur, rfl, k1, k2, k3, k4⟩
    · simp at e
    · refine ⟨p, r, g, cap, rfl, rfl, ?_, hc, k3⟩
      have := ha.cells (g := g) rfl r.length (.pointer (some ⟨p.1, 0, none⟩)) (by simp [ptrs])
      rwa [add_plain] at this
theorem fnd_shift (n : ByteArray) : ∀ (ls : List Sc) (k : Nat), fnd n ls (k + 1) = (fnd n ls k).map (fun x => (x.1, x.2 + 1))
  | [], _ => rfl
  | p :: r, k => by
    unfold fnd
    cases lk p.2.2 n with
    | some v => rfl
    | none => exact fnd_shift n r (k + 1)
theorem fnd_up (n : ByteArray) : ∀ (ls : List Sc) (k : Nat) (x : Int × Nat), fnd n ls k = some x → x.2 < k + ls.length
  | [], _, _, h => by simp [fnd] at h
  | p :: r, k, x, h => by
    unfold fnd at h
    cases c : lk p.2.2 n with
    | some v => rw [c] at h; obtain rfl := Option.some.inj h; simp
    | none => rw [c] at h; have := fnd_up n r (k + 1) x h; simp only [List.length_cons]; omega
theorem lk_hit {n a : ByteArray} {v : Int} (h : (n.toList == a.toList) = true) : lk [(n, v)] a = some v := by unfold lk; simp [List.find?, h]
theorem lk_miss {n a : ByteArray} {v : Int} (h : (n.toList == a.toList) = false) : lk [(n, v)] a = none := by unfold lk; simp [List.find?, h]
theorem fndV_parts (x : Option (Int × Nat)) : ∃ (v : Int) (u : Nat) (b : Bool), fndV x = .tuple #[.int .i64 v, .int .i64 (u : Int), .bool b] ∧ (b = true → x = some (v, u)) ∧ (b = false → x = none ∧ v = 0 ∧ u = 0) := by
  cases x with
  | none => exact ⟨0, 0, false, rfl, fun h => (by cases h), fun _ => ⟨rfl, rfl, rfl⟩⟩
  | some q => exact ⟨q.1, q.2, true, rfl, fun _ => rfl, fun h => (by cases h)⟩
theorem fnd_in (n : ByteArray) (q : Sc) (ls : List Sc) (h : lk q.2.2 n = none) : fnd n (q :: ls) 0 = (fnd n ls 0).map (fun x => (x.1, x.2 + 1)) := by
  conv => lhs; unfold fnd
  rw [h]
  exact fnd_shift n ls 0
theorem ins_fresh (sb mb : Nat) (o : Value) (n : ByteArray) (v : Int) (w : World) (h : ScAt w sb mb o []) (hn : n.size ≤ maxLen) (hv : (Lit.int .i64 v).wf = true) :
    ∃ (er : Option Int) (es : Lv), (Calls Try.prog 9 #[.pointer (some ⟨sb, 0, none⟩), .string n, .int .i64 v] w fun e w' => e = .returned (errC er) ∧ ScAt w' sb mb o es ∧ Below mb w w') ∧ ((er = none ∧ n.toList ≠ [95] ∧ es = [(n, v)]) ∨ (es = [] ∧ (er = some 1 ∨ (er = none ∧ n.toList = [95])))) := by
  by_cases h1 : n.toList = []
  · exact ⟨some 1, [], (ins_empty ⟨sb, 0, none⟩ n v w h1).mono (by rintro e w' ⟨rfl, rfl⟩; exact ⟨rfl, h, Below.refl _ _⟩), .inr ⟨rfl, .inl rfl⟩⟩
  · by_cases h2 : n.toList = [95]
    · exact ⟨none, [], (ins_blank ⟨sb, 0, none⟩ n v w h2).mono (by rintro e w' ⟨rfl, rfl⟩; exact ⟨rfl, h, Below.refl _ _⟩), .inr ⟨rfl, .inr ⟨rfl, h2⟩⟩⟩
    · exact ⟨none, [(n, v)], (ins_new sb mb o [] n v w h hn hv (by simp) h1 h2 rfl).mono (by rintro e w' ⟨rfl, s, t⟩; exact ⟨rfl, s, turned_below t (Nat.le_refl _) (Nat.le_of_lt h.lt.2)⟩), .inl ⟨rfl, h2, rfl⟩⟩
set_option maxRecDepth 100000 in
set_option maxHeartbeats 8000000 in
theorem cavillaw28_ScopeInner.calls (A0 : Option Addr) (c0 : Nat) (l0 : List S24) (y0 : Int) (y1 : ByteArray) (y2 : Int) (a2 : ByteArray) (W : World) (hq : l0.length ≤ maxLen ∧ ∀ e0 ∈ l0, ((Lit.int .u8 e0.f0).wf = true ∧ e0.f1.size ≤ maxLen ∧ (Lit.int .i64 e0.f2).wf = true))
    (hq1 : (Lit.int .u8 y0).wf = true ∧ y1.size ≤ maxLen ∧ (Lit.int .i64 y2).wf = true) (w2 : a2.size ≤ 140737488351232) (hr0 : Kd.C k24 W A0 l0.length l0) (hc0 : l0.length ≤ c0) :
    Calls Try.prog 3 #[.slice A0 l0.length c0, .agg #[.int .u8 y0, .string y1, .int .i64 y2], .string a2] W fun e w' => e = .returned (.bool true) ∧ Below W.heap.size W w' := by
  have ha2 : a2.size ≤ maxLen := by unfold maxLen; omega
  have bW : Below W.heap.size W (W.alloc (.cells #[.int .u8 y0, .string y1, .int .i64 y2] 24)) := (Below.refl _ _).alloc (Nat.le_refl _) _
  have hrun := run_calls A0 c0 l0 (W.alloc (.cells #[.int .u8 y0, .string y1, .int .i64 y2] 24)) hq (Kd.C_below hr0 bW) hc0
  have hb1 : (W.alloc (.cells #[.int .u8 y0, .string y1, .int .i64 y2] 24)).cell? ⟨W.heap.size, 1, none⟩ = some (.string y1) := cell_two_new' W _ _ 1 _ rfl
  have hb2 : (W.alloc (.cells #[.int .u8 y0, .string y1, .int .i64 y2] 24)).cell? ⟨W.heap.size, 2, none⟩ = some (.int .i64 y2) := cell_two_new' W _ _ 2 _ rfl
  have hb0 : W.heap.size < (W.alloc (.cells #[.int .u8 y0, .string y1, .int .i64 y2] 24)).heap.size := by simp
  have HB := Aside0.mk (And.intro hb0 (And.intro hb1 hb2))
  have BW := Aside0.mk bW
  have HQ1 := Aside0.mk hq1
  have HA2 := Aside0.mk ha2
  clear hb0 hb1 hb2 bW hq1 ha2 w2 hq hr0
  go_enter Try.func3, Try.ntmps3
  go_wp2_with (go_at_call 6; refine hrun.mono ?_)
  rintro e w1 ⟨v5, v6, ls, rfl, hst, hl1, hl2⟩
  clear hrun
  obtain ⟨p, r, g, cap, rfl, rfl, ctop, hch, hcap⟩ := st_top hst
  obtain ⟨W0, hW0⟩ : ∃ W0, W0 = W.alloc (.cells #[.int .u8 y0, .string y1, .int .i64 y2] 24) := ⟨_, rfl⟩
  rw [← hW0] at HB BW hst
  have hrl : r.length ≤ 40 := by simp only [List.length_cons] at hl1; omega
  have r1 : wrap64 (r.length : Int) = (r.length : Int) := by unfold wrap64; omega
  have hlen : (p :: r).length ≤ 1000 := by simp only [List.length_cons]; omega
  have hfind := find_calls a2 (p :: r) _ w1 hch HA2.out hlen
  have HC := Aside0.mk hch
  have HS := Aside0.mk hst
  have HLen := Aside0.mk hlen
  clear hst hch hW0 hl1 hl2 hlen
  obtain ⟨vo, uo, bo, ho1, ho2, ho3⟩ := fndV_parts (fnd a2 (p :: r) 0)
  rw [ho1] at hfind
  have huo : uo ≤ 1000 := by
    cases bo with
    | true => have := fnd_up a2 (p :: r) 0 _ (ho2 rfl); have h2 := HLen.out; simp only at this; omega
    | false => have := (ho3 rfl).2.2; omega
  have HF := Aside0.mk (And.intro ho1 (And.intro ho2 ho3))
  clear ho1 ho2 ho3
  have hnew := new_at (some ⟨p.1, 0, none⟩) w1
  have HB1 : Aside0 (W.heap.size < w1.heap.size ∧ w1.cell? ⟨W.heap.size, 1, none⟩ = some (.string y1) ∧ w1.cell? ⟨W.heap.size, 2, none⟩ = some (.int .i64 y2)) :=
    ⟨Nat.lt_of_lt_of_le HB.out.1 HS.out.below.size, (HS.out.below.cell (p := ⟨W.heap.size, 1, none⟩) HB.out.1).trans HB.out.2.1, (HS.out.below.cell (p := ⟨W.heap.size, 2, none⟩) HB.out.1).trans HB.out.2.2⟩
  go_wp2_with (first
    | (go_at_call 7; refine hfind.mono ?_; rintro e w2 ⟨rfl, rfl⟩; clear hfind)
    | (go_at_call 8; refine hnew.mono ?_; rintro e w2 ⟨rfl, s2, b2⟩; have z1 := (b2.cell (p := ⟨W.heap.size, 1, none⟩) HB1.out.1).trans HB1.out.2.1; have z2 := (b2.cell (p := ⟨W.heap.size, 2, none⟩) HB1.out.1).trans HB1.out.2.2; have S2 := Aside0.mk s2; have B2 := Aside0.mk b2; clear s2 b2 hnew))
  obtain ⟨er, es', hins, hk⟩ := ins_fresh (w1.heap.size + 1) w1.heap.size _ y1 y2 w2 S2.out HQ1.out.2.1 HQ1.out.2.2
  have HZ := Aside0.mk (And.intro z1 z2)
  have HK := Aside0.mk hk
  clear z1 z2 hk
  refine hins.mono ?_
  rintro e w3 ⟨rfl, s3, b3⟩
  clear hins
  have hs1 := B2.out.size
  have z1 := (b3.cell (p := ⟨W.heap.size, 1, none⟩) HB1.out.1).trans HZ.out.1
  have z2 := (b3.cell (p := ⟨W.heap.size, 2, none⟩) HB1.out.1).trans HZ.out.2
  have c3 : Chain w3 (p :: r) (.pointer (some ⟨p.1, 0, none⟩)) := (HC.out.below B2.out).keep (fun q hq => ⟨b3.block _ (HC.out.lt q hq).1, b3.block _ (HC.out.lt q hq).2⟩)
  have hf2 := find_calls a2 (p :: r) _ w3 c3 HA2.out HLen.out
  rw [HF.out.1] at hf2
  have hf3 := find_calls a2 ((w1.heap.size + 1, w1.heap.size, es') :: p :: r) _ w3 ⟨rfl, _, s3, c3⟩ HA2.out (by simp only [List.length_cons]; omega)
  have hwk := works_calls w3
  have HW3 : Aside0 (Below W.heap.size W w3) := ⟨((BW.out.trans (HS.out.below.mono BW.out.size)).trans (B2.out.mono (by have := HB1.out.1; omega))).trans (b3.mono (by have := HB1.out.1; omega))⟩
  have u1 : wrap64 ((uo : Int) + 1) = ((uo + 1 : Nat) : Int) := by unfold wrap64; omega
  clear s3 b3 c3 hs1
  rcases HK.out with ⟨rfl, hn95, rfl⟩ | ⟨rfl, hk⟩
  · by_cases hnm : (y1.toList == a2.toList) = true
    · -- the very name
      have e3 : fndV (fnd a2 ((w1.heap.size + 1, w1.heap.size, [(y1, y2)]) :: p :: r) 0) = .tuple #[.int .i64 y2, .int .i64 0, .bool true] := by
        have : lk [(y1, y2)] a2 = some y2 := lk_hit hnm
        unfold fnd; simp only []; rw [this]; rfl
      rw [e3] at hf3
      have hb : (a2.toList == [95]) = false := by
        rw [beq_eq_false_iff_ne, ← beq_iff_eq.1 hnm]; exact hn95
      rw [errC_none]
      clear e3 hn95 HK
      go_wp2_with (first
        | (go_at_call 7; (with_reducible refine hf2.mono ?_); rintro e w4 ⟨rfl, rfl⟩)
        | (go_at_call 7; (with_reducible refine hf3.mono ?_); rintro e w4 ⟨rfl, rfl⟩)
        | (go_at_call 10; refine hwk.mono ?_; rintro e w4 ⟨rfl, bk⟩; have BK := Aside0.mk bk; clear bk))
      all_goals (go_ret; exact ⟨rfl, HW3.out.trans (BK.out.mono HW3.out.size)⟩)
    · have hnm' : (y1.toList == a2.toList) = false := by simpa using hnm
      have hl : lk [(y1, y2)] a2 = none := lk_miss hnm'
      have e3 := fnd_in a2 (w1.heap.size + 1, w1.heap.size, [(y1, y2)]) (p :: r) hl
      rw [e3] at hf3
      rw [errC_none]
      clear e3 hl hnm hn95 HK
      cases bo with
      | true =>
        rw [HF.out.2.1 rfl] at hf3
        have e4 : fndV ((some (vo, uo)).map (fun x => (x.1, x.2 + 1))) = .tuple #[.int .i64 vo, .int .i64 ((uo + 1 : Nat) : Int), .bool true] := rfl
        rw [e4] at hf3
        clear e4
        go_wp2_with (first
          | (go_at_call 7; (with_reducible refine hf2.mono ?_); rintro e w4 ⟨rfl, rfl⟩)
          | (go_at_call 7; (with_reducible refine hf3.mono ?_); rintro e w4 ⟨rfl, rfl⟩)
          | (go_at_call 10; refine hwk.mono ?_; rintro e w4 ⟨rfl, bk⟩; have BK := Aside0.mk bk; clear bk))
        all_goals (go_ret; exact ⟨rfl, HW3.out.trans (BK.out.mono HW3.out.size)⟩)
      | false =>
        rw [(HF.out.2.2 rfl).1] at hf3
        have e4 : fndV ((none : Option (Int × Nat)).map (fun x => (x.1, x.2 + 1))) = .tuple #[.int .i64 0, .int .i64 0, .bool false] := rfl
        rw [e4] at hf3
        clear e4
        go_wp2_with (first
          | (go_at_call 7; (with_reducible refine hf2.mono ?_); rintro e w4 ⟨rfl, rfl⟩)
          | (go_at_call 7; (with_reducible refine hf3.mono ?_); rintro e w4 ⟨rfl, rfl⟩)
          | (go_at_call 10; refine hwk.mono ?_; rintro e w4 ⟨rfl, bk⟩; have BK := Aside0.mk bk; clear bk))
        all_goals (go_ret; exact ⟨rfl, HW3.out.trans (BK.out.mono HW3.out.size)⟩)
  · have hl : lk ([] : Lv) a2 = none := rfl
    have e3 := fnd_in a2 (w1.heap.size + 1, w1.heap.size, []) (p :: r) hl
    rw [e3] at hf3
    clear e3 hl
    rcases hk with rfl | ⟨rfl, hbl⟩
    · rw [errC_some]
      clear HK
      cases bo with
      | true =>
        rw [HF.out.2.1 rfl] at hf3
        have e4 : fndV ((some (vo, uo)).map (fun x => (x.1, x.2 + 1))) = .tuple #[.int .i64 vo, .int .i64 ((uo + 1 : Nat) : Int), .bool true] := rfl
        rw [e4] at hf3
        clear e4
        go_wp2_with (first
          | (go_at_call 7; (with_reducible refine hf2.mono ?_); rintro e w4 ⟨rfl, rfl⟩)
          | (go_at_call 7; (with_reducible refine hf3.mono ?_); rintro e w4 ⟨rfl, rfl⟩)
          | (go_at_call 10; refine hwk.mono ?_; rintro e w4 ⟨rfl, bk⟩; have BK := Aside0.mk bk; clear bk))
        all_goals (go_ret; exact ⟨rfl, HW3.out.trans (BK.out.mono HW3.out.size)⟩)
      | false =>
        rw [(HF.out.2.2 rfl).1] at hf3
        have e4 : fndV ((none : Option (Int × Nat)).map (fun x => (x.1, x.2 + 1))) = .tuple #[.int .i64 0, .int .i64 0, .bool false] := rfl
        rw [e4] at hf3
        clear e4
        go_wp2_with (first
          | (go_at_call 7; (with_reducible refine hf2.mono ?_); rintro e w4 ⟨rfl, rfl⟩)
          | (go_at_call 7; (with_reducible refine hf3.mono ?_); rintro e w4 ⟨rfl, rfl⟩)
          | (go_at_call 10; refine hwk.mono ?_; rintro e w4 ⟨rfl, bk⟩; have BK := Aside0.mk bk; clear bk))
        all_goals (go_ret; exact ⟨rfl, HW3.out.trans (BK.out.mono HW3.out.size)⟩)
    · rw [errC_none]
      by_cases hnm : (y1.toList == a2.toList) = true
      · have hb : (a2.toList == [95]) = true := by rw [beq_iff_eq, ← beq_iff_eq.1 hnm]; exact hbl
        clear HK
        cases bo with
        | true =>
          rw [HF.out.2.1 rfl] at hf3
          have e4 : fndV ((some (vo, uo)).map (fun x => (x.1, x.2 + 1))) = .tuple #[.int .i64 vo, .int .i64 ((uo + 1 : Nat) : Int), .bool true] := rfl
          rw [e4] at hf3
          clear e4
          go_wp2_with (first
            | (go_at_call 7; (with_reducible refine hf2.mono ?_); rintro e w4 ⟨rfl, rfl⟩)
            | (go_at_call 7; (with_reducible refine hf3.mono ?_); rintro e w4 ⟨rfl, rfl⟩)
            | (go_at_call 10; refine hwk.mono ?_; rintro e w4 ⟨rfl, bk⟩; have BK := Aside0.mk bk; clear bk))
          all_goals (go_ret; exact ⟨rfl, HW3.out.trans (BK.out.mono HW3.out.size)⟩)
        | false =>
          rw [(HF.out.2.2 rfl).1] at hf3
          have e4 : fndV ((none : Option (Int × Nat)).map (fun x => (x.1, x.2 + 1))) = .tuple #[.int .i64 0, .int .i64 0, .bool false] := rfl
          rw [e4] at hf3
          clear e4
          go_wp2_with (first
            | (go_at_call 7; (with_reducible refine hf2.mono ?_); rintro e w4 ⟨rfl, rfl⟩)
            | (go_at_call 7; (with_reducible refine hf3.mono ?_); rintro e w4 ⟨rfl, rfl⟩)
            | (go_at_call 10; refine hwk.mono ?_; rintro e w4 ⟨rfl, bk⟩; have BK := Aside0.mk bk; clear bk))
          all_goals (go_ret; exact ⟨rfl, HW3.out.trans (BK.out.mono HW3.out.size)⟩)
      · have hnm' : (y1.toList == a2.toList) = false := by simpa using hnm
        clear HK hnm
        cases bo with
        | true =>
          rw [HF.out.2.1 rfl] at hf3
          have e4 : fndV ((some (vo, uo)).map (fun x => (x.1, x.2 + 1))) = .tuple #[.int .i64 vo, .int .i64 ((uo + 1 : Nat) : Int), .bool true] := rfl
          rw [e4] at hf3
          clear e4
          go_wp2_with (first
            | (go_at_call 7; (with_reducible refine hf2.mono ?_); rintro e w4 ⟨rfl, rfl⟩)
            | (go_at_call 7; (with_reducible refine hf3.mono ?_); rintro e w4 ⟨rfl, rfl⟩)
            | (go_at_call 10; refine hwk.mono ?_; rintro e w4 ⟨rfl, bk⟩; have BK := Aside0.mk bk; clear bk))
          all_goals (go_ret; exact ⟨rfl, HW3.out.trans (BK.out.mono HW3.out.size)⟩)
        | false =>
          rw [(HF.out.2.2 rfl).1] at hf3
          have e4 : fndV ((none : Option (Int × Nat)).map (fun x => (x.1, x.2 + 1))) = .tuple #[.int .i64 0, .int .i64 0, .bool false] := rfl
          rw [e4] at hf3
          clear e4
          go_wp2_with (first
            | (go_at_call 7; (with_reducible refine hf2.mono ?_); rintro e w4 ⟨rfl, rfl⟩)
            | (go_at_call 7; (with_reducible refine hf3.mono ?_); rintro e w4 ⟨rfl, rfl⟩)
            | (go_at_call 10; refine hwk.mono ?_; rintro e w4 ⟨rfl, bk⟩; have BK := Aside0.mk bk; clear bk))
          all_goals (go_ret; exact ⟨rfl, HW3.out.trans (BK.out.mono HW3.out.size)⟩)
end Go.Proofs.Ytbenbkjnlgopiaa.X
