/-
  ScopeFinds, walked: it answers true; for whatever deeds and name.
-/
import Derived.Test.YtbenbkjnlgopiaaWant
import Derived.Deep.QuietTactic
import Derived.BigQuiet
import Derived.Deep.OwnRows
import Derived.Test.YtbenbkjnlgopiaaNm
namespace Go.Proofs.Ytbenbkjnlgopiaa.X
open Go.RowKit Go.Maps Go.Proofs.YtbenbkjnlgopiaaW.PrintWords Go.Proofs.YtbenbkjnlgopiaaW.PrintLast Go.Proofs.YtbenbkjnlgopiaaW.PrintMore
set_option linter.unusedVariables false
set_option linter.unusedSimpArgs false
theorem eq_ptr (d b : Nat) (w : World) : (Op.equalIn (d + 1) 29 (.pointer (some ⟨b, 0, none⟩)) (.pointer (some ⟨b, 0, none⟩))).run Try.prog w = .ok true w := by
  simp only [Op.equalIn]
  simp [run_underlying Try.underlying29, sameAddr]
theorem neq_ptr (b : Nat) (w : World) : (binOp .neq 29 (.pointer (some ⟨b, 0, none⟩)) (.pointer (some ⟨b, 0, none⟩))).run Try.prog w = .ok (.bool false) w := by
  simp only [binOp]
  simp [Op.equal, Op.maxDepth, eq_ptr 9999 b w]
attribute [local go_sem] neq_ptr
theorem w64s {n : Nat} (h : n ≤ 1000) : wrap64 (n : Int) = (n : Int) := by unfold wrap64; omega
theorem heap_drewN (w : World) : ∀ n, (w.drewN n).heap = w.heap
  | 0 => rfl
  | n + 1 => heap_drewN w n
theorem Chain.drewN {w : World} {ls : List Sc} {o : Value} (h : Chain w ls o) (n : Nat) : Chain (w.drewN n) ls o := h.keep (fun p _ => by rw [heap_drewN]; exact ⟨rfl, rfl⟩)
theorem chain_drop {w : World} : ∀ {pre : List Sc} {s : Sc} {r : List Sc} {o : Value}, Chain w (pre ++ s :: r) o → Chain w (s :: r) (.pointer (some ⟨s.1, 0, none⟩))
  | [], s, r, o, h => by obtain ⟨rfl, k⟩ := h; exact ⟨rfl, k⟩
  | p :: pre, s, r, o, ⟨_, o', _, h⟩ => chain_drop h
theorem split_at (ls : List Sc) (i : Nat) (h : i < ls.length) : ∃ pre s r, ls = pre ++ s :: r ∧ r.length = i := by
  refine ⟨ls.take (ls.length - 1 - i), ls[ls.length - 1 - i]'(by omega), ls.drop (ls.length - 1 - i + 1), ?_, by simp; omega⟩
  rw [List.getElem_cons_drop, List.take_append_drop]
theorem ptrs_at (pre : List Sc) (s : Sc) (r : List Sc) : (ptrs (pre ++ s :: r))[r.length]? = some (.pointer (some ⟨s.1, 0, none⟩)) := by
  unfold ptrs
  rw [List.reverse_append, List.reverse_cons, List.append_assoc, List.map_append, List.getElem?_append_right (by simp), List.map_append]
  simp
/-- The entry that is wanted, in memory. -/
def Wb (w : World) (b : Nat) (st : Wt) : Prop := w.rowIs b 41 3 (fun k => if k = 0 then .int .i64 st.1 else if k = 1 then .int .i64 st.2.1 else .string st.2.2)
theorem outer_some (w : World) (s q : Sc) (r : List Sc) (h : Chain w (s :: q :: r) (.pointer (some ⟨s.1, 0, none⟩))) : Calls Try.prog 14 #[.pointer (some ⟨s.1, 0, none⟩)] w fun e w' => e = .returned (.pointer (some ⟨q.1, 0, none⟩)) ∧ w' = w :=
  (outer_calls w (s :: q :: r) _ h).mono (by rintro e w' ⟨o', rfl, hc, rfl⟩; exact ⟨by rw [hc.1], rfl⟩)
theorem outer_none (w : World) (s : Sc) (h : Chain w [s] (.pointer (some ⟨s.1, 0, none⟩))) : Calls Try.prog 14 #[.pointer (some ⟨s.1, 0, none⟩)] w fun e w' => e = .returned (.pointer none) ∧ w' = w :=
  (outer_calls w [s] _ h).mono (by rintro e w' ⟨o', rfl, hc, rfl⟩; exact ⟨by rw [show o' = .pointer none from hc], rfl⟩)
theorem Wb.start (w : World) : Wb (w.alloc (.cells #[.int .i64 (-1), .int .i64 0, .string ⟨#[]⟩] 41)) w.heap.size wt0 :=
  ⟨#[.int .i64 (-1), .int .i64 0, .string ⟨#[]⟩], heap_alloc_new w _, rfl, fun i hi => by
    match i, hi with
    | 0, _ => rfl
    | 1, _ => rfl
    | 2, _ => rfl⟩
theorem Wb.c0 {w : World} {b : Nat} {st : Wt} (h : Wb w b st) : w.cell? ⟨b, 0, none⟩ = some (.int .i64 st.1) := h.cell (i := 0) (by omega)
theorem Wb.c1 {w : World} {b : Nat} {st : Wt} (h : Wb w b st) : w.cell? ⟨b, 1, none⟩ = some (.int .i64 st.2.1) := h.cell (i := 1) (by omega)
theorem Wb.c2 {w : World} {b : Nat} {st : Wt} (h : Wb w b st) : w.cell? ⟨b, 2, none⟩ = some (.string st.2.2) := h.cell (i := 2) (by omega)
theorem Wb.al {w : World} {b : Nat} {st : Wt} (h : Wb w b st) (ob : Obj) : Wb (w.alloc ob) b st := World.rowIs.alloc h ob
theorem Wb.put {w : World} {b : Nat} {st : Wt} (h : Wb w b st) (x : Int) (y : Int) (z : ByteArray) : Wb (((w.setCell ⟨b, 0, none⟩ (.int .i64 x)).setCell ⟨b, 1, none⟩ (.int .i64 y)).setCell ⟨b, 2, none⟩ (.string z)) b (x, y, z) :=
  (((World.rowIs.set h 0 (.int .i64 x)).set 1 (.int .i64 y)).set 2 (.string z)).congr (fun i hi => by
    match i, hi with
    | 0, _ => rfl
    | 1, _ => rfl
    | 2, _ => rfl)
theorem wfold_succ {i : Nat} {n : ByteArray} {L : List Ent} {j : Nat} {e : Ent} (h : L[j]? = some e) : (L.take (j + 1)).foldl (wstep i n) wt0 = wstep i n ((L.take j).foldl (wstep i n) wt0) e := by
  obtain ⟨hj, rfl⟩ := List.getElem?_eq_some_iff.1 h
  rw [List.take_succ_eq_append_getElem hj, List.foldl_append]; rfl
theorem outer_nil (w : World) : Calls Try.prog 14 #[.pointer none] w fun e w' => e = .returned (.pointer none) ∧ w = w' :=
  (outer_calls w [] _ rfl).mono (by rintro e w' ⟨o', rfl, hc, rfl⟩; exact ⟨by rw [show o' = .pointer none from hc], rfl⟩)
set_option maxRecDepth 100000 in
set_option maxHeartbeats 16000000 in
theorem cavillaw28_ScopeFinds.calls (A0 : Option Addr) (c0 : Nat) (l0 : List S24) (a1 : ByteArray) (W : World) (hq : l0.length ≤ maxLen ∧ ∀ e0 ∈ l0, ((Lit.int .u8 e0.f0).wf = true ∧ e0.f1.size ≤ maxLen ∧ (Lit.int .i64 e0.f2).wf = true))
    (hsz : a1.size ≤ 140737488351232) (hr0 : Kd.C k24 W A0 l0.length l0) (hc0 : l0.length ≤ c0) :
    Calls Try.prog 5 #[.slice A0 l0.length c0, .string a1] W fun e w' => e = .returned (.bool true) ∧ Below W.heap.size W w' := by
  have ha2 : a1.size ≤ maxLen := by unfold maxLen; omega
  have hrun := run_calls A0 c0 l0 W hq hr0 hc0
  have HA2 := Aside0.mk ha2
  clear ha2 hsz hq hr0
  go_enter Try.func5, Try.ntmps5
  go_wp2_with (go_at_call 6; refine hrun.mono ?_)
  rintro e w1 ⟨v5, v6, ls, rfl, hst, hl1, hl2⟩
  clear hrun
  obtain ⟨g, cap, hv5, hgl, hcap, hgc⟩ : ∃ g cap, v5 = .slice (some ⟨g, 0, none⟩) ls.length cap ∧ g < w1.heap.size ∧ ls.length ≤ cap ∧ ∀ j u, (ptrs ls)[j]? = some u → w1.cell? ⟨g, j, none⟩ = some u := by
    have ha := hst.all
    rcases ha.2 with ⟨_, e⟩ | ⟨g, cap, cur, rfl, k1, k2, k3, k4⟩
    · exact absurd (List.length_eq_zero_iff.1 e) hst.ne
    · exact ⟨g, cap, rfl, (Array.getElem?_eq_some_iff.1 k2).1, k3, fun j u hj => by have := ha.cells (g := g) rfl j u hj; rwa [add_plain] at this⟩
  obtain ⟨A6, c6, hv6, hat⟩ := in_at hst.inn
  subst hv5; subst hv6
  obtain ⟨L, hL⟩ : ∃ L, inOf ls = L := ⟨_, rfl⟩
  rw [hL] at hat hl2 ⊢
  have HS := Aside0.mk hst
  have HL := Aside0.mk hL
  have HAT := Aside0.mk hat
  have HGC := Aside0.mk (And.intro hgl (And.intro hcap hgc))
  clear hst hat hgl hcap hgc hL
  go_wp2
  (try simp only [Act.put, List.setIfInBounds_toArray, List.set_cons_zero, List.set_cons_succ])
  go_loopg [34] (ls.length + 1) (fun kq v34 wr => ∃ i : Nat, v34 = .int .i64 i ∧ Aside0 (i + kq = ls.length + 1) ∧ Aside0 (Below w1.heap.size w1 wr))
  case atStart => exact ⟨0, rfl, ⟨by omega⟩, ⟨Below.refl _ _⟩⟩
  case round =>
    obtain ⟨i, rfl, HI, HB⟩ := hrel
    by_cases ci : i < ls.length
    · obtain ⟨pre, s, r, hls, hri⟩ := split_at ls i ci
      have cp : wr.cell? ⟨g, i, none⟩ = some (.pointer (some ⟨s.1, 0, none⟩)) := (HB.out.cell (p := ⟨g, i, none⟩) HGC.out.1).trans (HGC.out.2.2 i _ (by rw [hls, ← hri]; exact ptrs_at pre s r))
      have hch : Chain wr (s :: r) (.pointer (some ⟨s.1, 0, none⟩)) := by
        obtain ⟨o, hc⟩ := HS.out.ch
        rw [hls] at hc
        exact (chain_drop hc).below HB.out
      have hfind := find_calls a1 (s :: r) _ wr hch HA2.out (by simp only [List.length_cons]; omega)
      obtain ⟨_, o', sc, hcr⟩ := hch
      have hown := own_calls s.1 s.2.1 o' s.2.2 a1 wr sc HA2.out
      obtain ⟨vo, uo, bo, ho1, ho2, ho3⟩ := fndV_parts (fnd a1 (s :: r) 0)
      rw [ho1] at hfind
      obtain ⟨vw, hvw⟩ : ∃ vw, (lk s.2.2 a1).getD 0 = vw := ⟨_, rfl⟩
      obtain ⟨bw, hbw⟩ : ∃ bw, (lk s.2.2 a1).isSome = bw := ⟨_, rfl⟩
      rw [hvw, hbw] at hown
      have HM := Aside0.mk (And.intro ho1 (And.intro ho2 (And.intro ho3 (And.intro hvw (And.intro hbw (And.intro hls hri))))))
      have HC := Aside0.mk (And.intro sc hcr)
      have f1 : decide (i < ls.length) = true := decide_eq_true ci
      have f2 : (0 ≤ (i : Int)) = True := eq_true (by omega)
      have f3 : ((i : Int) < (ls.length : Int)) = True := eq_true (by omega)
      have f4 : decide ((i : Int) < (ls.length : Int)) = true := decide_eq_true (by omega)
      have hi40 : i ≤ 40 := by omega
      have HCI := Aside0.mk ci
      have HBs := Aside0.mk HB.out.size
      clear ho1 ho2 ho3 hvw hbw sc hcr hls hri ci
      go_wp2_with (first
        | (go_at_call 7; (with_reducible refine hfind.mono ?_); rintro e w2 ⟨rfl, rfl⟩; clear hfind)
        | (go_at_call 13; (with_reducible refine hown.mono ?_); rintro e w2 ⟨rfl, rfl⟩; clear hown))
      have HW0 := Aside0.mk (Wb.start wr)
      obtain ⟨wr0, hwr0⟩ : ∃ x, x = wr := ⟨_, rfl⟩
      subst hwr0
      obtain ⟨B15, hB15⟩ : ∃ B15, wr0.heap.size = B15 := ⟨_, rfl⟩
      have HBB : Aside0 (Below B15 wr0 (wr0.alloc (.cells #[.int .i64 (-1), .int .i64 0, .string ⟨#[]⟩] 41))) := ⟨by rw [← hB15]; exact (Below.refl _ _).alloc (Nat.le_refl _) _⟩
      rw [hB15] at HW0 HBs ⊢
      obtain ⟨W15, hW15⟩ : ∃ W15, wr0.alloc (.cells #[.int .i64 (-1), .int .i64 0, .string ⟨#[]⟩] 41) = W15 := ⟨_, rfl⟩
      rw [hW15] at HW0 HBB ⊢
      have HE := Aside0.mk (And.intro hB15 hW15)
      clear hB15 hW15
      go_loopg [55] (L.length + 1) (fun kq v55 wr2 => ∃ j : Nat, v55 = .int .i64 j ∧ Aside0 (j + kq = L.length + 1) ∧ Aside0 (Wb wr2 B15 ((L.take j).foldl (wstep i a1) wt0)) ∧ Aside0 (Below B15 wr0 wr2))
      case atStart => exact ⟨0, rfl, ⟨by omega⟩, HW0, HBB⟩
      case round =>
        obtain ⟨j, rfl, HJ, HWB, HB2⟩ := hrel
        (try clear hfind hown)
        by_cases cj : j < L.length
        · obtain ⟨g6, rfl, hg6, x0, x1, x2⟩ := HAT.out j L[j] (List.getElem?_eq_getElem cj)
          have hgB : g6 < B15 := Nat.lt_of_lt_of_le hg6 HBs.out
          have y0 := ((HB2.out.cell (p := ⟨g6, j * 3, none⟩) hgB).trans (HB.out.cell (p := ⟨g6, j * 3, none⟩) hg6)).trans x0
          have y1 := ((HB2.out.cell (p := ⟨g6, j * 3 + 1, none⟩) hgB).trans (HB.out.cell (p := ⟨g6, j * 3 + 1, none⟩) hg6)).trans x1
          have y2 := ((HB2.out.cell (p := ⟨g6, j * 3 + 2, none⟩) hgB).trans (HB.out.cell (p := ⟨g6, j * 3 + 2, none⟩) hg6)).trans x2
          have hws := wfold_succ (i := i) (n := a1) (List.getElem?_eq_getElem cj)
          obtain ⟨e, he⟩ : ∃ e, L[j] = e := ⟨_, rfl⟩
          rw [he] at y0 y1 y2 hws
          obtain ⟨st, hst⟩ : ∃ st, (L.take j).foldl (wstep i a1) wt0 = st := ⟨_, rfl⟩
          have hwb := HWB.out
          rw [hst] at hws hwb
          have z0 : ∀ ob, (wr.alloc ob).cell? ⟨B15, 0, none⟩ = some (.int .i64 st.1) := fun ob => (hwb.al ob).c0
          have z1 : ∀ ob, (wr.alloc ob).cell? ⟨B15, 1, none⟩ = some (.int .i64 st.2.1) := fun ob => (hwb.al ob).c1
          have z2 : ∀ ob, (wr.alloc ob).cell? ⟨B15, 2, none⟩ = some (.string st.2.2) := fun ob => (hwb.al ob).c2
          have fz : ∀ ob k, (wr.alloc ob).frozen? ⟨B15, k, none⟩ = false := fun ob k => World.rowIs.frozen (hwb.al ob) k
          have HWS := Aside0.mk hws
          have HWB2 := Aside0.mk hwb
          have HCJ := Aside0.mk cj
          have HSZ := Aside0.mk (show B15 ≤ wr.heap.size from Nat.le_of_lt (World.rowIs.lt hwb))
          have g1 : decide ((j : Int) < (L.length : Int)) = true := decide_eq_true (by omega)
          have g1n : decide (j < L.length) = true := decide_eq_true cj
          have g2 : (0 ≤ (j : Int)) = True := eq_true (by omega)
          have g3 : ((j : Int) < (L.length : Int)) = True := eq_true (by omega)
          have hj30 : j ≤ 40 := by omega
          clear x0 x1 x2 hg6 hgB he hws hst hwb cj
          by_cases t1 : (e.2.2.toList == a1.toList) = true
          · by_cases t2 : e.1 ≤ i
            · have t2n : decide (e.1 ≤ i) = true := decide_eq_true t2
              have t2i : decide ((e.1 : Int) ≤ (i : Int)) = true := decide_eq_true (by omega)
              by_cases t3 : st.1 < (e.1 : Int)
              · have t3d : decide (st.1 < (e.1 : Int)) = true := decide_eq_true t3
                have HH : Aside0 (wstep i a1 st e = ((e.1 : Int), e.2.1, e.2.2)) := ⟨by unfold wstep; rw [if_pos ⟨t1, by omega, t3⟩]⟩
                clear t2 t3
                go_wp2
                go_roundg (gk - 1)
                case measure => have := HJ.out; have := HCJ.out; omega
                case rel => exact ⟨j + 1, by go_num, ⟨by have := HJ.out; have := HCJ.out; omega⟩, ⟨by rw [HWS.out, HH.out]; exact Wb.put (HWB2.out.al _) _ _ _⟩, ⟨(((HB2.out.alloc HSZ.out _).setCell (Nat.le_refl _) _).setCell (Nat.le_refl _) _).setCell (Nat.le_refl _) _⟩⟩
              · have t3d : decide (st.1 < (e.1 : Int)) = false := decide_eq_false t3
                have HH : Aside0 (wstep i a1 st e = st) := ⟨by unfold wstep; rw [if_neg (fun h => t3 h.2.2)]⟩
                clear t2 t3
                go_wp2
                go_roundg (gk - 1)
                case measure => have := HJ.out; have := HCJ.out; omega
                case rel => exact ⟨j + 1, by go_num, ⟨by have := HJ.out; have := HCJ.out; omega⟩, ⟨by rw [HWS.out, HH.out]; exact HWB2.out.al _⟩, ⟨HB2.out.alloc HSZ.out _⟩⟩
            · have t2n : decide (e.1 ≤ i) = false := decide_eq_false t2
              have t2i : decide ((e.1 : Int) ≤ (i : Int)) = false := decide_eq_false (by omega)
              have HH : Aside0 (wstep i a1 st e = st) := ⟨by unfold wstep; rw [if_neg (fun h => t2 (by omega))]⟩
              clear t2
              go_wp2
              go_roundg (gk - 1)
              case measure => have := HJ.out; have := HCJ.out; omega
              case rel => exact ⟨j + 1, by go_num, ⟨by have := HJ.out; have := HCJ.out; omega⟩, ⟨by rw [HWS.out, HH.out]; exact HWB2.out.al _⟩, ⟨HB2.out.alloc HSZ.out _⟩⟩
          · have t1' : (e.2.2.toList == a1.toList) = false := by simpa using t1
            have HH : Aside0 (wstep i a1 st e = st) := ⟨by unfold wstep; rw [if_neg (fun h => t1 h.1)]⟩
            clear t1
            go_wp2
            go_roundg (gk - 1)
            case measure => have := HJ.out; have := HCJ.out; omega
            case rel => exact ⟨j + 1, by go_num, ⟨by have := HJ.out; have := HCJ.out; omega⟩, ⟨by rw [HWS.out, HH.out]; exact HWB2.out.al _⟩, ⟨HB2.out.alloc HSZ.out _⟩⟩
        · have hfl : L.take j = L := List.take_of_length_le (by omega)
          have hwb := HWB.out
          rw [hfl] at hwb
          obtain ⟨X, hX⟩ : ∃ X, L.foldl (wstep i a1) wt0 = X := ⟨_, rfl⟩
          rw [hX] at hwb
          have hk : (X.1, X.2.1) = res a1 (s :: r) := by
            have h := wfold_all a1 pre s r (fun p hp => HS.out.keys p (by rw [HM.out.2.2.2.2.2.1]; exact List.mem_append_right _ hp))
            rw [HM.out.2.2.2.2.2.2, ← HM.out.2.2.2.2.2.1, HL.out, hX] at h
            exact h
          have hfr := fnd_res a1 (s :: r) 0
          have z0 := hwb.c0
          have z1 := hwb.c1
          have g1 : decide ((j : Int) < (L.length : Int)) = false := decide_eq_false (by omega)
          have g1n : decide (j < L.length) = false := decide_eq_false cj
          have HCH : Aside0 (Chain wr (s :: r) (.pointer (some ⟨s.1, 0, none⟩))) := ⟨Chain.keep (w := wr0) ⟨rfl, _, HC.out.1, HC.out.2⟩ (fun p hp => by
            have hl := Chain.lt (w := wr0) (o := .pointer (some ⟨s.1, 0, none⟩)) (ls := s :: r) ⟨rfl, _, HC.out.1, HC.out.2⟩ p hp
            exact ⟨HB2.out.block _ (by rw [← HE.out.1]; exact hl.1), HB2.out.block _ (by rw [← HE.out.1]; exact hl.2)⟩)⟩
          have CQ : Aside0 (∀ k u, (ptrs ls)[k]? = some u → wr.cell? ⟨g, k, none⟩ = some u) := ⟨fun k u hu => ((HB2.out.cell (p := ⟨g, k, none⟩) (Nat.lt_of_lt_of_le HGC.out.1 HBs.out)).trans (HB.out.cell (p := ⟨g, k, none⟩) HGC.out.1)).trans (HGC.out.2.2 k u hu)⟩
          clear hfl hwb hX cj
          cases bo with
          | false =>
            obtain ⟨h1, rfl, rfl⟩ := HM.out.2.2.1 rfl
            rw [h1] at hfr
            rw [hfr] at hk
            have hx := (Prod.mk.inj hk).1
            rw [hx] at z0
            have hn : lk s.2.2 a1 = none := by
              unfold fnd at h1
              cases c : lk s.2.2 a1 with
              | none => rfl
              | some v => rw [c] at h1; cases h1
            have hvw := HM.out.2.2.2.1
            have hbw := HM.out.2.2.2.2.1
            rw [hn] at hvw hbw
            have hvw' : vw = 0 := hvw.symm
            have hbw' : bw = false := hbw.symm
            subst hvw' hbw'
            clear hfr hk hx h1 hn hvw hbw
            cases r with
            | nil =>
              have hi0 : i = 0 := HM.out.2.2.2.2.2.2.symm
              have hout := fun m => outer_none (wr.drewN m) s (HCH.out.drewN m)
              have d1 : decide (0 < (i : Int)) = false := decide_eq_false (by omega)
              have d1n : decide (0 < i) = false := decide_eq_false (by omega)
              have d2 : ((i : Int) == 0) = true := by rw [beq_iff_eq]; omega
              have d2n : (i == 0) = true := by rw [beq_iff_eq]; exact hi0
              clear hi0
              go_wp2_with fail
              go_quiet ((go_at_call 14; exact Calls.quiet_of_same (hout _)))
              go_wp2
              go_roundg (ls.length - i)
              case measure => have := HI.out; have := HCI.out; omega
              case rel => exact ⟨i + 1, by go_num, ⟨by have := HCI.out; omega⟩, ⟨below_drewN (HB.out.trans (HB2.out.mono HBs.out)) _⟩⟩
            | cons q r =>
              have hi1 : i = r.length + 1 := HM.out.2.2.2.2.2.2.symm
              have hout := fun m => outer_some (wr.drewN m) s q r (HCH.out.drewN m)
              have cq : wr.cell? ⟨g, r.length, none⟩ = some (.pointer (some ⟨q.1, 0, none⟩)) := CQ.out _ _ (by rw [HM.out.2.2.2.2.2.1, show pre ++ s :: q :: r = (pre ++ [s]) ++ q :: r by simp]; exact ptrs_at (pre ++ [s]) q r)
              have d1 : decide (0 < (i : Int)) = true := decide_eq_true (by omega)
              have d1n : decide (0 < i) = true := decide_eq_true (by omega)
              have d2 : ((i : Int) == 0) = false := by rw [beq_eq_false_iff_ne]; omega
              have d2n : (i == 0) = false := by rw [beq_eq_false_iff_ne]; omega
              have d3 : (i : Int) - 1 = (r.length : Int) := by omega
              have d5 : (0 ≤ (r.length : Int)) = True := eq_true (by omega)
              have d6 : ((r.length : Int) < (ls.length : Int)) = True := eq_true (by have := HCI.out; omega)
              clear hi1
              have d4 : wrap64 (r.length : Int) = (r.length : Int) := w64s (by have := HCI.out; have := HM.out.2.2.2.2.2.2; simp only [List.length_cons] at this; omega)
              have d7 : IntKind.i64.wrap (r.length : Int) = (r.length : Int) := (i64_w _).trans d4
              have d8 : IntKind.i64.wrap ((i : Int) - 1) = (r.length : Int) := by rw [d3]; exact d7
              go_wp2_with fail
              go_quiet ((go_at_call 14; exact Calls.quiet_of_same (hout _)))
              go_wp2
              go_roundg (ls.length - i)
              case measure => have := HI.out; have := HCI.out; omega
              case rel => exact ⟨i + 1, by go_num, ⟨by have := HCI.out; omega⟩, ⟨below_drewN (HB.out.trans (HB2.out.mono HBs.out)) _⟩⟩
          | true =>
            have h1 := HM.out.2.1 rfl
            rw [h1] at hfr
            obtain ⟨hfr, _, hul⟩ := hfr
            rw [hfr] at hk
            obtain ⟨hx, hy⟩ := Prod.mk.inj hk
            have hri := HM.out.2.2.2.2.2.2
            simp only [List.length_cons] at hx hul
            obtain ⟨lv, hlv⟩ : ∃ lv : Nat, lv + uo = i := ⟨i - uo, by omega⟩
            rw [show X.1 = (lv : Int) by rw [hx]; omega] at z0
            rw [hy] at z1
            have e1 : (i : Int) - (lv : Int) = (uo : Int) := by omega
            have e3 : decide ((lv : Int) < 0) = false := decide_eq_false (by omega)
            have E2 : Aside0 (wrap64 (uo : Int) = (uo : Int)) := ⟨w64s (by omega)⟩
            by_cases hu : uo = 0
            · have hli : lv = i := by omega
              have hs : lk s.2.2 a1 = some vo := by
                unfold fnd at h1
                cases c : lk s.2.2 a1 with
                | some v => rw [c] at h1; injection h1 with h1; rw [(Prod.mk.inj h1).1]
                | none =>
                  rw [c] at h1
                  have := fnd_shift a1 r 0
                  rw [Nat.zero_add] at this
                  rw [this] at h1
                  obtain ⟨y, _, hy2⟩ := Option.map_eq_some_iff.1 h1
                  have := (Prod.mk.inj hy2).2
                  omega
              have hvw := HM.out.2.2.2.1
              have hbw := HM.out.2.2.2.2.1
              rw [hs] at hvw hbw
              have hvw' : vw = vo := hvw.symm
              have hbw' : bw = true := hbw.symm
              subst hvw' hbw' hu
              rw [hli] at z0 e1 e3
              clear hfr hk hx hy hs hvw hbw h1 hul hri hlv hli
              cases r with
              | nil =>
                have hi0 : i = 0 := HM.out.2.2.2.2.2.2.symm
                have hout := fun m => outer_none (wr.drewN m) s (HCH.out.drewN m)
                have d1 : decide (0 < (i : Int)) = false := decide_eq_false (by omega)
                have d1n : decide (0 < i) = false := decide_eq_false (by omega)
                have d2 : ((i : Int) == 0) = true := by rw [beq_iff_eq]; omega
                have d2n : (i == 0) = true := by rw [beq_iff_eq]; exact hi0
                clear hi0
                have e2 := E2.out
                go_wp2_with fail
                go_quiet ((go_at_call 14; exact Calls.quiet_of_same (hout _)))
                go_wp2
                go_roundg (ls.length - i)
                case measure => have := HI.out; have := HCI.out; omega
                case rel => exact ⟨i + 1, by go_num, ⟨by have := HCI.out; omega⟩, ⟨below_drewN (HB.out.trans (HB2.out.mono HBs.out)) _⟩⟩
              | cons q r =>
                have hi1 : i = r.length + 1 := HM.out.2.2.2.2.2.2.symm
                have hout := fun m => outer_some (wr.drewN m) s q r (HCH.out.drewN m)
                have cq : wr.cell? ⟨g, r.length, none⟩ = some (.pointer (some ⟨q.1, 0, none⟩)) := CQ.out _ _ (by rw [HM.out.2.2.2.2.2.1, show pre ++ s :: q :: r = (pre ++ [s]) ++ q :: r by simp]; exact ptrs_at (pre ++ [s]) q r)
                have d1 : decide (0 < (i : Int)) = true := decide_eq_true (by omega)
                have d1n : decide (0 < i) = true := decide_eq_true (by omega)
                have d2 : ((i : Int) == 0) = false := by rw [beq_eq_false_iff_ne]; omega
                have d2n : (i == 0) = false := by rw [beq_eq_false_iff_ne]; omega
                have d3 : (i : Int) - 1 = (r.length : Int) := by omega
                have d5 : (0 ≤ (r.length : Int)) = True := eq_true (by omega)
                have d6 : ((r.length : Int) < (ls.length : Int)) = True := eq_true (by have := HCI.out; omega)
                clear hi1
                have d4 : wrap64 (r.length : Int) = (r.length : Int) := w64s (by have := HCI.out; have := HM.out.2.2.2.2.2.2; simp only [List.length_cons] at this; omega)
                have d7 : IntKind.i64.wrap (r.length : Int) = (r.length : Int) := (i64_w _).trans d4
                have d8 : IntKind.i64.wrap ((i : Int) - 1) = (r.length : Int) := by rw [d3]; exact d7
                have e2 := E2.out
                go_wp2_with fail
                go_quiet ((go_at_call 14; exact Calls.quiet_of_same (hout _)))
                go_wp2
                go_roundg (ls.length - i)
                case measure => have := HI.out; have := HCI.out; omega
                case rel => exact ⟨i + 1, by go_num, ⟨by have := HCI.out; omega⟩, ⟨below_drewN (HB.out.trans (HB2.out.mono HBs.out)) _⟩⟩
            · have hs : lk s.2.2 a1 = none := by
                unfold fnd at h1
                cases c : lk s.2.2 a1 with
                | some v => rw [c] at h1; injection h1 with h1; exact absurd (Prod.mk.inj h1).2.symm hu
                | none => rfl
              have hvw := HM.out.2.2.2.1
              have hbw := HM.out.2.2.2.2.1
              rw [hs] at hvw hbw
              have hvw' : vw = 0 := hvw.symm
              have hbw' : bw = false := hbw.symm
              subst hvw' hbw'
              have e4 : ((lv : Int) == (i : Int)) = false := by rw [beq_eq_false_iff_ne]; omega
              have e5 : (lv == i) = false := by rw [beq_eq_false_iff_ne]; omega
              clear hfr hk hx hy hs hvw hbw h1 hul hri hlv hu
              cases r with
              | nil =>
                have hi0 : i = 0 := HM.out.2.2.2.2.2.2.symm
                have hout := fun m => outer_none (wr.drewN m) s (HCH.out.drewN m)
                have d1 : decide (0 < (i : Int)) = false := decide_eq_false (by omega)
                have d1n : decide (0 < i) = false := decide_eq_false (by omega)
                have d2 : ((i : Int) == 0) = true := by rw [beq_iff_eq]; omega
                have d2n : (i == 0) = true := by rw [beq_iff_eq]; exact hi0
                clear hi0
                have e2 := E2.out
                go_wp2_with fail
                go_quiet ((go_at_call 14; exact Calls.quiet_of_same (hout _)))
                go_wp2
                go_roundg (ls.length - i)
                case measure => have := HI.out; have := HCI.out; omega
                case rel => exact ⟨i + 1, by go_num, ⟨by have := HCI.out; omega⟩, ⟨below_drewN (HB.out.trans (HB2.out.mono HBs.out)) _⟩⟩
              | cons q r =>
                have hi1 : i = r.length + 1 := HM.out.2.2.2.2.2.2.symm
                have hout := fun m => outer_some (wr.drewN m) s q r (HCH.out.drewN m)
                have cq : wr.cell? ⟨g, r.length, none⟩ = some (.pointer (some ⟨q.1, 0, none⟩)) := CQ.out _ _ (by rw [HM.out.2.2.2.2.2.1, show pre ++ s :: q :: r = (pre ++ [s]) ++ q :: r by simp]; exact ptrs_at (pre ++ [s]) q r)
                have d1 : decide (0 < (i : Int)) = true := decide_eq_true (by omega)
                have d1n : decide (0 < i) = true := decide_eq_true (by omega)
                have d2 : ((i : Int) == 0) = false := by rw [beq_eq_false_iff_ne]; omega
                have d2n : (i == 0) = false := by rw [beq_eq_false_iff_ne]; omega
                have d3 : (i : Int) - 1 = (r.length : Int) := by omega
                have d5 : (0 ≤ (r.length : Int)) = True := eq_true (by omega)
                have d6 : ((r.length : Int) < (ls.length : Int)) = True := eq_true (by have := HCI.out; omega)
                clear hi1
                have d4 : wrap64 (r.length : Int) = (r.length : Int) := w64s (by have := HCI.out; have := HM.out.2.2.2.2.2.2; simp only [List.length_cons] at this; omega)
                have d7 : IntKind.i64.wrap (r.length : Int) = (r.length : Int) := (i64_w _).trans d4
                have d8 : IntKind.i64.wrap ((i : Int) - 1) = (r.length : Int) := by rw [d3]; exact d7
                have e2 := E2.out
                go_wp2_with fail
                go_quiet ((go_at_call 14; exact Calls.quiet_of_same (hout _)))
                go_wp2
                go_roundg (ls.length - i)
                case measure => have := HI.out; have := HCI.out; omega
                case rel => exact ⟨i + 1, by go_num, ⟨by have := HCI.out; omega⟩, ⟨below_drewN (HB.out.trans (HB2.out.mono HBs.out)) _⟩⟩
    · have g1 : decide ((i : Int) < (ls.length : Int)) = false := decide_eq_false (by omega)
      have g1n : decide (i < ls.length) = false := decide_eq_false ci
      have hf := find_calls a1 [] (.pointer none) wr rfl HA2.out (by simp)
      have ef : fndV (fnd a1 [] 0) = .tuple #[.int .i64 0, .int .i64 0, .bool false] := rfl
      rw [ef] at hf
      have hc := cavillaw01_Code.calls (some 1) 1 wr (by simp [cavillaw01_Code.f])
      clear ef ci
      go_wp2_with (first
        | (go_at_call 7; (with_reducible refine hf.mono ?_); rintro e w2 ⟨rfl, rfl⟩)
        | (go_at_call 13; refine (own_nil _ _).mono ?_; rintro e w2 ⟨rfl, rfl⟩)
        | (go_at_call 9; refine (ins_nil _ _ _).mono ?_; rintro e w2 ⟨rfl, rfl⟩)
        | (go_at_call 15; refine hc.mono ?_; rintro e w3 ⟨rfl, b3⟩; have B3 := Aside0.mk b3; clear b3 hc hf)
        | (go_at_call 14; refine (outer_nil _).mono ?_; rintro e w2 ⟨rfl, rfl⟩)
        | (go_at_call 11; refine (names_nil _).mono ?_; rintro e w2 ⟨rfl, rfl⟩)
        | (go_at_call 12; refine (all_nil _).mono ?_; rintro e w2 ⟨rfl, rfl⟩)
        | (go_at_call 10; refine (works_calls _).mono ?_; rintro e w4 ⟨rfl, b4⟩; have B4 := Aside0.mk b4; clear b4))
      all_goals go_ret
      all_goals exact ⟨rfl, ((HS.out.below.trans (HB.out.mono HS.out.below.size)).trans (B3.out.mono (Nat.le_trans HS.out.below.size HB.out.size))).trans (B4.out.mono (Nat.le_trans (Nat.le_trans HS.out.below.size HB.out.size) B3.out.size))⟩
end Go.Proofs.Ytbenbkjnlgopiaa.X
