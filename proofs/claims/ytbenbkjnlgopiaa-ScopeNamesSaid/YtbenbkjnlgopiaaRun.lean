/-
  The deeds, walked.
-/
import Derived.Test.YtbenbkjnlgopiaaSt
namespace Go.Proofs.Ytbenbkjnlgopiaa.X
open Go.WideMaps (keyOf_string_mk)
open Go.RowKit Go.Maps Go.Proofs.YtbenbkjnlgopiaaW.PrintWords Go.Proofs.YtbenbkjnlgopiaaW.PrintLast Go.Proofs.YtbenbkjnlgopiaaW.PrintMore
set_option linter.unusedVariables false
set_option linter.unusedSimpArgs false
theorem cell_two_new' (w : World) (cs : Array Value) (t : TypeId) (j : Nat) (u : Value) (h : cs[j]? = some u) : (w.alloc (.cells cs t)).cell? ⟨w.heap.size, j, none⟩ = some u := by
  have hh := heap_alloc_new w (.cells cs t)
  rw [cell_of_row _ _ j cs t (0, 0) hh]; exact h
theorem cells_new (w : World) (cs : Array Value) (t : TypeId) : ∀ j u, cs.toList[j]? = some u → (w.alloc (.cells cs t)).cell? ((⟨w.heap.size, 0, none⟩ : Addr).add j) = some u := by
  intro j u h
  rw [add_plain]
  exact cell_two_new' w cs t j u (by simpa using h)
theorem u8_range {x : Int} (h : (Lit.int .u8 x).wf = true) : 0 ≤ x ∧ x ≤ 255 := by
  have h' : IntKind.u8.min ≤ x ∧ x ≤ IntKind.u8.max := by simpa [Lit.wf] using h
  exact h'
set_option maxRecDepth 100000 in
set_option maxHeartbeats 8000000 in
theorem run_calls (A0 : Option Addr) (c0 : Nat) (l0 : List S24) (w : World) (hq : l0.length ≤ maxLen ∧ ∀ e0 ∈ l0, ((Lit.int .u8 e0.f0).wf = true ∧ e0.f1.size ≤ maxLen ∧ (Lit.int .i64 e0.f2).wf = true)) (hr0 : Kd.C k24 w A0 l0.length l0) (hc0 : l0.length ≤ c0) :
    Calls Try.prog 6 #[.slice A0 l0.length c0] w fun e w' => ∃ v5 v6 ls, e = .returned (.tuple #[v5, v6, .int .i64 0]) ∧ St w.heap.size w w' ls v5 v6 ∧ ls.length ≤ 32 ∧ (inOf ls).length ≤ 31 := by
  have HQ := Aside0.mk hq
  have HR := Aside0.mk hr0
  have LM : l0.length ≤ 9223372036854775807 := hq.1
  clear hq hr0
  have h1 := new_at none w
  go_enter Try.func6, Try.ntmps6
  go_wp2_with (go_at_call 8; refine h1.mono ?_; rintro e w1 ⟨rfl, s1, b1⟩; have S1 := Aside0.mk s1; have B1 := Aside0.mk b1; clear s1 b1 h1)
  (try simp only [Act.put, List.setIfInBounds_toArray, List.set_cons_zero, List.set_cons_succ])
  have HS := Aside0.mk (st_start S1.out B1.out)
  go_loopg [5, 6, 7] 31 (fun kq v5 v6 v7 wr => ∃ (i : Nat) (ls : List Sc), v7 = .int .i64 i ∧ Aside0 (i + kq = 31 ∧ ls.length ≤ i + 1 ∧ (inOf ls).length ≤ i) ∧ Aside0 (St w.heap.size w wr ls v5 v6))
  case atStart => exact ⟨0, _, rfl, ⟨by omega, by simp, by simp [inOf]⟩, HS⟩
  case round =>
    clear HS S1 B1
    obtain ⟨i, ls, rfl, HI, HT⟩ := hrel
    by_cases ci : i < l0.length ∧ i < 30
    · have c1 : decide ((i : Int) < (l0.length : Int)) = true := decide_eq_true (by omega)
      have c2 : decide ((i : Int) < 30) = true := decide_eq_true (by omega)
      have c3 : (0 ≤ (i : Int)) = True := eq_true (by omega)
      have c4 : ((i : Int) < (l0.length : Int)) = True := eq_true (by omega)
      obtain ⟨ad, e0, h0, h1, h2⟩ := at_T24 (Kd.C_below HR.out HT.out.below) (i : Int) (by omega) (by omega)
      subst e0
      simp only [Int.toNat_natCast] at h0 h1 h2
      obtain ⟨a, ha⟩ : ∃ a, rd_T24 l0 (i : Int) = a := ⟨_, rfl⟩
      rw [ha] at h0 h1 h2
      have ham : a ∈ l0 := by
        rw [← ha]; unfold rd_T24; rw [Int.toNat_natCast, List.getD_eq_getElem?_getD, List.getElem?_eq_getElem (by omega)]; exact List.getElem_mem _
      obtain ⟨q1, q2, q3⟩ := HQ.out.2 a ham
      have HA := Aside0.mk (And.intro q1 (And.intro q2 (And.intro q3 ci)))
      have hi30 : i < 30 := ci.2
      clear ha ham q1 q2 q3 ci
      -- the top
      obtain ⟨o, hch⟩ := HT.out.ch
      cases ls with
      | nil => exact absurd rfl HT.out.ne
      | cons p r =>
      obtain ⟨rfl, o', sc, hr⟩ := hch
      have hall := HT.out.all
      rcases hall.2 with ⟨hz, hz2⟩ | ⟨g, cap, cur, rfl, hg1, hg2, hg3, hg4, hg5, hg6⟩
      · simp at hz2
      have ctop : wr.cell? ⟨g, r.length, none⟩ = some (.pointer (some ⟨p.1, 0, none⟩)) := by
        have := hall.cells (g := g) rfl r.length (.pointer (some ⟨p.1, 0, none⟩)) (by simp [ptrs])
        rwa [add_plain] at this
      have hgl : g < wr.heap.size := (Array.getElem?_eq_some_iff.1 hg2).1
      have ctop2 : ∀ ob, (wr.alloc ob).cell? ⟨g, r.length, none⟩ = some (.pointer (some ⟨p.1, 0, none⟩)) := fun ob => (((Below.refl wr.heap.size wr).alloc (Nat.le_refl _) ob).cell (p := ⟨g, r.length, none⟩) hgl).trans ctop
      clear ctop
      have HG := Aside0.mk (And.intro hg1 (And.intro hg3 (And.intro hg4 hgl)))
      have HC := Aside0.mk (And.intro sc hr)
      clear sc hr hall hg1 hg2 hg3 hg4 hg5 hg6 hgl
      have hrl : r.length ≤ 30 := by have h1 := HI.out; simp only [List.length_cons] at h1; have h2 := HA.out; omega
      have r1 : wrap64 (r.length : Int) = (r.length : Int) := by unfold wrap64; omega
      have hf : 0 ≤ a.f0 ∧ a.f0 ≤ 255 := by exact u8_range HA.out.1
      obtain ⟨hf0, hf1⟩ := hf
      have hm : a.f0 % 3 = 0 ∨ a.f0 % 3 = 1 ∨ a.f0 % 3 = 2 := by omega
      rcases hm with hm | hm | hm
      · have nw := new_at (some ⟨p.1, 0, none⟩) (wr.alloc (.cells #[.int .u8 a.f0, .string a.f1, .int .i64 a.f2] 24))
        have BW : Aside0 (Below wr.heap.size wr (wr.alloc (.cells #[.int .u8 a.f0, .string a.f1, .int .i64 a.f2] 24))) := ⟨(Below.refl _ _).alloc (Nat.le_refl _) _⟩
        obtain ⟨i0, hi, hz0, hz1, hz2⟩ := info_parts info29
        have HI0 := Aside0.mk hi
        have HZ0 := Aside0.mk hz0
        have HZ1 := Aside0.mk hz1
        have HZ2 := Aside0.mk hz2
        clear hi hz0 hz1 hz2
        go_wp2_with (first
          | (go_at_call 8; refine nw.mono ?_; rintro e w2 ⟨rfl, s2, b2⟩; have S2 := Aside0.mk s2; have B2 := Aside0.mk b2; clear s2 b2 nw)
          | (at_builtin; refine wpList_append_own _ rfl _ _ 25 rfl w.heap.size 29 i0 (.pointer none) 1 8 Try.underlying25 HI0.out HZ0.out HZ1.out HZ2.out rfl (by decide) _ (r.length + 1) (ptrs (p :: r)) rfl ((HT.out.below' (BW.out.trans (B2.out.mono BW.out.size))).below' ((Below.refl _ _).alloc (Nat.le_refl _) _)).all ⟨w2.heap.size, 0, none⟩ 1 1 [.pointer (some ⟨wr.heap.size + 1 + 1, 0, none⟩)] rfl rfl (cell_one_new _ _ _) (by simp [Value.oneCell']) (by unfold maxLen; omega) (by omega) (Nat.le_trans ((HT.out.below' (BW.out.trans (B2.out.mono BW.out.size))).size) (by simp)) ?_; intro v5' w3 hown hgrow hnil; have O3 := Aside0.mk hown; have G3 := Aside0.mk hgrow; clear hown hgrow hnil))
        go_roundg (gk - 1)
        case measure => have := HI.out; have := HA.out; omega
        case rel =>
          refine ⟨i + 1, (_, _, []) :: p :: r, by go_num, ?_, ⟨St.push HT.out BW.out S2.out B2.out (by simpa using O3.out) G3.out⟩⟩
          have h1 := HI.out
          have h2 := HA.out
          simp only [List.length_cons] at h1 ⊢
          exact ⟨by omega, by omega, by simpa [inOf] using (by omega : (inOf (p :: r)).length ≤ i + 1)⟩
      · cases r with
        | nil =>
          simp only [List.length_nil] at ctop2
          go_wp2
          go_roundg (gk - 1)
          case measure => have := HI.out; omega
          case rel =>
            have h1 := HI.out
            refine ⟨i + 1, [p], by go_num, ⟨by omega, by simp, by omega⟩, ⟨HT.out.below' ((Below.refl _ _).alloc (Nat.le_refl _) _)⟩⟩
        | cons q r =>
          have d1 : decide (1 < (((q :: r).length + 1 : Nat) : Int)) = true := decide_eq_true (by simp; omega)
          obtain ⟨rl, hrl2⟩ : ∃ rl, rl = (q :: r).length := ⟨_, rfl⟩
          have hq1 : 1 ≤ rl := by rw [hrl2]; simp
          have HX := Aside0.mk hrl2
          rw [← hrl2] at ctop2 hrl r1 d1
          have e2 : (p :: q :: r).length = rl + 1 := by rw [hrl2]; simp
          have hcap := HG.out
          rw [e2] at hcap
          rw [e2]
          have d2 : ((rl : Int) ≤ (cap : Int)) = True := eq_true (by omega)
          have d3 : (0 ≤ (rl : Int)) = True := eq_true (by omega)
          clear hrl2 e2 hcap
          have HT1 := Aside0.mk (HT.out.below' (w' := wr.alloc (.cells #[.int .u8 a.f0, .string a.f1, .int .i64 a.f2] 24)) ((Below.refl _ _).alloc (Nat.le_refl _) _))
          obtain ⟨es, hes⟩ : ∃ es : List Ent, es = p.2.2.reverse.map (fun x => ((q :: r).length, x.2, x.1)) := ⟨_, rfl⟩
          have hin : inOf (p :: q :: r) = inOf (q :: r) ++ es := by rw [hes]; rfl
          have hle : (inOf (q :: r)).length + es.length ≤ 30 := by
            have h1 := HI.out; rw [hin, List.length_append] at h1; omega
          have hle2 : (inOf (q :: r)).length ≤ i := by
            have h1 := HI.out; rw [hin, List.length_append] at h1; omega
          have HLE := Aside0.mk hle2
          clear hle2
          have hlev : ∀ e, e ∈ es → e.1 = rl := by
            intro e he; rw [hes] at he; obtain ⟨x, _, rfl⟩ := List.mem_map.1 he; exact HX.out.symm
          have hinn := HT1.out.inn
          rw [hin] at hinn
          have HE := Aside0.mk (And.intro hle (And.intro hlev hinn))
          clear hes hin hle hlev hinn
          obtain ⟨W, hW⟩ : ∃ W, W = wr.alloc (.cells #[.int .u8 a.f0, .string a.f1, .int .i64 a.f2] 24) := ⟨_, rfl⟩
          go_wp2
          rw [← hW] at HT1 HE ⊢
          have HWW := Aside0.mk hW
          (try simp only [hm])
          clear hW hm
          go_loopg [6] (es.length + 1) (fun kq v6 wr2 => ∃ m : Nat, Aside0 (m + 1 = kq ∧ m ≤ es.length) ∧ Aside0 (W.ownsRow w.heap.size 41 3 v6 (inOf (q :: r) ++ es.take m).length (inC (inOf (q :: r) ++ es.take m))) ∧ wr2 = W)
          case atStart => exact ⟨es.length, ⟨rfl, Nat.le_refl _⟩, ⟨by rw [List.take_length]; exact HE.out.2.2⟩, rfl⟩
          case round =>
            obtain ⟨m, HM, HO, rfl⟩ := hrel
            cases m with
            | zero =>
              have ho := HO.out
              simp only [List.take_zero, List.append_nil] at ho
              have HO2 := Aside0.mk ho
              clear HO
              rcases List.eq_nil_or_concat (inOf (q :: r)) with hnil | ⟨L0, e, hL⟩
              · obtain ⟨A6, c6, rfl⟩ := in_nil ho
                have hl0 : (inOf (q :: r)).length = 0 := by rw [hnil]; rfl
                clear ho hnil
                rw [hl0]
                go_wp2
                go_roundg (30 - i)
                case measure => have := HI.out; omega
                case rel =>
                  have h1 := HI.out
                  have ho := HO2.out
                  rw [hl0] at ho
                  refine ⟨i + 1, q :: r, by go_num, ⟨by omega, by simp only [List.length_cons] at h1 ⊢; omega, by omega⟩, ⟨?_⟩⟩
                  rw [HX.out]
                  exact St.pop HT1.out (by simp) (by rw [hl0]; exact ho)
              · rw [List.concat_eq_append] at hL
                have hlt := inOf_lt (q :: r) e (by rw [hL]; simp)
                rw [hL] at ho
                obtain ⟨g6, c6, rfl, k1, k2, k3⟩ := in_snoc ho
                have hl0 : (inOf (q :: r)).length = L0.length + 1 := by rw [hL]; simp
                have hb := HE.out.1
                obtain ⟨n0, hn0⟩ : ∃ n0, L0.length = n0 := ⟨_, rfl⟩
                rw [hn0] at k1 k2 hl0 HO2
                rw [hn0]
                rw [← HX.out] at hlt
                have f1 : decide ((rl : Int) ≤ (e.1 : Int)) = false := decide_eq_false (by omega)
                have f1n : decide (rl ≤ e.1) = false := decide_eq_false (by omega)
                have f2 : n0 ≤ 30 := by omega
                have f3 : wrap64 (n0 : Int) = (n0 : Int) := by unfold wrap64; omega
                have HZ := Aside0.mk hl0
                clear ho hL k2 k3 hn0 hlt hb hl0
                go_wp2
                go_roundg (30 - i)
                case measure => have := HI.out; omega
                case rel =>
                  have h1 := HI.out
                  have h2 := HLE.out
                  refine ⟨i + 1, q :: r, by go_num, ⟨by omega, by simp only [List.length_cons] at h1 ⊢; omega, by omega⟩, ⟨?_⟩⟩
                  rw [HX.out]
                  exact St.pop HT1.out (by simp) HO2.out
            | succ m =>
              have hm := HM.out
              have ho := HO.out
              have et : es.take (m + 1) = es.take m ++ [es[m]'(by omega)] := List.take_succ_eq_append_getElem (by omega)
              rw [et, ← List.append_assoc] at ho
              have hev := HE.out.2.1 (es[m]'(by omega)) (List.getElem_mem _)
              obtain ⟨g6, c6, rfl, k1, k2, k3⟩ := in_snoc ho
              rw [hev] at k1
              have K3 := Aside0.mk k3
              have hb := HE.out.1
              have hlen : (inOf (q :: r) ++ es.take m).length ≤ 30 := by rw [List.length_append, List.length_take]; omega
              obtain ⟨n0, hn0⟩ : ∃ n0, (inOf (q :: r) ++ es.take m).length = n0 := ⟨_, rfl⟩
              rw [hn0] at k1 k2 hlen K3
              rw [hn0]
              have f1 : decide ((rl : Int) ≤ (rl : Int)) = true := decide_eq_true (Int.le_refl _)
              have f4 : (0 ≤ (n0 : Int)) = True := eq_true (Int.natCast_nonneg _)
              have f5 : ((n0 : Int) ≤ (c6 : Int)) = True := eq_true (Int.ofNat_le.2 (Nat.le_of_succ_le k2))
              have f3 : wrap64 (n0 : Int) = (n0 : Int) := by clear f1 f4 f5 r1; unfold wrap64; omega
              have HZ := Aside0.mk hn0
              clear ho k2 k3 hn0 hb et hev hm HO
              go_wp2
              go_roundg (m + 1)
              case measure => have := HM.out; omega
              case rel => exact ⟨m, ⟨rfl, by have := HM.out; omega⟩, ⟨by rw [HZ.out]; exact K3.out⟩, rfl⟩
      · have HT1 := Aside0.mk (HT.out.below' (w' := wr.alloc (.cells #[.int .u8 a.f0, .string a.f1, .int .i64 a.f2] 24)) ((Below.refl _ _).alloc (Nat.le_refl _) _))
        have hb1 : (wr.alloc (.cells #[.int .u8 a.f0, .string a.f1, .int .i64 a.f2] 24)).cell? ⟨wr.heap.size, 1, none⟩ = some (.string a.f1) := cell_two_new' wr _ _ 1 _ rfl
        have hb2 : (wr.alloc (.cells #[.int .u8 a.f0, .string a.f1, .int .i64 a.f2] 24)).cell? ⟨wr.heap.size, 2, none⟩ = some (.int .i64 a.f2) := cell_two_new' wr _ _ 2 _ rfl
        have hb0 : wr.heap.size < (wr.alloc (.cells #[.int .u8 a.f0, .string a.f1, .int .i64 a.f2] 24)).heap.size := by simp
        have hp8 : p.2.1 < wr.heap.size := HC.out.1.lt.2
        obtain ⟨A6, c6, hv6, hat⟩ := in_at HT1.out.inn
        subst hv6
        obtain ⟨L, hL⟩ : ∃ L, inOf (p :: r) = L := ⟨_, rfl⟩
        rw [hL] at hat
        have HL := Aside0.mk hL
        have HAT := Aside0.mk hat
        have hl30 : L.length ≤ 30 := by have := HI.out; rw [hL] at this; omega
        rw [hL]
        obtain ⟨W, hW⟩ : ∃ W, W = wr.alloc (.cells #[.int .u8 a.f0, .string a.f1, .int .i64 a.f2] 24) := ⟨_, rfl⟩
        obtain ⟨B8, hB8⟩ : ∃ B8, B8 = wr.heap.size := ⟨_, rfl⟩
        go_wp2
        rw [← hW] at HT1 HAT hb1 hb2 hb0 ⊢
        rw [← hB8] at hb1 hb2 hb0 hp8 ⊢
        have HP8 := Aside0.mk hp8
        clear hp8
        have HB := Aside0.mk (And.intro hb1 (And.intro hb2 hb0))
        have HWB := Aside0.mk (And.intro hW hB8)
        (try simp only [hm])
        clear hb1 hb2 hb0 hW hB8 hm hat hL
        go_loopg [10, 79] (L.length + 1) (fun kq v10 v79 wr2 => ∃ j : Nat, v79 = .int .i64 j ∧ Aside0 (j + kq = L.length + 1) ∧ v10 = .int .i64 (wantOf r.length a.f1 (L.take j)) ∧ Aside0 (Below W.heap.size W wr2))
        case atStart => exact ⟨0, rfl, ⟨by omega⟩, rfl, ⟨Below.refl _ _⟩⟩
        case round =>
          obtain ⟨j, rfl, HJ, rfl, HBW⟩ := hrel
          by_cases cj : j < L.length
          · obtain ⟨g6, rfl, hg6, x0, x1, x2⟩ := HAT.out j L[j] (List.getElem?_eq_getElem cj)
            have y0 := (HBW.out.cell (p := ⟨g6, j * 3, none⟩) hg6).trans x0
            have y1 := (HBW.out.cell (p := ⟨g6, j * 3 + 1, none⟩) hg6).trans x1
            have y2 := (HBW.out.cell (p := ⟨g6, j * 3 + 2, none⟩) hg6).trans x2
            have z1 : ∀ ob, (wr.alloc ob).cell? ⟨B8, 1, none⟩ = some (.string a.f1) := fun ob => ((HBW.out.alloc HBW.out.size ob).cell (p := ⟨B8, 1, none⟩) HB.out.2.2).trans HB.out.1
            have hws := want_succ (l := r.length) (n := a.f1) (List.getElem?_eq_getElem cj)
            obtain ⟨e, he⟩ : ∃ e, L[j] = e := ⟨_, rfl⟩
            rw [he] at y0 y1 y2 hws
            have HWS := Aside0.mk hws
            have HCJ := Aside0.mk cj
            have f1 : decide ((j : Int) < (L.length : Int)) = true := decide_eq_true (by omega)
            have f1n : decide (j < L.length) = true := decide_eq_true cj
            have f2 : (0 ≤ (j : Int)) = True := eq_true (by omega)
            have f3 : ((j : Int) < (L.length : Int)) = True := eq_true (by omega)
            have hj30 : j ≤ 30 := by omega
            clear x0 x1 x2 hg6 he hws cj
            by_cases hlev : e.1 = r.length
            · rw [hlev] at y0
              have g1 : ((r.length : Int) == (r.length : Int)) = true := by simp
              by_cases hnm : (e.2.2.toList == a.f1.toList) = true
              · have HH : Aside0 (hit r.length a.f1 e = true) := ⟨by unfold hit; rw [decide_eq_true hlev, hnm]; rfl⟩
                clear hlev
                go_wp2
                go_roundg (gk - 1)
                case measure => have := HJ.out; have := HCJ.out; omega
                case rel => exact ⟨j + 1, by go_num, ⟨by have := HJ.out; have := HCJ.out; omega⟩, by rw [HWS.out, if_pos HH.out], ⟨HBW.out.alloc HBW.out.size _⟩⟩
              · have hnm' : (e.2.2.toList == a.f1.toList) = false := by simpa using hnm
                have HH : Aside0 (¬ hit r.length a.f1 e = true) := ⟨by unfold hit; rw [hnm']; simp⟩
                clear hlev hnm
                go_wp2
                go_roundg (gk - 1)
                case measure => have := HJ.out; have := HCJ.out; omega
                case rel => exact ⟨j + 1, by go_num, ⟨by have := HJ.out; have := HCJ.out; omega⟩, by rw [HWS.out, if_neg HH.out], ⟨HBW.out.alloc HBW.out.size _⟩⟩
            · have g1 : ((e.1 : Int) == (r.length : Int)) = false := by rw [beq_eq_false_iff_ne]; omega
              have g1n : (e.1 == r.length) = false := by rw [beq_eq_false_iff_ne]; exact hlev
              have HH : Aside0 (¬ hit r.length a.f1 e = true) := ⟨by unfold hit; rw [decide_eq_false hlev]; simp⟩
              clear hlev
              go_wp2
              go_roundg (gk - 1)
              case measure => have := HJ.out; have := HCJ.out; omega
              case rel => exact ⟨j + 1, by go_num, ⟨by have := HJ.out; have := HCJ.out; omega⟩, by rw [HWS.out, if_neg HH.out], ⟨HBW.out.alloc HBW.out.size _⟩⟩
          · have hw : wantOf r.length a.f1 (L.take j) = if (lk p.2.2 a.f1).isSome = true then 6 else 0 := by
              rw [List.take_of_length_le (by omega), ← HL.out]; exact want_model p r a.f1
            have f1 : decide ((j : Int) < (L.length : Int)) = false := decide_eq_false (by omega)
            have f1n : decide (j < L.length) = false := decide_eq_false cj
            have HCJ := Aside0.mk cj
            have HHW := Aside0.mk hw
            clear cj hw
            have sc := (HC.out.1).keep (w' := W) (by rw [HWB.out.1]; exact Below.heap_alloc _ _ _ HC.out.1.lt.1) (by rw [HWB.out.1]; exact Below.heap_alloc _ _ _ HC.out.1.lt.2)
            have sc2 := sc.keep (w' := wr) (HBW.out.block _ sc.lt.1) (HBW.out.block _ sc.lt.2)
            have hch := Chain.below ((HC.out.2).keep (w' := W) (fun q hq => by rw [HWB.out.1]; exact ⟨Below.heap_alloc _ _ _ (HC.out.2.lt q hq).1, Below.heap_alloc _ _ _ (HC.out.2.lt q hq).2⟩)) HBW.out
            have HSC := Aside0.mk (And.intro sc2 hch)
            clear sc sc2 hch
            by_cases ea : a.f1.toList = []
            · -- no name
              have hins := ins_empty ⟨p.1, 0, none⟩ a.f1 a.f2 wr ea
              have hcode := cavillaw01_Code.calls (some 1) 1 wr (by simp [cavillaw01_Code.f])
              have HT2 := Aside0.mk (HT1.out.below' HBW.out)
              have z1 := (HBW.out.cell (p := ⟨B8, 1, none⟩) HB.out.2.2).trans HB.out.1
              have z2 := (HBW.out.cell (p := ⟨B8, 2, none⟩) HB.out.2.2).trans HB.out.2.1
              skip
              go_wp2_with (first | (go_at_call 9; refine hins.mono ?_; rintro e w2 ⟨rfl, rfl⟩) | (go_at_call 15; refine hcode.mono ?_; rintro e w3 ⟨rfl, b3⟩; have y1 := (b3.cell (p := ⟨B8, 1, none⟩) (Nat.lt_of_lt_of_le HB.out.2.2 HBW.out.size)).trans z1; have B3 := Aside0.mk b3; clear b3 z1))
              go_roundg (30 - i)
              case measure => have := HI.out; omega
              case rel =>
                have h1 := HI.out
                refine ⟨i + 1, p :: r, by go_num, ⟨by omega, by omega, by omega⟩, ⟨?_⟩⟩
                rw [← HL.out]
                exact HT2.out.below' B3.out
            by_cases eb : a.f1.toList = [95]
            · -- the blank
              have hins := ins_blank ⟨p.1, 0, none⟩ a.f1 a.f2 wr eb
              have hcode := cavillaw01_Code.calls none 0 wr rfl
              have HT2 := Aside0.mk (HT1.out.below' HBW.out)
              have z1 := (HBW.out.cell (p := ⟨B8, 1, none⟩) HB.out.2.2).trans HB.out.1
              have z2 := (HBW.out.cell (p := ⟨B8, 2, none⟩) HB.out.2.2).trans HB.out.2.1
              skip
              go_wp2_with (first | (go_at_call 9; refine hins.mono ?_; rintro e w2 ⟨rfl, rfl⟩) | (go_at_call 15; refine hcode.mono ?_; rintro e w3 ⟨rfl, b3⟩; have y1 := (b3.cell (p := ⟨B8, 1, none⟩) (Nat.lt_of_lt_of_le HB.out.2.2 HBW.out.size)).trans z1; have B3 := Aside0.mk b3; clear b3 z1))
              go_roundg (30 - i)
              case measure => have := HI.out; omega
              case rel =>
                have h1 := HI.out
                refine ⟨i + 1, p :: r, by go_num, ⟨by omega, by omega, by omega⟩, ⟨?_⟩⟩
                rw [← HL.out]
                exact HT2.out.below' B3.out
            have k1 : a.f1.toList.isEmpty = false := by cases c : a.f1.toList with | nil => exact absurd c ea | cons _ _ => rfl
            have k2 : (a.f1.toList == [95]) = false := by simpa using eb
            have K0 := Aside0.mk (And.intro ea eb)
            clear ea eb
            by_cases ec : (lk p.2.2 a.f1).isSome = true
            · -- a name that is there
              have hw2 := HHW.out
              rw [if_pos ec] at hw2
              rw [hw2]
              have hins := ins_dup p.1 p.2.1 o' p.2.2 a.f1 a.f2 wr HSC.out.1 HA.out.2.1 K0.out.1 K0.out.2 ec
              have hcode := cavillaw01_Code.calls (some 6) 6 wr (by simp [cavillaw01_Code.f])
              have HT2 := Aside0.mk (HT1.out.below' HBW.out)
              have z1 := (HBW.out.cell (p := ⟨B8, 1, none⟩) HB.out.2.2).trans HB.out.1
              have z2 := (HBW.out.cell (p := ⟨B8, 2, none⟩) HB.out.2.2).trans HB.out.2.1
              clear hw2 ec
              go_wp2_with (first | (go_at_call 9; refine hins.mono ?_; rintro e w2 ⟨rfl, rfl⟩) | (go_at_call 15; refine hcode.mono ?_; rintro e w3 ⟨rfl, b3⟩; have y1 := (b3.cell (p := ⟨B8, 1, none⟩) (Nat.lt_of_lt_of_le HB.out.2.2 HBW.out.size)).trans z1; have B3 := Aside0.mk b3; clear b3 z1))
              go_roundg (30 - i)
              case measure => have := HI.out; omega
              case rel =>
                have h1 := HI.out
                refine ⟨i + 1, p :: r, by go_num, ⟨by omega, by omega, by omega⟩, ⟨?_⟩⟩
                rw [← HL.out]
                exact HT2.out.below' B3.out
            · -- a new name
              have hw2 := HHW.out
              rw [if_neg ec] at hw2
              rw [hw2]
              have hno : lk p.2.2 a.f1 = none := by
                cases c : lk p.2.2 a.f1 with
                | none => rfl
                | some x => rw [c] at ec; exact absurd rfl ec
              have hlen : p.2.2.length ≤ 1000 := by
                have h1 : (inOf (p :: r)).length ≤ 30 := by rw [HL.out]; exact hl30
                have h2 : (inOf (p :: r)).length = (inOf r).length + p.2.2.length := by show (inOf r ++ _).length = _; simp
                omega
              have hins := ins_new p.1 p.2.1 o' p.2.2 a.f1 a.f2 wr HSC.out.1 HA.out.2.1 HA.out.2.2.1 hlen K0.out.1 K0.out.2 hno
              have HT2 := Aside0.mk (HT1.out.below' HBW.out)
              have z1 := (HBW.out.cell (p := ⟨B8, 1, none⟩) HB.out.2.2).trans HB.out.1
              have z2 := (HBW.out.cell (p := ⟨B8, 2, none⟩) HB.out.2.2).trans HB.out.2.1
              have HN := Aside0.mk hno
              have hB : B8 < wr.heap.size := Nat.lt_of_lt_of_le HB.out.2.2 HBW.out.size
              have HZ := Aside0.mk (And.intro hB (And.intro z1 z2))
              clear hw2 ec hno hlen hB
              go_wp2_with (go_at_call 9; refine hins.mono ?_; rintro e w2 ⟨rfl, s2, t2⟩)
              clear hins z1 z2
              have hcode := cavillaw01_Code.calls none 0 w2 rfl
              have hk := turned_keep t2 HZ.out.1 (by have := HP8.out; omega)
              have hB2 : B8 < w2.heap.size := Nat.lt_of_lt_of_le HZ.out.1 t2.grown.size
              have z1 : w2.cell? ⟨B8, 1, none⟩ = some (.string a.f1) := (World.cell?_of_block hk).trans HZ.out.2.1
              have z2 : w2.cell? ⟨B8, 2, none⟩ = some (.int .i64 a.f2) := (World.cell?_of_block hk).trans HZ.out.2.2
              have HY := Aside0.mk (And.intro hB2 (And.intro z1 z2))
              have S2 := Aside0.mk s2
              have T2 := Aside0.mk t2
              clear hk hB2 z1 z2 s2 t2
              have HT3 : Aside0 (St w.heap.size w wr (p :: r) (.slice (some ⟨g, 0, none⟩) (p :: r).length cap) (.slice A6 L.length c6)) := ⟨by have h := HT2.out; rw [HL.out] at h; exact h⟩
              obtain ⟨i0, hi, hz0, hz1, hz2⟩ := info_parts info41
              have HI0 := Aside0.mk hi
              have HZ0 := Aside0.mk hz0
              have HZ1 := Aside0.mk hz1
              have HZ2 := Aside0.mk hz2
              clear hi hz0 hz1 hz2
              go_wp2_with (first
                | (go_at_call 15; refine hcode.mono ?_; rintro e w3 ⟨rfl, b3⟩; have z1 := (b3.cell (p := ⟨B8, 1, none⟩) HY.out.1).trans HY.out.2.1; have z2 := (b3.cell (p := ⟨B8, 2, none⟩) HY.out.1).trans HY.out.2.2
                   have HO : Aside0 ((w3.alloc (.cells #[.int .i64 (r.length : Int), .int .i64 a.f2, .string a.f1] 41)).ownsRow w.heap.size 41 3 (.slice A6 L.length c6) L.length (inC L)) := ⟨in_after HT3.out HL.out T2.out b3 _⟩
                   have HSZ : Aside0 (w.heap.size ≤ (w3.alloc (.cells #[.int .i64 (r.length : Int), .int .i64 a.f2, .string a.f1] 41)).heap.size) := ⟨size_after HT3.out T2.out b3 _⟩
                   have B3 := Aside0.mk b3; clear b3 hcode)
                | (at_builtin; refine wpList_append_own _ rfl _ _ 26 rfl w.heap.size 41 i0 (.agg #[.int .i64 0, .int .i64 0, .string ⟨#[]⟩]) 3 32 Try.underlying26 HI0.out HZ0.out HZ1.out HZ2.out rfl (by decide) _ L.length (inC L) rfl HO.out ⟨w3.heap.size, 0, none⟩ 1 1 [.int .i64 (r.length : Int), .int .i64 a.f2, .string a.f1] rfl rfl (cells_new w3 _ 41) (by simp [Value.oneCell']) (by unfold maxLen; omega) (by omega) HSZ.out ?_; intro v6' w4 hown hgrow hnil; have O4 := Aside0.mk hown; have G4 := Aside0.mk hgrow; clear hown hgrow hnil))
              go_roundg (30 - i)
              case measure => have := HI.out; omega
              case rel =>
                have h1 := HI.out
                refine ⟨i + 1, (p.1, p.2.1, (a.f1, a.f2) :: p.2.2) :: r, by go_num, ⟨by omega, by simp only [List.length_cons] at h1 ⊢; omega, ?_⟩, ⟨St.put HT3.out HSC.out.2 S2.out T2.out B3.out HN.out (by rw [HL.out]; exact O4.out) G4.out⟩⟩
                have h2 : (inOf (p :: r)).length = (inOf r).length + p.2.2.length := by show (inOf r ++ _).length = _; simp
                show (inOf r ++ _).length ≤ _
                simp
                omega
    · by_cases c1 : i < l0.length
      · have d1 : decide ((i : Int) < (l0.length : Int)) = true := decide_eq_true (by omega)
        have d2 : decide ((i : Int) < 30) = false := decide_eq_false (by omega)
        clear c1 ci
        go_wp2
        all_goals (go_ret3; exact ⟨_, _, ls, rfl, HT.out, by have := HI.out; omega, by have := HI.out; omega⟩)
      · have d1 : decide ((i : Int) < (l0.length : Int)) = false := decide_eq_false (by omega)
        have d1n : decide (i < l0.length) = false := decide_eq_false c1
        clear c1 ci
        go_wp2
        all_goals (go_ret3; exact ⟨_, _, ls, rfl, HT.out, by have := HI.out; omega, by have := HI.out; omega⟩)
end Go.Proofs.Ytbenbkjnlgopiaa.X
