/-
  ScopeNames, walked: it answers true.
-/
import Derived.Test.YtbenbkjnlgopiaaNmF
import Derived.Test.YtbenbkjnlgopiaaFinds
namespace Go.Proofs.Ytbenbkjnlgopiaa.X
open Go.RowKit Go.Maps Go.Proofs.YtbenbkjnlgopiaaW.PrintWords Go.Proofs.YtbenbkjnlgopiaaW.PrintLast Go.Proofs.YtbenbkjnlgopiaaW.PrintMore
set_option linter.unusedVariables false
set_option linter.unusedSimpArgs false
/-- What is known of one scope, in the world behind Names and All. -/
structure Nst (w : World) (s : Sc) (r : List Sc) (L : List Ent) (A6 A10 A11 : Option Addr) : Prop where
  ch : Chain w (s :: r) (.pointer (some ⟨s.1, 0, none⟩))
  ent : ∀ j e, L[j]? = some e → ∃ g, A6 = some ⟨g, 0, none⟩ ∧ g < w.heap.size ∧ w.cell? ⟨g, j * 3, none⟩ = some (.int .i64 (e.1 : Int)) ∧ w.cell? ⟨g, j * 3 + 1, none⟩ = some (.int .i64 e.2.1) ∧ w.cell? ⟨g, j * 3 + 2, none⟩ = some (.string e.2.2)
  nm : ∀ j x, (nmL s.2.2)[j]? = some x → ∃ g, A10 = some ⟨g, 0, none⟩ ∧ g < w.heap.size ∧ w.cell? ⟨g, j, none⟩ = some (.string x)
  al : ∀ j x, (allL (s :: r))[j]? = some x → ∃ g, A11 = some ⟨g, 0, none⟩ ∧ g < w.heap.size ∧ w.cell? ⟨g, j, none⟩ = some (.string x)
theorem Nst.keep {w w' : World} {s : Sc} {r : List Sc} {L : List Ent} {A6 A10 A11 : Option Addr} (h : Nst w s r L A6 A10 A11) (hb : Below w.heap.size w w') : Nst w' s r L A6 A10 A11 where
  ch := h.ch.below hb
  ent := fun j e hj => by
    obtain ⟨g, e1, hg, x0, x1, x2⟩ := h.ent j e hj
    exact ⟨g, e1, Nat.lt_of_lt_of_le hg hb.size, (hb.cell (p := ⟨g, j * 3, none⟩) hg).trans x0, (hb.cell (p := ⟨g, j * 3 + 1, none⟩) hg).trans x1, (hb.cell (p := ⟨g, j * 3 + 2, none⟩) hg).trans x2⟩
  nm := fun j e hj => by
    obtain ⟨g, e1, hg, x0⟩ := h.nm j e hj
    exact ⟨g, e1, Nat.lt_of_lt_of_le hg hb.size, (hb.cell (p := ⟨g, j, none⟩) hg).trans x0⟩
  al := fun j e hj => by
    obtain ⟨g, e1, hg, x0⟩ := h.al j e hj
    exact ⟨g, e1, Nat.lt_of_lt_of_le hg hb.size, (hb.cell (p := ⟨g, j, none⟩) hg).trans x0⟩
set_option maxRecDepth 100000 in
set_option maxHeartbeats 16000000 in
theorem cavillaw28_ScopeNames.calls (A0 : Option Addr) (c0 : Nat) (l0 : List S24) (a1 : ByteArray) (W : World) (hq : l0.length ≤ maxLen ∧ ∀ e0 ∈ l0, ((Lit.int .u8 e0.f0).wf = true ∧ e0.f1.size ≤ maxLen ∧ (Lit.int .i64 e0.f2).wf = true))
    (hsz : a1.size ≤ 140737488351232) (hr0 : Kd.C k24 W A0 l0.length l0) (hc0 : l0.length ≤ c0) :
    Calls Try.prog 4 #[.slice A0 l0.length c0, .string a1] W fun e w' => e = .returned (.bool true) ∧ Below W.heap.size W w' := by
  have ha2 : a1.size ≤ maxLen := by unfold maxLen; omega
  have hrun := run_calls A0 c0 l0 W hq hr0 hc0
  have HA2 := Aside0.mk ha2
  clear ha2 hsz hq hr0
  go_enter Try.func4, Try.ntmps4
  go_wp2_with (go_at_call 6; refine hrun.mono ?_)
  rintro e w1 ⟨v5, v6, ls, rfl, hst, hl1, hl2⟩
  clear hrun
  obtain ⟨g, cap, hv5, hgl, hcap, hgc⟩ : ∃ g cap, v5 = .slice (some ⟨g, 0, none⟩) ls.length cap ∧ g < w1.heap.size ∧ ls.length ≤ cap ∧ ∀ j u, (ptrs ls)[j]? = some u → w1.cell? ⟨g, j, none⟩ = some u := by
    have ha := hst.all
    rcases ha.2 with ⟨_, e⟩ | ⟨g, cap, cur, rfl, k1, k2, k3, k4⟩
    · exact absurd (List.length_eq_zero_iff.1 e) hst.ne
    · exact ⟨g, cap, rfl, (Array.getElem?_eq_some_iff.1 k2).1, k3, fun j u hj => by have := ha.cells (g := g) rfl j u hj; rwa [add_plain] at this⟩
  obtain ⟨A6, c6, hv6, hat⟩ := in_at hst.inn
  subst hv5; subst hv6
  obtain ⟨L, hL⟩ : ∃ L, inOf ls = L := ⟨_, rfl⟩
  rw [hL] at hat hl2 ⊢
  have HS := Aside0.mk hst
  have HL := Aside0.mk hL
  have HAT := Aside0.mk hat
  have HGC := Aside0.mk (And.intro hgl (And.intro hcap hgc))
  clear hst hat hgl hcap hgc hL
  go_wp2
  (try simp only [Act.put, List.setIfInBounds_toArray, List.set_cons_zero, List.set_cons_succ])
  go_loopg [38] (ls.length + 1) (fun kq v38 wr => ∃ i : Nat, v38 = .int .i64 i ∧ Aside0 (i + kq = ls.length + 1) ∧ Aside0 (Below w1.heap.size w1 wr))
  case atStart => exact ⟨0, rfl, ⟨by omega⟩, ⟨Below.refl _ _⟩⟩
  case round =>
    obtain ⟨i, rfl, HI, HB⟩ := hrel
    by_cases ci : i < ls.length
    · obtain ⟨pre, s, r, hls, hri⟩ := split_at ls i ci
      have cp : wr.cell? ⟨g, i, none⟩ = some (.pointer (some ⟨s.1, 0, none⟩)) := (HB.out.cell (p := ⟨g, i, none⟩) HGC.out.1).trans (HGC.out.2.2 i _ (by rw [hls, ← hri]; exact ptrs_at pre s r))
      have hch : Chain wr (s :: r) (.pointer (some ⟨s.1, 0, none⟩)) := by
        obtain ⟨o, hc⟩ := HS.out.ch
        rw [hls] at hc
        exact (chain_drop hc).below HB.out
      have hkeys : ∀ p, p ∈ s :: r → (p.2.2.map (fun q => q.1.toList)).Nodup := fun p hp => HS.out.keys p (by rw [hls]; exact List.mem_append_right _ hp)
      have hinl : (inOf (s :: r)).length ≤ 31 := by
        have := inOf_app pre (s :: r)
        rw [← hls, HL.out] at this
        omega
      have hown : ∀ p, p ∈ s :: r → p.2.2.length ≤ 1000 := by
        intro p hp
        obtain ⟨a, b, hab⟩ := List.append_of_mem hp
        have h1 := inOf_own p b
        have h2 := inOf_app a (p :: b)
        rw [← hab] at h2
        omega
      have hcnt : cnt i L = (nmL s.2.2).length := by rw [nmL_len, ← HL.out, hls, ← hri]; exact cnt_all pre s r
      have hnl : (nmL s.2.2).length ≤ 31 := by rw [nmL_len]; have := inOf_own s r; omega
      have hal : (allL (s :: r)).length ≤ 31 := by have := all_len (s :: r); omega
      obtain ⟨_, o', sc, hcr⟩ := hch
      have hnm := names_calls s.1 s.2.1 o' s.2.2 wr sc (hkeys s List.mem_cons_self) (hown s List.mem_cons_self)
      have HC : Aside0 (Chain wr (s :: r) (.pointer (some ⟨s.1, 0, none⟩))) := ⟨⟨rfl, _, sc, hcr⟩⟩
      have HK := Aside0.mk (And.intro hkeys (And.intro hown (show (cat (s :: r)).length ≤ 1000 by rw [cat_len]; omega)))
      have HM := Aside0.mk (And.intro hls (And.intro hri (And.intro hcnt (And.intro hnl hal))))
      have f1 : decide (i < ls.length) = true := decide_eq_true ci
      have f2 : (0 ≤ (i : Int)) = True := eq_true (by omega)
      have f3 : ((i : Int) < (ls.length : Int)) = True := eq_true (by omega)
      have f4 : decide ((i : Int) < (ls.length : Int)) = true := decide_eq_true (by omega)
      have hi40 : i ≤ 40 := by omega
      have HCI := Aside0.mk ci
      have HBs := Aside0.mk HB.out.size
      clear hkeys hown hcnt hnl hal hinl sc hcr hls hri ci
      go_wp2_with (first
        | (go_at_call 11; (with_reducible refine hnm.mono ?_); rintro e w2 ⟨v10, rfl, ho10, hb10⟩; have HO10 := Aside0.mk ho10; have HB10 := Aside0.mk hb10; clear hnm ho10 hb10; have hall := all_calls (s :: r) _ w2 (HC.out.below HB10.out) HK.out.1 HK.out.2.1 HK.out.2.2; obtain ⟨A10, c10, rfl, hat10⟩ := own_at HO10.out; have HAT10 := Aside0.mk hat10; clear hat10)
        | (go_at_call 12; (with_reducible refine hall.mono ?_); rintro e w3 ⟨v11, rfl, ho11, hb11⟩; have HO11 := Aside0.mk ho11; have HB11 := Aside0.mk hb11; clear hall ho11 hb11; obtain ⟨A11, c11, rfl, hat11⟩ := own_at HO11.out; have HAT11 := Aside0.mk hat11; clear hat11))
      have HN : Aside0 (Nst w3 s r L A6 A10 A11) := ⟨{
        ch := (HC.out.below HB10.out).below HB11.out
        ent := fun j e hj => by
          obtain ⟨g, e1, hg, x0, x1, x2⟩ := HAT.out j e hj
          have hb : Below w1.heap.size w1 w3 := (HB.out.trans (HB10.out.mono HBs.out)).trans (HB11.out.mono (Nat.le_trans HBs.out HB10.out.size))
          exact ⟨g, e1, Nat.lt_of_lt_of_le hg hb.size, (hb.cell (p := ⟨g, j * 3, none⟩) hg).trans x0, (hb.cell (p := ⟨g, j * 3 + 1, none⟩) hg).trans x1, (hb.cell (p := ⟨g, j * 3 + 2, none⟩) hg).trans x2⟩
        nm := fun j x hj => by
          obtain ⟨g, e1, hg, x0⟩ := HAT10.out j x hj
          exact ⟨g, e1, Nat.lt_of_lt_of_le hg HB11.out.size, (HB11.out.cell (p := ⟨g, j, none⟩) hg).trans x0⟩
        al := HAT11.out }⟩
      have HBW : Aside0 (Below w1.heap.size w1 w3) := ⟨(HB.out.trans (HB10.out.mono HBs.out)).trans (HB11.out.mono (Nat.le_trans HBs.out HB10.out.size))⟩
      clear HAT10 HAT11 HO10 HO11 HB10 HB11
      go_loopg [12, 49] (L.length + 1) (fun kq v12 v49 wr2 => ∃ j : Nat, v49 = .int .i64 j ∧ v12 = .int .i64 (cnt i (L.take j) : Nat) ∧ Aside0 (j + kq = L.length + 1) ∧ Aside0 (Below w3.heap.size w3 wr2))
      case atStart => exact ⟨0, rfl, rfl, ⟨by omega⟩, ⟨Below.refl _ _⟩⟩
      case round =>
        obtain ⟨j, rfl, rfl, HJ, HB2⟩ := hrel
        by_cases cj : j < L.length
        · obtain ⟨g6, hA6, hg6, y0, y1, y2⟩ := (HN.out.keep HB2.out).ent j L[j] (List.getElem?_eq_getElem cj)
          subst hA6
          have hcs := cnt_succ (i := i) (List.getElem?_eq_getElem cj)
          obtain ⟨e, he⟩ : ∃ e, L[j] = e := ⟨_, rfl⟩
          rw [he] at y0 y1 y2 hcs
          obtain ⟨k, hk⟩ : ∃ k, cnt i (L.take j) = k := ⟨_, rfl⟩
          rw [hk] at hcs ⊢
          have hkl : k ≤ 31 := by have := cnt_le i (L.take j); rw [List.length_take] at this; omega
          have HCS := Aside0.mk hcs
          have HCJ := Aside0.mk cj
          have HSZ := Aside0.mk HB2.out.size
          have g1 : decide ((j : Int) < (L.length : Int)) = true := decide_eq_true (by omega)
          have g1n : decide (j < L.length) = true := decide_eq_true cj
          have g2 : (0 ≤ (j : Int)) = True := eq_true (by omega)
          have g3 : ((j : Int) < (L.length : Int)) = True := eq_true (by omega)
          have hj30 : j ≤ 40 := by omega
          clear hcs hg6 he hk cj
          by_cases t1 : e.1 = i
          · have t1i : ((e.1 : Int) == (i : Int)) = true := by rw [t1]; simp
            have t1n : (e.1 == i) = true := by simpa using t1
            have HH : Aside0 (cnt i (L.take (j + 1)) = k + 1) := ⟨by rw [HCS.out, if_pos t1]⟩
            clear t1
            go_wp2
            go_roundg (gk - 1)
            case measure => have := HJ.out; have := HCJ.out; omega
            case rel => exact ⟨j + 1, by go_num, by rw [HH.out]; go_num, ⟨by have := HJ.out; have := HCJ.out; omega⟩, ⟨HB2.out.alloc HSZ.out _⟩⟩
          · have t1i : ((e.1 : Int) == (i : Int)) = false := by rw [beq_eq_false_iff_ne]; omega
            have t1n : (e.1 == i) = false := by simpa using t1
            have HH : Aside0 (cnt i (L.take (j + 1)) = k) := ⟨by rw [HCS.out, if_neg t1, Nat.add_zero]⟩
            clear t1
            go_wp2
            go_roundg (gk - 1)
            case measure => have := HJ.out; have := HCJ.out; omega
            case rel => exact ⟨j + 1, by go_num, by rw [HH.out], ⟨by have := HJ.out; have := HCJ.out; omega⟩, ⟨HB2.out.alloc HSZ.out _⟩⟩
        · have hfl : cnt i (L.take j) = (nmL s.2.2).length := by rw [List.take_of_length_le (by omega)]; exact HM.out.2.2.1
          rw [hfl]
          have HN2 : Aside0 (Nst wr s r L A6 A10 A11) := ⟨HN.out.keep HB2.out⟩
          have HBW2 : Aside0 (Below w1.heap.size w1 wr) := ⟨HBW.out.trans (HB2.out.mono HBW.out.size)⟩
          have g1 : decide ((j : Int) < (L.length : Int)) = false := decide_eq_false (by omega)
          have g1n : decide (j < L.length) = false := decide_eq_false cj
          obtain ⟨N, hN⟩ : ∃ N, nmL s.2.2 = N := ⟨_, rfl⟩
          rw [hN]
          have HNN := Aside0.mk hN
          clear hfl cj hN HN HBW HJ HB2
          go_wp2
          go_loopg [66] (N.length + 1) (fun kq v66 wr2 => ∃ j : Nat, v66 = .int .i64 j ∧ Aside0 (j + kq = N.length + 1) ∧ Aside0 (Below wr.heap.size wr wr2))
          case atStart => exact ⟨0, rfl, ⟨by omega⟩, ⟨Below.refl _ _⟩⟩
          case round =>
            obtain ⟨j, rfl, HJ, HB2⟩ := hrel
            by_cases cj : j < N.length
            · obtain ⟨x, hx⟩ : ∃ x, N[j]? = some x := ⟨_, List.getElem?_eq_getElem cj⟩
              have hns := HN2.out.keep HB2.out
              obtain ⟨g6, hA6, hg6, y0⟩ := hns.nm j x (by rw [HNN.out]; exact hx)
              subst hA6
              obtain ⟨_, o2, sc2, _⟩ := hns.ch
              have hlk : (lk s.2.2 x).isSome = true := (nm_mem s.2.2 x).1 (by rw [HNN.out]; exact List.mem_of_getElem? hx)
              have hown := own_calls s.1 s.2.1 o2 s.2.2 x wr sc2 (key_size sc2.own hlk)
              rw [hlk] at hown
              have HLT : Aside0 ((N.map dl).Pairwise (fun a b => a < b)) := ⟨by rw [← HNN.out]; exact nm_lt (HK.out.1 s List.mem_cons_self)⟩
              have hNl : N.length ≤ 31 := by rw [← HNN.out]; exact HM.out.2.2.2.1
              have HCJ := Aside0.mk cj
              have g1 : decide ((j : Int) < (N.length : Int)) = true := decide_eq_true (by omega)
              have g1n : decide (j < N.length) = true := decide_eq_true cj
              have g2 : (0 ≤ (j : Int)) = True := eq_true (by omega)
              have g3 : ((j : Int) < (N.length : Int)) = True := eq_true (by omega)
              have hj30 : j ≤ 40 := by omega
              rcases Nat.eq_zero_or_pos j with hjj | hjp
              · subst hjj
                have z1 : decide ((0 : Int) < (N.length : Int)) = true := decide_eq_true (by omega)
                have z3 : ((0 : Int) < (N.length : Int)) = True := eq_true (by omega)
                have z4 : (0 < N.length) = True := eq_true cj
                clear hns hlk sc2 hg6 cj hx
                go_wp2_with (go_at_call 13; (with_reducible refine hown.mono ?_); rintro e w5 ⟨rfl, rfl⟩; clear hown)
                go_roundg (gk - 1)
                case measure => have := HJ.out; have := HCJ.out; omega
                case rel => exact ⟨1, by go_num, ⟨by have := HJ.out; have := HCJ.out; omega⟩, HB2⟩
              · obtain ⟨j', hjj⟩ : ∃ j', j = j' + 1 := ⟨j - 1, by omega⟩
                clear hjp
                obtain ⟨y, hy⟩ : ∃ y, N[j']? = some y := ⟨_, List.getElem?_eq_getElem (by omega)⟩
                obtain ⟨g7, hA7, _, y1⟩ := hns.nm j' y (by rw [HNN.out]; exact hy)
                injection hA7 with hA7
                injection hA7 with hA7
                subst hA7
                have hb := rise_b HLT.out (by omega) hy hx
                have d1 : decide (0 < (j : Int)) = true := decide_eq_true (by omega)
                have d1n : decide (0 < j) = true := decide_eq_true (by omega)
                have d3 : (j : Int) - 1 = (j' : Int) := by omega
                have d5 : (0 ≤ (j' : Int)) = True := eq_true (by omega)
                have d6 : ((j' : Int) < (N.length : Int)) = True := eq_true (by omega)
                have d9 : j' ≤ 1000 := by omega
                clear hns hlk sc2 hg6 cj hx hy hjj
                have d4 : wrap64 (j' : Int) = (j' : Int) := w64s d9
                have d7 : IntKind.i64.wrap (j' : Int) = (j' : Int) := (i64_w _).trans d4
                have d8 : IntKind.i64.wrap ((j : Int) - 1) = (j' : Int) := by rw [d3]; exact d7
                clear d9 d3
                go_wp2_with (go_at_call 13; (with_reducible refine hown.mono ?_); rintro e w5 ⟨rfl, rfl⟩; clear hown)
                go_roundg (gk - 1)
                case measure => have := HJ.out; have := HCJ.out; omega
                case rel => exact ⟨j + 1, by go_num, ⟨by have := HJ.out; have := HCJ.out; omega⟩, HB2⟩
            · have HN3 : Aside0 (Nst wr s r L A6 A10 A11) := ⟨HN2.out.keep HB2.out⟩
              have HBW3 : Aside0 (Below w1.heap.size w1 wr) := ⟨HBW2.out.trans (HB2.out.mono HBW2.out.size)⟩
              have g1 : decide ((j : Int) < (N.length : Int)) = false := decide_eq_false (by omega)
              have g1n : decide (j < N.length) = false := decide_eq_false cj
              obtain ⟨M, hM⟩ : ∃ M, allL (s :: r) = M := ⟨_, rfl⟩
              rw [hM]
              have HMM := Aside0.mk hM
              clear cj hM HN2 HBW2 HJ HB2
              go_wp2
              go_loopg [19, 95] (M.length + 1) (fun kq v19 v95 wr2 => ∃ j : Nat, v95 = .int .i64 j ∧ v19 = .bool (hasn a1 (M.take j)) ∧ Aside0 (j + kq = M.length + 1) ∧ Aside0 (Below wr.heap.size wr wr2))
              case atStart => exact ⟨0, rfl, rfl, ⟨by omega⟩, ⟨Below.refl _ _⟩⟩
              case round =>
                obtain ⟨j, rfl, rfl, HJ, HB2⟩ := hrel
                by_cases cj : j < M.length
                · obtain ⟨x, hx⟩ : ∃ x, M[j]? = some x := ⟨_, List.getElem?_eq_getElem cj⟩
                  have hns := HN3.out.keep HB2.out
                  obtain ⟨g6, hA6, hg6, y0⟩ := hns.al j x (by rw [HMM.out]; exact hx)
                  subst hA6
                  have hfn : (fnd x (s :: r) 0).isSome = true := (all_mem (s :: r) x).1 (by rw [HMM.out]; exact List.mem_of_getElem? hx)
                  have hfind := find_calls x (s :: r) _ wr hns.ch (fnd_size hns.ch hfn) (by have h1 := HCI.out; have h2 := HM.out.2.1; simp only [List.length_cons]; omega)
                  obtain ⟨vo, uo, bo, ho1, ho2, ho3⟩ := fndV_parts (fnd x (s :: r) 0)
                  rw [ho1] at hfind
                  have hbo : bo = true := by
                    cases bo with
                    | true => rfl
                    | false => rw [(ho3 rfl).1] at hfn; cases hfn
                  subst hbo
                  have HLT : Aside0 ((M.map dl).Pairwise (fun a b => a < b)) := ⟨by rw [← HMM.out]; exact all_lt _⟩
                  have hNl : M.length ≤ 31 := by rw [← HMM.out]; exact HM.out.2.2.2.2
                  have HHS := Aside0.mk (hasn_succ (n := a1) hx)
                  obtain ⟨hb0, hhb⟩ : ∃ b, hasn a1 (M.take j) = b := ⟨_, rfl⟩
                  rw [hhb] at HHS ⊢
                  have HCJ := Aside0.mk cj
                  have g1 : decide ((j : Int) < (M.length : Int)) = true := decide_eq_true (by omega)
                  have g1n : decide (j < M.length) = true := decide_eq_true cj
                  have g2 : (0 ≤ (j : Int)) = True := eq_true (by omega)
                  have g3 : ((j : Int) < (M.length : Int)) = True := eq_true (by omega)
                  have hj30 : j ≤ 40 := by omega
                  clear ho1 ho2 ho3 hfn hhb
                  rcases Nat.eq_zero_or_pos j with hjj | hjp
                  · subst hjj
                    have z1 : decide ((0 : Int) < (M.length : Int)) = true := decide_eq_true (by omega)
                    have z3 : ((0 : Int) < (M.length : Int)) = True := eq_true (by omega)
                    have z4 : (0 < M.length) = True := eq_true cj
                    clear hns hg6 cj hx
                    have HH : Aside0 (hasn a1 (M.take 1) = (hb0 || (x.toList == a1.toList))) := HHS
                    cases hb0
                    all_goals (
                      go_wp2_with (go_at_call 7; (with_reducible refine hfind.mono ?_); rintro e w5 ⟨rfl, rfl⟩; clear hfind)
                      go_roundg (gk - 1)
                      case measure => have := HJ.out; have := HCJ.out; omega
                      case rel => exact ⟨1, by go_num, by simp only [HH.out, Bool.true_or, Bool.false_or], ⟨by have := HJ.out; have := HCJ.out; omega⟩, HB2⟩)
                  · obtain ⟨j', hjj⟩ : ∃ j', j = j' + 1 := ⟨j - 1, by omega⟩
                    clear hjp
                    obtain ⟨y, hy⟩ : ∃ y, M[j']? = some y := ⟨_, List.getElem?_eq_getElem (by omega)⟩
                    obtain ⟨g7, hA7, _, y1⟩ := hns.al j' y (by rw [HMM.out]; exact hy)
                    injection hA7 with hA7
                    injection hA7 with hA7
                    subst hA7
                    have hb := rise_b HLT.out (by omega) hy hx
                    have d1 : decide (0 < (j : Int)) = true := decide_eq_true (by omega)
                    have d1n : decide (0 < j) = true := decide_eq_true (by omega)
                    have d3 : (j : Int) - 1 = (j' : Int) := by omega
                    have d5 : (0 ≤ (j' : Int)) = True := eq_true (by omega)
                    have d6 : ((j' : Int) < (M.length : Int)) = True := eq_true (by omega)
                    have d9 : j' ≤ 1000 := by omega
                    clear hns hg6 cj hx hy hjj
                    have d4 : wrap64 (j' : Int) = (j' : Int) := w64s d9
                    have d7 : IntKind.i64.wrap (j' : Int) = (j' : Int) := (i64_w _).trans d4
                    have d8 : IntKind.i64.wrap ((j : Int) - 1) = (j' : Int) := by rw [d3]; exact d7
                    clear d9 d3
                    cases hb0
                    all_goals (
                      go_wp2_with (go_at_call 7; (with_reducible refine hfind.mono ?_); rintro e w5 ⟨rfl, rfl⟩; clear hfind)
                      go_roundg (gk - 1)
                      case measure => have := HJ.out; have := HCJ.out; omega
                      case rel => exact ⟨j + 1, by go_num, by simp only [HHS.out, Bool.true_or, Bool.false_or], ⟨by have := HJ.out; have := HCJ.out; omega⟩, HB2⟩)
                · have hha : hasn a1 (M.take j) = (fnd a1 (s :: r) 0).isSome := by rw [List.take_of_length_le (by omega), ← HMM.out]; exact hasn_all a1 (s :: r)
                  rw [hha]
                  have hns := HN3.out.keep HB2.out
                  have hfind := find_calls a1 (s :: r) _ wr hns.ch HA2.out (by have h1 := HCI.out; have h2 := HM.out.2.1; simp only [List.length_cons]; omega)
                  have HBW4 : Aside0 (Below w1.heap.size w1 wr) := ⟨HBW3.out.trans (HB2.out.mono HBW3.out.size)⟩
                  have g1 : decide ((j : Int) < (M.length : Int)) = false := decide_eq_false (by omega)
                  have g1n : decide (j < M.length) = false := decide_eq_false cj
                  clear hns cj hha
                  cases hf : fnd a1 (s :: r) 0 with
                  | none =>
                    rw [hf] at hfind
                    rw [show fndV none = .tuple #[.int .i64 0, .int .i64 0, .bool false] from rfl] at hfind
                    rw [show (none : Option (Int × Nat)).isSome = false from rfl]
                    clear hf
                    go_wp2_with (go_at_call 7; (with_reducible refine hfind.mono ?_); rintro e w5 ⟨rfl, rfl⟩; clear hfind)
                    go_roundg (ls.length - i)
                    case measure => have := HI.out; have := HCI.out; omega
                    case rel => exact ⟨i + 1, by go_num, ⟨by have := HCI.out; omega⟩, HBW4⟩
                  | some q =>
                    obtain ⟨vq, uq⟩ := q
                    rw [hf] at hfind
                    rw [show fndV (some (vq, uq)) = .tuple #[.int .i64 vq, .int .i64 (uq : Int), .bool true] from rfl] at hfind
                    rw [show (some (vq, uq) : Option (Int × Nat)).isSome = true from rfl]
                    clear hf
                    go_wp2_with (go_at_call 7; (with_reducible refine hfind.mono ?_); rintro e w5 ⟨rfl, rfl⟩; clear hfind)
                    go_roundg (ls.length - i)
                    case measure => have := HI.out; have := HCI.out; omega
                    case rel => exact ⟨i + 1, by go_num, ⟨by have := HCI.out; omega⟩, HBW4⟩
    · have f1 : decide (i < ls.length) = false := decide_eq_false ci
      have f4 : decide ((i : Int) < (ls.length : Int)) = false := decide_eq_false (by omega)
      have hwk := works_calls wr
      have HBF : Aside0 (Below W.heap.size W wr) := ⟨HS.out.below.trans (HB.out.mono HS.out.below.size)⟩
      clear ci
      go_wp2_with (go_at_call 10; refine hwk.mono ?_; rintro e w4 ⟨rfl, bk⟩; have BK := Aside0.mk bk; clear bk hwk)
      go_ret
      exact ⟨rfl, HBF.out.trans (BK.out.mono HBF.out.size)⟩
end Go.Proofs.Ytbenbkjnlgopiaa.X
