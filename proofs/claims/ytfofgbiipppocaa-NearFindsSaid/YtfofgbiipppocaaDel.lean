/-
  slices.DeleteFunc at strings, with a predicate whose closure may lay blocks.
-/
import Derived.Test.YtfofgbiipppocaaIdx
import Derived.Deep.OwnRows
import Derived.Lib.LazyBuf
import Derived.Lib.SliceRun
import Derived.Lib.SlKept
namespace Go.Proofs.Ytfofgbiipppocaa.X
open Go.RowKit Go.Proofs.YtfofgbiipppocaaW.PrintWords Go.Proofs.YtfofgbiipppocaaW.PrintLast Go.Proofs.YtfofgbiipppocaaW.PrintMore
open Go.Lib (keptUpTo keptUpTo_filter KeptInv keptUpTo_all range_map_get)
set_option linter.unusedVariables false
set_option linter.unusedSimpArgs false
/-- The row's first n cells hold these texts. -/
def TR (w : World) (b m n : Nat) (dk : Array ByteArray) : Prop := ∃ g, w.rowIs b 9 m g ∧ n ≤ m ∧ ∀ j, j < n → g j = .string dk[j]!
section
variable {w w1 : World} {b m n : Nat} {dk : Array ByteArray}
theorem TR.cell (h : TR w b m n dk) {j : Nat} (hj : j < n) : w.cell? ⟨b, j, none⟩ = some (.string dk[j]!) := by
  obtain ⟨g, h1, h2, h3⟩ := h
  rw [h1.cell (by omega), h3 j hj]
theorem TR.frozen (h : TR w b m n dk) (i : Nat) : w.frozen? ⟨b, i, none⟩ = false := by
  obtain ⟨g, h1, h2, h3⟩ := h
  exact h1.frozen i
theorem TR.lt (h : TR w b m n dk) : b < w.heap.size := by
  obtain ⟨g, h1, h2, h3⟩ := h
  exact h1.lt
theorem TR.of_block (h : TR w b m n dk) (e : w1.heap[b]? = w.heap[b]?) : TR w1 b m n dk := by
  obtain ⟨g, h1, h2, h3⟩ := h
  exact ⟨g, h1.of_block e, h2, h3⟩
theorem TR.set (h : TR w b m n dk) (hs : dk.size = n) (e : w1.heap[b]? = w.heap[b]?) {i : Nat} (hi : i < n) (u : ByteArray) : TR (w1.setCell ⟨b, i, none⟩ (.string u)) b m n (dk.setIfInBounds i u) := by
  obtain ⟨g, h1, h2, h3⟩ := h
  refine ⟨_, (h1.of_block e).set i (.string u), h2, fun j hj => ?_⟩
  by_cases c : j = i
  · subst c; rw [if_pos rfl, Go.Sort.getElem!_set_same dk j u (by omega)]
  · rw [if_neg c, Go.Sort.getElem!_set_other dk i j u c, h3 j hj]
end
set_option maxHeartbeats 4000000 in
theorem del_row (B b c N m : Nat) (d : Array ByteArray) (p : ByteArray → Bool) (w : World) (hd : d.size < 4611686018427387904)
    (hrow : TR w b m d.size d) (hbN : N ≤ b) (hN : N ≤ w.heap.size) (hcap : d.size ≤ c)
    (hp : ∀ j, j < d.size → ∀ W, Below N w W → Calls Try.prog 15 (#[.string d[j]!] ++ #[.pointer (some ⟨B, 0, none⟩)]) W fun e w' => e = .returned (.bool (p d[j]!)) ∧ Below W.heap.size W w') :
    Calls Try.prog 13 #[.slice (some ⟨b, 0, none⟩) d.size c, .func (.func 15) #[] #[.pointer (some ⟨B, 0, none⟩)]] w fun e w' =>
      e = .returned (.slice (some ⟨b, 0, none⟩) (d.toList.filter (fun o => !p o)).length c) ∧ (∃ g, w'.rowIs b 9 m g ∧ ∀ j, j < d.size → g j = .string ((d.toList.filter (fun o => !p o)).getD j ByteArray.empty)) ∧ Below N w w' := by
  have hb := hrow.lt
  have tl : ∀ j, j < d.size → d.toList.getD j ByteArray.empty = d[j]! := fun j hj => by rw [getElem!_pos d j hj, List.getD_eq_getElem?_getD]; simp [hj]
  have hidx := idx_det B b 0 c d.toList p w (by simpa using hd) (fun j hj => by rw [Nat.zero_add, tl j (by simpa using hj)]; exact hrow.cell (by simpa using hj)) hb (fun j hj W hW => by rw [tl j (by simpa using hj)]; exact hp j (by simpa using hj) W (hW.mono hN))
  rw [show d.toList.length = d.size from Array.length_toList] at hidx
  obtain ⟨kp, HKP⟩ : ∃ kp : Nat → Bool, Aside0 (kp = fun j => !p d[j]!) := ⟨_, ⟨rfl⟩⟩
  have hfil : (d.toList.filter fun x => !p x) = keptUpTo kp d d.size := by rw [HKP.out]; exact (keptUpTo_filter (fun x => !p x) d).symm
  rw [hfil]
  rcases hidx with ⟨i0, hi, hpi, hlow, hidx⟩ | ⟨hno, hidx⟩
  · have hkeep : ∀ j, j < i0 → kp j = true := fun j hj => by rw [HKP.out]; show (!p d[j]!) = true; rw [← tl j (by omega), hlow j hj]; rfl
    have hdrop : kp i0 = false := by rw [HKP.out]; show (!p d[i0]!) = false; rw [← tl i0 hi, hpi]; rfl
    have HST := Aside0.mk (KeptInv.start (d := d) hkeep hdrop)
    have HD := Aside0.mk hd
    have HR := Aside0.mk hrow
    have HP := Aside0.mk hp
    have HN := Aside0.mk (And.intro hbN (And.intro hN (And.intro hb hcap)))
    clear hp hrow hd hbN hN hb hpi hlow tl hfil hkeep hdrop hcap
    have en : ((i0 : Int) == -1) = false := by simp
    go_enter Try.func13, Try.ntmps13
    go_wp2_with (go_at_call 18; refine hidx.mono ?_; rintro e w1 ⟨rfl, hb1⟩)
    (try simp only [Act.put, List.setIfInBounds_toArray, List.set_cons_zero, List.set_cons_succ])
    have HB1 := Aside0.mk hb1
    clear hb1 hidx en
    have e0 : wrap64 ((i0 : Int) + 1) = ((i0 + 1 : Nat) : Int) := by have := HD.out; unfold wrap64; omega
    try rw [e0]
    go_loopg [5, 6, 7] d.size (fun gg s5 s6 _ wr => ∃ (i j : Nat) (dk : Array ByteArray), s5 = .int .i64 i ∧ s6 = .int .i64 j ∧ Aside0 (j ≤ d.size ∧ d.size - j ≤ gg) ∧ Aside0 (KeptInv kp d j i dk) ∧ Aside0 (TR wr b m d.size dk) ∧ Aside0 (Below N w wr))
    case atStart => exact ⟨i0, i0 + 1, d, rfl, by first | rfl | rw [e0], ⟨by omega, by omega⟩, HST, ⟨HR.out.of_block (HB1.out.block b HN.out.2.2.1)⟩, ⟨HB1.out.mono HN.out.2.1⟩⟩
    case round =>
      obtain ⟨i, j, dk, rfl, rfl, HA, HK, HR2, HB⟩ := hrel
      clear HB1
      have hs1 := HK.out.size
      have hs2 := HK.out.lt
      have hs3 := HA.out
      by_cases hlt : j < d.size
      · have c0 : decide ((j : Int) < (d.size : Int)) = true := decide_eq_true (by omega)
        have c1 : (0 ≤ (j : Int)) = True := eq_true (by omega)
        have c2 : ((j : Int) < (d.size : Int)) = True := eq_true (by omega)
        have c3 : (0 ≤ (i : Int)) = True := eq_true (by omega)
        have c4 : ((i : Int) < (d.size : Int)) = True := eq_true (by omega)
        have cj := HR2.out.cell (j := j) hlt
        have ci := HR2.out.cell (j := i) (by omega)
        have fi := HR2.out.frozen i
        have hcall := HP.out j hlt wr HB.out
        have hbw := HR2.out.lt
        rw [HK.out.high j (by omega)] at cj
        have HS := Aside0.mk (And.intro hs1 (And.intro hs2 (And.intro hs3 hbw)))
        clear hs1 hs2 hs3 hbw
        generalize hu : d[j]! = u at cj hcall
        generalize dk[i]! = old at ci
        have HU := Aside0.mk hu
        clear hu
        have e1 : (IntKind.i64.wrap ((i : Int) + 1)) = ((i + 1 : Nat) : Int) := by have := HD.out; have := HS.out; rw [i64_w]; unfold wrap64; omega
        have e2 : (IntKind.i64.wrap ((j : Int) + 1)) = ((j + 1 : Nat) : Int) := by have := HD.out; have := HS.out; rw [i64_w]; unfold wrap64; omega
        by_cases hq : p u = true
        · rw [hq] at hcall
          go_wp2_with (go_at_call 15; refine hcall.mono ?_; rintro e w2 ⟨rfl, hb2⟩)
          go_roundg (d.size - (j + 1))
          case measure => have := HS.out; omega
          case rel => exact ⟨i, j + 1, dk, rfl, by first | rfl | simp [e2], ⟨by omega, Nat.le_refl _⟩, ⟨HK.out.skip (by rw [HKP.out]; show (!p d[j]!) = false; rw [HU.out, hq]; rfl)⟩, ⟨HR2.out.of_block (hb2.block b HS.out.2.2.2)⟩, ⟨HB.out.trans (hb2.mono (Nat.le_trans HN.out.2.1 HB.out.size))⟩⟩
        · have hq' : p u = false := by simpa using hq
          rw [hq'] at hcall
          go_wp2_with (go_at_call 15; refine hcall.mono ?_; rintro e w2 ⟨rfl, hb2⟩; have ci2 := (hb2.cell (p := ⟨b, i, none⟩) HS.out.2.2.2).trans ci; have fi2 := (hb2.frozen (p := ⟨b, i, none⟩) HS.out.2.2.2).trans fi)
          go_roundg (d.size - (j + 1))
          case measure => have := HS.out; omega
          case rel =>
            refine ⟨i + 1, j + 1, dk.setIfInBounds i u, by first | rfl | simp [e1], by first | rfl | simp [e2], ⟨by omega, Nat.le_refl _⟩, ⟨?_⟩, ⟨HR2.out.set HS.out.1 (hb2.block b HS.out.2.2.2) (by have := HS.out; omega) u⟩, ⟨(HB.out.trans (hb2.mono (Nat.le_trans HN.out.2.1 HB.out.size))).setCell (by exact HN.out.1) _⟩⟩
            have := HK.out.keep hlt (by rw [HKP.out]; show (!p d[j]!) = true; rw [HU.out, hq']; rfl)
            rwa [HU.out] at this
      · obtain rfl : j = d.size := by omega
        have c0 : decide ((d.size : Int) < (d.size : Int)) = false := decide_eq_false (by omega)
        have hcl : ∀ ty, (Builtin.clear_ #[25] ty #[.slice (some ⟨b, 0 + i, none⟩) (d.size - i) (c - i)]).run Try.prog wr = .ok (.tuple #[]) (wr.setCells b (0 + i) (List.replicate (d.size - i) (.string ByteArray.empty))) :=
          fun ty => Lib.run_clear_slice wr _ _ ty _ Try.underlying25 (by intro w; kernel_rfl) rfl rfl b (0 + i) _ _ (by omega) (fun t ht => by rw [show 0 + i + t = i + t by omega, HR2.out.cell (j := i + t) (by omega)]; rfl) (fun t ht => HR2.out.frozen _)
        have hcl' := hcl
        simp only [Nat.zero_add] at hcl'
        have HS := Aside0.mk (And.intro hs1 (And.intro hs2 hs3))
        have hcc : i ≤ c := by have := HN.out; omega
        clear hs1 hs2 hs3
        have hne : ¬ c = i := by have := HN.out; have := HS.out; omega
        have c5 : (0 ≤ (i : Int)) = True := eq_true (by omega)
        have c6 : ((i : Int) ≤ (d.size : Int)) = True := eq_true (by have := HS.out; omega)
        have c7 : ((d.size : Int) ≤ (c : Int)) = True := eq_true (by have := HN.out; omega)
        have c8 : ((i : Int) ≤ (c : Int)) = True := eq_true (by omega)
        go_wp2
        go_ret
        have hI := HK.out
        have hl := hI.len
        refine ⟨by rw [hl]; rfl, ?_, Go.below_setCells HN.out.1 _ _ _ HB.out⟩
        obtain ⟨gw, hg1, hg2, hg3⟩ := HR2.out
        refine ⟨_, Go.rowIs_setCells _ i _ _ hg1, fun j hj => ?_⟩
        rw [List.getD_eq_getElem?_getD]
        by_cases cj : j < i
        · rw [if_neg (by omega), hI.low j cj, hg3 j hj]; rfl
        · have := HS.out
          clear e0
          rw [if_pos ⟨by omega, by rw [List.length_replicate]; omega⟩, List.getElem?_eq_none (l := keptUpTo kp d d.size) (by omega), List.getElem?_replicate, if_pos (by omega)]; rfl
  · have hkeep : ∀ j, j < d.size → kp j = true := fun j hj => by rw [HKP.out]; show (!p d[j]!) = true; rw [← tl j hj, hno j hj]; rfl
    have e3 : keptUpTo kp d d.size = d.toList := by rw [keptUpTo_all kp d _ hkeep, range_map_get]
    have H1 := Aside0.mk (And.intro hrow (And.intro hN (And.intro hb tl)))
    clear hno hp hrow hbN hN hb hkeep tl hfil
    rw [e3]
    clear e3
    go_enter Try.func13, Try.ntmps13
    go_wp2_with (go_at_call 18; refine hidx.mono ?_; rintro e w1 ⟨rfl, hb1⟩)
    go_ret
    obtain ⟨h1, h2, h3, h4⟩ := H1.out
    obtain ⟨gw, hg1, hg2, hg3⟩ := h1
    exact ⟨by simp, ⟨gw, hg1.of_block (hb1.block b h3), fun j hj => by rw [h4 j hj, hg3 j hj]⟩, hb1.mono h2⟩
/-- slices.DeleteFunc, of a slice of the call's own. -/
theorem del_calls (B b c N : Nat) (l : List ByteArray) (p : ByteArray → Bool) (w : World) (hd : l.length < 4611686018427387904) (hN : N ≤ w.heap.size)
    (ho : w.ownsRow N 9 1 (.slice (some ⟨b, 0, none⟩) l.length c) l.length (l.map Value.string))
    (hp : ∀ o, o ∈ l → ∀ W, Below N w W → Calls Try.prog 15 (#[.string o] ++ #[.pointer (some ⟨B, 0, none⟩)]) W fun e w' => e = .returned (.bool (p o)) ∧ Below W.heap.size W w') :
    Calls Try.prog 13 #[.slice (some ⟨b, 0, none⟩) l.length c, .func (.func 15) #[] #[.pointer (some ⟨B, 0, none⟩)]] w fun e w' =>
      e = .returned (.slice (some ⟨b, 0, none⟩) (l.filter (fun o => !p o)).length c) ∧ w'.ownsRow N 9 1 (.slice (some ⟨b, 0, none⟩) (l.filter (fun o => !p o)).length c) (l.filter (fun o => !p o)).length ((l.filter (fun o => !p o)).map Value.string) ∧ Below N w w' := by
  rcases ho.2 with ⟨e0, _⟩ | ⟨g', cap', cur, e0, hb, hg, hn, hm, hs, ht⟩
  · cases e0
  injection e0 with e1 _ e3
  injection e1 with e1
  injection e1 with e1
  subst e1; subst e3
  have hsz : l.toArray.size = l.length := by simp
  have hrow : TR w b c l.toArray.size l.toArray := by
    refine ⟨fun j => cur.getD j default, ⟨cur, hg, by omega, fun j hj => ?_⟩, by omega, fun j hj => ?_⟩
    · show cur[j]? = some (cur.getD j default)
      rw [Array.getD_eq_getD_getElem?, Array.getElem?_eq_getElem (by omega)]; rfl
    · have hj' : j < l.length := by simpa using hj
      have h1 : (cur.toList.take (l.length * 1))[j]? = (l.map Value.string)[j]? := by rw [ht]
      rw [List.getElem?_take_of_lt (by omega), Array.getElem?_toList, List.getElem?_map, List.getElem?_eq_getElem hj', Option.map_some] at h1
      show cur.getD j default = _
      rw [Array.getD_eq_getD_getElem?, h1]
      simp [getElem!_pos, hj']
  have h := del_row B b c N c l.toArray p w (by omega) hrow hb hN (by omega) (fun j hj W hW => by
    have hj' : j < l.length := by simpa using hj
    have e : l.toArray[j]! = l[j] := by simp [getElem!_pos, hj']
    rw [e]
    exact hp _ (List.getElem_mem hj') W hW)
  rw [hsz] at h
  have hle := List.length_filter_le (fun o => !p o) l
  refine h.mono ?_
  rintro e w' ⟨rfl, ⟨g, ⟨c2, k1, k2, k3⟩, k4⟩, k5⟩
  refine ⟨rfl, ⟨by simp, .inr ⟨b, c, c2, rfl, hb, k1, by omega, hm, by omega, ?_⟩⟩, k5⟩
  apply List.ext_getElem?
  intro j
  by_cases hj : j < (l.filter (fun o => !p o)).length
  · rw [List.getElem?_take_of_lt (by omega), Array.getElem?_toList, k3 j (by omega), k4 j (by omega), List.getElem?_map, List.getElem?_eq_getElem hj, List.getD_eq_getElem?_getD, List.getElem?_eq_getElem hj]
    rfl
  · rw [List.getElem?_take_eq_none (by omega), List.getElem?_eq_none (by simp; omega)]
end Go.Proofs.Ytfofgbiipppocaa.X
