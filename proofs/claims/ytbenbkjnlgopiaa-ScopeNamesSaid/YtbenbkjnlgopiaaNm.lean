/-
  Names and All: the contracts.
-/
import Derived.Test.YtbenbkjnlgopiaaXS
import Derived.Test.YtbenbkjnlgopiaaCmp
import Derived.Test.YtbenbkjnlgopiaaWk
import Derived.Sort.OwnSorted
import Derived.Lib.OwnBridge
import Derived.Sort.KeysCollected
namespace Go.Proofs.Ytbenbkjnlgopiaa.X
open Go.RowKit Go.Maps Go.Proofs.YtbenbkjnlgopiaaW.PrintWords Go.Proofs.YtbenbkjnlgopiaaW.PrintLast Go.Proofs.YtbenbkjnlgopiaaW.PrintMore
open Go.Proofs.Ytbenbkjnlgopiaa.XS Go.Sort
set_option linter.unusedVariables false
set_option linter.unusedSimpArgs false
def DB (b : List UInt8) : ByteArray := ⟨b.toArray⟩
theorem DB_enc (l : List (List UInt8)) : (l.map DB).map Value.string = l.map encStr := by rw [List.map_map]; rfl
def srt (l : List ByteArray) : List ByteArray := ((l.map (·.data.toList)).mergeSort fun x y => decide (x ≤ y)).map DB
def cmp (l : List ByteArray) : List ByteArray := (Lib.compact (l.map (·.data.toList))).map DB
theorem srt_len (l : List ByteArray) : (srt l).length = l.length := by unfold srt; rw [List.length_map, List.length_mergeSort, List.length_map]
theorem sort_calls (N : Nat) (v : Value) (l : List ByteArray) (W : World) (h : W.ownsRow N 9 1 v l.length (l.map Value.string)) (hl : l.length < 1000000) (hN : N ≤ W.heap.size) :
    Calls Try.prog 18 #[v] W fun e w' => e = .returned (.tuple #[]) ∧ w'.ownsRow N 9 1 v l.length ((srt l).map Value.string) ∧ Below N W w' := by
  rcases h.2 with ⟨rfl, hz⟩ | ⟨g, cap, cur, rfl, hbg, hb, h1, h2, h3, h4⟩
  · obtain rfl := List.eq_nil_of_length_eq_zero hz
    refine (AnyM.slices_Sort_string_none q_sort18 none 0 W).mono ?_
    rintro e w' ⟨rfl, rfl⟩
    exact ⟨rfl, by simpa [srt] using h, Below.refl _ _⟩
  · have hss : (l.map (·.data.toList)).length = l.length := List.length_map _
    have hH : Holds encStr W g 0 (l.map (·.data.toList)).toArray := holds_of_block hb (by rw [hss, Lib.map_encStr]; simpa using h4)
    have c := AnyM.slices_Sort_string q_sort18 g 0 cap (l.map (·.data.toList)) W hH (Array.getElem?_eq_some_iff.1 hb).1 (by omega)
    rw [hss] at c
    refine c.mono ?_
    rintro e w' ⟨rfl, nn, os, rfl⟩
    have hs := ownsRow_sorted (n := nn) (os := os) (ss := l.map (·.data.toList)) (ts := (l.map (·.data.toList)).mergeSort fun x y => decide (x ≤ y)) (List.length_mergeSort _) hbg hb (by rw [hss]; exact h1) h2 h3
    rw [hss] at hs
    exact ⟨rfl, by unfold srt; rw [DB_enc]; exact hs, (Below.refl N W).grown (grownBy_sorted _) hN (fun j hj => by cases hj; exact hbg)⟩
theorem compact_calls (N : Nat) (v : Value) (l : List ByteArray) (W : World) (h : W.ownsRow N 9 1 v l.length (l.map Value.string)) (hl : l.length < 1000000) :
    Calls Try.prog 19 #[v] W fun e w' => ∃ v', e = .returned v' ∧ w'.ownsRow N 9 1 v' (cmp l).length ((cmp l).map Value.string) ∧ Below N W w' := by
  rcases h.2 with ⟨rfl, hz⟩ | ⟨g, cap, cur, rfl, hbg, hb, h1, h2, h3, h4⟩
  · obtain rfl := List.eq_nil_of_length_eq_zero hz
    refine (q_slices_Compact_string_empty none 0 W).mono ?_
    rintro e w' ⟨rfl, rfl⟩
    exact ⟨_, rfl, by have e : cmp [] = [] := rfl; rw [e]; exact h, Below.refl _ _⟩
  · have hss : (l.map (·.data.toList)).length = l.length := List.length_map _
    have hH : Holds encStr W g 0 (l.map (·.data.toList)).toArray := holds_of_block hb (by rw [hss, Lib.map_encStr]; simpa using h4)
    have c := q_slices_Compact_string g 0 cap (l.map (·.data.toList)) W hH (by omega) (by omega)
    rw [hss] at c
    refine c.mono ?_
    rintro e w' ⟨rfl, q, rfl⟩
    have hle := Lib.compact_length_le (l.map (·.data.toList))
    have ho : W.ownsRow N 9 1 (.slice (some ⟨g, 0, none⟩) l.length cap) l.length ((l.map (·.data.toList)).map encStr) := by rw [Lib.map_encStr]; exact h
    have hc := Lib.ownsRow_putRow (q := q) (k := (Lib.compact (l.map (·.data.toList))).length) (ys := Lib.compact (l.map (·.data.toList)) ++ List.replicate (l.length - (Lib.compact (l.map (·.data.toList))).length) []) ho (by simp; omega) (by omega)
    rw [List.take_left] at hc
    refine ⟨_, rfl, ?_, Lib.below_putRow (Below.refl _ _) hbg⟩
    unfold cmp
    rw [DB_enc, List.length_map]
    exact hc
set_option maxHeartbeats 4000000 in
theorem names_nil (w : World) : Calls Try.prog 11 #[.pointer none] w fun e w' => e = .returned (.slice none 0 0) ∧ w = w' := by
  go_enter Try.func11, Try.ntmps11
  go_wp2
  go_ret
  exact ⟨rfl, rfl⟩
set_option maxHeartbeats 4000000 in
theorem all_nil (w : World) : Calls Try.prog 12 #[.pointer none] w fun e w' => e = .returned (.slice none 0 0) ∧ w = w' := by
  have hso := AnyM.slices_Sort_string_none q_sort18 none 0 w
  have hco := q_slices_Compact_string_empty none 0 w
  go_enter Try.func12, Try.ntmps12
  go_wp2
  (try simp only [Act.put, List.setIfInBounds_toArray, List.set_cons_zero, List.set_cons_succ])
  go_loopg [0, 3] 1 (fun kq v0 v3 wr => v0 = .pointer none ∧ v3 = .slice none 0 0 ∧ w = wr)
  case atStart => exact ⟨rfl, rfl, rfl⟩
  case round =>
    obtain ⟨rfl, rfl, rfl⟩ := hrel
    go_wp2_with (first
      | (go_at_call 18; refine hso.mono ?_; rintro e w2 ⟨rfl, rfl⟩)
      | (go_at_call 19; refine hco.mono ?_; rintro e w2 ⟨rfl, rfl⟩))
    go_ret
    exact ⟨rfl, rfl⟩
end Go.Proofs.Ytbenbkjnlgopiaa.X
