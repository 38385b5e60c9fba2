/-
  The fixed example of the laws of scopes.
-/
import Derived.Test.YtbenbkjnlgopiaaSc
namespace Go.Proofs.Ytbenbkjnlgopiaa.X
open Go.WideMaps (keyOf_string_mk)
open Go.RowKit Go.Maps Go.Proofs.YtbenbkjnlgopiaaW.PrintWords Go.Proofs.YtbenbkjnlgopiaaW.PrintLast Go.Proofs.YtbenbkjnlgopiaaW.PrintMore
set_option linter.unusedVariables false
set_option linter.unusedSimpArgs false
theorem new_at (a : Option Addr) (w : World) : Calls Try.prog 8 #[.pointer a] w fun e w' => e = .returned (.pointer (some ⟨w.heap.size + 1, 0, none⟩)) ∧ ScAt w' (w.heap.size + 1) w.heap.size (.pointer a) [] ∧ Below w.heap.size w w' := by
  refine (new_calls a w).mono ?_
  rintro e w' ⟨rfl, rfl⟩
  refine ⟨rfl, ⟨?_, ?_⟩, ((Below.refl _ _).alloc (Nat.le_refl _) _).alloc (by simp) _⟩
  · have h := heap_alloc_new (w.alloc (.map #[] 0)) (.cells #[.pointer a, .map (some w.heap.size)] 49)
    simpa using h
  · exact (World.ownsMap_made w Try.prog 9 _).alloc _
theorem turned_below {w w' : World} {b N : Nat} (h : w.mapTurned w' b) (hb : N ≤ b) (hs : N ≤ w.heap.size) : Below N w w' := (Below.refl N w).grown h.grown hs (fun k e => by injection e with e; omega)
theorem turned_keep {w w' : World} {b k : Nat} (h : w.mapTurned w' b) (hk : k < w.heap.size) (hne : k ≠ b) : w'.heap[k]? = w.heap[k]? := h.grown.block k hk (fun e => hne (by injection e))
abbrev tx : ByteArray := ⟨#[120]⟩
theorem tx_list : tx.toList = [120] := by rw [ByteArray.toList_eq]
set_option maxRecDepth 100000 in
set_option maxHeartbeats 4000000 in
theorem works_calls (w : World) : Calls Try.prog 10 #[] w fun e w' => e = .returned (.bool true) ∧ Below w.heap.size w w' := by
  have h1 := new_at none w
  go_enter Try.func10, Try.ntmps10
  go_wp2_with (go_at_call 8; refine h1.mono ?_; rintro e w1 ⟨rfl, s1, b1⟩; have S1 := Aside0.mk s1; have B1 := Aside0.mk b1; clear s1 b1 h1)
  have h2 := new_at (some ⟨w.heap.size + 1, 0, none⟩) w1
  go_wp2_with (go_at_call 8; refine h2.mono ?_; rintro e w2 ⟨rfl, s2, b2⟩; have S2 := Aside0.mk s2; have B2 := Aside0.mk b2; clear s2 b2 h2)
  have s1 : ScAt w2 (w.heap.size + 1) w.heap.size (.pointer none) [] := S1.out.keep (B2.out.block _ S1.out.lt.1) (B2.out.block _ S1.out.lt.2)
  have h3 := ins_new _ _ _ [] tx 1 w2 s1 (by decide) (by decide) (by simp) (by rw [tx_list]; decide) (by rw [tx_list]; decide) rfl
  have T1 := Aside0.mk s1
  rw [errC_none] at h3
  clear s1
  go_wp2_with (go_at_call 9; refine h3.mono ?_; rintro e w3 ⟨rfl, s3, b3⟩; have S3 := Aside0.mk s3; have B3 := Aside0.mk b3; clear s3 b3 h3)
  have s2 : ScAt w3 (w1.heap.size + 1) w1.heap.size (.pointer (some ⟨w.heap.size + 1, 0, none⟩)) [] := S2.out.keep (turned_keep B3.out S2.out.lt.1 (by have := S1.out.lt; omega)) (turned_keep B3.out S2.out.lt.2 (by have := S1.out.lt; omega))
  have h4 := ins_new _ _ _ [] tx 2 w3 s2 (by decide) (by decide) (by simp) (by rw [tx_list]; decide) (by rw [tx_list]; decide) rfl
  have T2 := Aside0.mk s2
  rw [errC_none] at h4
  clear s2
  go_wp2_with (go_at_call 9; refine h4.mono ?_; rintro e w4 ⟨rfl, s4, b4⟩; have S4 := Aside0.mk s4; have B4 := Aside0.mk b4; clear s4 b4 h4)
  have s3 : ScAt w4 (w.heap.size + 1) w.heap.size (.pointer none) [(tx, 1)] := S3.out.keep (turned_keep B4.out S3.out.lt.1 (by have := S1.out.lt; omega)) (turned_keep B4.out S3.out.lt.2 (by have := S1.out.lt; omega))
  have h5 := find_calls tx [(w1.heap.size + 1, w1.heap.size, [(tx, 2)]), (w.heap.size + 1, w.heap.size, [(tx, 1)])] _ w4 ⟨rfl, _, S4.out, rfl, _, s3, rfl⟩ (by decide) (by simp)
  have e5 : fndV (fnd tx [(w1.heap.size + 1, w1.heap.size, [(tx, 2)]), (w.heap.size + 1, w.heap.size, [(tx, 1)])] 0) = .tuple #[.int .i64 2, .int .i64 0, .bool true] := by
    have e0 : lk [(tx, 2)] tx = some 2 := by unfold lk; simp
    unfold fnd
    simp only []
    rw [e0]
    rfl
  rw [e5] at h5
  clear s3 e5
  go_wp2_with (go_at_call 7; refine h5.mono ?_; rintro e w5 ⟨rfl, rfl⟩)
  go_ret
  have l1 := S1.out.lt
  have z1 := B1.out.size
  have z2 := B2.out.size
  have z3 := B3.out.grown.size
  refine ⟨rfl, ((B1.out.trans (B2.out.mono z1)).trans (turned_below B3.out (Nat.le_refl _) (by omega))).trans (turned_below B4.out (by omega) (by omega))⟩
end Go.Proofs.Ytbenbkjnlgopiaa.X
