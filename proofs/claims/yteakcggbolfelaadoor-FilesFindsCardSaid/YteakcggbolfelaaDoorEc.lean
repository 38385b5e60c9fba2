/-
  The law's Code: which of the 25 errors an error is.
-/
import Derived.Test.YteakcggbolfelaaDoorAs
namespace Go.Proofs.YteakcggbolfelaaDoor.Es
open Go.RowKit Go.Proofs.YteakcggbolfelaaDoorW.PrintWords
set_option linter.unusedVariables false
set_option linter.unusedSimpArgs false
theorem code_none (w : World) : Calls Tryd.prog 21 #[.nilIface] w fun e w' => e = .returned (.int .i64 0) ∧ w = w' := by
  go_enter Tryd.func21, Tryd.ntmps21
  go_wp2_with fail
  go_ret
  exact ⟨rfl, rfl⟩
theorem w1 (k : Nat) (h : k ≤ 1000) : wrap64 ((k : Int) + 1) = ((k + 1 : Nat) : Int) := by unfold wrap64; omega
set_option maxHeartbeats 4000000 in
theorem code_of (v : Value) (t : Nat) (c : Int) (hc1 : 1 ≤ c) (hc2 : c ≤ 25) (hIs : ∀ (k : Int) (w : World), Calls Tryd.prog 43 #[.iface t v, .iface 61 (.int .i64 k)] w fun e w' => e = .returned (.bool (c == k)) ∧ Below w.heap.size w w') (w : World) :
    Calls Tryd.prog 21 #[.iface t v] w fun e w' => e = .returned (.int .i64 c) ∧ Below w.heap.size w w' := by
  have HC := Aside0.mk (And.intro hc1 hc2)
  clear hc1 hc2
  have hu30 := Tryd.underlying31
  have HB0 := Aside0.mk (Below.refl w.heap.size w)
  go_enter Tryd.func21, Tryd.ntmps21
  go_wp2_with fail
  (try simp only [Act.put, List.setIfInBounds_toArray, List.set_cons_zero, List.set_cons_succ])
  go_loopg [3] 30 (fun kq v3 wr => ∃ k : Nat, v3 = .int .i64 k ∧ Aside0 (1 ≤ k ∧ (k : Int) ≤ c ∧ kq = 31 - k) ∧ Aside0 (Below w.heap.size w wr))
  case atStart => exact ⟨1, rfl, ⟨by omega, by have := HC.out; omega, rfl⟩, HB0⟩
  case round =>
    obtain ⟨k, rfl, HK, HB⟩ := hrel
    have g1 : decide ((k : Int) ≤ 25) = true := decide_eq_true (by have := HK.out; have := HC.out; omega)
    have g1n : decide (k ≤ 25) = true := decide_eq_true (by have := HK.out; have := HC.out; omega)
    have q1 : ((k : Int) ≤ 25) = True := eq_true (by have := HK.out; have := HC.out; omega)
    have hi := hIs (k : Int) wr
    by_cases e : c = (k : Int)
    · have eb : (c == (k : Int)) = true := beq_iff_eq.2 e
      have E := Aside0.mk e
      rw [eb] at hi
      clear eb e
      go_wp2_with (go_at_call 43; (with_reducible refine hi.mono ?_); rintro e2 w2 ⟨rfl, hb⟩; have HB2 := Aside0.mk hb; clear hb)
      go_ret
      exact ⟨by rw [E.out]; rfl, HB.out.trans (HB2.out.mono HB.out.size)⟩
    · have eb : (c == (k : Int)) = false := beq_eq_false_iff_ne.2 e
      have E := Aside0.mk e
      rw [eb] at hi
      clear eb e
      go_wp2_with (go_at_call 43; (with_reducible refine hi.mono ?_); rintro e2 w2 ⟨rfl, hb⟩; have HB2 := Aside0.mk hb; clear hb)
      go_roundg (gk - 1)
      case measure => have := HK.out; have := HC.out; omega
      case rel => exact ⟨k + 1, by rw [w1 k (by have := HK.out; have := HC.out; omega)], ⟨by omega, by have := HK.out; have := E.out; omega, by have := HK.out; omega⟩, ⟨HB.out.trans (HB2.out.mono HB.out.size)⟩⟩
theorem code_num (c : Int) (hc1 : 1 ≤ c) (hc2 : c ≤ 25) (w : World) : Calls Tryd.prog 21 #[.iface 61 (.int .i64 c)] w fun e w' => e = .returned (.int .i64 c) ∧ Below w.heap.size w w' :=
  code_of _ _ c hc1 hc2 (fun k w => (errors_Is_int c k w).mono (fun e w' h => ⟨h.1, by rw [← h.2]; exact Below.refl _ _⟩)) w
theorem code_lack (s : ByteArray) (c : Int) (hc1 : 1 ≤ c) (hc2 : c ≤ 25) (w : World) : Calls Tryd.prog 21 #[.iface 74 (.agg #[.string s, .iface 61 (.int .i64 c)])] w fun e w' => e = .returned (.int .i64 c) ∧ Below w.heap.size w w' :=
  code_of _ _ c hc1 hc2 (fun k w => errors_Is_lack s c k w) w
/-! What an error is about -/
theorem told_none (w : World) : Calls Tryd.prog 23 #[.nilIface] w fun e w' => e = .returned (.string ByteArray.empty) ∧ Below w.heap.size w w' := by
  have hx : Below w.heap.size w (w.alloc (.cells #[.string ⟨#[]⟩, .nilIface] 74)) := (Below.refl _ _).alloc (Nat.le_refl _) _
  have HX := Aside0.mk hx
  clear hx
  go_enter Tryd.func23, Tryd.ntmps23
  go_wp2_with fail
  go_ret
  exact ⟨rfl, HX.out⟩
set_option maxHeartbeats 4000000 in
theorem told_lack (s : ByteArray) (c : Int) (w : World) (hg : w.cell? ⟨0, 0, none⟩ = some (.iface 106 (.agg #[.pointer (some ⟨4, 31, none⟩)]))) :
    Calls Tryd.prog 23 #[.iface 74 (.agg #[.string s, .iface 61 (.int .i64 c)])] w fun e w' => e = .returned (.string s) ∧ Below w.heap.size w w' := by
  have hlt := World.block_lt_of_cell? w _ hg
  have hx : Below w.heap.size w (w.alloc (.cells #[.string ⟨#[]⟩, .nilIface] 74)) := (Below.refl _ _).alloc (Nat.le_refl _) _
  have hbl : (w.alloc (.cells #[.string ⟨#[]⟩, .nilIface] 74)).heap[w.heap.size]? = some (.cells #[.string ⟨#[]⟩, .nilIface] 74 (0, 0)) := by show (w.heap.push _)[w.heap.size]? = _; simp
  have hh := as_hit w.heap.size s c (.string ⟨#[]⟩) .nilIface (w.alloc (.cells #[.string ⟨#[]⟩, .nilIface] 74)) ((hx.cell (p := ⟨0, 0, none⟩) hlt).trans hg) (by simp only [World.cell?, hbl]; rfl) (by simp only [World.cell?, hbl]; rfl) (blk_frozen hbl 0) (blk_frozen hbl 1)
  have hfin : ∀ w', w' = ((asW (w.alloc (.cells #[.string ⟨#[]⟩, .nilIface] 74)) w.heap.size (.string s) (.iface 61 (.int .i64 c))).setCell ⟨w.heap.size, 0, none⟩ (.string s)).setCell ⟨w.heap.size, 1, none⟩ (.iface 61 (.int .i64 c)) → w'.cell? ⟨w.heap.size, 0, none⟩ = some (.string s) ∧ Below w.heap.size w w' := fun w' hw => by
    subst hw
    refine ⟨?_, ?_⟩
    · rw [World.cell?_setCell_other _ _ _ _ (by intro e; injection e with _ e; cases e)]
      refine World.cell?_setCell_same _ _ _ (show _ = some (.string ⟨#[]⟩) from ?_)
      unfold asW
      rw [World.cell?_alloc_lt _ _ ⟨w.heap.size, 0, none⟩ (by simp; omega), World.cell?_alloc_lt _ _ ⟨w.heap.size, 0, none⟩ (by simp; omega), World.cell?_alloc_lt _ _ ⟨w.heap.size, 0, none⟩ (by simp; omega), World.cell?_alloc_lt _ _ ⟨w.heap.size, 0, none⟩ (by simp)]
      simp only [World.cell?, hbl]; rfl
    · unfold asW
      exact below_set (below_set (below_alloc (below_alloc (below_alloc (below_alloc hx _) _) _) _) (Nat.le_refl _)) (Nat.le_refl _)
  have HF := Aside0.mk hfin
  clear hfin hg hlt hx hbl
  go_enter Tryd.func23, Tryd.ntmps23
  go_wp2_with (go_at_call 45; (with_reducible refine hh.mono ?_); rintro e w2 ⟨rfl, hw⟩; obtain ⟨hc0, hb⟩ := HF.out w2 hw; clear hw; have HB := Aside0.mk hb; clear hb)
  go_ret
  exact ⟨rfl, HB.out⟩
end Go.Proofs.YteakcggbolfelaaDoor.Es
