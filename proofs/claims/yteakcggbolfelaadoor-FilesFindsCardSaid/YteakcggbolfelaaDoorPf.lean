/-
  Files: the program's path: strings.Split and each piece a name: the same as the document's.
-/
import Derived.Test.YteakcggbolfelaaDoorPa
import Derived.Test.YteakcggbolfelaaDoorXS
namespace Go.Proofs.YteakcggbolfelaaDoor.X
open Go.RowKit Go.Proofs.YteakcggbolfelaaDoorW.PrintWords Go.Proofs.YteakcggbolfelaaDoorW.PrintLast Go.Proofs.YteakcggbolfelaaDoorW.PrintMore
open Go.Proofs.YteakcggbolfelaaDoor.XS
set_option linter.unusedVariables false
set_option linter.unusedSimpArgs false
theorem ix_eq (l : List UInt8) : Lib.index (47 :: l) [47] = ((0 : Nat) : Int) := by rw [Lib.index]; simp [List.isPrefixOf]
theorem ix_ne {b : UInt8} (l : List UInt8) (h : b ≠ 47) : Lib.index (b :: l) [47] = if Lib.index l [47] == -1 then -1 else Lib.index l [47] + 1 := by
  have hp : ([47] : List UInt8).isPrefixOf (b :: l) = false := by simp [List.isPrefixOf, Ne.symm h]
  rw [Lib.index, hp]; simp
theorem chk_split : ∀ (l cur : List UInt8), ∃ p ps, Lib.splitK [47] 0 (Lib.count l [47]) l = p :: ps ∧ chk cur l = (nameL (cur ++ p) false && ps.all (fun x => nameL x false))
  | [], cur => ⟨[], [], by rw [Lib.count_miss (by simp [Lib.index])]; rfl, by simp [chk]⟩
  | b :: l, cur => by
    by_cases hb : b = 47
    · subst hb
      obtain ⟨p, ps, h1, h2⟩ := chk_split l []
      refine ⟨[], p :: ps, ?_, ?_⟩
      · rw [Lib.count_cons_eq, Nat.add_comm, Lib.splitK, ix_eq, if_neg (by decide)]
        simp [h1]
      · rw [chk_cons, if_pos rfl, h2]; simp
    · obtain ⟨p, ps, h1, h2⟩ := chk_split l (cur ++ [b])
      refine ⟨b :: p, ps, ?_, ?_⟩
      · rw [Lib.count_cons_ne b 47 l hb]
        cases hc : Lib.count l [47] with
        | zero =>
          rw [hc] at h1
          unfold Lib.splitK at h1 ⊢
          injection h1 with h1 h1'
          rw [← h1, ← h1']
        | succ k =>
          rw [hc] at h1
          have hm : Lib.index l [47] ≠ -1 := fun e => by rw [Lib.count_miss e] at hc; cases hc
          have hge := Lib.index_ge l [47]
          obtain ⟨i, hi⟩ : ∃ i : Nat, Lib.index l [47] = i := ⟨(Lib.index l [47]).toNat, by omega⟩
          have hx : Lib.index (b :: l) [47] = ((i + 1 : Nat) : Int) := by rw [ix_ne l hb, if_neg (fun e => hm (beq_iff_eq.1 e)), hi]; omega
          rw [Lib.splitK, hi, if_neg (by rw [beq_iff_eq]; omega)] at h1
          rw [Lib.splitK, hx, if_neg (by rw [beq_iff_eq]; omega)]
          injection h1 with h1 h1'
          simp only [Int.toNat_natCast, Nat.add_zero, List.take_succ_cons] at h1 h1' ⊢
          rw [h1]
          congr 1
      · rw [chk_cons, if_neg hb, h2]; simp
def slash : ByteArray := ⟨#[47]⟩
def pieces (s : ByteArray) : List ByteArray := Lib.splitB slash 0 (Lib.countB s slash) s
theorem pieces_all (s : ByteArray) : (pieces s).all (fun x => nameOk x false) = chk [] s.data.toList := by
  obtain ⟨p, ps, h1, h2⟩ := chk_split s.data.toList []
  have h3 := Lib.splitB_data slash 0 (Lib.countB s slash) s
  have h4 : Lib.splitK slash.data.toList 0 (Lib.countB s slash) s.data.toList = p :: ps := h1
  rw [h4] at h3
  rw [h2]
  have : (pieces s).all (fun x => nameOk x false) = ((pieces s).map (·.data.toList)).all (fun x => nameL x false) := by
    rw [List.all_map]; congr 1
  rw [this]
  unfold pieces
  rw [h3]; simp
theorem pieces_len (s : ByteArray) : (pieces s).length = Lib.countB s slash + 1 := Lib.splitB_all slash (by decide) 0 _ s rfl
theorem pieces_small (s : ByteArray) : ∀ (k : Nat) (t : ByteArray), ∀ x, x ∈ Lib.splitB slash 0 k t → x.size ≤ t.size
  | 0, t, x, h => by rw [Lib.splitB_zero, List.mem_singleton] at h; rw [h]; exact Nat.le_refl _
  | k + 1, t, x, h => by
    unfold Lib.splitB at h
    split at h
    · rw [List.mem_singleton] at h; rw [h]; exact Nat.le_refl _
    · rcases List.mem_cons.1 h with rfl | h
      · rw [ByteArray.size_extract]; omega
      · have := pieces_small s k _ x h
        rw [ByteArray.size_extract] at this
        omega
theorem cell_new1 (w : World) (cs : Array Value) (t : TypeId) (j : Nat) (u : Value) (h : cs[j]? = some u) : (w.alloc (.cells cs t)).cell? ⟨w.heap.size, j, none⟩ = some u := by
  have := heap_alloc_new w (.cells cs t)
  simp only [World.cell?, this]
  exact h
set_option maxRecDepth 100000 in
set_option maxHeartbeats 8000000 in
theorem path_calls (s : ByteArray) (w : World) (hs : s.size ≤ maxLen) (ml : Int) (hml : w.cell? ⟨1, 0, none⟩ = some (.int .i64 ml)) : Calls Tryd.prog 9 #[.string s] w fun e w' => e = .returned (.bool (pathOk s)) ∧ Below w.heap.size w w' := by
  by_cases h1 : s.size ≤ 128
  · have e : pathOk s = (pieces s).all (fun x => nameOk x false) := by unfold pathOk; rw [decide_eq_true h1, Bool.true_and, pieces_all]
    rw [e]
    have h1' : decide ((s.size : Int) > 128) = false := decide_eq_false (by omega)
    have hsp := q_strings_Split s slash ml w (by omega) hml (by decide)
    have hle := Lib.countB_le slash (by decide) s.size s (Nat.le_refl _)
    obtain ⟨L, hL⟩ : ∃ L, pieces s = L := ⟨_, rfl⟩
    have hlen := pieces_len s
    rw [show Lib.splitB slash 0 (Lib.countB s slash) s = pieces s from rfl, ← hlen, hL] at hsp
    rw [hL] at hlen ⊢
    have hcells : ∀ j x, L[j]? = some x → (w.alloc (.cells (L.map Value.string).toArray 9)).cell? ⟨w.heap.size, j, none⟩ = some (.string x) := fun j x hx => cell_new1 w _ 9 j _ (by simp [hx])
    have hbw : Below w.heap.size w (w.alloc (.cells (L.map Value.string).toArray 9)) := (Below.refl _ _).alloc (Nat.le_refl _) _
    have hsm : ∀ x, x ∈ L → x.size ≤ maxLen := fun x hx => by
      have := pieces_small s (Lib.countB s slash) s x (by rw [← hL] at hx; exact hx)
      omega
    have hll : L.length ≤ 129 := by omega
    obtain ⟨W1, hW1⟩ : ∃ W1, w.alloc (.cells (L.map Value.string).toArray 9) = W1 := ⟨_, rfl⟩
    have hlt : w.heap.size < W1.heap.size := by rw [← hW1]; simp
    rw [hW1] at hsp hcells hbw
    have HX := Aside0.mk (And.intro hcells (And.intro hbw (And.intro hsm hlt)))
    clear hcells hbw hsm hlt e hle hlen hml hL
    go_enter Tryd.func9, Tryd.ntmps9
    go_wp2_with (go_at_call 27; refine hsp.mono ?_; rintro e W1 ⟨rfl, rfl⟩)
    (try simp only [Act.put, List.setIfInBounds_toArray, List.set_cons_zero, List.set_cons_succ])
    go_loopg [11] (L.length + 1) (fun kq v11 wr => ∃ j : Nat, v11 = .int .i64 j ∧ Aside0 (j + kq = L.length + 1) ∧ Aside0 ((L.take j).all (fun x => nameOk x false) = true) ∧ Aside0 (Below W1.heap.size W1 wr))
    case atStart => exact ⟨0, rfl, ⟨by omega⟩, ⟨rfl⟩, ⟨Below.refl _ _⟩⟩
    case round =>
      obtain ⟨j, rfl, HJ, HA, HB⟩ := hrel
      by_cases cj : j < L.length
      · obtain ⟨x, hx⟩ : ∃ x, L[j]? = some x := ⟨_, List.getElem?_eq_getElem cj⟩
        have y0 := (HB.out.cell (p := ⟨w.heap.size, j, none⟩) HX.out.2.2.2).trans (HX.out.1 j x hx)
        have hnm := fun w => name_calls x false w (HX.out.2.2.1 x (List.mem_of_getElem? hx))
        have hall : (L.take (j + 1)).all (fun x => nameOk x false) = nameOk x false := by
          obtain ⟨hj, rfl⟩ := List.getElem?_eq_some_iff.1 hx
          rw [List.take_succ_eq_append_getElem hj, List.all_append, HA.out]; simp
        have hnot : nameOk x false = false → L.all (fun x => nameOk x false) = false := fun h => by
          rw [List.all_eq_false]
          exact ⟨x, List.mem_of_getElem? hx, by rw [h]; simp⟩
        have g1 : decide ((j : Int) < (L.length : Int)) = true := decide_eq_true (by omega)
        have g1n : decide (j < L.length) = true := decide_eq_true cj
        have g2 : (0 ≤ (j : Int)) = True := eq_true (by omega)
        have g3 : ((j : Int) < (L.length : Int)) = True := eq_true (by omega)
        have hj30 : j ≤ 129 := by omega
        have HCJ := Aside0.mk cj
        clear hx cj
        have hBx : Below w.heap.size w W1 := HX.out.2.1
        have HBx := Aside0.mk hBx
        clear hBx
        cases hn : nameOk x false with
        | true =>
          rw [hn] at hnm hall
          have HALL := Aside0.mk hall
          clear hall hnot hn
          go_wp2_with (go_at_call 25; (with_reducible refine (hnm _).mono ?_); rintro e w2 ⟨rfl, hb2⟩; have HB2 := Aside0.mk hb2; clear hb2)
          go_roundg (gk - 1)
          case measure => have := HJ.out; have := HCJ.out; omega
          case rel => exact ⟨j + 1, by go_num, ⟨by have := HJ.out; have := HCJ.out; omega⟩, HALL, ⟨HB.out.trans (HB2.out.mono HB.out.size)⟩⟩
        | false =>
          rw [hn] at hnm
          have HNO := Aside0.mk (hnot hn)
          clear hall hnot hn
          go_wp2_with (go_at_call 25; (with_reducible refine (hnm _).mono ?_); rintro e w2 ⟨rfl, hb2⟩; have HB2 := Aside0.mk hb2; clear hb2)
          go_ret
          exact ⟨by rw [HNO.out]; rfl, (HBx.out.trans (HB.out.mono HBx.out.size)).trans (HB2.out.mono (Nat.le_trans HBx.out.size HB.out.size))⟩
      · have hfl : L.take j = L := List.take_of_length_le (by omega)
        have HA2 := HA.out
        rw [hfl] at HA2
        have HA3 := Aside0.mk HA2
        have g1 : decide ((j : Int) < (L.length : Int)) = false := decide_eq_false (by omega)
        have g1n : decide (j < L.length) = false := decide_eq_false cj
        clear HA2 hfl cj
        go_wp2
        go_ret
        exact ⟨by rw [HA3.out]; rfl, HX.out.2.1.trans (HB.out.mono HX.out.2.1.size)⟩
  · have e : pathOk s = false := by unfold pathOk; simp [h1]
    rw [e]
    have h1' : decide ((s.size : Int) > 128) = true := decide_eq_true (by omega)
    go_enter Tryd.func9, Tryd.ntmps9
    go_wp2
    go_ret
    exact ⟨rfl, Below.refl _ _⟩
end Go.Proofs.YteakcggbolfelaaDoor.X
