/-
  Where a file is: slices.IndexFunc with the two closures, and files.place.
-/
import Derived.Test.YteakcggbolfelaaDoorPk
import Derived.Laws.Strings
namespace Go.Proofs.YteakcggbolfelaaDoor.Y
open Go.RowKit Go.Proofs.YteakcggbolfelaaDoorW.PrintWords Go.Proofs.YteakcggbolfelaaDoorW.PrintLast Go.Proofs.YteakcggbolfelaaDoorW.PrintMore
set_option linter.unusedVariables false
set_option linter.unusedSimpArgs false
open Classical in
/-- The first place of a name. -/
noncomputable def firstI : List ByteArray → ByteArray → Option Nat
  | [], _ => none
  | x :: t, s => if x = s then some 0 else (firstI t s).map (· + 1)
theorem firstI_yes {t : List ByteArray} {s : ByteArray} : firstI (s :: t) s = some 0 := by unfold firstI; rw [if_pos rfl]
theorem firstI_no {x : ByteArray} {t : List ByteArray} {s : ByteArray} (h : x ≠ s) : firstI (x :: t) s = (firstI t s).map (· + 1) := by
  show (if x = s then some 0 else (firstI t s).map (· + 1)) = _
  rw [if_neg h]
theorem firstI_lt : ∀ (l : List ByteArray) (s : ByteArray) (i : Nat), firstI l s = some i → ∃ h : i < l.length, l[i] = s
  | [], _, _, h => by cases h
  | x :: t, s, i, h => by
    by_cases c : x = s
    · subst c; rw [firstI_yes] at h; obtain rfl := Option.some.inj h; exact ⟨by simp, rfl⟩
    · rw [firstI_no c] at h
      obtain ⟨j, hj, rfl⟩ := Option.map_eq_some_iff.1 h
      obtain ⟨hl, e⟩ := firstI_lt t s j hj
      exact ⟨by simp; exact hl, by simpa using e⟩
def idxW : Option Nat → Int
  | none => -1
  | some i => i
theorem beq_ne {a b : ByteArray} (h : a ≠ b) : (a.toList == b.toList) = false := by
  rw [beq_eq_false_iff_ne]
  intro e
  rw [ByteArray.toList_eq, ByteArray.toList_eq] at e
  apply h
  cases a; cases b
  simp only [ByteArray.mk.injEq]
  exact Array.toList_inj.1 e
theorem clo53 (B : Nat) (s p : ByteArray) (v : Value) (b : Bool) (hb : (p.toList == s.toList) = b) (W : World) (hc : W.cell? ⟨B, 0, none⟩ = some (.string s)) :
    Calls Tryd.prog 53 #[.agg #[.string p, v], .pointer (some ⟨B, 0, none⟩)] W fun e w' => e = .returned (.bool b) ∧ Below W.heap.size W w' := by
  have hlt := World.block_lt_of_cell? W _ hc
  have hx : Below W.heap.size W (W.alloc (.cells #[.string p, v] 47)) := (Below.refl _ _).alloc (Nat.le_refl _) _
  have hc2 : (W.alloc (.cells #[.string p, v] 47)).cell? ⟨B, 0, none⟩ = some (.string s) := (hx.cell (p := ⟨B, 0, none⟩) hlt).trans hc
  have HX := Aside0.mk hx
  clear hx hlt
  cases b <;>
  · go_enter Tryd.func53, Tryd.ntmps53
    go_wp2_with fail
    go_ret
    exact ⟨by rfl, HX.out⟩
theorem clo55 (B : Nat) (s p : ByteArray) (v : Value) (b : Bool) (hb : (p.toList == s.toList) = b) (W : World) (hc : W.cell? ⟨B, 0, none⟩ = some (.string s)) :
    Calls Tryd.prog 55 #[.agg #[.string p, v], .pointer (some ⟨B, 0, none⟩)] W fun e w' => e = .returned (.bool b) ∧ Below W.heap.size W w' := by
  have hlt := World.block_lt_of_cell? W _ hc
  have hx : Below W.heap.size W (W.alloc (.cells #[.string p, v] 37)) := (Below.refl _ _).alloc (Nat.le_refl _) _
  have hc2 : (W.alloc (.cells #[.string p, v] 37)).cell? ⟨B, 0, none⟩ = some (.string s) := (hx.cell (p := ⟨B, 0, none⟩) hlt).trans hc
  have HX := Aside0.mk hx
  clear hx hlt
  cases b <;>
  · go_enter Tryd.func55, Tryd.ntmps55
    go_wp2_with fail
    go_ret
    exact ⟨by rfl, HX.out⟩
theorem elem47 {w : World} {A : Option Addr} {l : List S47} (h : Kd.C k47 w A l.length l) (i : Nat) (hi : i < l.length) : ∃ ad v, A = some ad ∧ w.cell? (ad.add (i * 2)) = some (.string l[i].f0) ∧ w.cell? ⟨(ad.add (i * 2)).block, (ad.add (i * 2)).off + 1, none⟩ = some v ∧ v.oneCell' = true := by
  obtain ⟨ad, A1, c1, e, h1, h2, _, _⟩ := at_T47 h (i : Int) (by omega) (by omega)
  have er : rd_T47 l (i : Int) = l[i] := by unfold rd_T47; rw [Int.toNat_natCast, List.getD_eq_getElem?_getD, List.getElem?_eq_getElem hi]; rfl
  rw [er, Int.toNat_natCast] at h1 h2
  exact ⟨ad, _, e, h1, h2, rfl⟩
set_option maxHeartbeats 4000000 in
theorem idx48_calls {A : Option Addr} {c B : Nat} {l : List S47} {s : ByteArray} {w : World} (h : Kd.C k47 w A l.length l) (hn : l.length < 1000000) (hb : w.cell? ⟨B, 0, none⟩ = some (.string s)) :
    Calls Tryd.prog 48 #[.slice A l.length c, .func (.func 53) #[] #[.pointer (some ⟨B, 0, none⟩)]] w fun e w' => e = .returned (.int .i64 (idxW (firstI (l.map S47.f0) s))) ∧ Below w.heap.size w w' := by
  have HC := Aside0.mk h
  have HN := Aside0.mk hn
  have HBX := Aside0.mk hb
  clear h hn hb
  obtain ⟨r, hr⟩ : ∃ r, idxW (firstI (l.map S47.f0) s) = r := ⟨_, rfl⟩
  rw [hr]
  have HR := Aside0.mk hr
  clear hr
  go_enter Tryd.func48, Tryd.ntmps48
  go_wp2
  (try simp only [Act.put, List.setIfInBounds_toArray, List.set_cons_zero, List.set_cons_succ])
  go_loopg [5, 8] (l.length + 1) (fun kq v5 v8 wr => ∃ i : Nat, v8 = .int .i64 i ∧ Aside0 (i ≤ l.length ∧ kq = l.length + 1 - i) ∧ Aside0 (firstI (l.map S47.f0) s = (firstI ((l.map S47.f0).drop i) s).map (· + i)) ∧ Aside0 (Below w.heap.size w wr))
  case atStart => exact ⟨0, rfl, ⟨Nat.zero_le _, rfl⟩, ⟨by simp⟩, ⟨Below.refl _ _⟩⟩
  case round =>
    obtain ⟨i, rfl, HI, HF, HB⟩ := hrel
    by_cases ci : i < l.length
    · obtain ⟨ad, v, rfl, a0, a1, hv⟩ := elem47 (Kd.C_below HC.out HB.out) i ci
      obtain ⟨v, rfl⟩ : ∃ v' : Vl, v = v'.1 := ⟨⟨v, hv⟩, rfl⟩
      obtain ⟨x, hx⟩ : ∃ x, l[i].f0 = x := ⟨_, rfl⟩
      rw [hx] at a0
      have hd : (l.map S47.f0).drop i = x :: (l.map S47.f0).drop (i + 1) := by
        rw [List.drop_eq_getElem_cons (by rw [List.length_map]; exact ci), List.getElem_map, hx]
      have HD := Aside0.mk hd
      have hbx := (HB.out.cell (p := ⟨B, 0, none⟩) (World.block_lt_of_cell? w _ HBX.out)).trans HBX.out
      have g1 : decide ((i : Int) < (l.length : Int)) = true := decide_eq_true (by omega)
      have g1n : decide (i < l.length) = true := decide_eq_true ci
      have q1 : ((i : Int) < (l.length : Int)) = True := eq_true (by omega)
      have q1n : (i < l.length) = True := eq_true ci
      have q0 : (0 ≤ (i : Int)) = True := eq_true (by omega)
      have HCI := Aside0.mk ci
      clear ci hx hv hd
      by_cases e : x = s
      · subst e
        have hc := clo53 B x x v.1 true (by simp) wr hbx
        have HRI : Aside0 (r = (i : Int)) := ⟨by rw [← HR.out, HF.out, HD.out, firstI_yes]; show ((0 + i : Nat) : Int) = i; simp⟩
        clear hbx
        go_wp2_with (go_at_call 53; (with_reducible refine hc.mono ?_); rintro e w2 ⟨rfl, hb⟩; have HB2 := Aside0.mk hb; clear hb)
        go_ret
        exact ⟨by rw [HRI.out]; rfl, HB.out.trans (HB2.out.mono HB.out.size)⟩
      · have hc := clo53 B s x v.1 false (beq_ne e) wr hbx
        have HE := Aside0.mk e
        clear hbx e
        go_wp2_with (go_at_call 53; (with_reducible refine hc.mono ?_); rintro e w2 ⟨rfl, hb⟩; have HB2 := Aside0.mk hb; clear hb)
        go_roundg (gk - 1)
        case measure => have := HI.out; have := HCI.out; omega
        case rel =>
          refine ⟨i + 1, by have := HCI.out; have := HN.out; rw [w64 (by omega) (by omega), Int.natCast_succ], ⟨HCI.out, by have := HI.out; omega⟩, ⟨?_⟩, ⟨HB.out.trans (HB2.out.mono HB.out.size)⟩⟩
          rw [HF.out, HD.out, firstI_no HE.out, Option.map_map]
          congr 1
          funext z
          show z + 1 + i = z + (i + 1)
          omega
    · have g1 : decide ((i : Int) < (l.length : Int)) = false := decide_eq_false (by omega)
      have g1n : decide (i < l.length) = false := decide_eq_false ci
      have HRI : Aside0 (r = -1) := ⟨by rw [← HR.out, HF.out, List.drop_eq_nil_of_le (by rw [List.length_map]; omega)]; rfl⟩
      clear ci
      go_wp2
      go_ret
      exact ⟨by rw [HRI.out]; rfl, HB.out⟩
theorem elem37 {w : World} {A : Option Addr} {l : List S37} (h : Kd.C k37 w A l.length l) (i : Nat) (hi : i < l.length) : ∃ ad v, A = some ad ∧ w.cell? (ad.add (i * 2)) = some (.string l[i].f0) ∧ w.cell? ⟨(ad.add (i * 2)).block, (ad.add (i * 2)).off + 1, none⟩ = some v ∧ v.oneCell' = true := by
  obtain ⟨ad, A1, c1, e, h1, h2, _, _⟩ := at_T37 h (i : Int) (by omega) (by omega)
  have er : rd_T37 l (i : Int) = l[i] := by unfold rd_T37; rw [Int.toNat_natCast, List.getD_eq_getElem?_getD, List.getElem?_eq_getElem hi]; rfl
  rw [er, Int.toNat_natCast] at h1 h2
  exact ⟨ad, _, e, h1, h2, rfl⟩
set_option maxHeartbeats 4000000 in
theorem idx54_calls {A : Option Addr} {c B : Nat} {l : List S37} {s : ByteArray} {w : World} (h : Kd.C k37 w A l.length l) (hn : l.length < 1000000) (hb : w.cell? ⟨B, 0, none⟩ = some (.string s)) :
    Calls Tryd.prog 54 #[.slice A l.length c, .func (.func 55) #[] #[.pointer (some ⟨B, 0, none⟩)]] w fun e w' => e = .returned (.int .i64 (idxW (firstI (l.map S37.f0) s))) ∧ Below w.heap.size w w' := by
  have HC := Aside0.mk h
  have HN := Aside0.mk hn
  have HBX := Aside0.mk hb
  clear h hn hb
  obtain ⟨r, hr⟩ : ∃ r, idxW (firstI (l.map S37.f0) s) = r := ⟨_, rfl⟩
  rw [hr]
  have HR := Aside0.mk hr
  clear hr
  go_enter Tryd.func54, Tryd.ntmps54
  go_wp2
  (try simp only [Act.put, List.setIfInBounds_toArray, List.set_cons_zero, List.set_cons_succ])
  go_loopg [5, 8] (l.length + 1) (fun kq v5 v8 wr => ∃ i : Nat, v8 = .int .i64 i ∧ Aside0 (i ≤ l.length ∧ kq = l.length + 1 - i) ∧ Aside0 (firstI (l.map S37.f0) s = (firstI ((l.map S37.f0).drop i) s).map (· + i)) ∧ Aside0 (Below w.heap.size w wr))
  case atStart => exact ⟨0, rfl, ⟨Nat.zero_le _, rfl⟩, ⟨by simp⟩, ⟨Below.refl _ _⟩⟩
  case round =>
    obtain ⟨i, rfl, HI, HF, HB⟩ := hrel
    by_cases ci : i < l.length
    · obtain ⟨ad, v, rfl, a0, a1, hv⟩ := elem37 (Kd.C_below HC.out HB.out) i ci
      obtain ⟨v, rfl⟩ : ∃ v' : Vl, v = v'.1 := ⟨⟨v, hv⟩, rfl⟩
      obtain ⟨x, hx⟩ : ∃ x, l[i].f0 = x := ⟨_, rfl⟩
      rw [hx] at a0
      have hd : (l.map S37.f0).drop i = x :: (l.map S37.f0).drop (i + 1) := by
        rw [List.drop_eq_getElem_cons (by rw [List.length_map]; exact ci), List.getElem_map, hx]
      have HD := Aside0.mk hd
      have hbx := (HB.out.cell (p := ⟨B, 0, none⟩) (World.block_lt_of_cell? w _ HBX.out)).trans HBX.out
      have g1 : decide ((i : Int) < (l.length : Int)) = true := decide_eq_true (by omega)
      have g1n : decide (i < l.length) = true := decide_eq_true ci
      have q1 : ((i : Int) < (l.length : Int)) = True := eq_true (by omega)
      have q1n : (i < l.length) = True := eq_true ci
      have q0 : (0 ≤ (i : Int)) = True := eq_true (by omega)
      have HCI := Aside0.mk ci
      clear ci hx hv hd
      by_cases e : x = s
      · subst e
        have hc := clo55 B x x v.1 true (by simp) wr hbx
        have HRI : Aside0 (r = (i : Int)) := ⟨by rw [← HR.out, HF.out, HD.out, firstI_yes]; show ((0 + i : Nat) : Int) = i; simp⟩
        clear hbx
        go_wp2_with (go_at_call 55; (with_reducible refine hc.mono ?_); rintro e w2 ⟨rfl, hb⟩; have HB2 := Aside0.mk hb; clear hb)
        go_ret
        exact ⟨by rw [HRI.out]; rfl, HB.out.trans (HB2.out.mono HB.out.size)⟩
      · have hc := clo55 B s x v.1 false (beq_ne e) wr hbx
        have HE := Aside0.mk e
        clear hbx e
        go_wp2_with (go_at_call 55; (with_reducible refine hc.mono ?_); rintro e w2 ⟨rfl, hb⟩; have HB2 := Aside0.mk hb; clear hb)
        go_roundg (gk - 1)
        case measure => have := HI.out; have := HCI.out; omega
        case rel =>
          refine ⟨i + 1, by have := HCI.out; have := HN.out; rw [w64 (by omega) (by omega), Int.natCast_succ], ⟨HCI.out, by have := HI.out; omega⟩, ⟨?_⟩, ⟨HB.out.trans (HB2.out.mono HB.out.size)⟩⟩
          rw [HF.out, HD.out, firstI_no HE.out, Option.map_map]
          congr 1
          funext z
          show z + 1 + i = z + (i + 1)
          omega
    · have g1 : decide ((i : Int) < (l.length : Int)) = false := decide_eq_false (by omega)
      have g1n : decide (i < l.length) = false := decide_eq_false ci
      have HRI : Aside0 (r = -1) := ⟨by rw [← HR.out, HF.out, List.drop_eq_nil_of_le (by rw [List.length_map]; omega)]; rfl⟩
      clear ci
      go_wp2
      go_ret
      exact ⟨by rw [HRI.out]; rfl, HB.out⟩
end Go.Proofs.YteakcggbolfelaaDoor.Y
