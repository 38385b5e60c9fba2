/-
  Files: the document's path: pieces between slashes, each a name.
-/
import Derived.Test.YteakcggbolfelaaDoorNm1
import Derived.Lib.Strings
namespace Go.Proofs.YteakcggbolfelaaDoor.X
open Go.RowKit Go.Proofs.YteakcggbolfelaaDoorW.PrintWords Go.Proofs.YteakcggbolfelaaDoorW.PrintLast Go.Proofs.YteakcggbolfelaaDoorW.PrintMore
set_option linter.unusedVariables false
set_option linter.unusedSimpArgs false
def nameL (l : List UInt8) (d : Bool) : Bool := decide (0 < l.length) && decide (l.length ≤ 64) && lett (l.getD 0 0) && l.all (okc d)
theorem nameOk_eq (s : ByteArray) (d : Bool) : nameOk s d = nameL s.data.toList d := by unfold nameOk nameL; simp
/-- Pieces ahead of each slash, the first one begun already. -/
def chk : List UInt8 → List UInt8 → Bool
  | cur, [] => nameL cur false
  | cur, b :: r => if b = 47 then nameL cur false && chk [] r else chk (cur ++ [b]) r
def pathOk (s : ByteArray) : Bool := decide (s.size ≤ 128) && chk [] s.data.toList
theorem ext_snoc (s : ByteArray) (f i : Nat) (hf : f ≤ i) (hi : i < s.size) (b : UInt8) (hb : s.data.toList[i]? = some b) : (s.extract f (i + 1)).data.toList = (s.extract f i).data.toList ++ [b] := by
  rw [Go.Lib.extract_data, Go.Lib.extract_data]
  have hi' : i < s.data.toList.length := by simpa using hi
  rw [show i + 1 - f = (i - f) + 1 by omega]
  rw [List.take_succ_eq_append_getElem (by rw [List.length_drop]; omega)]
  congr 2
  rw [List.getElem?_eq_some_iff] at hb
  obtain ⟨_, hb⟩ := hb
  rw [List.getElem_drop]
  simp only [show f + (i - f) = i by omega]
  exact hb
theorem chk_cons (cur : List UInt8) (b : UInt8) (r : List UInt8) : chk cur (b :: r) = if b = 47 then nameL cur false && chk [] r else chk (cur ++ [b]) r := by simp only [chk]
theorem chk_stop {s : ByteArray} {f i : Nat} (hi : s.data.toList[i]? = some 47) : chk (s.extract f i).data.toList (s.data.toList.drop i) = (nameOk (s.extract f i) false && chk [] (s.data.toList.drop (i + 1))) := by
  obtain ⟨h, e⟩ := List.getElem?_eq_some_iff.1 hi
  rw [List.drop_eq_getElem_cons h, e, nameOk_eq, chk_cons, if_pos rfl]
theorem chk_end {s : ByteArray} {f : Nat} : chk (s.extract f s.size).data.toList (s.data.toList.drop s.size) = nameOk (s.extract f s.size) false := by
  have : s.data.toList.drop s.size = [] := by rw [List.drop_eq_nil_iff]; simp
  rw [this, nameOk_eq]; rfl
theorem chk_go {s : ByteArray} {f i : Nat} {b : UInt8} (hf : f ≤ i) (hi : s.data.toList[i]? = some b) (hb : b ≠ 47) : chk (s.extract f i).data.toList (s.data.toList.drop i) = chk (s.extract f (i + 1)).data.toList (s.data.toList.drop (i + 1)) := by
  obtain ⟨h, e⟩ := List.getElem?_eq_some_iff.1 hi
  rw [ext_snoc s f i hf (by simpa using h) b hi, List.drop_eq_getElem_cons h, e]
  rw [chk_cons, if_neg hb]
theorem ext_nil (s : ByteArray) (f : Nat) : (s.extract f f).data.toList = [] := by rw [Go.Lib.extract_data]; simp
set_option maxRecDepth 100000 in
set_option maxHeartbeats 8000000 in
theorem refPath_calls (s : ByteArray) (w : World) (hs : s.size ≤ maxLen) : Calls Tryd.prog 10 #[.string s] w fun e w' => e = .returned (.bool (pathOk s)) ∧ Below w.heap.size w w' := by
  by_cases h1 : s.size ≤ 128
  · have e : pathOk s = chk [] s.data.toList := by unfold pathOk; rw [decide_eq_true h1, Bool.true_and]
    rw [e]
    have h1' : decide ((s.size : Int) > 128) = false := decide_eq_false (by omega)
    clear e
    go_enter Tryd.func10, Tryd.ntmps10
    go_wp2
    (try simp only [Act.put, List.setIfInBounds_toArray, List.set_cons_zero, List.set_cons_succ])
    go_loopg [3, 4] (s.size + 2) (fun kq v3 v4 wr => ∃ f i : Nat, v3 = .int .i64 f ∧ v4 = .int .i64 i ∧ Aside0 (i + kq = s.size + 2) ∧ Aside0 (i ≤ s.size → f ≤ i ∧ chk [] s.data.toList = chk (s.extract f i).data.toList (s.data.toList.drop i)) ∧ Aside0 (s.size < i → chk [] s.data.toList = true) ∧ Aside0 (Below w.heap.size w wr))
    case atStart => exact ⟨0, 0, rfl, rfl, ⟨by omega⟩, ⟨fun _ => ⟨Nat.le_refl _, by rw [ext_nil]; rfl⟩⟩, ⟨fun h => by omega⟩, ⟨Below.refl _ _⟩⟩
    case round =>
      obtain ⟨f, i, rfl, rfl, HI, HA, HT, HB⟩ := hrel
      by_cases ci : i ≤ s.size
      · obtain ⟨hfi, hchk⟩ := HA.out ci
        have g1 : decide ((i : Int) ≤ (s.size : Int)) = true := decide_eq_true (by omega)
        have g1n : decide (i ≤ s.size) = true := decide_eq_true ci
        have k1 : (0 ≤ (i : Int)) = True := eq_true (by omega)
        have k2 : (0 ≤ (f : Int)) = True := eq_true (by omega)
        have k3 : ((f : Int) ≤ (i : Int)) = True := eq_true (by omega)
        have k3n : (f ≤ i) = True := eq_true (by omega)
        have k4 : ((i : Int) ≤ (s.size : Int)) = True := eq_true (by omega)
        have k4n : (i ≤ s.size) = True := eq_true (by omega)
        have hi128 : i ≤ 128 := by omega
        have hnm := fun w => refName_calls (s.extract f i) false w (by rw [ByteArray.size_extract]; unfold maxLen; omega)
        have HCK := Aside0.mk hchk
        have HCI := Aside0.mk ci
        have HFI := Aside0.mk hfi
        by_cases ce : i = s.size
        · have g2 : ((i : Int) == (s.size : Int)) = true := by rw [ce]; simp
          have g2n : (i == s.size) = true := by rw [ce]; simp
          have hend : chk [] s.data.toList = nameOk (s.extract f i) false := by rw [hchk, ce]; exact chk_end
          have HE := Aside0.mk hend
          have HCE := Aside0.mk ce
          cases hn : nameOk (s.extract f i) false with
          | true =>
            rw [hn] at hnm
            have HN := Aside0.mk hn
            clear hend hchk ci hfi hn ce
            go_wp2_with (go_at_call 8; (with_reducible refine (hnm _).mono ?_); rintro e w2 ⟨rfl, hb2⟩; have HB2 := Aside0.mk hb2; clear hb2)
            go_roundg (gk - 1)
            case measure => have := HI.out; have := HCI.out; omega
            case rel => exact ⟨i + 1, i + 1, by go_num, by go_num, ⟨by have := HI.out; have := HCI.out; omega⟩, ⟨fun h => by have := HCE.out; omega⟩, ⟨fun _ => by rw [HE.out, HN.out]⟩, ⟨HB.out.trans (HB2.out.mono HB.out.size)⟩⟩
          | false =>
            rw [hn] at hnm
            have HN := Aside0.mk hn
            clear hend hchk ci hfi hn ce
            go_wp2_with (go_at_call 8; (with_reducible refine (hnm _).mono ?_); rintro e w2 ⟨rfl, hb2⟩; have HB2 := Aside0.mk hb2; clear hb2)
            go_ret
            exact ⟨by rw [HE.out, HN.out]; rfl, HB.out.trans (HB2.out.mono HB.out.size)⟩
        · obtain ⟨b, hb⟩ : ∃ b, s.data.toList[i]? = some b := ⟨_, List.getElem?_eq_getElem (by simp; omega)⟩
          have hsi : i < s.size := by omega
          have g2 : ((i : Int) == (s.size : Int)) = false := by rw [beq_eq_false_iff_ne]; omega
          have g2n : (i == s.size) = false := by rw [beq_eq_false_iff_ne]; omega
          have k5 : ((i : Int) < (s.size : Int)) = True := eq_true (by omega)
          have k5n : (i < s.size) = True := eq_true (by omega)
          have hgi : s[i] = b := byte_at s i hsi b hb
          have HCE := Aside0.mk hsi
          by_cases c47 : b.toNat = 47
          · have hb47 : b = 47 := by rw [← UInt8.toNat_inj]; exact c47
            have f47 : ((b.toNat : Int) == 47) = true := beq_iff_eq.2 (by omega)
            have hst := chk_stop (f := f) (by rw [hb, hb47] : s.data.toList[i]? = some 47)
            have HST := Aside0.mk (hchk.trans hst)
            cases hn : nameOk (s.extract f i) false with
            | true =>
              rw [hn] at hnm
              have HN := Aside0.mk hn
              clear hst hchk ci hfi hn ce hb47 hb
              go_wp2_with (go_at_call 8; (with_reducible refine (hnm _).mono ?_); rintro e w2 ⟨rfl, hb2⟩; have HB2 := Aside0.mk hb2; clear hb2)
              go_roundg (gk - 1)
              case measure => have := HI.out; have := HCI.out; omega
              case rel => exact ⟨i + 1, i + 1, by go_num, by go_num, ⟨by have := HI.out; have := HCI.out; omega⟩, ⟨fun h => ⟨Nat.le_refl _, by rw [HST.out, HN.out, Bool.true_and, ext_nil]⟩⟩, ⟨fun h => by have := HCE.out; omega⟩, ⟨HB.out.trans (HB2.out.mono HB.out.size)⟩⟩
            | false =>
              rw [hn] at hnm
              have HN := Aside0.mk hn
              clear hst hchk ci hfi hn ce hb47 hb
              go_wp2_with (go_at_call 8; (with_reducible refine (hnm _).mono ?_); rintro e w2 ⟨rfl, hb2⟩; have HB2 := Aside0.mk hb2; clear hb2)
              go_ret
              exact ⟨by rw [HST.out, HN.out]; rfl, HB.out.trans (HB2.out.mono HB.out.size)⟩
          · have hb47 : b ≠ 47 := fun h => c47 (by rw [h]; rfl)
            have f47 : ((b.toNat : Int) == 47) = false := beq_eq_false_iff_ne.2 (by omega)
            have hst := chk_go hfi hb hb47
            have HST := Aside0.mk (hchk.trans hst)
            clear hst hchk ci hfi ce hb47 hb hnm c47
            go_wp2
            go_roundg (gk - 1)
            case measure => have := HI.out; have := HCI.out; omega
            case rel => exact ⟨f, i + 1, rfl, by go_num, ⟨by have := HI.out; have := HCI.out; omega⟩, ⟨fun h => ⟨by have := HFI.out; omega, HST.out⟩⟩, ⟨fun h => by have := HCE.out; omega⟩, HB⟩
      · have g1 : decide ((i : Int) ≤ (s.size : Int)) = false := decide_eq_false (by omega)
        have g1n : decide (i ≤ s.size) = false := decide_eq_false ci
        have HTT := Aside0.mk (HT.out (by omega))
        clear ci
        go_wp2
        go_ret
        exact ⟨by rw [HTT.out]; rfl, HB.out⟩
  · have e : pathOk s = false := by unfold pathOk; simp [h1]
    rw [e]
    have h1' : decide ((s.size : Int) > 128) = true := decide_eq_true (by omega)
    go_enter Tryd.func10, Tryd.ntmps10
    go_wp2
    go_ret
    exact ⟨rfl, Below.refl _ _⟩
end Go.Proofs.YteakcggbolfelaaDoor.X
