/-
  Files: names, as the program and as the document tell them: one plain test.
-/
import Derived.Test.YteakcggbolfelaaDoorX0
import Derived.Laws.Cover1
import Derived.Lib.ConvBytes
namespace Go.Proofs.YteakcggbolfelaaDoor.X
open Go.RowKit Go.Proofs.YteakcggbolfelaaDoorW.PrintWords Go.Proofs.YteakcggbolfelaaDoorW.PrintLast Go.Proofs.YteakcggbolfelaaDoorW.PrintMore
set_option linter.unusedVariables false
set_option linter.unusedSimpArgs false
def okc (d : Bool) (c : UInt8) : Bool := (decide (97 ≤ c.toNat) && decide (c.toNat ≤ 122)) || (decide (48 ≤ c.toNat) && decide (c.toNat ≤ 57)) || c.toNat == 95 || (c.toNat == 46 && d)
def lett (c : UInt8) : Bool := decide (97 ≤ c.toNat) && decide (c.toNat ≤ 122)
def nameOk (s : ByteArray) (d : Bool) : Bool := decide (0 < s.size) && decide (s.size ≤ 64) && lett (s.data.toList.getD 0 0) && s.data.toList.all (okc d)
set_option maxHeartbeats 4000000 in
theorem letter_calls (c : UInt8) (w : World) : Calls Tryd.prog 26 #[.int .u8 (c.toNat : Int)] w fun e w' => e = .returned (.bool (lett c)) ∧ w = w' := by
  have h1 : c.toNat < 256 := c.toNat_lt
  by_cases a : 97 ≤ c.toNat
  · by_cases b : c.toNat ≤ 122
    · have e : lett c = true := by unfold lett; simp [a, b]
      have a' : decide ((c.toNat : Int) ≥ 97) = true := decide_eq_true (by omega)
      have b' : decide ((c.toNat : Int) ≤ 122) = true := decide_eq_true (by omega)
      rw [e]
      go_enter Tryd.func26, Tryd.ntmps26
      go_wp2
      go_ret
      exact ⟨rfl, rfl⟩
    · have e : lett c = false := by unfold lett; simp [b]
      have a' : decide ((c.toNat : Int) ≥ 97) = true := decide_eq_true (by omega)
      have b' : decide ((c.toNat : Int) ≤ 122) = false := decide_eq_false (by omega)
      rw [e]
      go_enter Tryd.func26, Tryd.ntmps26
      go_wp2
      go_ret
      exact ⟨rfl, rfl⟩
  · have e : lett c = false := by unfold lett; simp [a]
    have a' : decide ((c.toNat : Int) ≥ 97) = false := decide_eq_false (by omega)
    rw [e]
    go_enter Tryd.func26, Tryd.ntmps26
    go_wp2
    go_ret
    exact ⟨rfl, rfl⟩
set_option maxRecDepth 100000 in
set_option maxHeartbeats 4000000 in
theorem name_calls (s : ByteArray) (d : Bool) (w : World) (hs : s.size ≤ maxLen) : Calls Tryd.prog 25 #[.string s, .bool d] w fun e w' => e = .returned (.bool (nameOk s d)) ∧ Below w.heap.size w w' := by
  by_cases h0 : s.size = 0
  · have e : nameOk s d = false := by unfold nameOk; simp [h0]
    rw [e]
    have h0' : ((s.size : Int) == 0) = true := by rw [h0]; rfl
    go_enter Tryd.func25, Tryd.ntmps25
    go_wp2
    go_ret
    exact ⟨rfl, Below.refl _ _⟩
  · by_cases h1 : s.size ≤ 64
    · obtain ⟨c, l, hl⟩ : ∃ c l, s.data.toList = c :: l := by
        cases hh : s.data.toList with
        | nil => exact absurd (by have : s.data.toList.length = 0 := by rw [hh]; rfl
                                  simpa using this) h0
        | cons c l => exact ⟨c, l, rfl⟩
      have h0' : ((s.size : Int) == 0) = false := by rw [beq_eq_false_iff_ne]; omega
      have h0n : (s.size == 0) = false := by rw [beq_eq_false_iff_ne]; omega
      have h1' : decide ((s.size : Int) > 64) = false := decide_eq_false (by omega)
      have h2' : (0 < s.size) = True := eq_true (by omega)
      have h3' : ((0 : Int) < (s.size : Int)) = True := eq_true (by omega)
      have hg : s[0]'(by omega) = c := by
        have : s.data.toList[0]? = some c := by rw [hl]; rfl
        have h2 : s.data.toList[0]'(by simpa using (by omega : 0 < s.size)) = c := by
          rw [List.getElem?_eq_some_iff] at this
          exact this.2
        simp only [Array.getElem_toList] at h2
        exact h2
      by_cases hlc : lett c = true
      · have hlc' : 97 ≤ c.toNat ∧ c.toNat ≤ 122 := by unfold lett at hlc; simpa using hlc
        have a' : decide ((c.toNat : Int) < 97) = false := decide_eq_false (by omega)
        have b' : decide ((122 : Int) < (c.toNat : Int)) = false := decide_eq_false (by omega)
        have hcv := Lib.run_convert_string_bytes (P := Tryd.prog) w 9 35 5 s Tryd.underlying9 Tryd.underlying35 Tryd.underlying5
        have e : nameOk s d = s.data.toList.all (okc d) := by
          unfold nameOk
          rw [decide_eq_true (show 0 < s.size by omega), decide_eq_true h1, hl]
          simp [hlc]
        rw [e]
        have hk : ∀ j, j < s.size → (Lib.bytesWorld w 5 s).cell? ⟨w.heap.size, j, none⟩ = some (.int .u8 (s.data.toList.getD j 0).toNat) := fun j hj => Lib.bytesWorld_cell w 5 s j hj
        have hbw : Below w.heap.size w (Lib.bytesWorld w 5 s) := bytes_below (Below.refl _ _) (Nat.le_refl _) 5 s
        obtain ⟨W1, hW1⟩ : ∃ W1, Lib.bytesWorld w 5 s = W1 := ⟨_, rfl⟩
        rw [hW1] at hcv hk hbw
        have HK := Aside0.mk hk
        have HBW := Aside0.mk hbw
        clear hk hbw hlc' hlc e
        obtain ⟨L, hL⟩ : ∃ L, s.data.toList = L := ⟨_, rfl⟩
        have hsz : s.size = L.length := by rw [← hL]; simp
        rw [hL] at HK ⊢
        have HKL := Aside0.mk (And.intro hL hsz)
        clear hL hl hsz
        go_enter Tryd.func25, Tryd.ntmps25
        go_wp2
        go_loopg [28] (s.size + 1) (fun kq v28 wr => ∃ j : Nat, v28 = .int .i64 j ∧ wr = W1 ∧ Aside0 (j + kq = s.size + 1) ∧ Aside0 ((L.take j).all (okc d) = true))
        case atStart => exact ⟨0, rfl, rfl, ⟨by omega⟩, ⟨rfl⟩⟩
        case round =>
          obtain ⟨j, rfl, rfl, HJ, HA⟩ := hrel
          by_cases cj : j < s.size
          · obtain ⟨b, hb⟩ : ∃ b, L[j]? = some b := ⟨_, List.getElem?_eq_getElem (by have := HKL.out.2; omega)⟩
            have y0 := HK.out j cj
            rw [List.getD_eq_getElem?_getD, hb] at y0
            have y1 : wr.cell? ⟨w.heap.size, j, none⟩ = some (.int .u8 (b.toNat : Int)) := y0
            have hall : (L.take (j + 1)).all (okc d) = okc d b := by
              obtain ⟨hj, rfl⟩ := List.getElem?_eq_some_iff.1 hb
              rw [List.take_succ_eq_append_getElem hj, List.all_append, HA.out]; simp
            have hnot : okc d b = false → L.all (okc d) = false := fun h => by
              rw [List.all_eq_false]
              exact ⟨b, List.mem_of_getElem? hb, by rw [h]; simp⟩
            have g1 : decide ((j : Int) < (s.size : Int)) = true := decide_eq_true (by omega)
            have g1n : decide (j < s.size) = true := decide_eq_true cj
            have g2 : (0 ≤ (j : Int)) = True := eq_true (by omega)
            have g3 : ((j : Int) < (s.size : Int)) = True := eq_true (by omega)
            have hj30 : j ≤ 64 := by omega
            have HCJ := Aside0.mk cj
            clear y0 hb cj
            by_cases c1 : 97 ≤ b.toNat
            · by_cases c2 : b.toNat ≤ 122
              · skip
                have f_ge97 : decide ((b.toNat : Int) ≥ 97) = true := decide_eq_true (by omega)
                have f_le122 : decide ((b.toNat : Int) ≤ 122) = true := decide_eq_true (by omega)
                have hv : okc d b = true := by unfold okc; simp; omega
                rw [hv] at hall
                have HALL := Aside0.mk hall
                clear hall hnot hv
                go_wp2
                go_roundg (gk - 1)
                case measure => have := HJ.out; have := HCJ.out; omega
                case rel => exact ⟨j + 1, by go_num, rfl, ⟨by have := HJ.out; have := HCJ.out; omega⟩, HALL⟩
              · skip
                have f_ge97 : decide ((b.toNat : Int) ≥ 97) = true := decide_eq_true (by omega)
                have f_le122 : decide ((b.toNat : Int) ≤ 122) = false := decide_eq_false (by omega)
                have f_ge48 : decide ((b.toNat : Int) ≥ 48) = true := decide_eq_true (by omega)
                have f_le57 : decide ((b.toNat : Int) ≤ 57) = false := decide_eq_false (by omega)
                have f_e95 : ((b.toNat : Int) == 95) = false := beq_eq_false_iff_ne.2 (by omega)
                have f_e46 : ((b.toNat : Int) == 46) = false := beq_eq_false_iff_ne.2 (by omega)
                have hv : okc d b = false := by unfold okc; simp; omega
                have HNO := Aside0.mk (hnot hv)
                clear hall hnot hv
                go_wp2
                go_ret
                exact ⟨by rw [HNO.out]; rfl, HBW.out⟩
            · by_cases c2 : 48 ≤ b.toNat
              · by_cases c3 : b.toNat ≤ 57
                · skip
                  have f_ge97 : decide ((b.toNat : Int) ≥ 97) = false := decide_eq_false (by omega)
                  have f_ge48 : decide ((b.toNat : Int) ≥ 48) = true := decide_eq_true (by omega)
                  have f_le57 : decide ((b.toNat : Int) ≤ 57) = true := decide_eq_true (by omega)
                  have hv : okc d b = true := by unfold okc; simp; omega
                  rw [hv] at hall
                  have HALL := Aside0.mk hall
                  clear hall hnot hv
                  go_wp2
                  go_roundg (gk - 1)
                  case measure => have := HJ.out; have := HCJ.out; omega
                  case rel => exact ⟨j + 1, by go_num, rfl, ⟨by have := HJ.out; have := HCJ.out; omega⟩, HALL⟩
                · by_cases c4 : b.toNat = 95
                  · skip
                    have f_ge97 : decide ((b.toNat : Int) ≥ 97) = false := decide_eq_false (by omega)
                    have f_ge48 : decide ((b.toNat : Int) ≥ 48) = true := decide_eq_true (by omega)
                    have f_le57 : decide ((b.toNat : Int) ≤ 57) = false := decide_eq_false (by omega)
                    have f_e95 : ((b.toNat : Int) == 95) = true := beq_iff_eq.2 (by omega)
                    have hv : okc d b = true := by unfold okc; simp; omega
                    rw [hv] at hall
                    have HALL := Aside0.mk hall
                    clear hall hnot hv
                    go_wp2
                    go_roundg (gk - 1)
                    case measure => have := HJ.out; have := HCJ.out; omega
                    case rel => exact ⟨j + 1, by go_num, rfl, ⟨by have := HJ.out; have := HCJ.out; omega⟩, HALL⟩
                  · skip
                    have f_ge97 : decide ((b.toNat : Int) ≥ 97) = false := decide_eq_false (by omega)
                    have f_ge48 : decide ((b.toNat : Int) ≥ 48) = true := decide_eq_true (by omega)
                    have f_le57 : decide ((b.toNat : Int) ≤ 57) = false := decide_eq_false (by omega)
                    have f_e95 : ((b.toNat : Int) == 95) = false := beq_eq_false_iff_ne.2 (by omega)
                    have f_e46 : ((b.toNat : Int) == 46) = false := beq_eq_false_iff_ne.2 (by omega)
                    have hv : okc d b = false := by unfold okc; simp; omega
                    have HNO := Aside0.mk (hnot hv)
                    clear hall hnot hv
                    go_wp2
                    go_ret
                    exact ⟨by rw [HNO.out]; rfl, HBW.out⟩
              · by_cases c3 : b.toNat = 46
                · cases d with
                  | true =>
                    have f_ge97 : decide ((b.toNat : Int) ≥ 97) = false := decide_eq_false (by omega)
                    have f_ge48 : decide ((b.toNat : Int) ≥ 48) = false := decide_eq_false (by omega)
                    have f_e95 : ((b.toNat : Int) == 95) = false := beq_eq_false_iff_ne.2 (by omega)
                    have f_e46 : ((b.toNat : Int) == 46) = true := beq_iff_eq.2 (by omega)
                    have hv : okc true b = true := by unfold okc; simp; omega
                    rw [hv] at hall
                    have HALL := Aside0.mk hall
                    clear hall hnot hv
                    go_wp2
                    go_roundg (gk - 1)
                    case measure => have := HJ.out; have := HCJ.out; omega
                    case rel => exact ⟨j + 1, by go_num, rfl, ⟨by have := HJ.out; have := HCJ.out; omega⟩, HALL⟩
                  | false =>
                    have f_ge97 : decide ((b.toNat : Int) ≥ 97) = false := decide_eq_false (by omega)
                    have f_ge48 : decide ((b.toNat : Int) ≥ 48) = false := decide_eq_false (by omega)
                    have f_e95 : ((b.toNat : Int) == 95) = false := beq_eq_false_iff_ne.2 (by omega)
                    have f_e46 : ((b.toNat : Int) == 46) = true := beq_iff_eq.2 (by omega)
                    have hv : okc false b = false := by unfold okc; simp; omega
                    have HNO := Aside0.mk (hnot hv)
                    clear hall hnot hv
                    go_wp2
                    go_ret
                    exact ⟨by rw [HNO.out]; rfl, HBW.out⟩
                · skip
                  have f_ge97 : decide ((b.toNat : Int) ≥ 97) = false := decide_eq_false (by omega)
                  have f_ge48 : decide ((b.toNat : Int) ≥ 48) = false := decide_eq_false (by omega)
                  have f_e95 : ((b.toNat : Int) == 95) = false := beq_eq_false_iff_ne.2 (by omega)
                  have f_e46 : ((b.toNat : Int) == 46) = false := beq_eq_false_iff_ne.2 (by omega)
                  have hv : okc d b = false := by unfold okc; simp; omega
                  have HNO := Aside0.mk (hnot hv)
                  clear hall hnot hv
                  go_wp2
                  go_ret
                  exact ⟨by rw [HNO.out]; rfl, HBW.out⟩
          · have hfl : L.take j = L := List.take_of_length_le (by have := HKL.out.2; omega)
            have HA2 := HA.out
            rw [hfl] at HA2
            have HA3 := Aside0.mk HA2
            have g1 : decide ((j : Int) < (s.size : Int)) = false := decide_eq_false (by omega)
            have g1n : decide (j < s.size) = false := decide_eq_false cj
            clear HA2 hfl cj
            go_wp2
            go_ret
            exact ⟨by rw [HA3.out]; rfl, HBW.out⟩
      · have e : nameOk s d = false := by unfold nameOk; rw [hl]; simp [hlc]
        have hlc' : ¬ (97 ≤ c.toNat ∧ c.toNat ≤ 122) := by unfold lett at hlc; simpa using hlc
        rw [e]
        by_cases h97 : 97 ≤ c.toNat
        · have a' : decide ((c.toNat : Int) < 97) = false := decide_eq_false (by omega)
          have b' : decide ((122 : Int) < (c.toNat : Int)) = true := decide_eq_true (by omega)
          go_enter Tryd.func25, Tryd.ntmps25
          go_wp2
          go_ret
          exact ⟨rfl, Below.refl _ _⟩
        · have a' : decide ((c.toNat : Int) < 97) = true := decide_eq_true (by omega)
          go_enter Tryd.func25, Tryd.ntmps25
          go_wp2
          go_ret
          exact ⟨rfl, Below.refl _ _⟩
    · have e : nameOk s d = false := by unfold nameOk; simp [h1]
      rw [e]
      have h0' : ((s.size : Int) == 0) = false := by rw [beq_eq_false_iff_ne]; omega
      have h1' : decide ((s.size : Int) > 64) = true := decide_eq_true (by omega)
      go_enter Tryd.func25, Tryd.ntmps25
      go_wp2
      go_ret
      exact ⟨rfl, Below.refl _ _⟩
end Go.Proofs.YteakcggbolfelaaDoor.X
