/-
  Files: the document's name: the same plain test.
-/
import Derived.Test.YteakcggbolfelaaDoorNm0
namespace Go.Proofs.YteakcggbolfelaaDoor.X
open Go.RowKit Go.Proofs.YteakcggbolfelaaDoorW.PrintWords Go.Proofs.YteakcggbolfelaaDoorW.PrintLast Go.Proofs.YteakcggbolfelaaDoorW.PrintMore
set_option linter.unusedVariables false
set_option linter.unusedSimpArgs false
theorem byte_at (s : ByteArray) (j : Nat) (hj : j < s.size) (b : UInt8) (h : s.data.toList[j]? = some b) : s[j] = b := by
  rw [List.getElem?_eq_some_iff] at h
  obtain ⟨_, h2⟩ := h
  simp only [Array.getElem_toList] at h2
  exact h2
set_option maxRecDepth 100000 in
set_option maxHeartbeats 8000000 in
theorem refName_calls (s : ByteArray) (d : Bool) (w : World) (hs : s.size ≤ maxLen) : Calls Tryd.prog 8 #[.string s, .bool d] w fun e w' => e = .returned (.bool (nameOk s d)) ∧ Below w.heap.size w w' := by
  by_cases h0 : s.size = 0
  · have e : nameOk s d = false := by unfold nameOk; simp [h0]
    rw [e]
    have h0' : decide ((s.size : Int) < 1) = true := decide_eq_true (by omega)
    go_enter Tryd.func8, Tryd.ntmps8
    go_wp2
    go_ret
    exact ⟨rfl, Below.refl _ _⟩
  · have h0' : decide ((s.size : Int) < 1) = false := decide_eq_false (by omega)
    by_cases h1 : s.size ≤ 64
    · obtain ⟨c, l, hl⟩ : ∃ c l, s.data.toList = c :: l := by
        cases hh : s.data.toList with
        | nil => exact absurd (by have : s.data.toList.length = 0 := by rw [hh]; rfl
                                  simpa using this) h0
        | cons c l => exact ⟨c, l, rfl⟩
      have h1' : decide ((s.size : Int) > 64) = false := decide_eq_false (by omega)
      have h2' : (0 < s.size) = True := eq_true (by omega)
      have h3' : ((0 : Int) < (s.size : Int)) = True := eq_true (by omega)
      have hg : s[0]'(by omega) = c := byte_at s 0 (by omega) c (by rw [hl]; rfl)
      have hlt := letter_calls c
      by_cases hlc : lett c = true
      · have e : nameOk s d = s.data.toList.all (okc d) := by
          unfold nameOk
          rw [decide_eq_true (show 0 < s.size by omega), decide_eq_true h1, hl]
          simp [hlc]
        rw [e]
        rw [hlc] at hlt
        obtain ⟨L, hL⟩ : ∃ L, s.data.toList = L := ⟨_, rfl⟩
        have hsz : s.size = L.length := by rw [← hL]; simp
        rw [hL]
        have HKL := Aside0.mk (And.intro hL hsz)
        clear hL hl hsz e hlc
        go_enter Tryd.func8, Tryd.ntmps8
        go_wp2_with (go_at_call 26; (with_reducible refine (hlt _).mono ?_); rintro e w2 ⟨rfl, rfl⟩)
        (try simp only [Act.put, List.setIfInBounds_toArray, List.set_cons_zero, List.set_cons_succ])
        go_loopg [5] (s.size + 1) (fun kq v5 wr => ∃ j : Nat, v5 = .int .i64 j ∧ wr = w ∧ Aside0 (j + kq = s.size + 1) ∧ Aside0 ((L.take j).all (okc d) = true))
        case atStart => exact ⟨0, rfl, rfl, ⟨by omega⟩, ⟨rfl⟩⟩
        case round =>
          obtain ⟨j, rfl, rfl, HJ, HA⟩ := hrel
          by_cases cj : j < s.size
          · obtain ⟨b, hb⟩ : ∃ b, L[j]? = some b := ⟨_, List.getElem?_eq_getElem (by have := HKL.out.2; omega)⟩
            have hgj : s[j] = b := byte_at s j cj b (by rw [HKL.out.1]; exact hb)
            have hltb := letter_calls b
            have hall : (L.take (j + 1)).all (okc d) = okc d b := by
              obtain ⟨hj, rfl⟩ := List.getElem?_eq_some_iff.1 hb
              rw [List.take_succ_eq_append_getElem hj, List.all_append, HA.out]; simp
            have hnot : okc d b = false → L.all (okc d) = false := fun h => by
              rw [List.all_eq_false]
              exact ⟨b, List.mem_of_getElem? hb, by rw [h]; simp⟩
            have g1 : decide ((j : Int) < (s.size : Int)) = true := decide_eq_true (by omega)
            have g1n : decide (j < s.size) = true := decide_eq_true cj
            have g1p : (j < s.size) = True := eq_true cj
            have g2 : (0 ≤ (j : Int)) = True := eq_true (by omega)
            have g3 : ((j : Int) < (s.size : Int)) = True := eq_true (by omega)
            have hj30 : j ≤ 64 := by omega
            have HCJ := Aside0.mk cj
            clear hb hlt hg
            by_cases c1 : 97 ≤ b.toNat ∧ b.toNat ≤ 122
            · skip
              have hl : lett b = true := by unfold lett; simp; omega
              have hv : okc d b = true := by unfold okc; simp; omega
              rw [hl] at hltb
              rw [hv] at hall
              have HALL := Aside0.mk hall
              clear hall hnot hv hl
              go_wp2_with (go_at_call 26; (with_reducible refine (hltb _).mono ?_); rintro e w2 ⟨rfl, rfl⟩)
              go_roundg (gk - 1)
              case measure => have := HJ.out; have := HCJ.out; omega
              case rel => exact ⟨j + 1, by go_num, rfl, ⟨by have := HJ.out; have := HCJ.out; omega⟩, HALL⟩
            · by_cases c2 : 48 ≤ b.toNat
              · by_cases c3 : b.toNat ≤ 57
                · skip
                  have f_ge48 : decide ((b.toNat : Int) ≥ 48) = true := decide_eq_true (by omega)
                  have f_le57 : decide ((b.toNat : Int) ≤ 57) = true := decide_eq_true (by omega)
                  have hl : lett b = false := by unfold lett; simp; omega
                  have hv : okc d b = true := by unfold okc; simp; omega
                  rw [hl] at hltb
                  rw [hv] at hall
                  have HALL := Aside0.mk hall
                  clear hall hnot hv hl
                  go_wp2_with (go_at_call 26; (with_reducible refine (hltb _).mono ?_); rintro e w2 ⟨rfl, rfl⟩)
                  go_roundg (gk - 1)
                  case measure => have := HJ.out; have := HCJ.out; omega
                  case rel => exact ⟨j + 1, by go_num, rfl, ⟨by have := HJ.out; have := HCJ.out; omega⟩, HALL⟩
                · by_cases c4 : b.toNat = 95
                  · skip
                    have f_ge48 : decide ((b.toNat : Int) ≥ 48) = true := decide_eq_true (by omega)
                    have f_le57 : decide ((b.toNat : Int) ≤ 57) = false := decide_eq_false (by omega)
                    have f_e95 : ((b.toNat : Int) == 95) = true := beq_iff_eq.2 (by omega)
                    have hl : lett b = false := by unfold lett; simp; omega
                    have hv : okc d b = true := by unfold okc; simp; omega
                    rw [hl] at hltb
                    have hltc : ∀ w, Calls Tryd.prog 26 #[.int .u8 95] w fun e w' => e = .returned (.bool false) ∧ w = w' := fun w => by have := hltb w; rw [c4] at this; exact this
                    rw [hv] at hall
                    have HALL := Aside0.mk hall
                    clear hall hnot hv hl
                    go_wp2_with (go_at_call 26; (with_reducible refine (hltc _).mono ?_); rintro e w2 ⟨rfl, rfl⟩)
                    go_roundg (gk - 1)
                    case measure => have := HJ.out; have := HCJ.out; omega
                    case rel => exact ⟨j + 1, by go_num, rfl, ⟨by have := HJ.out; have := HCJ.out; omega⟩, HALL⟩
                  · skip
                    cases d
                    · skip
                      have f_ge48 : decide ((b.toNat : Int) ≥ 48) = true := decide_eq_true (by omega)
                      have f_le57 : decide ((b.toNat : Int) ≤ 57) = false := decide_eq_false (by omega)
                      have f_e95 : ((b.toNat : Int) == 95) = false := beq_eq_false_iff_ne.2 (by omega)
                      have f_e46 : ((b.toNat : Int) == 46) = false := beq_eq_false_iff_ne.2 (by omega)
                      have hl : lett b = false := by unfold lett; simp; omega
                      have hv : okc false b = false := by unfold okc; simp; omega
                      rw [hl] at hltb
                      have HNO := Aside0.mk (hnot hv)
                      clear hall hnot hv hl
                      go_wp2_with (go_at_call 26; (with_reducible refine (hltb _).mono ?_); rintro e w2 ⟨rfl, rfl⟩)
                      go_ret
                      exact ⟨by rw [HNO.out]; rfl, Below.refl _ _⟩
                    · skip
                      have f_ge48 : decide ((b.toNat : Int) ≥ 48) = true := decide_eq_true (by omega)
                      have f_le57 : decide ((b.toNat : Int) ≤ 57) = false := decide_eq_false (by omega)
                      have f_e95 : ((b.toNat : Int) == 95) = false := beq_eq_false_iff_ne.2 (by omega)
                      have f_e46 : ((b.toNat : Int) == 46) = false := beq_eq_false_iff_ne.2 (by omega)
                      have hl : lett b = false := by unfold lett; simp; omega
                      have hv : okc true b = false := by unfold okc; simp; omega
                      rw [hl] at hltb
                      have HNO := Aside0.mk (hnot hv)
                      clear hall hnot hv hl
                      go_wp2_with (go_at_call 26; (with_reducible refine (hltb _).mono ?_); rintro e w2 ⟨rfl, rfl⟩)
                      go_ret
                      exact ⟨by rw [HNO.out]; rfl, Below.refl _ _⟩
              · by_cases c3 : b.toNat = 46
                · cases d with
                  | true =>
                    have f_ge48 : decide ((b.toNat : Int) ≥ 48) = false := decide_eq_false (by omega)
                    have f_e95 : ((b.toNat : Int) == 95) = false := beq_eq_false_iff_ne.2 (by omega)
                    have f_e46 : ((b.toNat : Int) == 46) = true := beq_iff_eq.2 (by omega)
                    have hl : lett b = false := by unfold lett; simp; omega
                    have hv : okc true b = true := by unfold okc; simp; omega
                    rw [hl] at hltb
                    have hltc : ∀ w, Calls Tryd.prog 26 #[.int .u8 46] w fun e w' => e = .returned (.bool false) ∧ w = w' := fun w => by have := hltb w; rw [c3] at this; exact this
                    rw [hv] at hall
                    have HALL := Aside0.mk hall
                    clear hall hnot hv hl
                    go_wp2_with (go_at_call 26; (with_reducible refine (hltc _).mono ?_); rintro e w2 ⟨rfl, rfl⟩)
                    go_roundg (gk - 1)
                    case measure => have := HJ.out; have := HCJ.out; omega
                    case rel => exact ⟨j + 1, by go_num, rfl, ⟨by have := HJ.out; have := HCJ.out; omega⟩, HALL⟩
                  | false =>
                    have f_ge48 : decide ((b.toNat : Int) ≥ 48) = false := decide_eq_false (by omega)
                    have f_e95 : ((b.toNat : Int) == 95) = false := beq_eq_false_iff_ne.2 (by omega)
                    have f_e46 : ((b.toNat : Int) == 46) = true := beq_iff_eq.2 (by omega)
                    have hl : lett b = false := by unfold lett; simp; omega
                    have hv : okc false b = false := by unfold okc; simp; omega
                    rw [hl] at hltb
                    have hltc : ∀ w, Calls Tryd.prog 26 #[.int .u8 46] w fun e w' => e = .returned (.bool false) ∧ w = w' := fun w => by have := hltb w; rw [c3] at this; exact this
                    have HNO := Aside0.mk (hnot hv)
                    clear hall hnot hv hl
                    go_wp2_with (go_at_call 26; (with_reducible refine (hltc _).mono ?_); rintro e w2 ⟨rfl, rfl⟩)
                    go_ret
                    exact ⟨by rw [HNO.out]; rfl, Below.refl _ _⟩
                · skip
                  cases d
                  · skip
                    have f_ge48 : decide ((b.toNat : Int) ≥ 48) = false := decide_eq_false (by omega)
                    have f_e95 : ((b.toNat : Int) == 95) = false := beq_eq_false_iff_ne.2 (by omega)
                    have f_e46 : ((b.toNat : Int) == 46) = false := beq_eq_false_iff_ne.2 (by omega)
                    have hl : lett b = false := by unfold lett; simp; omega
                    have hv : okc false b = false := by unfold okc; simp; omega
                    rw [hl] at hltb
                    have HNO := Aside0.mk (hnot hv)
                    clear hall hnot hv hl
                    go_wp2_with (go_at_call 26; (with_reducible refine (hltb _).mono ?_); rintro e w2 ⟨rfl, rfl⟩)
                    go_ret
                    exact ⟨by rw [HNO.out]; rfl, Below.refl _ _⟩
                  · skip
                    have f_ge48 : decide ((b.toNat : Int) ≥ 48) = false := decide_eq_false (by omega)
                    have f_e95 : ((b.toNat : Int) == 95) = false := beq_eq_false_iff_ne.2 (by omega)
                    have f_e46 : ((b.toNat : Int) == 46) = false := beq_eq_false_iff_ne.2 (by omega)
                    have hl : lett b = false := by unfold lett; simp; omega
                    have hv : okc true b = false := by unfold okc; simp; omega
                    rw [hl] at hltb
                    have HNO := Aside0.mk (hnot hv)
                    clear hall hnot hv hl
                    go_wp2_with (go_at_call 26; (with_reducible refine (hltb _).mono ?_); rintro e w2 ⟨rfl, rfl⟩)
                    go_ret
                    exact ⟨by rw [HNO.out]; rfl, Below.refl _ _⟩
          · have hfl : L.take j = L := List.take_of_length_le (by have := HKL.out.2; omega)
            have HA2 := HA.out
            rw [hfl] at HA2
            have HA3 := Aside0.mk HA2
            have g1 : decide ((j : Int) < (s.size : Int)) = false := decide_eq_false (by omega)
            have g1n : decide (j < s.size) = false := decide_eq_false cj
            clear HA2 hfl cj
            go_wp2
            go_ret
            exact ⟨by rw [HA3.out]; rfl, Below.refl _ _⟩
      · have e : nameOk s d = false := by unfold nameOk; rw [hl]; simp [hlc]
        have hlf : lett c = false := by simpa using hlc
        rw [e]
        rw [hlf] at hlt
        go_enter Tryd.func8, Tryd.ntmps8
        go_wp2_with (go_at_call 26; (with_reducible refine (hlt _).mono ?_); rintro e w2 ⟨rfl, rfl⟩)
        go_ret
        exact ⟨rfl, Below.refl _ _⟩
    · have e : nameOk s d = false := by unfold nameOk; simp [h1]
      rw [e]
      have h1' : decide ((s.size : Int) > 64) = true := decide_eq_true (by omega)
      go_enter Tryd.func8, Tryd.ntmps8
      go_wp2
      go_ret
      exact ⟨rfl, Below.refl _ _⟩
end Go.Proofs.YteakcggbolfelaaDoor.X
