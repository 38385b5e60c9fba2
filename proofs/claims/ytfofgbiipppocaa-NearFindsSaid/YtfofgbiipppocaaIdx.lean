/-
  slices.IndexFunc at strings, with a predicate whose closure may lay blocks.
-/
import Derived.Test.YtfofgbiipppocaaClo
namespace Go.Proofs.Ytfofgbiipppocaa.X
open Go.RowKit Go.Proofs.YtfofgbiipppocaaW.PrintWords Go.Proofs.YtfofgbiipppocaaW.PrintLast Go.Proofs.YtfofgbiipppocaaW.PrintMore
set_option linter.unusedVariables false
set_option linter.unusedSimpArgs false
set_option maxHeartbeats 4000000 in
theorem idx_calls (B b off c : Nat) (d : List ByteArray) (p : ByteArray → Bool) (w : World) (hd : d.length < 4611686018427387904)
    (hcell : ∀ j, j < d.length → w.cell? ⟨b, off + j, none⟩ = some (.string (d.getD j ByteArray.empty))) (hb : b < w.heap.size)
    (hp : ∀ j, j < d.length → ∀ W, Below w.heap.size w W → Calls Try.prog 15 (#[.string (d.getD j ByteArray.empty)] ++ #[.pointer (some ⟨B, 0, none⟩)]) W fun e w' => e = .returned (.bool (p (d.getD j ByteArray.empty))) ∧ Below W.heap.size W w') :
    Calls Try.prog 18 #[.slice (some ⟨b, off, none⟩) d.length c, .func (.func 15) #[] #[.pointer (some ⟨B, 0, none⟩)]] w fun e w' => ∃ i : Nat, ((i < d.length ∧ p (d.getD i ByteArray.empty) = true ∧ e = .returned (.int .i64 i)) ∨ (i = d.length ∧ e = .returned (.int .i64 (-1)))) ∧
      (∀ j, j < i → p (d.getD j ByteArray.empty) = false) ∧ Below w.heap.size w w' := by
  have HD := Aside0.mk hd
  have HCL := Aside0.mk hcell
  have HP := Aside0.mk hp
  have Hb := Aside0.mk hb
  clear hcell hp hb hd
  go_enter Try.func18, Try.ntmps18
  go_wp2
  (try simp only [Act.put, List.setIfInBounds_toArray, List.set_cons_zero, List.set_cons_succ])
  go_loopg [5, 8] (d.length + 1) (fun kq v5 v8 w' => ∃ (i : Nat), v8 = .int .i64 i ∧ Aside0 (i ≤ d.length ∧ i + kq = d.length + 1 ∧ ∀ j, j < i → p (d.getD j ByteArray.empty) = false) ∧ Aside0 (Below w.heap.size w w'))
  case atStart => exact ⟨0, rfl, ⟨by omega, by omega, fun j hj => by omega⟩, ⟨Below.refl _ _⟩⟩
  case round =>
    obtain ⟨i, rfl, HA, HB⟩ := hrel
    have hi := HA.out
    by_cases ci : i < d.length
    · have c0 : decide ((i : Int) < (d.length : Int)) = true := decide_eq_true (by omega)
      have c1 : (0 ≤ (i : Int)) = True := eq_true (by omega)
      have c2 : ((i : Int) < (d.length : Int)) = True := eq_true (by omega)
      have cl := (HB.out.cell (p := ⟨b, off + i, none⟩) Hb.out).trans (HCL.out i ci)
      have hcall := HP.out i ci _ HB.out
      obtain ⟨hi1, hi2, hi3⟩ := hi
      have HA2 := Aside0.mk hi3
      have HA1 := Aside0.mk (And.intro hi1 hi2)
      clear HA hi1 hi2 hi3
      cases gk with
      | zero => have := HA1.out; omega
      | succ k1 =>
      obtain ⟨o, ho⟩ : ∃ o, d.getD i ByteArray.empty = o := ⟨_, rfl⟩
      rw [ho] at cl hcall
      have e1 : (IntKind.i64.wrap ((i : Int) + 1)) = ((i + 1 : Nat) : Int) := by have := HD.out; rw [i64_w]; unfold wrap64; omega
      by_cases hpo : p o = true
      · rw [hpo] at hcall
        go_wp2_with (go_at_call 15; refine hcall.mono ?_; rintro e w1 ⟨rfl, hb1⟩)
        go_ret
        exact ⟨i, .inl ⟨ci, by rw [ho]; exact hpo, rfl⟩, HA2.out, HB.out.trans (hb1.mono HB.out.size)⟩
      · have hpo' : p o = false := by simpa using hpo
        rw [hpo'] at hcall
        go_wp2_with (go_at_call 15; refine hcall.mono ?_; rintro e w1 ⟨rfl, hb1⟩)
        go_roundg k1
        case measure => omega
        case rel => exact ⟨i + 1, by simp [e1], ⟨by omega, by have := HA1.out; omega, fun j hj => by
          by_cases cj : j = i
          · subst cj; rw [ho]; exact hpo'
          · exact HA2.out j (by omega)⟩, ⟨HB.out.trans (hb1.mono HB.out.size)⟩⟩
    · have c0 : decide ((i : Int) < (d.length : Int)) = false := decide_eq_false (by omega)
      go_wp2
      go_ret
      exact ⟨i, .inr ⟨by have := hi.1; omega, rfl⟩, hi.2.2, HB.out⟩
theorem first_of (q : Nat → Bool) : ∀ n, (∃ i, i < n ∧ q i = true ∧ ∀ j, j < i → q j = false) ∨ (∀ j, j < n → q j = false)
  | 0 => .inr (fun j hj => by omega)
  | n + 1 => by
    rcases first_of q n with ⟨i, h1, h2, h3⟩ | h
    · exact .inl ⟨i, by omega, h2, h3⟩
    · cases c : q n with
      | true => exact .inl ⟨n, by omega, c, h⟩
      | false => exact .inr (fun j hj => by
          by_cases e : j = n
          · rw [e]; exact c
          · exact h j (by omega))
/-- The same, with one number that is told ahead. -/
theorem idx_det (B b off c : Nat) (d : List ByteArray) (p : ByteArray → Bool) (w : World) (hd : d.length < 4611686018427387904)
    (hcell : ∀ j, j < d.length → w.cell? ⟨b, off + j, none⟩ = some (.string (d.getD j ByteArray.empty))) (hb : b < w.heap.size)
    (hp : ∀ j, j < d.length → ∀ W, Below w.heap.size w W → Calls Try.prog 15 (#[.string (d.getD j ByteArray.empty)] ++ #[.pointer (some ⟨B, 0, none⟩)]) W fun e w' => e = .returned (.bool (p (d.getD j ByteArray.empty))) ∧ Below W.heap.size W w') :
    (∃ i : Nat, i < d.length ∧ p (d.getD i ByteArray.empty) = true ∧ (∀ j, j < i → p (d.getD j ByteArray.empty) = false) ∧
      Calls Try.prog 18 #[.slice (some ⟨b, off, none⟩) d.length c, .func (.func 15) #[] #[.pointer (some ⟨B, 0, none⟩)]] w fun e w' => e = .returned (.int .i64 i) ∧ Below w.heap.size w w') ∨
    ((∀ j, j < d.length → p (d.getD j ByteArray.empty) = false) ∧
      Calls Try.prog 18 #[.slice (some ⟨b, off, none⟩) d.length c, .func (.func 15) #[] #[.pointer (some ⟨B, 0, none⟩)]] w fun e w' => e = .returned (.int .i64 (-1)) ∧ Below w.heap.size w w') := by
  have h := idx_calls B b off c d p w hd hcell hb hp
  rcases first_of (fun j => p (d.getD j ByteArray.empty)) d.length with ⟨i, h1, h2, h3⟩ | hn
  · refine .inl ⟨i, h1, h2, h3, h.mono ?_⟩
    rintro e w' ⟨i', (⟨k1, k2, rfl⟩ | ⟨k1, rfl⟩), k3, k4⟩
    · have : i' = i := by
        by_cases c1 : i' < i
        · have := h3 i' c1; rw [k2] at this; simp at this
        · by_cases c2 : i < i'
          · have := k3 i c2; rw [h2] at this; simp at this
          · omega
      subst this; exact ⟨rfl, k4⟩
    · have := k3 i (by omega); rw [h2] at this; simp at this
  · refine .inr ⟨hn, h.mono ?_⟩
    rintro e w' ⟨i', (⟨k1, k2, rfl⟩ | ⟨k1, rfl⟩), k3, k4⟩
    · have := hn i' k1; rw [k2] at this; simp at this
    · exact ⟨rfl, k4⟩
end Go.Proofs.Ytfofgbiipppocaa.X
