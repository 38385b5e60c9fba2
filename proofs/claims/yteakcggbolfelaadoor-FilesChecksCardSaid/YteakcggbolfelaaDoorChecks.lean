/-
  The law FilesChecks answers true at every list of packages.
-/
import Derived.Test.YteakcggbolfelaaDoorPk
import Derived.Test.YteakcggbolfelaaDoorRo
import Derived.Test.YteakcggbolfelaaDoorRc
import Derived.Test.YteakcggbolfelaaDoorEc
import Derived.Test.YteakcggbolfelaaDoorWk
namespace Go.Proofs.YteakcggbolfelaaDoor.Y
open Go.RowKit Go.Proofs.YteakcggbolfelaaDoorW.PrintWords Go.Proofs.YteakcggbolfelaaDoorW.PrintLast Go.Proofs.YteakcggbolfelaaDoorW.PrintMore
set_option linter.unusedVariables false
set_option linter.unusedSimpArgs false
theorem refOrder_pk {w : World} {A : Option Addr} {c : Nat} {zs : List ZP} (h : Pk w A c zs) :
    Calls Tryd.prog 24 #[.slice A zs.length c] w fun e w' => ∃ A' c', e = .returned (.slice A' (orderZ zs).length c') ∧ Pk w' A' c' (orderZ zs) ∧ Below w.heap.size w w' := by
  have e : (zs.map ZP.u).length = zs.length := List.length_map _
  have hs := h.fw.small
  have hc := refOrder_calls A c (zs.map ZP.u) w h.cu (by rw [e]; exact h.le) (by rw [e]; omega) hs.2
  rw [e] at hc
  refine hc.mono ?_
  rintro e w' ⟨v, D, rfl, hD, hdp, hb⟩
  rw [orderL_u] at hD
  obtain ⟨A', c', rfl, hk⟩ := Pk.of_deep hdp hD ((h.tx.below hb).order) h.fw.order
  exact ⟨A', c', rfl, hk, hb⟩
theorem refCheck_pk {w : World} {A : Option Addr} {c : Nat} {zs : List ZP} (h : Pk w A c zs) :
    Calls Tryd.prog 22 #[.slice A zs.length c] w fun e w' => e = .returned (.tuple #[.int .i64 (told (chkP [] (zs.map ZP.y))).1, .string (told (chkP [] (zs.map ZP.y))).2]) ∧ Below w.heap.size w w' := by
  have e : (zs.map ZP.y).length = zs.length := List.length_map _
  obtain ⟨k, hk⟩ := ev_refCheck (zs.map ZP.y) h.fw
  have hc := cavilref05_Check.calls k A c (zs.map ZP.y) _ _ w h.cy (by rw [e]; exact h.le) (hk k (Nat.le_refl _))
  rw [e] at hc
  exact hc
/-- Code and Named of what Check answers. -/
theorem code_chk (w : World) (zs : List ZP) : Calls Tryd.prog 21 #[errW (chkP [] (zs.map ZP.y))] w fun e w' => e = .returned (.int .i64 (told (chkP [] (zs.map ZP.y))).1) ∧ Below w.heap.size w w' := by
  cases h : chkP [] (zs.map ZP.y) with
  | none => exact (Es.code_none w).mono (fun e w' h => ⟨h.1, by rw [← h.2]; exact Below.refl _ _⟩)
  | some e =>
    obtain ⟨s, c, rfl, h1, h2⟩ := chkP_form _ _ _ h
    exact Es.code_lack s c h1 h2 w
theorem told_chk (w : World) (zs : List ZP) (hg : w.cell? ⟨0, 0, none⟩ = some (.iface 106 (.agg #[.pointer (some ⟨4, 31, none⟩)]))) : Calls Tryd.prog 23 #[errW (chkP [] (zs.map ZP.y))] w fun e w' => e = .returned (.string (told (chkP [] (zs.map ZP.y))).2) ∧ Below w.heap.size w w' := by
  cases h : chkP [] (zs.map ZP.y) with
  | none => exact Es.told_none w
  | some e =>
    obtain ⟨s, c, rfl, h1, h2⟩ := chkP_form _ _ _ h
    exact Es.told_lack s c w hg
set_option maxHeartbeats 4000000 in
theorem cavillaw05_FilesChecks.calls (A0 : Option Addr) (c0 : Nat) (l0 : List S47) (W : World) {Q0 : Prop} (_ : Q0)
    (hr0 : Kd.C k47 W A0 l0.length l0) (hc0 : l0.length ≤ c0) (ml : Int) (hml : W.cell? ⟨1, 0, none⟩ = some (.int .i64 ml)) (hg : W.cell? ⟨0, 0, none⟩ = some (.iface 106 (.agg #[.pointer (some ⟨4, 31, none⟩)]))) :
    Calls Tryd.prog 6 #[.slice A0 l0.length c0] W fun e w' => e = .returned (.bool true) ∧ Below W.heap.size W w' := by
  have hfew := few_calls A0 c0 l0 W hr0 hc0
  have HMW := Aside0.mk (fun (w' : World) (hb : Below W.heap.size W w') => (hb.cell (p := ⟨1, 0, none⟩) (World.block_lt_of_cell? W _ hml)).trans hml)
  have HGW := Aside0.mk (fun (w' : World) (hb : Below W.heap.size W w') => (hb.cell (p := ⟨0, 0, none⟩) (World.block_lt_of_cell? W _ hg)).trans hg)
  clear hr0 hc0 hml hg
  go_enter Tryd.func6, Tryd.ntmps6
  go_wp2_with (first
    | (go_at_call 12; (with_reducible refine hfew.mono ?_); clear hfew; rintro e w1 ⟨A, c, zs, rfl, hk, hb⟩; have HK := Aside0.mk hk; have HB := Aside0.mk hb; clear hk hb; have h16 := check_pk HK.out ml (HMW.out _ HB.out); obtain ⟨q, hq⟩ : ∃ q, errW (chkP [] (zs.map ZP.y)) = q := ⟨_, rfl⟩; obtain ⟨cd, hcd⟩ : ∃ cd, (told (chkP [] (zs.map ZP.y))).1 = cd := ⟨_, rfl⟩; obtain ⟨nm, hnm⟩ : ∃ nm, (told (chkP [] (zs.map ZP.y))).2 = nm := ⟨_, rfl⟩; have HQ := Aside0.mk (And.intro hq (And.intro hcd hnm)); rw [hq] at h16; clear hq hcd hnm)
    | (go_at_call 16; (with_reducible refine h16.mono ?_); clear h16; rintro e w2 ⟨rfl, hb⟩; have HB2 := Aside0.mk (HB.out.trans (hb.mono HB.out.size)); have HL2 := Aside0.mk (HK.out.below hb); clear hb; have h22 := refCheck_pk HL2.out; rw [HQ.out.2.1, HQ.out.2.2] at h22)
    | (go_at_call 22; (with_reducible refine h22.mono ?_); clear h22; rintro e w3 ⟨rfl, hb⟩; have HB3 := Aside0.mk (HB2.out.trans (hb.mono HB2.out.size)); have HL3 := Aside0.mk (HL2.out.below hb); clear hb; have h21 := code_chk w3 zs; rw [HQ.out.1, HQ.out.2.1] at h21)
    | (go_at_call 21; (with_reducible refine h21.mono ?_); clear h21; rintro e w4 ⟨rfl, hb⟩; have HB4 := Aside0.mk (HB3.out.trans (hb.mono HB3.out.size)); have HL4 := Aside0.mk (HL3.out.below hb); clear hb; have h23 := told_chk w4 zs (HGW.out _ HB4.out); rw [HQ.out.1, HQ.out.2.2] at h23)
    | (go_at_call 23; (with_reducible refine h23.mono ?_); clear h23; rintro e w5 ⟨rfl, hb⟩; have HB5 := Aside0.mk (HB4.out.trans (hb.mono HB4.out.size)); have HL5 := Aside0.mk (HL4.out.below hb); clear hb; have h17 := order_pk HL5.out)
    | (go_at_call 17; (with_reducible refine h17.mono ?_); clear h17; rintro e w6 ⟨A6, c6, rfl, hk, hb⟩; have HK6 := Aside0.mk hk; have HB6 := Aside0.mk (HB5.out.trans (hb.mono HB5.out.size)); have HL6 := Aside0.mk (HL5.out.below hb); clear hk hb; have h24 := refOrder_pk HL6.out)
    | (go_at_call 24; (with_reducible refine h24.mono ?_); clear h24; rintro e w7 ⟨A7, c7, rfl, hk, hb⟩; have HK7 := Aside0.mk hk; have HB7 := Aside0.mk (HB6.out.trans (hb.mono HB6.out.size)); have HQ7 := Aside0.mk (HK6.out.below hb); clear hk hb; have h14 := same_pk HQ7.out HK7.out)
    | (go_at_call 14; (with_reducible refine h14.mono ?_); clear h14; rintro e w8 ⟨rfl, hb⟩; have HB8 := Aside0.mk (HB7.out.trans (hb.mono HB7.out.size)); clear hb; have h11 := works_calls w8 ml (HMW.out _ HB8.out))
    | (go_at_call 11; (with_reducible refine h11.mono ?_); clear h11; rintro e w9 ⟨rfl, hb⟩; have HB9 := Aside0.mk (HB8.out.trans (hb.mono HB8.out.size)); clear hb))
  go_ret
  exact ⟨rfl, HB9.out⟩
end Go.Proofs.YteakcggbolfelaaDoor.Y
