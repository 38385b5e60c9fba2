/-
  The law FilesPermutes answers true at every list of packages and every list of picks.
-/
import Derived.Test.YteakcggbolfelaaDoorPk
namespace Go.Proofs.YteakcggbolfelaaDoor.Y
open Go.RowKit Go.Proofs.YteakcggbolfelaaDoorW.PrintWords Go.Proofs.YteakcggbolfelaaDoorW.PrintLast Go.Proofs.YteakcggbolfelaaDoorW.PrintMore
set_option linter.unusedVariables false
set_option linter.unusedSimpArgs false
attribute [local go_sem] max2_int min2_int
theorem take_C {w : World} {A : Option Addr} {l : List Int} (h : Kd.C (Kd.int .i64) w A l.length l) (n : Nat) (hn : n ≤ l.length) : Kd.C (Kd.int .i64) w A (l.take n).length (l.take n) := by
  refine ⟨rfl, by have := h.2.1; rw [List.length_take]; omega, fun hp => ?_⟩
  obtain ⟨ad, e, hc⟩ := h.2.2 (by rw [List.length_take] at hp; omega)
  refine ⟨ad, e, fun j p hj => ?_⟩
  rw [List.getElem?_take] at hj
  split at hj
  · exact hc j p hj
  · cases hj
theorem nodup_of_check {zs : List ZP} (h : chkP [] (zs.map ZP.y) = none) : (zs.map ZP.p).Nodup ∧ ∀ z ∈ zs, (z.l.map ZF.n).Nodup := by
  obtain ⟨_, h1, h2⟩ := chkP_none _ _ h
  rw [List.map_map] at h1
  refine ⟨h1, fun z hz => ?_⟩
  have h3 := h2 z.y (List.mem_map_of_mem hz)
  have e : z.y.f1.map S37.f0 = z.l.map ZF.n := by show (z.l.map ZF.y).map S37.f0 = _; rw [List.map_map]; rfl
  rwa [e] at h3
set_option maxHeartbeats 4000000 in
theorem cavillaw05_FilesPermutes.calls (A0 : Option Addr) (c0 : Nat) (l0 : List S47) (A1 : Option Addr) (c1 : Nat) (l1 : List Int) (W : World) {Q0 Q1 : Prop} (_ : Q0) (_ : Q1)
    (hr0 : Kd.C k47 W A0 l0.length l0) (hc0 : l0.length ≤ c0) (hr1 : Kd.C (Kd.int .i64) W A1 l1.length l1) (hc1 : l1.length ≤ c1) (ml : Int) (hml : W.cell? ⟨1, 0, none⟩ = some (.int .i64 ml)) :
    Calls Tryd.prog 4 #[.slice A0 l0.length c0, .slice A1 l1.length c1] W fun e w' => e = .returned (.bool true) ∧ Below W.heap.size W w' := by
  have hfew := few_calls A0 c0 l0 W hr0 hc0
  have HML := Aside0.mk hml
  have HLT := Aside0.mk (World.block_lt_of_cell? W _ hml)
  have HR1 := Aside0.mk (And.intro hr1 hc1)
  clear hr0 hc0 hr1 hc1 hml
  go_enter Tryd.func4, Tryd.ntmps4
  have b1 : (0 ≤ min (l1.length : Int) 10) = True := eq_true (by omega)
  have b2 : (min (l1.length : Int) 10 ≤ (c1 : Int)) = True := eq_true (by have := HR1.out.2; omega)
  go_wp2_with (go_at_call 12; (with_reducible refine hfew.mono ?_); clear hfew; rintro e w1 ⟨A, c, zs, rfl, hk, hb⟩; have HK := Aside0.mk hk; have HB := Aside0.mk hb; clear hk hb)
  clear b1 b2
  obtain ⟨p, hp⟩ : ∃ p, p = l1.take (min (l1.length : Int) 10).toNat := ⟨_, rfl⟩
  have hpl : (min (l1.length : Int) 10).toNat = p.length := by rw [hp, List.length_take]; omega
  have hpC : ∀ w', Below W.heap.size W w' → Kd.C (Kd.int .i64) w' A1 p.length p := fun w' hb => by
    rw [hp]; exact Kd.C_below (take_C HR1.out.1 _ (by omega)) hb
  have hpc : p.length ≤ c1 := by have := HR1.out.2; rw [← hpl]; omega
  have hp10 : p.length < 1000000 := by rw [← hpl]; omega
  have hord : orderZ (permZ zs p) = orderZ zs ∨ ∃ e, chkP [] (zs.map ZP.y) = some e := by
    cases h : chkP [] (zs.map ZP.y) with
    | some e => exact .inr ⟨e, rfl⟩
    | none => exact .inl (order_perm zs p (nodup_of_check h).1 (nodup_of_check h).2)
  rw [hpl]
  have HP := Aside0.mk (And.intro hpC (And.intro hpc hp10))
  clear hpl hp hpC hpc hp10
  have h13 := permute_pk HK.out (HP.out.1 _ HB.out) HP.out.2.1
  have hml := fun (w' : World) (hb : Below W.heap.size W w') => (hb.cell (p := ⟨1, 0, none⟩) HLT.out).trans HML.out
  have HMW := Aside0.mk hml
  clear hml
  have HO := Aside0.mk hord
  clear hord
  go_wp2_with (first
    | (go_at_call 13; (with_reducible refine h13.mono ?_); clear h13; rintro e w2 ⟨A2, c2, rfl, hk, hb⟩; have HK2 := Aside0.mk hk; have HB2 := Aside0.mk (HB.out.trans (hb.mono HB.out.size)); have HL2 := Aside0.mk (HK.out.below hb); clear hk hb; have h15 := refPermute_pk HL2.out (HP.out.1 _ HB2.out) HP.out.2.1 HP.out.2.2)
    | (go_at_call 15; (with_reducible refine h15.mono ?_); clear h15; rintro e w3 ⟨A3, c3, rfl, hk, hb⟩; have HK3 := Aside0.mk hk; have HB3 := Aside0.mk (HB2.out.trans (hb.mono HB2.out.size)); have HL3 := Aside0.mk (HL2.out.below hb); have HQ3 := Aside0.mk (HK2.out.below hb); clear hk hb; have h14 := same_pk HQ3.out HK3.out)
    | (go_at_call 14; (with_reducible refine h14.mono ?_); clear h14; rintro e w4 ⟨rfl, hb⟩; have HB4 := Aside0.mk (HB3.out.trans (hb.mono HB3.out.size)); have HL4 := Aside0.mk (HL3.out.below hb); have HQ4 := Aside0.mk (HQ3.out.below hb); clear hb; have h16 := check_pk HL4.out ml (HMW.out _ HB4.out)))
  obtain ⟨q, hq⟩ : ∃ q, chkP [] (zs.map ZP.y) = q := ⟨_, rfl⟩
  rw [hq] at h16
  have HQ := Aside0.mk hq
  clear hq
  cases q with
  | some e1 =>
    go_wp2_with (first
      | (go_at_call 16; (with_reducible refine h16.mono ?_); clear h16; rintro e w5 ⟨rfl, hb⟩; have HB5 := Aside0.mk (HB4.out.trans (hb.mono HB4.out.size)); clear hb; simp only [errW_some]; have h11 := works_calls w5 ml (HMW.out _ HB5.out))
      | (go_at_call 11; (with_reducible refine h11.mono ?_); clear h11; rintro e w9 ⟨rfl, hb⟩; have HB9 := Aside0.mk (HB5.out.trans (hb.mono HB5.out.size)); clear hb))
    go_ret
    exact ⟨rfl, HB9.out⟩
  | none =>
    have ho : orderZ (permZ zs p) = orderZ zs := by
      rcases HO.out with ho | ⟨e1, he⟩
      · exact ho
      · rw [HQ.out] at he; cases he
    have HOO := Aside0.mk ho
    clear ho
    go_wp2_with (first
      | (go_at_call 16; (with_reducible refine h16.mono ?_); clear h16; rintro e w5 ⟨rfl, hb⟩; have HB5 := Aside0.mk (HB4.out.trans (hb.mono HB4.out.size)); have HL5 := Aside0.mk (HL4.out.below hb); have HQ5 := Aside0.mk (HQ4.out.below hb); clear hb; simp only [errW_none]; have h17 := order_pk HQ5.out; rw [HOO.out] at h17)
      | (go_at_call 17; (with_reducible refine h17.mono ?_); clear h17; rintro e w6 ⟨A6, c6, rfl, hk, hb⟩; have HK6 := Aside0.mk hk; have HB6 := Aside0.mk (HB5.out.trans (hb.mono HB5.out.size)); have HL6 := Aside0.mk (HL5.out.below hb); clear hk hb; have h17b := order_pk HL6.out)
      | (go_at_call 17; (with_reducible refine h17b.mono ?_); clear h17b; rintro e w7 ⟨A7, c7, rfl, hk, hb⟩; have HK7 := Aside0.mk hk; have HB7 := Aside0.mk (HB6.out.trans (hb.mono HB6.out.size)); have HQ7 := Aside0.mk (HK6.out.below hb); clear hk hb; have h14 := same_pk HQ7.out HK7.out)
      | (go_at_call 14; (with_reducible refine h14.mono ?_); clear h14; rintro e w8 ⟨rfl, hb⟩; have HB8 := Aside0.mk (HB7.out.trans (hb.mono HB7.out.size)); clear hb; have h11 := works_calls w8 ml (HMW.out _ HB8.out))
      | (go_at_call 11; (with_reducible refine h11.mono ?_); clear h11; rintro e w9 ⟨rfl, hb⟩; have HB9 := Aside0.mk (HB8.out.trans (hb.mono HB8.out.size)); clear hb))
    go_ret
    exact ⟨rfl, HB9.out⟩
end Go.Proofs.YteakcggbolfelaaDoor.Y
