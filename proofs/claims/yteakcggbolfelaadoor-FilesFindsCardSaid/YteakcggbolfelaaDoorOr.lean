/-
  files.Order: the packages by path, each package's files by name, both by the stable sort.
-/
import Derived.Test.YteakcggbolfelaaDoorDe
namespace Go.Proofs.YteakcggbolfelaaDoor
open Go.RowKit Go.Proofs.YteakcggbolfelaaDoorW.PrintWords Go.Proofs.YteakcggbolfelaaDoorW.PrintLast Go.Proofs.YteakcggbolfelaaDoorW.PrintMore Go.Proofs.YteakcggbolfelaaDoor.Srt
set_option linter.unusedVariables false
set_option linter.unusedSimpArgs false
attribute [local go_sem] run_store_vl
/-- One package, its files in order. -/
def sF (x : U.S47) : U.S47 := ⟨x.f0, srt U.lt x.f1⟩
def orderL (l : List U.S47) : List U.S47 := (srt ltX l).map sF
theorem map_set_next {α : Type} (f : α → α) (l : List α) (i : Nat) (d : α) (h : l[i]? = some d) : (((l.take i).map f) ++ l.drop i).set i (f d) = ((l.take (i + 1)).map f) ++ l.drop (i + 1) := by
  obtain ⟨hi, rfl⟩ := List.getElem?_eq_some_iff.1 h
  have h1 : ((l.take i).map f).length = i := by rw [List.length_map, List.length_take]; omega
  rw [List.set_append_right _ _ (by omega), h1, Nat.sub_self, List.drop_eq_getElem_cons hi, List.set_cons_zero, List.take_succ_eq_append_getElem hi, List.map_append, List.append_assoc]
  rfl
set_option maxRecDepth 100000 in
set_option maxHeartbeats 4000000 in
theorem order_calls (A0 : Option Addr) (c0 : Nat) (xs : List U.S47) (w : World) (hr : Kd.C U.k47 w A0 xs.length xs) (hc : xs.length ≤ c0) (hl : xs.length < 20) (hf : ∀ x ∈ xs, x.f1.length < 20) :
    Calls Tryd.prog 17 #[.slice A0 xs.length c0] w fun e w' => ∃ v D, e = .returned v ∧ D.map Prod.fst = orderL xs ∧ Deep w' w.heap.size v D ∧ Below w.heap.size w w' := by
  have hcp := copied_calls hr hc (by omega) (fun x hx => by have := hf x hx; omega)
  have HF := Aside0.mk (And.intro hl hf)
  clear hr hc hl hf
  go_enter Tryd.func17, Tryd.ntmps17
  go_wp2_with (go_at_call 28; (with_reducible refine hcp.mono ?_))
  rintro e w1 ⟨v, D0, rfl, hD, hdp, hb⟩
  have hsp := sortP_calls hb hdp (by have h1 := congrArg List.length hD; rw [List.length_map] at h1; have := HF.out.1; omega)
  have HD := Aside0.mk hD
  clear hcp hD hdp hb
  obtain ⟨D, hDe⟩ : ∃ D, D = srt ltD D0 := ⟨_, rfl⟩
  rw [← hDe] at hsp
  have HE := Aside0.mk hDe
  clear hDe
  go_wp2_with (go_at_call 37; (with_reducible refine hsp.mono ?_))
  rintro e w2 ⟨rfl, hdp, hb⟩
  obtain ⟨A, c, rfl⟩ := hdp.slice
  have HDP := Aside0.mk hdp
  have HB := Aside0.mk hb
  have HL : Aside0 (D.length < 20 ∧ ∀ d ∈ D, d.1.f1.length < 20) := ⟨by
    have hp := srt_perm ltD D0
    rw [HE.out, hp.length_eq]
    have h1 := congrArg List.length HD.out
    rw [List.length_map] at h1
    refine ⟨by have := HF.out.1; omega, fun d hd => HF.out.2 d.1 ?_⟩
    rw [← HD.out]
    exact List.mem_map_of_mem (hp.mem_iff.1 hd)⟩
  clear hsp hdp hb
  go_wp2
  (try simp only [Act.put, List.setIfInBounds_toArray, List.set_cons_zero, List.set_cons_succ])
  go_loopg [12] (D.length + 1) (fun kq v12 wr => ∃ i : Nat, v12 = .int .i64 i ∧ Aside0 (i ≤ D.length ∧ kq = D.length + 1 - i) ∧ Aside0 (Deep wr w.heap.size (.slice A D.length c) (((D.take i).map (fun d => (sF d.1, d.2))) ++ D.drop i)) ∧ Aside0 (Below w.heap.size w wr))
  case atStart => exact ⟨0, rfl, ⟨Nat.zero_le _, rfl⟩, ⟨by simpa using HDP.out⟩, HB⟩
  case round =>
    obtain ⟨i, rfl, HI, HP, HB1⟩ := hrel
    by_cases ci : i < D.length
    · obtain ⟨d, hd⟩ : ∃ d, D[i]? = some d := ⟨_, List.getElem?_eq_getElem ci⟩
      have hd2 : (((D.take i).map (fun d => (sF d.1, d.2))) ++ D.drop i)[i]? = some d := by
        have h1 : ((D.take i).map (fun d : Dp => ((sF d.1, d.2) : Dp))).length = i := by rw [List.length_map, List.length_take]; omega
        rw [List.getElem?_append_right (by omega), h1, Nat.sub_self, List.getElem?_drop]; simpa using hd
      obtain ⟨ad, rfl, a0, a1⟩ := HP.out.at_ hd2
      have g1 : decide ((i : Int) < (D.length : Int)) = true := decide_eq_true (by omega)
      have g1n : decide (i < D.length) = true := decide_eq_true ci
      have d1 : ((i : Int) < (D.length : Int)) = True := eq_true (by omega)
      have d0 : (0 ≤ (i : Int)) = True := eq_true (by omega)
      have HD2 := Aside0.mk hd2
      have HDI := Aside0.mk (And.intro hd ci)
      clear hd2 hd ci
      go_wp2_with fail
      have hBx := below_alloc HB1.out (.cells #[.string d.1.f0, d.2.1] 47)
      have hDx := HP.out.below (Below.alloc (Below.refl wr.heap.size wr) (Nat.le_refl _) (.cells #[.string d.1.f0, d.2.1] 47))
      have hlen : d.1.f1.length < 20 := HL.out.2 d (List.mem_of_getElem? HDI.out.1)
      have hso := sortF_calls hBx hDx HD2.out hlen
      clear hBx hDx hlen
      with_reducible refine hso.mono ?_
      clear hso
      rintro e w3 ⟨rfl, hdp, hb⟩
      have HP3 := Aside0.mk hdp
      have HB3 := Aside0.mk hb
      clear hdp hb
      have hj : IntKind.i64.wrap ((i : Int) + 1) = ((i + 1 : Nat) : Int) := (i64_w _).trans (by have := HDI.out.2; have := HL.out.1; unfold wrap64; omega)
      go_wp2
      go_roundg (gk - 1)
      case measure => have := HI.out; have := HDI.out.2; omega
      case rel =>
        refine ⟨i + 1, by rw [Int.natCast_succ], ⟨by have := HDI.out.2; omega, by have := HI.out.2; omega⟩, ⟨?_⟩, HB3⟩
        have e := map_set_next (fun d : Dp => ((sF d.1, d.2) : Dp)) D i d HDI.out.1
        rw [← e]
        exact HP3.out
    · have g1 : decide ((i : Int) < (D.length : Int)) = false := decide_eq_false (by omega)
      have g1n : decide (i < D.length) = false := decide_eq_false ci
      have hi : i = D.length := by have := HI.out.1; omega
      subst hi
      go_wp2
      go_ret
      refine ⟨_, _, rfl, ?_, HP.out, HB1.out⟩
      rw [List.take_length, List.drop_length, List.append_nil, List.map_map, HE.out]
      show (srt ltD D0).map (fun d => sF d.1) = orderL xs
      unfold orderL
      rw [← HD.out, srt_map (f := Prod.fst) (lt := ltD) (lt' := ltX) (fun _ _ => rfl) D0, List.map_map]
      rfl
end Go.Proofs.YteakcggbolfelaaDoor
