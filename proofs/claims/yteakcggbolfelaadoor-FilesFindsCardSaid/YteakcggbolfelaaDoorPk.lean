/-
  Lists of packages, told twice, through the program: Few, Permute, Order, Same, Check.
-/
import Derived.Test.YteakcggbolfelaaDoorPl
import Derived.Test.YteakcggbolfelaaDoorRp
import Derived.Test.YteakcggbolfelaaDoorWk
namespace Go.Proofs.YteakcggbolfelaaDoor.Y
open Go.RowKit Go.Proofs.YteakcggbolfelaaDoorW.PrintWords Go.Proofs.YteakcggbolfelaaDoorW.PrintLast Go.Proofs.YteakcggbolfelaaDoorW.PrintMore
set_option linter.unusedVariables false
set_option linter.unusedSimpArgs false
attribute [local go_sem] max2_int min2_int
theorem k37_heap' : Kd.Heap k37 := Kd.heap_iso _ (Kd.heap_pair Kd.heap_string (Kd.heap_slice 5 (Kd.heap_int .u8)))
theorem k47_heap' : Kd.Heap k47 := Kd.heap_iso _ (Kd.heap_pair Kd.heap_string (Kd.heap_slice 37 k37_heap'))
/-- A list of packages in a world, told twice. -/
structure Pk (w : World) (A : Option Addr) (c : Nat) (zs : List ZP) : Prop where
  le : zs.length ≤ c
  cu : Kd.C U.k47 w A (zs.map ZP.u).length (zs.map ZP.u)
  cy : Kd.C k47 w A (zs.map ZP.y).length (zs.map ZP.y)
  tx : Texts w zs
  fw : FewOk (zs.map ZP.y)
theorem Pk.below {w w' : World} {A : Option Addr} {c : Nat} {zs : List ZP} (h : Pk w A c zs) (hb : Below w.heap.size w w') : Pk w' A c zs :=
  ⟨h.le, Kd.C_below h.cu hb, Kd.C_below h.cy hb, h.tx.below hb, h.fw⟩
theorem few_calls (A0 : Option Addr) (c0 : Nat) (l0 : List S47) (W : World) (hr : Kd.C k47 W A0 l0.length l0) (hc : l0.length ≤ c0) :
    Calls Tryd.prog 12 #[.slice A0 l0.length c0] W fun e w' => ∃ A c zs, e = .returned (.slice A zs.length c) ∧ Pk w' A c zs ∧ Below W.heap.size W w' := by
  obtain ⟨r, ⟨k, hk⟩, ho⟩ := few_ev l0
  refine (cavillaw05_Few.calls k (fun k => k < W.heap.size) A0 c0 l0 r W (Kd.V_mk hc (Kd.C_F k47_heap' hr)) (hk k (Nat.le_refl _))).mono ?_
  rintro e w' ⟨v, rfl, hN, hb⟩
  obtain ⟨A, c, rfl, hl, hC⟩ := Kd.N_reads hN
  obtain ⟨zs, hz, hU, hT⟩ := split_P hC
  have e1 : zs.length = r.length := by rw [← hz, List.length_map]
  refine ⟨A, c, zs, by rw [e1], ⟨by omega, ?_, by rw [hz]; exact hC, hT, by rw [hz]; exact ho⟩, hb⟩
  rw [List.length_map, e1]; exact hU
theorem FewOk.small {zs : List ZP} (h : FewOk (zs.map ZP.y)) : zs.length ≤ 8 ∧ ∀ x ∈ zs.map ZP.u, x.f1.length < 20 := by
  refine ⟨by have := h.1; rw [List.length_map] at this; exact this, fun x hx => ?_⟩
  obtain ⟨z, hz, rfl⟩ := List.mem_map.1 hx
  have := (h.2 z.y (List.mem_map_of_mem hz)).2.1
  show (z.l.map ZF.u).length < 20
  have e : z.y.f1.length = z.l.length := List.length_map _
  rw [List.length_map]; omega
theorem FewOk.of_perm {zs ys : List ZP} (h : FewOk (zs.map ZP.y)) (hl : ys.length = zs.length) (hm : ∀ y ∈ ys, ∃ z ∈ zs, y.p = z.p ∧ y.l.Perm z.l) : FewOk (ys.map ZP.y) := by
  refine ⟨by have := h.1; rw [List.length_map] at this ⊢; omega, fun x hx => ?_⟩
  obtain ⟨y, hy, rfl⟩ := List.mem_map.1 hx
  obtain ⟨z, hz, e1, e2⟩ := hm y hy
  obtain ⟨h1, h2, h3⟩ := h.2 z.y (List.mem_map_of_mem hz)
  refine ⟨by show y.p.size ≤ 140; rw [e1]; exact h1, ?_, fun f hf => ?_⟩
  · show (y.l.map ZF.y).length ≤ 6
    have h2' : (z.l.map ZF.y).length ≤ 6 := h2
    rw [List.length_map] at h2' ⊢
    rw [e2.length_eq]; exact h2'
  · obtain ⟨g, hg, rfl⟩ := List.mem_map.1 hf
    exact h3 g.y (List.mem_map_of_mem (e2.mem_iff.1 hg))
theorem FewOk.perm {zs : List ZP} (h : FewOk (zs.map ZP.y)) (p : List Int) : FewOk ((permZ zs p).map ZP.y) :=
  h.of_perm (by unfold permZ; rw [List.length_map, (perm_perm zs p).length_eq]) (fun y hy => by
    obtain ⟨z, hz, rfl⟩ := List.mem_map.1 hy
    exact ⟨z, (perm_perm zs p).mem_iff.1 hz, rfl, perm_perm _ _⟩)
theorem FewOk.order {zs : List ZP} (h : FewOk (zs.map ZP.y)) : FewOk ((orderZ zs).map ZP.y) :=
  h.of_perm (by unfold orderZ; rw [List.length_map, (Srt.srt_perm _ zs).length_eq]) (fun y hy => by
    obtain ⟨z, hz, rfl⟩ := List.mem_map.1 hy
    exact ⟨z, (Srt.srt_perm _ zs).mem_iff.1 hz, rfl, Srt.srt_perm _ _⟩)
/-- What a deep row reads. -/
theorem Pk.of_deep {w : World} {base : Nat} {v : Value} {D : List Dp} {ys : List ZP} (h : Deep w base v D) (hD : D.map Prod.fst = ys.map ZP.u) (ht : Texts w ys) (hf : FewOk (ys.map ZP.y)) : ∃ A c, v = .slice A ys.length c ∧ Pk w A c ys := by
  obtain ⟨A, c, e, hl, hC⟩ := h.reads
  have hn : D.length = ys.length := by have := congrArg List.length hD; rwa [List.length_map, List.length_map] at this
  rw [hn] at e hl hC
  rw [hD] at hC
  exact ⟨A, c, e, hl, by rw [List.length_map]; exact hC, by rw [List.length_map]; exact join_P hC ht, ht, hf⟩
theorem permute_pk {w : World} {A A1 : Option Addr} {c c1 : Nat} {zs : List ZP} {p : List Int} (h : Pk w A c zs) (hp : Kd.C (Kd.int .i64) w A1 p.length p) (hpc : p.length ≤ c1) :
    Calls Tryd.prog 13 #[.slice A zs.length c, .slice A1 p.length c1] w fun e w' => ∃ A' c', e = .returned (.slice A' (permZ zs p).length c') ∧ Pk w' A' c' (permZ zs p) ∧ Below w.heap.size w w' := by
  have e : (zs.map ZP.u).length = zs.length := List.length_map _
  have hs := h.fw.small
  have hc := permute_calls A c (zs.map ZP.u) A1 c1 p w hp hpc h.cu (by rw [e]; exact h.le) (by rw [e]; omega) hs.2
  rw [e] at hc
  refine hc.mono ?_
  rintro e w' ⟨v, D, rfl, hD, hdp, hb⟩
  rw [permL_u] at hD
  obtain ⟨A', c', rfl, hk⟩ := Pk.of_deep hdp hD ((h.tx.below hb).perm p) (h.fw.perm p)
  exact ⟨A', c', rfl, hk, hb⟩
theorem refPermute_pk {w : World} {A A1 : Option Addr} {c c1 : Nat} {zs : List ZP} {p : List Int} (h : Pk w A c zs) (hp : Kd.C (Kd.int .i64) w A1 p.length p) (hpc : p.length ≤ c1) (hpl : p.length < 1000000) :
    Calls Tryd.prog 15 #[.slice A zs.length c, .slice A1 p.length c1] w fun e w' => ∃ A' c', e = .returned (.slice A' (permZ zs p).length c') ∧ Pk w' A' c' (permZ zs p) ∧ Below w.heap.size w w' := by
  have e : (zs.map ZP.u).length = zs.length := List.length_map _
  have hs := h.fw.small
  have hc := refPermute_calls A c (zs.map ZP.u) A1 c1 p w hp hpc hpl h.cu (by rw [e]; exact h.le) (by rw [e]; omega) hs.2
  rw [e] at hc
  refine hc.mono ?_
  rintro e w' ⟨v, D, rfl, hD, hdp, hb⟩
  rw [permL_u] at hD
  obtain ⟨A', c', rfl, hk⟩ := Pk.of_deep hdp hD ((h.tx.below hb).perm p) (h.fw.perm p)
  exact ⟨A', c', rfl, hk, hb⟩
theorem order_pk {w : World} {A : Option Addr} {c : Nat} {zs : List ZP} (h : Pk w A c zs) :
    Calls Tryd.prog 17 #[.slice A zs.length c] w fun e w' => ∃ A' c', e = .returned (.slice A' (orderZ zs).length c') ∧ Pk w' A' c' (orderZ zs) ∧ Below w.heap.size w w' := by
  have e : (zs.map ZP.u).length = zs.length := List.length_map _
  have hs := h.fw.small
  have hc := order_calls A c (zs.map ZP.u) w h.cu (by rw [e]; exact h.le) (by rw [e]; omega) hs.2
  rw [e] at hc
  refine hc.mono ?_
  rintro e w' ⟨v, D, rfl, hD, hdp, hb⟩
  rw [orderL_u] at hD
  obtain ⟨A', c', rfl, hk⟩ := Pk.of_deep hdp hD ((h.tx.below hb).order) h.fw.order
  exact ⟨A', c', rfl, hk, hb⟩
theorem same_pk {w : World} {A A' : Option Addr} {c c' : Nat} {zs : List ZP} (h : Pk w A c zs) (h' : Pk w A' c' zs) :
    Calls Tryd.prog 14 #[.slice A zs.length c, .slice A' zs.length c'] w fun e w' => e = .returned (.bool true) ∧ Below w.heap.size w w' := by
  have e : (zs.map ZP.y).length = zs.length := List.length_map _
  obtain ⟨k, hk⟩ := ev_same (zs.map ZP.y) (by have := h.fw.1; omega) (fun p hp => by have := (h.fw.2 p hp).2.1; omega)
  have hc := cavilref05_Same.calls k A c (zs.map ZP.y) A' c' (zs.map ZP.y) true w h.cy (by rw [e]; exact h.le) h'.cy (by rw [e]; exact h'.le) (hk k (Nat.le_refl _))
  rw [e] at hc
  refine hc.mono ?_
  rintro e w' ⟨rfl, hd⟩
  exact ⟨rfl, hd.below⟩
theorem check_pk {w : World} {A : Option Addr} {c : Nat} {zs : List ZP} (h : Pk w A c zs) (ml : Int) (hml : w.cell? ⟨1, 0, none⟩ = some (.int .i64 ml)) :
    Calls Tryd.prog 16 #[.slice A zs.length c] w fun e w' => e = .returned (errW (chkP [] (zs.map ZP.y))) ∧ Below w.heap.size w w' := by
  have e : (zs.map ZP.y).length = zs.length := List.length_map _
  obtain ⟨k, hk⟩ := ev_check (zs.map ZP.y) h.fw
  have hc := files_Check.calls k A c (zs.map ZP.y) _ w ml hml h.cy (by rw [e]; exact h.le) (hk k (Nat.le_refl _))
  rw [e] at hc
  exact hc
end Go.Proofs.YteakcggbolfelaaDoor.Y
