/-
  The chapter's example.
-/
import Derived.Test.YteakcggbolfelaaDoorPe
import Derived.Test.YteakcggbolfelaaDoorYM
namespace Go.Proofs.YteakcggbolfelaaDoor
open Go.RowKit Go.Proofs.YteakcggbolfelaaDoorW.PrintWords Go.Proofs.YteakcggbolfelaaDoorW.PrintLast Go.Proofs.YteakcggbolfelaaDoorW.PrintMore
set_option linter.unusedVariables false
set_option linter.unusedSimpArgs false
abbrev sa : ByteArray := ⟨#[97]⟩
abbrev sb : ByteArray := ⟨#[98]⟩
def wk : List U.S47 := [⟨sb, []⟩, ⟨sa, []⟩]
def wkY : List Y.S47 := [⟨sb, []⟩, ⟨sa, []⟩]
theorem wk_order : orderL wk = [⟨sa, []⟩, ⟨sb, []⟩] := by rfl
theorem wk_perm : permL [⟨sa, []⟩, ⟨sb, []⟩] [1] = [⟨sb, []⟩, ⟨sa, []⟩] := by rfl
set_option maxRecDepth 100000 in
theorem wk_check : Y.files_Check.f 50 wkY = some none := by kernel_rfl
theorem new_block (w : World) (o : Obj) : (w.alloc o).heap[w.heap.size]? = some o := by show (w.heap.push o)[w.heap.size]? = some o; simp
theorem two_of {D : List Dp} {x y : U.S47} (h : D.map Prod.fst = [x, y]) : ∃ d0 d1 : Dp, D = [d0, d1] ∧ d0.1 = x ∧ d1.1 = y := by
  match D, h with
  | [d0, d1], h => simp only [List.map_cons, List.map_nil, List.cons.injEq] at h; exact ⟨d0, d1, rfl, h.1, h.2.1⟩
theorem wk_cells (w : World) : ∃ W, W = w.alloc (.cells #[.string sb, .slice none 0 0, .string sa, .slice none 0 0] 47) ∧ Below w.heap.size w W ∧ Kd.C U.k47 W (some ⟨w.heap.size, 0, none⟩) wk.length wk ∧ Kd.C Y.k47 W (some ⟨w.heap.size, 0, none⟩) wkY.length wkY := by
  obtain ⟨W, hW⟩ : ∃ W, W = w.alloc (.cells #[.string sb, .slice none 0 0, .string sa, .slice none 0 0] 47) := ⟨_, rfl⟩
  have hb : W.heap[w.heap.size]? = some (.cells #[.string sb, .slice none 0 0, .string sa, .slice none 0 0] 47 (0, 0)) := by rw [hW]; exact new_block _ _
  have hc : ∀ k, W.cell? ⟨w.heap.size, k, none⟩ = #[Value.string sb, .slice none 0 0, .string sa, .slice none 0 0][k]? := fun k => by
    simp only [World.cell?, hb]; rfl
  have hn37 : ∀ (W : World), Kd.C U.k37 W none 0 [] := fun W => ⟨rfl, by decide, fun h => absurd h (by decide)⟩
  have hn37y : ∀ (W : World), Kd.C Y.k37 W none 0 [] := fun W => ⟨rfl, by decide, fun h => absurd h (by decide)⟩
  have had : ∀ k, (⟨w.heap.size, 0, none⟩ : Addr).add k = ⟨w.heap.size, k, none⟩ := fun k => by rw [add_plain]
  refine ⟨W, hW, by rw [hW]; exact (Below.refl _ _).alloc (Nat.le_refl _) _, ⟨rfl, by decide, fun _ => ⟨_, rfl, fun j p hj => ?_⟩⟩, ⟨rfl, by decide, fun _ => ⟨_, rfl, fun j p hj => ?_⟩⟩⟩
  · match j, hj with
    | 0, hj =>
      obtain rfl := Option.some.inj hj
      refine ⟨[.string sb, .slice none 0 0], rfl, U.k47_mk W ⟨sb, []⟩ (Nat.le_refl _) (hn37 W), fun i u hi => ?_⟩
      rw [had, hc]
      match i, hi with
      | 0, hi => exact hi
      | 1, hi => exact hi
    | 1, hj =>
      obtain rfl := Option.some.inj hj
      refine ⟨[.string sa, .slice none 0 0], rfl, U.k47_mk W ⟨sa, []⟩ (Nat.le_refl _) (hn37 W), fun i u hi => ?_⟩
      rw [had, hc]
      match i, hi with
      | 0, hi => exact hi
      | 1, hi => exact hi
  · match j, hj with
    | 0, hj =>
      obtain rfl := Option.some.inj hj
      refine ⟨[.string sb, .slice none 0 0], rfl, Y.k47_mk W ⟨sb, []⟩ (Nat.le_refl _) (hn37y W), fun i u hi => ?_⟩
      rw [had, hc]
      match i, hi with
      | 0, hi => exact hi
      | 1, hi => exact hi
    | 1, hj =>
      obtain rfl := Option.some.inj hj
      refine ⟨[.string sa, .slice none 0 0], rfl, Y.k47_mk W ⟨sa, []⟩ (Nat.le_refl _) (hn37y W), fun i u hi => ?_⟩
      rw [had, hc]
      match i, hi with
      | 0, hi => exact hi
      | 1, hi => exact hi
set_option maxRecDepth 100000 in
set_option maxHeartbeats 4000000 in
theorem works_calls (w : World) (ml : Int) (hml : w.cell? ⟨1, 0, none⟩ = some (.int .i64 ml)) : Calls Tryd.prog 11 #[] w fun e w' => e = .returned (.bool true) ∧ Below w.heap.size w w' := by
  obtain ⟨W, hW, hB, hU, hY⟩ := wk_cells w
  have ho : Calls Tryd.prog 17 #[.slice (some ⟨w.heap.size, 0, none⟩) 2 2] W fun e w' => ∃ v D, e = .returned v ∧ D.map Prod.fst = orderL wk ∧ Deep w' W.heap.size v D ∧ Below W.heap.size W w' := order_calls (some ⟨w.heap.size, 0, none⟩) 2 wk W hU (by decide) (by decide) (by decide)
  have hch : ∀ (W' : World) (hb : Below W.heap.size W W'), Calls Tryd.prog 16 #[.slice (some ⟨w.heap.size, 0, none⟩) 2 2] W' fun e w' => e = .returned .nilIface ∧ Below W'.heap.size W' w' := fun (W' : World) (hb : Below W.heap.size W W') => Y.files_Check.calls 50 (some ⟨w.heap.size, 0, none⟩) 2 wkY none W' ml (((hB.trans (hb.mono hB.size)).cell (p := ⟨1, 0, none⟩) (World.block_lt_of_cell? w _ hml)).trans hml) (Kd.C_below hY hb) (by decide) wk_check
  have HB := Aside0.mk hB
  have HW := Aside0.mk hW
  have HCH := Aside0.mk hch
  rw [hW] at ho
  clear hU hY hB hml hch
  go_enter Tryd.func11, Tryd.ntmps11
  go_wp2_with (go_at_call 17; (with_reducible refine ho.mono ?_))
  clear ho
  rw [← HW.out]
  rintro e w1 ⟨o, D, rfl, hD, hdp, hb⟩
  have HD := Aside0.mk hD
  have HDP := Aside0.mk hdp
  have HB1 := Aside0.mk hb
  clear hD hdp hb
  obtain ⟨W1, hW1⟩ : ∃ W1, W1 = w1.alloc (.cells #[.int .i64 1] 3) := ⟨_, rfl⟩
  have hb11 : Below w1.heap.size w1 W1 := by rw [hW1]; exact (Below.refl _ _).alloc (Nat.le_refl _) _
  have hpk : Kd.C (Kd.int .i64) W1 (some ⟨w1.heap.size, 0, none⟩) [(1 : Int)].length [1] := by
    have hb : W1.heap[w1.heap.size]? = some (.cells #[.int .i64 1] 3 (0, 0)) := by rw [hW1]; exact new_block _ _
    refine ⟨rfl, by decide, fun _ => ⟨_, rfl, fun j p hj => ?_⟩⟩
    match j, hj with
    | 0, hj =>
      obtain rfl := Option.some.inj hj
      refine ⟨[.int .i64 1], rfl, rfl, fun i u hi => ?_⟩
      match i, hi with
      | 0, hi =>
        rw [add_plain]
        simp only [World.cell?, hb]; exact hi
  have hp : ∃ A c, o = .slice A 2 c ∧ Calls Tryd.prog 13 #[o, .slice (some ⟨w1.heap.size, 0, none⟩) 1 1] W1 fun e w' => ∃ v D2, e = .returned v ∧ D2.map Prod.fst = permL (orderL wk) [1] ∧ Deep w' W1.heap.size v D2 ∧ Below W1.heap.size W1 w' := by
    obtain ⟨A, c, e, hl, hC⟩ := (HDP.out.below hb11).reads
    obtain ⟨d0, d1, e2, _⟩ := two_of (HD.out.trans wk_order)
    have hl2 : D.length = 2 := by rw [e2]; rfl
    have hm : (D.map Prod.fst).length = D.length := List.length_map _
    rw [← hm, HD.out] at hC
    rw [hl2] at e hl
    refine ⟨A, c, e, ?_⟩
    rw [e]
    exact permute_calls A c (orderL wk) (some ⟨w1.heap.size, 0, none⟩) 1 [1] W1 hpk (by decide) hC hl (by decide) (by decide)
  obtain ⟨A, c, rfl, hp⟩ := hp
  have HB11 := Aside0.mk hb11
  have HW1 := Aside0.mk hW1
  rw [hW1] at hp
  clear hpk hb11
  go_wp2_with (go_at_call 13; (with_reducible refine hp.mono ?_))
  clear hp
  rw [← HW1.out]
  rintro e w2 ⟨p, D2, rfl, hD2, hdp2, hb2⟩
  have hall := HB1.out.trans ((HB11.out.trans (hb2.mono HB11.out.size)).mono HB1.out.size)
  have hck := HCH.out w2 hall
  obtain ⟨d0, d1, e2, e3, _⟩ := two_of (HD.out.trans wk_order)
  obtain ⟨q0, q1, f2, f3, _⟩ := two_of (hD2.trans ((congrArg (fun x => permL x [1]) wk_order).trans wk_perm))
  obtain ⟨A2, c2, rfl⟩ := hdp2.slice
  have hl2 : D2.length = 2 := by rw [f2]; rfl
  rw [hl2] at hdp2 ⊢
  obtain ⟨ad, ea, a0, _⟩ := (HDP.out.below (HB11.out.trans (hb2.mono HB11.out.size))).at_ (i := 0) (d := d0) (by rw [e2]; rfl)
  obtain ⟨bd, eb, b0, _⟩ := hdp2.at_ (i := 0) (d := q0) (by rw [f2]; rfl)
  subst ea
  subst eb
  rw [e3] at a0
  rw [f3] at b0
  have e0 : ∀ x : Addr, x.add (0 * 2) = x := fun x => by simp [Addr.add]
  rw [e0] at a0 b0
  clear e0
  have HBZ := Aside0.mk (HB.out.trans (hall.mono HB.out.size))
  clear hD2 hdp2 hb2 hall e2 e3 f2 f3 hl2
  go_wp2_with (go_at_call 16; (with_reducible refine hck.mono ?_); rintro e w3 ⟨rfl, hb3⟩; have HB3 := Aside0.mk hb3; clear hb3)
  go_ret
  exact ⟨rfl, HBZ.out.trans (HB3.out.mono HBZ.out.size)⟩
end Go.Proofs.YteakcggbolfelaaDoor
