/-
  files.Replace.
-/
import Derived.Test.YteakcggbolfelaaDoorFd
import Derived.StillTailTactics
import Derived.Lib.SliceRun
namespace Go.Proofs.YteakcggbolfelaaDoor.Y
open Go.RowKit Go.Proofs.YteakcggbolfelaaDoorW.PrintWords Go.Proofs.YteakcggbolfelaaDoorW.PrintLast Go.Proofs.YteakcggbolfelaaDoorW.PrintMore
set_option linter.unusedVariables false
set_option linter.unusedSimpArgs false
theorem yinfo5 : (Tryd.prog.info? 5).map (fun i => (i.zero, i.size, i.bytes)) = some (some (.int .u8 0), 1, 1) := by kernel_rfl
set_option maxHeartbeats 4000000 in
set_option maxRecDepth 100000 in
theorem cloneB_calls (A0 : Option Addr) (c0 : Nat) (l0 : List Int) (w : World) (hr0 : Kd.C (Kd.int .u8) w A0 l0.length l0) (hc0 : l0.length ≤ c0) (hlen : l0.length < 1000000) :
    Calls Tryd.prog 44 #[.slice A0 l0.length c0] w fun e w' => ∃ v0_ : Value, e = .returned (v0_) ∧ Kd.R (Kd.int .u8) 5 w' w.heap.size (fun _ => True) v0_ l0 ∧ Below w.heap.size w w' := by
    cases A0 with
    | none =>
      have h0 : l0 = [] := by
        by_cases c : 0 < l0.length
        · obtain ⟨ad, e, _⟩ := hr0.2.2 c; cases e
        · exact List.length_eq_zero_iff.1 (by omega)
      subst h0
      have hn := fun (w : World) (n c : Nat) => Lib.run_eql_slice_nil (P := Tryd.prog) w 35 5 none n c 0 0 Tryd.underlying35
      go_enter Tryd.func44, Tryd.ntmps44
      go_wp2_with fail
      go_ret
      exact ⟨_, rfl, Kd.R_nil _ _ _ _ _, Below.refl _ _⟩
    | some ad =>
      have hn := fun (w : World) (n c : Nat) => Lib.run_eql_slice_nil (P := Tryd.prog) w 35 5 (some ad) n c 0 0 Tryd.underlying35
      have HR := Aside0.mk hr0
      have HB := Aside0.mk (Below.refl w.heap.size w)
      have LM := Aside0.mk hlen
      clear hr0 hlen
      go_enter Tryd.func44, Tryd.ntmps44
      go_wp2_with (first | ((with_reducible refine gate_dst (N := 5) rfl ?_); refine Kd.R_lit (Kd.int .u8) _ 5 ?hg (N := 5) ?hd (xs := ([] : List Int)) (inner := []) (ok := fun _ => True) (okp := fun _ => True) ?hr ?hp (fun _ hk => hk) trivial (Below.refl _ _) (Nat.le_refl _) (by simp) ?_; (case hd => rfl); (case hg => rfl); (case hr => first | (go_simp; done) | (go_simp; rfl)); (case hp => exact (Reps.none _ _)); intro v1 w1 ho hb hg_ hnew_; clear hg_ hnew_; have HO := Aside0.mk ho; have HB1 := Aside0.mk hb; clear ho hb) | ((with_reducible refine gate_builtin (b := .append) (xs := #[.tmp 5, .tmp 6]) rfl ?_); at_builtin; refine Kd.R_append_rows (Kd.int .u8) (w0 := w) w.heap.size rfl (.tmp 5) (.tmp 6) 35 5 (.int .u8 0) 1 rfl Tryd.underlying35 yinfo5 rfl (by decide) (by omega) v1 [] l0 _ _ _ (fun _ => True) (fun _ => False) rfl rfl ?aO ?aR (fun _ _ h => h) (fun _ h => h.elim) ?aF ?aB ?aS ?aL ?_; (case aR => exact Kd.C_below HR.out HB1.out); (case aB => exact HB1.out); (case aF => exact (fun _ _ => trivial)); (case aO => exact HO.out); (case aS => exact HB1.out.size); (case aL => have := LM.out; simp; omega); intro v2 w2 ho hb hg hat; have HO2 := Aside0.mk ho; have HB2 := Aside0.mk hb; clear ho hb hg hat))
      go_ret
      exact ⟨_, rfl, by simpa using HO2.out, HB2.out⟩
/-- A text put in the place of a file's. -/
def replY (l : List S47) (i k : Nat) (tx : List Int) : List S47 := l.set i ⟨(l.getD i z47).f0, (l.getD i z47).f1.set k ⟨((l.getD i z47).f1.getD k z37).f0, tx⟩⟩
set_option maxHeartbeats 4000000 in
theorem replace_none {A At : Option Addr} {c ct m : Nat} {l : List S47} (path name : ByteArray) {w : World} (h : Kd.C k47 w A l.length l) (hl : l.length ≤ c) (hn : l.length < 1000000) (hf : ∀ p ∈ l, p.f1.length < 1000000) (hp : placeL l path name = none) :
    Calls Tryd.prog 20 #[.slice A l.length c, .string path, .string name, .slice At m ct] w fun e w' => e = .returned (.tuple #[.slice none 0 0, noneW]) ∧ Below w.heap.size w w' := by
  have h42 := place_calls path name h hl hn hf
  rw [hp] at h42
  clear h hl hn hf hp
  go_enter Tryd.func20, Tryd.ntmps20
  go_wp2_with (first
    | (go_at_call 42; (with_reducible refine h42.mono ?_); clear h42; rintro e w2 ⟨rfl, hb⟩; have HB2 := Aside0.mk hb; clear hb; simp only [plW])
    | (go_at_call 43; (with_reducible refine (is_none _).mono ?_); rintro e w3 ⟨rfl, rfl⟩))
  go_ret2
  exact ⟨rfl, HB2.out⟩
theorem placeL_lt {l : List S47} {path name : ByteArray} {i k : Nat} (hp : placeL l path name = some (i, k)) : i < l.length ∧ k < (l.getD i z47).f1.length ∧ ((l.getD i z47).f1.getD k z37).f0 = name ∧ (l.getD i z47).f0 = path := by
  unfold placeL at hp
  cases h1 : firstI (l.map S47.f0) path with
  | none => rw [h1] at hp; cases hp
  | some i' =>
    rw [h1] at hp
    simp only [] at hp
    cases h2 : firstI ((l.getD i' z47).f1.map S37.f0) name with
    | none => rw [h2] at hp; cases hp
    | some k' =>
      rw [h2] at hp
      obtain ⟨rfl, rfl⟩ := Prod.mk.inj (Option.some.inj hp)
      obtain ⟨a1, a2⟩ := firstI_lt _ _ _ h1
      obtain ⟨b1, b2⟩ := firstI_lt _ _ _ h2
      rw [List.length_map] at a1 b1
      rw [List.getElem_map] at a2 b2
      refine ⟨a1, b1, ?_, ?_⟩
      · rw [List.getD_eq_getElem?_getD, List.getElem?_eq_getElem b1]
        exact b2
      · rw [List.getD_eq_getElem?_getD, List.getElem?_eq_getElem a1]
        exact a2
def rep.T5 : Bool × List (List Nat × List Nat) := (true, [([], []), ([], []), ([0, 1], [0, 1]), ([2], [2]), ([3], [3]), ([], []), ([], []), ([6], [6]), ([4, 5, 0, 1, 2, 3, 4, 5, 6, 7], [4, 5]), ([8, 0, 1, 2, 3, 4, 5, 6, 7], [8]), ([9, 7, 7, 0, 1, 2, 3, 4, 5, 6, 7], [7, 9])])
def rep.B5 : List Nat := [0, 0, 3, 7, 15, 0, 0, 64, 255, 511, 1023]
theorem rep.tab5 : rtab .any (opsOf Tryd.f20 5) = rep.T5 := by kernel_rfl
theorem rep.bits5 : waitsOk rep.T5.2 rep.B5 = true := by kernel_rfl
set_option maxRecDepth 100000 in
set_option maxHeartbeats 4000000 in
theorem replace_some {A At : Option Addr} {c ct : Nat} {zs : List ZP} {tx : List Int} (path name : ByteArray) {w : World} (h : Pk w A c zs) (ht : Kd.C (Kd.int .u8) w At tx.length tx) (htc : tx.length ≤ ct) (htl : tx.length ≤ 300) {i k : Nat} (hp : placeL (zs.map ZP.y) path name = some (i, k)) :
    Calls Tryd.prog 20 #[.slice A zs.length c, .string path, .string name, .slice At tx.length ct] w fun e w' => ∃ A' c' zs', e = .returned (.tuple #[.slice A' zs'.length c', .nilIface]) ∧ Pk w' A' c' zs' ∧ zs'.map ZP.y = replY (zs.map ZP.y) i k tx ∧ Below w.heap.size w w' := by
  have e0 : (zs.map ZP.y).length = zs.length := List.length_map _
  have e1 : (zs.map ZP.u).length = zs.length := List.length_map _
  obtain ⟨p1, p2, p3, _⟩ := placeL_lt hp
  have h42 := place_calls path name h.cy (c := c) (by rw [e0]; exact h.le) (by have := h.fw.1; omega) (fun p hp => by have := (h.fw.2 p hp).2.1; omega)
  rw [hp, e0] at h42
  have hs := h.fw.small
  have hcp := fun (w' : World) (hb : Below w.heap.size w w') => copied_calls (A0 := A) (c0 := c) (Kd.C_below h.cu hb) (by rw [e1]; exact h.le) (by rw [e1]; omega) (fun x hx => by have := hs.2 x hx; omega)
  rw [e1] at hcp
  have h44 := fun (w' : World) (hb : Below w.heap.size w w') => cloneB_calls At ct tx w' (Kd.C_below ht hb) htc (by omega)
  have HX := Aside0.mk (And.intro h (And.intro ht (And.intro htl (And.intro hp (And.intro p1 (And.intro p2 p3))))))
  have HCP := Aside0.mk hcp
  have H44 := Aside0.mk h44
  clear h ht htc htl hp p1 p2 p3 e0 e1 hs hcp h44
  go_enter Tryd.func20, Tryd.ntmps20
  go_wp2_with (first
    | (go_at_call 42; (with_reducible refine h42.mono ?_); clear h42; rintro e w2 ⟨rfl, hb⟩; have HB2 := Aside0.mk hb; have h28 := HCP.out w2 hb; clear hb; simp only [plW])
    | (go_at_call 43; (with_reducible refine (is_nil 7 _).mono ?_); rintro e w3 ⟨rfl, rfl⟩)
    | (go_at_call 28; (with_reducible refine h28.mono ?_); clear h28; rintro e w4 ⟨v, D, rfl, hD, hdp, hb⟩; have HD := Aside0.mk hD; have HDP := Aside0.mk hdp; have HB4 := Aside0.mk hb; clear hD hdp hb))
  obtain ⟨A4, c4, rfl⟩ := HDP.out.slice
  have hDl : D.length = zs.length := by have := congrArg List.length HD.out; rwa [List.length_map, List.length_map] at this
  have hi : i < zs.length := by have := HX.out.2.2.2.2.1; rwa [List.length_map] at this
  obtain ⟨z, hz⟩ : ∃ z, zs[i]? = some z := ⟨_, List.getElem?_eq_getElem hi⟩
  obtain ⟨d, hd⟩ : ∃ d, D[i]? = some d := ⟨_, List.getElem?_eq_getElem (by omega)⟩
  have hdz : d.1 = z.u := by
    have h1 : (D.map Prod.fst)[i]? = some d.1 := by rw [List.getElem?_map, hd]; rfl
    rw [HD.out, List.getElem?_map, hz] at h1
    exact (Option.some.inj h1).symm
  have hgz : (zs.map ZP.y).getD i z47 = z.y := by rw [List.getD_eq_getElem?_getD, List.getElem?_map, hz]; rfl
  have hk : k < z.l.length := by
    have := HX.out.2.2.2.2.2.1
    rw [hgz] at this
    have e : z.y.f1.length = z.l.length := List.length_map _
    omega
  obtain ⟨f, hf⟩ : ∃ f, z.l[k]? = some f := ⟨_, List.getElem?_eq_getElem hk⟩
  have hx : d.1.f1[k]? = some f.u := by rw [hdz]; show (z.l.map ZF.u)[k]? = _; rw [List.getElem?_map, hf]; rfl
  obtain ⟨ad, ea, a0, a1⟩ := HDP.out.at_ hd
  have hin := HDP.out.ins d (List.mem_of_getElem? hd)
  obtain ⟨g, cap, eg, hgb, _⟩ := Kd.R_form hin (by rw [hdz]; show 0 < (z.l.map ZF.u).length; rw [List.length_map]; omega)
  have hm : d.1.f1.length = z.l.length := by rw [hdz]; exact List.length_map _
  obtain ⟨m, hmz⟩ : ∃ m, z.l.length = m := ⟨_, rfl⟩
  rw [hm, hmz] at eg
  have hR := hin
  rw [eg] at hR
  obtain ⟨x0, x1, hfr⟩ := U.swapF hR hx
  rw [eg] at a1
  subst ea
  have n1 : D.length = zs.length := hDl
  rw [n1]
  obtain ⟨n, hn⟩ : ∃ n, zs.length = n := ⟨_, rfl⟩
  have q1 : ((i : Int) < (n : Int)) = True := eq_true (by omega)
  have q1n : (i < n) = True := eq_true (by omega)
  have q0 : (0 ≤ (i : Int)) = True := eq_true (by omega)
  have k1 : ((k : Int) < (m : Int)) = True := eq_true (by omega)
  have k1n : (k < m) = True := eq_true (by omega)
  have k0 : (0 ≤ (k : Int)) = True := eq_true (by omega)
  have HZ := Aside0.mk (And.intro hz (And.intro hd (And.intro hdz (And.intro hgz (And.intro hf (And.intro hx (And.intro eg (And.intro hgb (And.intro hmz (And.intro hDl (And.intro hn hk)))))))))))
  have hb44 : Below w.heap.size w w4.drew := below_drew (HB2.out.trans (HB4.out.mono HB2.out.size))
  have h44 := H44.out _ hb44
  have HB44 := Aside0.mk hb44
  have HR := Aside0.mk hR
  have HXX := Aside0.mk (And.intro x1 hfr)
  clear hz hd hdz hgz hf hx eg hgb hmz hDl hn hk hi hin hm hR n1 a0 x0 hb44
  rw [show zs.length = n from HZ.out.2.2.2.2.2.2.2.2.2.2.1]
  go_wp2
  refine start_ (n := 11) (S := fun w' => w'.cell? ⟨(ad.add (i * 2)).block, (ad.add (i * 2)).off + 1, none⟩ = some (.slice (some ⟨g, 0, none⟩) m cap)) (ds := [10]) #[false, false, false, false, false, false, false, false, false, false, false] (by kernel_rfl) rfl rfl a1 (fun hHeld => ?_); refine with_tabW rep.tab5 rep.bits5 (fun HT_ HW_ => ?_)
  refine pure_ (i := 0) (N := some 28) (v := ?_) (a' := ?_) #[true, false, false, false, false, false, false, false, false, false, false] rfl rfl (any_of HT_.out (by kernel_rfl)) (fun _ _ _ h => h) (Or.inl ⟨by rfl, ?_⟩) ?_ ?_
  rotate_left
  · intro w'
    go_simp
    with_reducible rfl
  rotate_left
  · simp only [Act.put, List.setIfInBounds_toArray, List.set_cons_zero, List.set_cons_succ, i64_w, i32_w]
    rfl
  refine pure_ (i := 1) (N := some 29) (v := ?_) (a' := ?_) #[true, true, false, false, false, false, false, false, false, false, false] rfl rfl (any_of HT_.out (by kernel_rfl)) (fun _ _ _ h => h) (Or.inl ⟨by rfl, ?_⟩) ?_ ?_
  rotate_left
  · intro w'
    go_simp
    with_reducible rfl
  rotate_left
  · simp only [Act.put, List.setIfInBounds_toArray, List.set_cons_zero, List.set_cons_succ, i64_w, i32_w]
    rfl
  refine pure_ (i := 2) (N := some 30) (v := ?_) (a' := ?_) #[true, true, true, false, false, false, false, false, false, false, false] rfl rfl (any_of HT_.out (by kernel_rfl)) (fun _ _ _ h => h) (Or.inl ⟨by rfl, ?_⟩) ?_ ?_
  rotate_left
  · intro w'
    go_simp
    with_reducible rfl
  rotate_left
  · simp only [Act.put, List.setIfInBounds_toArray, List.set_cons_zero, List.set_cons_succ, i64_w, i32_w]
    rfl
  refine pure_ (i := 3) (N := some 31) (v := ?_) (a' := ?_) #[true, true, true, true, false, false, false, false, false, false, false] rfl rfl (any_of HT_.out (by kernel_rfl)) (fun _ _ _ h => h) (Or.inl ⟨by rfl, ?_⟩) ?_ ?_
  rotate_left
  · intro w'
    go_simp
    with_reducible rfl
  rotate_left
  · simp only [Act.put, List.setIfInBounds_toArray, List.set_cons_zero, List.set_cons_succ, i64_w, i32_w]
    rfl
  refine take_ (i := 4) (N := some 32) (v := ?_) (a' := ?_) #[true, true, true, true, true, false, false, false, false, false, false] rfl rfl (take_ofW HT_.out HW_.out (by kernel_rfl)) (fun _ _ _ h => h) (Or.inl ⟨by rfl, ?_⟩) hHeld ?_ ?_
  rotate_left
  · rintro w' s0
    go_simp
    with_reducible rfl
  rotate_left
  · simp only [Act.put, List.setIfInBounds_toArray, List.set_cons_zero, List.set_cons_succ, i64_w, i32_w]
    rfl
  refine pure_ (i := 5) (N := some 33) (v := ?_) (a' := ?_) #[true, true, true, true, true, true, false, false, false, false, false] rfl rfl (any_of HT_.out (by kernel_rfl)) (fun _ _ _ h => h) (Or.inl ⟨by rfl, ?_⟩) ?_ ?_
  rotate_left
  · intro w'
    go_simp
    with_reducible rfl
  rotate_left
  · simp only [Act.put, List.setIfInBounds_toArray, List.set_cons_zero, List.set_cons_succ, i64_w, i32_w]
    rfl
  refine pure_ (i := 6) (N := some 34) (v := ?_) (a' := ?_) #[true, true, true, true, true, true, true, false, false, false, false] rfl rfl (any_of HT_.out (by kernel_rfl)) (fun _ _ _ h => h) (Or.inl ⟨by rfl, ?_⟩) ?_ ?_
  rotate_left
  · intro w'
    go_simp
    with_reducible rfl
  rotate_left
  · simp only [Act.put, List.setIfInBounds_toArray, List.set_cons_zero, List.set_cons_succ, i64_w, i32_w]
    rfl
  refine one_ (i := 7) (N := some 35) #[true, true, true, true, true, true, true, true, false, false, false] rfl rfl (one_of HT_.out (by kernel_rfl)) (by decide) (fun K hK => ?_)
  refine goes_ Tryd.func44 (by kernel_rfl) rfl #[.slice At tx.length ct] (by rfl) rfl rfl (by (try simp only [List.map_toArray, List.map_cons, List.map_nil]); first | done | rfl) ?_
  with_reducible refine h44.mono ?_
  clear h44
  rintro e w5 ⟨v5, rfl, hv, hb⟩
  refine ⟨_, rfl, ?_⟩
  obtain ⟨A5, c5, rfl⟩ := Kd.R_slice hv
  have HV := Aside0.mk hv
  have HB5 := Aside0.mk hb
  have hgl : g < w4.drew.heap.size := World.block_lt_of_cell? w4.drew _ HXX.out.1
  have z1 : w5.cell? ⟨g, k * 2 + 1, none⟩ = some f.u.f1.1 := (hb.cell (p := ⟨g, k * 2 + 1, none⟩) hgl).trans HXX.out.1
  have z2 : w5.frozen? ⟨g, k * 2 + 1, none⟩ = false := by
    have hg := hb.block g hgl
    have h3 : w4.drew.frozen? ⟨g, k * 2 + 1, none⟩ = false := HXX.out.2 (k * 2 + 1)
    simp only [World.frozen?, hg] at h3 ⊢
    exact h3
  refine hK.out _ _ ((hb.cell (World.block_lt_of_cell? w4.drew _ hHeld)).trans hHeld) (fun hHeld => ?_)
  clear hK K hv hb hgl
  refine norm_ (a' := ?_) ?_ ?_
  rotate_left
  · show Act.put _ (some 35) _ = _
    simp only [Act.put, List.setIfInBounds_toArray, List.set_cons_zero, List.set_cons_succ, i64_w, i32_w]
    rfl
  refine pure_ (i := 8) (N := some 36) (v := ?_) (a' := ?_) #[true, true, true, true, true, true, true, true, true, false, false] rfl rfl (any_of HT_.out (by kernel_rfl)) (fun _ _ _ h => h) (Or.inl ⟨by rfl, ?_⟩) ?_ ?_
  rotate_left
  · intro w'
    go_simp
    with_reducible rfl
  rotate_left
  · simp only [Act.put, List.setIfInBounds_toArray, List.set_cons_zero, List.set_cons_succ, i64_w, i32_w]
    rfl
  refine pure_ (i := 9) (N := some 37) (v := ?_) (a' := ?_) #[true, true, true, true, true, true, true, true, true, true, false] rfl rfl (any_of HT_.out (by kernel_rfl)) (fun _ _ _ h => h) (Or.inl ⟨by rfl, ?_⟩) ?_ ?_
  rotate_left
  · intro w'
    go_simp
    with_reducible rfl
  rotate_left
  · simp only [Act.put, List.setIfInBounds_toArray, List.set_cons_zero, List.set_cons_succ, i64_w, i32_w]
    rfl
  refine last_ (i := 10) (N := none) #[true, true, true, true, true, true, true, true, true, true, true] rfl rfl (one_of HT_.out (by kernel_rfl)) (by decide) (fun K hK => ?_)
  refine skip_ (w1 := ?_) (by rfl) rfl ?_ ?_
  rotate_left
  · go_simp
    rfl
  refine hK.out _ _ ?_
  clear hK K
  refine done_ (done_of HT_.out (by kernel_rfl)) ?_
  try go_wp2
  go_ret2
  obtain ⟨hz, hd, hdz, hgz, hf, hx, eg, hgb, hmz, hDl, hn, hk⟩ := HZ.out
  have hi : i < zs.length := (List.getElem?_eq_some_iff.1 hz).1
  have hid : i < D.length := by omega
  obtain ⟨vl, hvl⟩ : ∃ vl : Vl, vl = ⟨.slice A5 tx.length c5, rfl⟩ := ⟨_, rfl⟩
  have hv1 : vl.1 = .slice A5 tx.length c5 := by rw [hvl]
  have hgw : g < w4.drew.heap.size := World.block_lt_of_cell? w4.drew _ HXX.out.1
  have hb5 : Below w4.heap.size w4 w5 := below_step (below_drew1 (Below.refl _ _)) HB5.out
  have hD5 := HDP.out.below hb5
  have hR5 := Kd.R_below HR.out hb5
  have hdg : d.1.f1.getD k U.z37 = f.u := by rw [List.getD_eq_getElem?_getD, hx]; rfl
  have hml : d.1.f1.length = m := by rw [hdz]; show (z.l.map ZF.u).length = m; rw [List.length_map, hmz]
  have hsg : Kd.R U.k37 37 (w5.setCell ⟨g, k * 2 + 1, none⟩ vl.1) w2.heap.size (fun k => some k = d.own) (.slice (some ⟨g, 0, none⟩) m cap) (d.1.f1.set k ⟨f.n, vl⟩) := by
    obtain ⟨c', hcl, hM, hcc, _⟩ := Kd.R_elem hR5 U.z37 (k : Int) (by omega) (by omega)
    obtain rfl := U.k37_openM hM
    have h1 := (Kd.R_seg hR5 (k : Int) (by omega) (by omega) (seg := [vl.1]) (j := 1) hcl hcc (show 2 ≤ 2 from by decide) (x' := (⟨f.n, vl⟩ : U.S37)) (okp := fun _ => False) (by
      rw [Int.toNat_natCast, hdg]
      exact U.k37_mkM _ _ _ (⟨f.n, vl⟩ : U.S37)) (fun _ hk => hk.elim)).1
    exact h1
  have hkept : Kept w5 (w5.setCell ⟨g, k * 2 + 1, none⟩ vl.1) (fun k => some k = d.own) := (Kept.refl w5 _).setCell (p := ⟨g, k * 2 + 1, none⟩) (.inl (by show some g = d.2.1.ownBlock; rw [eg]; rfl)) vl.1
  have hDs := hD5.set hd (r := d.1.f1.set k ⟨f.n, vl⟩) (ok := fun k => some k = d.own) (by rw [eg]; exact hsg) hkept
  have hBw : Below w.heap.size w (w5.setCell ⟨g, k * 2 + 1, none⟩ vl.1) := below_set (HB44.out.trans (HB5.out.mono HB44.out.size)) (by have := HB2.out.size; omega)
  have hfu : FewOk ((zs.set i ⟨z.p, z.l.set k ⟨f.n, tx, vl⟩⟩).map ZP.y) := by
    have hfw := HX.out.1.fw
    refine ⟨by have := hfw.1; rw [List.length_map] at this ⊢; rw [List.length_set]; exact this, fun q hq => ?_⟩
    obtain ⟨y, hy, rfl⟩ := List.mem_map.1 hq
    rcases List.mem_or_eq_of_mem_set hy with hy | rfl
    · exact hfw.2 y.y (List.mem_map_of_mem hy)
    · obtain ⟨b1, b2, b3⟩ := hfw.2 z.y (List.mem_map_of_mem (List.mem_of_getElem? hz))
      refine ⟨b1, ?_, fun r hr => ?_⟩
      · show ((z.l.set k ⟨f.n, tx, vl⟩).map ZF.y).length ≤ 6
        have b2' : (z.l.map ZF.y).length ≤ 6 := b2
        rw [List.length_map] at b2' ⊢; rw [List.length_set]; exact b2'
      · obtain ⟨r', hr', rfl⟩ := List.mem_map.1 hr
        rcases List.mem_or_eq_of_mem_set hr' with hr' | rfl
        · exact b3 r'.y (List.mem_map_of_mem hr')
        · exact ⟨(b3 f.y (List.mem_map_of_mem (List.mem_of_getElem? hf))).1, HX.out.2.2.1⟩
  have htx : Texts (w5.setCell ⟨g, k * 2 + 1, none⟩ vl.1) (zs.set i ⟨z.p, z.l.set k ⟨f.n, tx, vl⟩⟩) := fun y hy r hr => by
    have old := HX.out.1.tx.below hBw
    rcases List.mem_or_eq_of_mem_set hy with hy | rfl
    · exact old y hy r hr
    · rcases List.mem_or_eq_of_mem_set hr with hr | rfl
      · exact old z (List.mem_of_getElem? hz) r hr
      · have hv7 : Kd.R (Kd.int .u8) 5 (w5.setCell ⟨g, k * 2 + 1, none⟩ vl.1) w4.drew.heap.size (fun k => some k = (Value.slice A5 tx.length c5).ownBlock) (.slice A5 tx.length c5) tx :=
          Kd.R_kept (Kd.R_tight rfl HV.out) ((Kept.refl w5 (fun k => k = g)).setCell (p := ⟨g, k * 2 + 1, none⟩) (.inl rfl) vl.1) (fun b hb e => by
            have := Kd.R_base HV.out b hb.symm
            omega)
        obtain ⟨_, h2, h3⟩ := Kd.R_reads' hv7
        exact ⟨A5, c5, hv1, h2, h3⟩
  have hmap : (D.set i (⟨d.1.f0, d.1.f1.set k ⟨f.n, vl⟩⟩, d.2)).map Prod.fst = (zs.set i ⟨z.p, z.l.set k ⟨f.n, tx, vl⟩⟩).map ZP.u := by
    rw [List.map_set, List.map_set, HD.out]
    congr 1
    rw [hdz]
    show (⟨z.p, (z.l.map ZF.u).set k ⟨f.n, vl⟩⟩ : U.S47) = ⟨z.p, (z.l.set k ⟨f.n, tx, vl⟩).map ZF.u⟩
    rw [List.map_set]; rfl
  obtain ⟨A', c', e', hpk⟩ := Pk.of_deep hDs hmap htx hfu
  injection e' with e1 e2 e3
  subst e1
  subst e3
  rw [hv1] at hpk hBw
  refine ⟨_, _, zs.set i ⟨z.p, z.l.set k ⟨f.n, tx, vl⟩⟩, ?_, hpk, ?_, hBw⟩
  · rw [List.length_set, hn]; rfl
  · unfold replY
    rw [List.map_set, hgz]
    congr 1
    show (⟨z.p, (z.l.set k ⟨f.n, tx, vl⟩).map ZF.y⟩ : S47) = ⟨z.p, (z.l.map ZF.y).set k ⟨((z.l.map ZF.y).getD k z37).f0, tx⟩⟩
    have hfy : (z.l.map ZF.y).getD k z37 = f.y := by rw [List.getD_eq_getElem?_getD, List.getElem?_map, hf]; rfl
    rw [hfy, List.map_set]; rfl
end Go.Proofs.YteakcggbolfelaaDoor.Y
