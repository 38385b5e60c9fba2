/-
  files.place, files.Find.
-/
import Derived.Test.YteakcggbolfelaaDoorFi
import Derived.Test.YteakcggbolfelaaDoorEc
import Derived.Test.YteakcggbolfelaaDoorWk
import Derived.Laws.ResultCell
namespace Go.Proofs.YteakcggbolfelaaDoor.Y
open Go.RowKit Go.Proofs.YteakcggbolfelaaDoorW.PrintWords Go.Proofs.YteakcggbolfelaaDoorW.PrintLast Go.Proofs.YteakcggbolfelaaDoorW.PrintMore
set_option linter.unusedVariables false
set_option linter.unusedSimpArgs false
/-- The places of a file. -/
noncomputable def placeL (l : List S47) (path name : ByteArray) : Option (Nat × Nat) :=
  match firstI (l.map S47.f0) path with
  | none => none
  | some i => match firstI ((l.getD i z47).f1.map S37.f0) name with
    | none => none
    | some k => some (i, k)
abbrev noneW : Value := .iface 61 (.int .i64 7)
def plW : Option (Nat × Nat) → Value
  | none => .tuple #[.int .i64 0, .int .i64 0, noneW]
  | some (i, k) => .tuple #[.int .i64 i, .int .i64 k, .nilIface]
set_option maxHeartbeats 4000000 in
theorem place_calls {A : Option Addr} {c : Nat} {l : List S47} (path name : ByteArray) {w : World} (h : Kd.C k47 w A l.length l) (hl : l.length ≤ c) (hn : l.length < 1000000) (hf : ∀ p ∈ l, p.f1.length < 1000000) :
    Calls Tryd.prog 42 #[.slice A l.length c, .string path, .string name] w fun e w' => e = .returned (plW (placeL l path name)) ∧ Below w.heap.size w w' := by
  obtain ⟨W, hW⟩ : ∃ W, W = (w.alloc (.cells #[.string path] 9)).alloc (.cells #[.string name] 9) := ⟨_, rfl⟩
  have hsz : W.heap.size = w.heap.size + 2 := by rw [hW]; simp
  have hB : Below w.heap.size w W := by rw [hW]; exact below_alloc (below_alloc (Below.refl _ _) _) _
  have hb1 : W.cell? ⟨w.heap.size, 0, none⟩ = some (.string path) := by
    rw [hW, World.cell?_alloc_lt _ _ ⟨w.heap.size, 0, none⟩ (by simp)]
    exact cell_one_new w (.string path) 9 0 _ rfl
  have hb2 : W.cell? ⟨w.heap.size + 1, 0, none⟩ = some (.string name) := by
    have := cell_one_new (w.alloc (.cells #[.string path] 9)) (.string name) 9 0 _ rfl
    rw [hW]
    simp
  have h48 := idx48_calls (c := c) (Kd.C_below h hB) hn hb1
  obtain ⟨r, hr⟩ : ∃ r, firstI (l.map S47.f0) path = r := ⟨_, rfl⟩
  rw [hr] at h48
  have HX := Aside0.mk (And.intro hW (And.intro hsz (And.intro hB (And.intro hb1 (And.intro hb2 (And.intro hr (And.intro h (And.intro hn hf))))))))
  rw [hW] at h48
  clear hW hsz hB hb1 hb2 hr h hn hf
  cases r with
  | none =>
    have e : placeL l path name = none := by unfold placeL; rw [HX.out.2.2.2.2.2.1]
    rw [e]
    go_enter Tryd.func42, Tryd.ntmps42
    go_wp2_with (go_at_call 48; (with_reducible refine h48.mono ?_); rintro e w2 ⟨rfl, hb⟩; rw [← HX.out.1] at hb; have HB2 := Aside0.mk hb; clear hb; simp only [idxW])
    go_ret3
    exact ⟨rfl, HX.out.2.2.1.trans (HB2.out.mono HX.out.2.2.1.size)⟩
  | some i =>
    obtain ⟨hi0, he0⟩ := firstI_lt _ _ _ HX.out.2.2.2.2.2.1
    have hi : i < l.length := by rw [List.length_map] at hi0; exact hi0
    obtain ⟨ad, A1, c1, eA, a0, a1, hl1, hC1⟩ := at_T47 HX.out.2.2.2.2.2.2.1 (i : Int) (by omega) (by omega)
    have er : rd_T47 l (i : Int) = l.getD i z47 := by unfold rd_T47; rw [Int.toNat_natCast]
    rw [er, Int.toNat_natCast] at a0 a1
    rw [er] at hl1 hC1
    subst eA
    obtain ⟨fs, hfs⟩ : ∃ fs, (l.getD i z47).f1 = fs := ⟨_, rfl⟩
    rw [hfs] at a1 hl1 hC1
    have hfl : fs.length < 1000000 := by
      rw [← hfs]
      have e2 : l.getD i z47 = l[i] := by rw [List.getD_eq_getElem?_getD, List.getElem?_eq_getElem hi]; rfl
      rw [e2]; exact HX.out.2.2.2.2.2.2.2.2 _ (List.getElem_mem hi)
    obtain ⟨r, hr⟩ : ∃ r, firstI (fs.map S37.f0) name = r := ⟨_, rfl⟩
    have h54 := fun (w' : World) (hb : Below W.heap.size W w') => idx54_calls (c := c1) (B := w.heap.size + 1) (s := name) (Kd.C_below hC1 (HX.out.2.2.1.trans (hb.mono HX.out.2.2.1.size))) hfl ((hb.cell (p := ⟨w.heap.size + 1, 0, none⟩) (by show w.heap.size + 1 < W.heap.size; rw [HX.out.2.1]; omega)).trans HX.out.2.2.2.2.1)
    rw [hr] at h54
    have e : placeL l path name = r.map (fun k => (i, k)) := by
      unfold placeL
      rw [HX.out.2.2.2.2.2.1]
      simp only [hfs, hr]
      cases r <;> rfl
    rw [e]
    have HA := Aside0.mk (And.intro a0 a1)
    have q1 : ((i : Int) < (l.length : Int)) = True := eq_true (by omega)
    have q1n : (i < l.length) = True := eq_true hi
    have q0 : (0 ≤ (i : Int)) = True := eq_true (by omega)
    have q2 : ((i : Int) < 0) = False := eq_false (by omega)
    have q2b : decide ((i : Int) < 0) = false := decide_eq_false (by omega)
    have H54 := Aside0.mk h54
    clear h54 hC1 hl1 hfs hr e hfl er a0 a1 he0 hi hi0
    have key : ∀ w2, Below W.heap.size W w2 → w2.cell? (ad.add (i * 2)) = some (.string (l.getD i z47).f0) ∧ w2.cell? ⟨(ad.add (i * 2)).block, (ad.add (i * 2)).off + 1, none⟩ = some (.slice A1 fs.length c1) := fun w2 hb => by
      have hb' := HX.out.2.2.1.trans (hb.mono HX.out.2.2.1.size)
      exact ⟨(hb'.cell (World.block_lt_of_cell? w _ HA.out.1)).trans HA.out.1, (hb'.cell (World.block_lt_of_cell? w _ HA.out.2)).trans HA.out.2⟩
    have KEY := Aside0.mk key
    clear key
    cases r with
    | none =>
      go_enter Tryd.func42, Tryd.ntmps42
      go_wp2_with (first
        | (go_at_call 48; (with_reducible refine h48.mono ?_); clear h48; rintro e w2 ⟨rfl, hb⟩; rw [← HX.out.1] at hb; have HB2 := Aside0.mk hb; clear hb; obtain ⟨b0, b1⟩ := KEY.out w2 HB2.out; simp only [idxW]; have h54 := H54.out w2 HB2.out)
        | (go_at_call 54; (with_reducible refine h54.mono ?_); clear h54; rintro e w3 ⟨rfl, hb⟩; have HB3 := Aside0.mk (HB2.out.trans (hb.mono HB2.out.size)); clear hb; simp only [idxW]))
      go_ret3
      exact ⟨rfl, HX.out.2.2.1.trans (HB3.out.mono HX.out.2.2.1.size)⟩
    | some k =>
      have p2 : ((k : Int) < 0) = False := eq_false (by omega)
      have p2b : decide ((k : Int) < 0) = false := decide_eq_false (by omega)
      go_enter Tryd.func42, Tryd.ntmps42
      go_wp2_with (first
        | (go_at_call 48; (with_reducible refine h48.mono ?_); clear h48; rintro e w2 ⟨rfl, hb⟩; rw [← HX.out.1] at hb; have HB2 := Aside0.mk hb; clear hb; obtain ⟨b0, b1⟩ := KEY.out w2 HB2.out; simp only [idxW]; have h54 := H54.out w2 HB2.out)
        | (go_at_call 54; (with_reducible refine h54.mono ?_); clear h54; rintro e w3 ⟨rfl, hb⟩; have HB3 := Aside0.mk (HB2.out.trans (hb.mono HB2.out.size)); clear hb; simp only [idxW]))
      go_ret3
      exact ⟨rfl, HX.out.2.2.1.trans (HB3.out.mono HX.out.2.2.1.size)⟩
set_option maxRecDepth 100000 in
theorem is_nil (c : Int) (w : World) : Calls Tryd.prog 43 #[.nilIface, .iface 61 (.int .i64 c)] w fun e w' => e = .returned (.bool false) ∧ w = w' := by
  have hu := Tryd.underlying31
  have he := fun (v : Value) (w : World) => show (binOp .eql 31 .nilIface (.iface 61 v)).run Tryd.prog w = .ok (.bool false) w by kernel_rfl
  go_enter Tryd.func43, Tryd.ntmps43
  go_wp2
  go_ret
  exact ⟨rfl, rfl⟩
theorem is_none (w : World) : Calls Tryd.prog 43 #[.iface 61 (.int .i64 7), .iface 61 (.int .i64 7)] w fun e w' => e = .returned (.bool true) ∧ w = w' := Es.errors_Is_int 7 7 w
set_option maxHeartbeats 4000000 in
/-- files.Find where there is none. -/
theorem find_none {A : Option Addr} {c : Nat} {l : List S47} (path name : ByteArray) {w : World} (h : Kd.C k47 w A l.length l) (hl : l.length ≤ c) (hn : l.length < 1000000) (hf : ∀ p ∈ l, p.f1.length < 1000000) (hp : placeL l path name = none) :
    Calls Tryd.prog 18 #[.slice A l.length c, .string path, .string name] w fun e w' => e = .returned (.tuple #[.agg #[.string ⟨#[]⟩, .slice none 0 0], noneW]) ∧ Below w.heap.size w w' := by
  have hB : Below w.heap.size w (w.alloc (.cells #[.string ⟨#[]⟩, .slice none 0 0] 37)) := below_alloc (Below.refl _ _) _
  have h42 := place_calls path name (Kd.C_below h hB) hl hn hf
  rw [hp] at h42
  have hbl : (w.alloc (.cells #[.string ⟨#[]⟩, .slice none 0 0] 37)).heap[w.heap.size]? = some (.cells #[.string ⟨#[]⟩, .slice none 0 0] 37 (0, 0)) := new_block _ _
  have HB := Aside0.mk hB
  have HBL := Aside0.mk hbl
  clear hB h hl hn hf hp hbl
  go_enter Tryd.func18, Tryd.ntmps18
  go_wp2_with (first
    | (go_at_call 42; (with_reducible refine h42.mono ?_); clear h42; rintro e w2 ⟨rfl, hb⟩; have HB2 := Aside0.mk hb; have hk := blk_below HBL.out hb; have HK := Aside0.mk hk; have x0 := blk_cell hk 0; have x1 := blk_cell hk 1; have f0 := blk_frozen hk 0; have f1 := blk_frozen hk 1; clear hb hk; simp only [plW])
    | (go_at_call 43; (with_reducible refine (is_none _).mono ?_); rintro e w3 ⟨rfl, rfl⟩))
  have hk2 : ((w2.setCell ⟨w.heap.size, 0, none⟩ (.string ⟨#[]⟩)).setCell ⟨w.heap.size, 1, none⟩ (.slice none 0 0)).heap[w.heap.size]? = some (.cells #[.string ⟨#[]⟩, .slice none 0 0] 37 (0, 0)) := blk_put (cs := #[.string ⟨#[]⟩, .slice none 0 0]) (blk_put (cs := #[.string ⟨#[]⟩, .slice none 0 0]) HK.out 0 _ rfl) 1 _ rfl
  have hbz := Aside0.mk (below_set (j := 1) (v := .slice none 0 0) (below_set (j := 0) (v := .string ⟨#[]⟩) (HB.out.trans (HB2.out.mono HB.out.size)) (Nat.le_refl _)) (Nat.le_refl _))
  generalize (w2.setCell ⟨w.heap.size, 0, none⟩ (.string ⟨#[]⟩)).setCell ⟨w.heap.size, 1, none⟩ (.slice none 0 0) = w4 at hk2 hbz ⊢
  have y0 := blk_cell hk2 0
  have y1 := blk_cell hk2 1
  clear x0 x1 f0 f1 hk2
  (try simp only [Exit.inBlock, Exit.then])
  refine bodyPost_ret (by rw [results_cell_tmp rfl]; go_simp; rfl) rfl ?_
  exact ⟨rfl, hbz.out⟩
set_option maxHeartbeats 4000000 in
/-- files.Find where there is one. -/
theorem find_some {A : Option Addr} {c : Nat} {l : List S47} (path name : ByteArray) {w : World} (h : Kd.C k47 w A l.length l) (hl : l.length ≤ c) (hn : l.length < 1000000) (hf : ∀ p ∈ l, p.f1.length < 1000000) {i k : Nat} (hp : placeL l path name = some (i, k)) :
    Calls Tryd.prog 18 #[.slice A l.length c, .string path, .string name] w fun e w' => ∃ A1 c1, e = .returned (.tuple #[.agg #[.string name, .slice A1 ((l.getD i z47).f1.getD k z37).f1.length c1], .nilIface]) ∧ ((l.getD i z47).f1.getD k z37).f1.length ≤ c1 ∧ Kd.C (Kd.int .u8) w A1 ((l.getD i z47).f1.getD k z37).f1.length ((l.getD i z47).f1.getD k z37).f1 ∧ Below w.heap.size w w' := by
  have hB : Below w.heap.size w (w.alloc (.cells #[.string ⟨#[]⟩, .slice none 0 0] 37)) := below_alloc (Below.refl _ _) _
  have h42 := place_calls path name (Kd.C_below h hB) hl hn hf
  rw [hp] at h42
  have hbl : (w.alloc (.cells #[.string ⟨#[]⟩, .slice none 0 0] 37)).heap[w.heap.size]? = some (.cells #[.string ⟨#[]⟩, .slice none 0 0] 37 (0, 0)) := new_block _ _
  obtain ⟨hi, hk, hnm⟩ : ∃ (hi : i < l.length) (hk : k < (l.getD i z47).f1.length), ((l.getD i z47).f1.getD k z37).f0 = name := by
    unfold placeL at hp
    cases h1 : firstI (l.map S47.f0) path with
    | none => rw [h1] at hp; cases hp
    | some i' =>
      rw [h1] at hp
      simp only [] at hp
      cases h2 : firstI ((l.getD i' z47).f1.map S37.f0) name with
      | none => rw [h2] at hp; cases hp
      | some k' =>
        rw [h2] at hp
        obtain ⟨rfl, rfl⟩ := Prod.mk.inj (Option.some.inj hp)
        obtain ⟨a1, a2⟩ := firstI_lt _ _ _ h1
        obtain ⟨b1, b2⟩ := firstI_lt _ _ _ h2
        rw [List.length_map] at a1 b1
        refine ⟨a1, b1, ?_⟩
        rw [List.getElem_map] at b2
        rw [List.getD_eq_getElem?_getD, List.getElem?_eq_getElem b1]
        exact b2
  obtain ⟨ad, A1, c1, rfl, a0, a1, hl1, hC1⟩ := at_T47 h (i : Int) (by omega) (by omega)
  have er : rd_T47 l (i : Int) = l.getD i z47 := by unfold rd_T47; rw [Int.toNat_natCast]
  rw [er, Int.toNat_natCast] at a0 a1
  rw [er] at hl1 hC1
  obtain ⟨fs, hfs⟩ : ∃ fs, (l.getD i z47).f1 = fs := ⟨_, rfl⟩
  rw [hfs] at a1 hl1 hC1 hk hnm ⊢
  obtain ⟨bd, A2, c2, rfl, b0, b1, hl2, hC2⟩ := at_T37 hC1 (k : Int) (by omega) (by omega)
  have er2 : rd_T37 fs (k : Int) = fs.getD k z37 := by unfold rd_T37; rw [Int.toNat_natCast]
  rw [er2, Int.toNat_natCast] at b0 b1
  rw [er2] at hl2 hC2
  rw [hnm] at b0
  obtain ⟨tx, htx⟩ : ∃ tx, (fs.getD k z37).f1 = tx := ⟨_, rfl⟩
  rw [htx] at b1 hl2 hC2 ⊢
  obtain ⟨m, hm⟩ : ∃ m, tx.length = m := ⟨_, rfl⟩
  obtain ⟨n1, hn1⟩ : ∃ n1, fs.length = n1 := ⟨_, rfl⟩
  rw [hn1] at a1 hk
  have HB := Aside0.mk hB
  have HBL := Aside0.mk hbl
  have HT := Aside0.mk (And.intro hl2 hC2)
  have key : ∀ w2, Below w.heap.size w w2 → w2.cell? ⟨(ad.add (i * 2)).block, (ad.add (i * 2)).off + 1, none⟩ = some (.slice (some bd) n1 c1) ∧ w2.cell? (bd.add (k * 2)) = some (.string name) ∧ w2.cell? ⟨(bd.add (k * 2)).block, (bd.add (k * 2)).off + 1, none⟩ = some (.slice A2 tx.length c2) := fun w2 hb => ⟨(hb.cell (World.block_lt_of_cell? w _ a1)).trans a1, (hb.cell (World.block_lt_of_cell? w _ b0)).trans b0, (hb.cell (World.block_lt_of_cell? w _ b1)).trans b1⟩
  have KEY := Aside0.mk key
  have q1 : ((i : Int) < (l.length : Int)) = True := eq_true (by omega)
  have q1n : (i < l.length) = True := eq_true hi
  have q0 : (0 ≤ (i : Int)) = True := eq_true (by omega)
  have p1 : ((k : Int) < (n1 : Int)) = True := eq_true (by omega)
  have p1n : (k < n1) = True := eq_true hk
  have p0 : (0 ≤ (k : Int)) = True := eq_true (by omega)
  clear hB h hl hn hf hp hbl hi hk hnm a0 a1 b0 b1 hl1 hC1 er er2 hfs htx hl2 hC2 hm hn1 key
  go_enter Tryd.func18, Tryd.ntmps18
  go_wp2_with (first
    | (go_at_call 42; (with_reducible refine h42.mono ?_); clear h42; rintro e w2 ⟨rfl, hb⟩; have HB2 := Aside0.mk hb; have hk := blk_below HBL.out hb; have HK := Aside0.mk hk; have x0 := blk_cell hk 0; have x1 := blk_cell hk 1; have f0 := blk_frozen hk 0; have f1 := blk_frozen hk 1; obtain ⟨z0, z1, z2⟩ := KEY.out w2 (HB.out.trans (hb.mono HB.out.size)); clear hb hk; simp only [plW])
    | (go_at_call 43; (with_reducible refine (is_nil 7 _).mono ?_); rintro e w3 ⟨rfl, rfl⟩))
  have hk2 : ((w2.setCell ⟨w.heap.size, 0, none⟩ (.string name)).setCell ⟨w.heap.size, 1, none⟩ (.slice A2 tx.length c2)).heap[w.heap.size]? = some (.cells #[.string name, .slice A2 tx.length c2] 37 (0, 0)) := blk_put (cs := #[.string name, .slice none 0 0]) (blk_put (cs := #[.string ⟨#[]⟩, .slice none 0 0]) HK.out 0 _ rfl) 1 _ rfl
  have hbz := Aside0.mk (below_set (j := 1) (v := .slice A2 tx.length c2) (below_set (j := 0) (v := .string name) (HB.out.trans (HB2.out.mono HB.out.size)) (Nat.le_refl _)) (Nat.le_refl _))
  generalize (w2.setCell ⟨w.heap.size, 0, none⟩ (.string name)).setCell ⟨w.heap.size, 1, none⟩ (.slice A2 tx.length c2) = w4 at hk2 hbz ⊢
  have y0 := blk_cell hk2 0
  have y1 := blk_cell hk2 1
  clear x0 x1 f0 f1 hk2 z0 z1 z2
  (try simp only [Exit.inBlock, Exit.then])
  refine bodyPost_ret (by rw [results_cell_tmp rfl]; go_simp; rfl) rfl ?_
  exact ⟨A2, c2, rfl, HT.out.1, HT.out.2, hbz.out⟩
end Go.Proofs.YteakcggbolfelaaDoor.Y
