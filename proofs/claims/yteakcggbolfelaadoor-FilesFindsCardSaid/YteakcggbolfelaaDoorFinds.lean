/-
  The law FilesFinds answers true at every list of packages, names and text.
-/
import Derived.Test.YteakcggbolfelaaDoorFx2
namespace Go.Proofs.YteakcggbolfelaaDoor.Y
open Go.RowKit Go.Proofs.YteakcggbolfelaaDoorW.PrintWords Go.Proofs.YteakcggbolfelaaDoorW.PrintLast Go.Proofs.YteakcggbolfelaaDoorW.PrintMore
set_option linter.unusedVariables false
set_option linter.unusedSimpArgs false
attribute [local go_sem] max2_int min2_int
theorem takeC {w : World} {A : Option Addr} {l : List Int} (h : Kd.C (Kd.int .u8) w A l.length l) (n : Nat) (hn : n ≤ l.length) : Kd.C (Kd.int .u8) w A (l.take n).length (l.take n) := by
  refine ⟨rfl, by have := h.2.1; rw [List.length_take]; omega, fun hp => ?_⟩
  obtain ⟨ad, e, hc⟩ := h.2.2 (by rw [List.length_take] at hp; omega)
  refine ⟨ad, e, fun j p hj => ?_⟩
  rw [List.getElem?_take] at hj
  split at hj
  · exact hc j p hj
  · cases hj
/-- The file at its places, read. -/
theorem Pk.file {w : World} {A : Option Addr} {c : Nat} {zs : List ZP} (h : Pk w A c zs) {path name : ByteArray} {i k : Nat} (hp : placeL (zs.map ZP.y) path name = some (i, k)) {tz : List Int} (ht : (((zs.map ZP.y).getD i z47).f1.getD k z37).f1 = tz) :
    ∃ ad bd n1 c1 A1 c2, A = some ad ∧ i < zs.length ∧ k < n1 ∧ w.cell? ⟨(ad.add (i * 2)).block, (ad.add (i * 2)).off + 1, none⟩ = some (.slice (some bd) n1 c1) ∧ w.cell? ⟨(bd.add (k * 2)).block, (bd.add (k * 2)).off + 1, none⟩ = some (.slice A1 tz.length c2) ∧ tz.length ≤ c2 ∧ Kd.C (Kd.int .u8) w A1 tz.length tz ∧ tz.length ≤ 300 := by
  obtain ⟨e0, s1, s2, s3⟩ := h.szs
  obtain ⟨p1, p2, _, _⟩ := placeL_lt hp
  obtain ⟨ad, A1, c1, rfl, a0, a1, hl1, hC1⟩ := at_T47 h.cy (i : Int) (by omega) (by omega)
  have er : rd_T47 (zs.map ZP.y) (i : Int) = (zs.map ZP.y).getD i z47 := by unfold rd_T47; rw [Int.toNat_natCast]
  rw [er, Int.toNat_natCast] at a1
  rw [er] at hl1 hC1
  have hmem : (zs.map ZP.y).getD i z47 ∈ zs.map ZP.y := by rw [List.getD_eq_getElem?_getD, List.getElem?_eq_getElem p1]; exact List.getElem_mem p1
  have hfok := (h.fw.2 _ hmem).2.2
  generalize hfs : ((zs.map ZP.y).getD i z47).f1 = fs at *
  obtain ⟨bd, A2, c2, rfl, b0, b1, hl2, hC2⟩ := at_T37 hC1 (k : Int) (by omega) (by omega)
  have er2 : rd_T37 fs (k : Int) = fs.getD k z37 := by unfold rd_T37; rw [Int.toNat_natCast]
  rw [er2, Int.toNat_natCast] at b1
  rw [er2] at hl2 hC2
  rw [ht] at b1 hl2 hC2
  have hmem2 : fs.getD k z37 ∈ fs := by rw [List.getD_eq_getElem?_getD, List.getElem?_eq_getElem p2]; exact List.getElem_mem p2
  exact ⟨ad, bd, fs.length, c1, A2, c2, rfl, by omega, p2, a1, b1, hl2, hC2, by rw [← ht]; exact (hfok _ hmem2).2⟩
theorem same_pk2 {w : World} {A A' : Option Addr} {c c' : Nat} {zs ys : List ZP} (h : Pk w A c zs) (h' : Pk w A' c' ys) (e : zs.map ZP.y = ys.map ZP.y) :
    Calls Tryd.prog 14 #[.slice A zs.length c, .slice A' ys.length c'] w fun e w' => e = .returned (.bool true) ∧ Below w.heap.size w w' := by
  have e0 : (zs.map ZP.y).length = zs.length := List.length_map _
  have e1 : ys.length = zs.length := by have := congrArg List.length e; rw [List.length_map, List.length_map] at this; exact this.symm
  obtain ⟨k, hk⟩ := ev_same (zs.map ZP.y) (by have := h.fw.1; omega) (fun p hp => by have := (h.fw.2 p hp).2.1; omega)
  have hcy := h'.cy
  rw [← e] at hcy
  have hc := cavilref05_Same.calls k A c (zs.map ZP.y) A' c' (zs.map ZP.y) true w h.cy (by rw [e0]; exact h.le) hcy (by rw [e0, ← e1]; exact h'.le) (hk k (Nat.le_refl _))
  rw [e0] at hc
  rw [e1]
  refine hc.mono ?_
  rintro e w' ⟨rfl, hd⟩
  exact ⟨rfl, hd.below⟩
def fnd.T11 : Bool × List (List Nat × List Nat) := (true, [([], []), ([], []), ([1], [1]), ([], []), ([3], [3]), ([], []), ([], []), ([5, 6], [5, 6]), ([7], [7]), ([8], [8]), ([], []), ([9, 10], [9, 10]), ([11], [11]), ([12], [12]), ([0, 2, 4, 13], [0, 2, 4, 13]), ([14], [14]), ([15], [15]), ([15], [15]), ([16, 14, 0, 1, 2, 3, 4, 5, 6, 7, 8, 9, 10, 11, 12, 13, 14, 15, 16], [16]), ([17, 18, 0, 1, 2, 3, 4, 5, 6, 7, 8, 9, 10, 11, 12, 13, 14, 15, 16, 17, 18], [17])])
def fnd.B11 : List Nat := [0, 0, 2, 0, 8, 0, 0, 96, 224, 480, 0, 2016, 4064, 8160, 16383, 32767, 65535, 65535, 131071, 524287]
theorem fnd.tab11 : rtab .any (opsOf Tryd.f5 11) = fnd.T11 := by kernel_rfl
theorem fnd.bits11 : waitsOk fnd.T11.2 fnd.B11 = true := by kernel_rfl
set_option maxRecDepth 100000 in
set_option maxHeartbeats 4000000 in
theorem cavillaw05_FilesFinds.calls (A0 : Option Addr) (c0 : Nat) (l0 : List S47) (n0 n1 : ByteArray) (A2 : Option Addr) (c2 : Nat) (l2 : List Int) (W : World) {Q0 Q1 Q2 : Prop} (_ : Q0) (_ : Q1) (_ : Q2)
    (hr0 : Kd.C k47 W A0 l0.length l0) (hc0 : l0.length ≤ c0) (hr2 : Kd.C (Kd.int .u8) W A2 l2.length l2) (hc2 : l2.length ≤ c2) (ml : Int) (hml : W.cell? ⟨1, 0, none⟩ = some (.int .i64 ml)) :
    Calls Tryd.prog 5 #[.slice A0 l0.length c0, .agg #[.string n0, .string n1], .slice A2 l2.length c2] W fun e w' => e = .returned (.bool true) ∧ Below W.heap.size W w' := by
  obtain ⟨W0, hW0⟩ : ∃ W0, W0 = W.alloc (.cells #[.string n0, .string n1] 34) := ⟨_, rfl⟩
  have hB0 : Below W.heap.size W W0 := by rw [hW0]; exact below_alloc (Below.refl _ _) _
  have hbl : W0.heap[W.heap.size]? = some (.cells #[.string n0, .string n1] 34 (0, 0)) := by rw [hW0]; exact new_block _ _
  have hfew := few_calls A0 c0 l0 W0 (Kd.C_below hr0 hB0) hc0
  have HMW := Aside0.mk (fun (w' : World) (hb : Below W0.heap.size W0 w') => ((hB0.trans (hb.mono hB0.size)).cell (p := ⟨1, 0, none⟩) (World.block_lt_of_cell? W _ hml)).trans hml)
  have HNB := Aside0.mk (fun (w' : World) (hb : Below W0.heap.size W0 w') => (show w'.cell? ⟨W.heap.size, 0, none⟩ = some (.string n0) ∧ w'.cell? ⟨W.heap.size, 1, none⟩ = some (.string n1) from ⟨(blk_cell (blk_below hbl hb) 0).trans rfl, (blk_cell (blk_below hbl hb) 1).trans rfl⟩))
  have HW0 := Aside0.mk (And.intro hW0 hB0)
  have HR2 := Aside0.mk (And.intro (Kd.C_below hr2 hB0) hc2)
  have b1 : (0 ≤ min (l2.length : Int) 100) = True := eq_true (by omega)
  have b2 : (min (l2.length : Int) 100 ≤ (c2 : Int)) = True := eq_true (by omega)
  rw [hW0] at hfew
  clear hr0 hc0 hr2 hc2 hml hW0 hB0 hbl
  go_enter Tryd.func5, Tryd.ntmps5
  go_wp2_with (go_at_call 12; (with_reducible refine hfew.mono ?_); clear hfew; rw [← HW0.out.1]; rintro e w1 ⟨A, c, zs, rfl, hk, hb⟩; have HK := Aside0.mk hk; have HB := Aside0.mk hb; obtain ⟨z0, z1⟩ := HNB.out w1 hb; clear hk hb)
  clear b1 b2
  obtain ⟨tx, htx⟩ : ∃ tx, tx = l2.take (min (l2.length : Int) 100).toNat := ⟨_, rfl⟩
  have htl : (min (l2.length : Int) 100).toNat = tx.length := by rw [htx, List.length_take]; omega
  have hT : ∀ w', Below W0.heap.size W0 w' → Kd.C (Kd.int .u8) w' A2 tx.length tx := fun w' hb => by
    rw [htx]; exact Kd.C_below (takeC HR2.out.1 _ (by omega)) hb
  have htc : tx.length ≤ c2 := by have := HR2.out.2; rw [← htl]; omega
  have ht300 : tx.length ≤ 300 := by rw [← htl]; omega
  rw [htl]
  have HT := Aside0.mk (And.intro hT (And.intro htc ht300))
  clear hT htc ht300 htl htx
  obtain ⟨r, hr⟩ : ∃ r, placeL (zs.map ZP.y) n0 n1 = r := ⟨_, rfl⟩
  have h19 := fun (w' : World) (h : Pk w' A c zs) => refFind_pk h n0 n1
  rw [hr] at h19
  have H19 := Aside0.mk h19
  have HRR := Aside0.mk hr
  clear h19 hr
  cases r with
  | none =>
    have h18 := find_none_pk HK.out HRR.out
    go_wp2_with (first
      | (go_at_call 18; (with_reducible refine h18.mono ?_); clear h18; rintro e w2 ⟨rfl, hb⟩; have HB2 := Aside0.mk (HB.out.trans (hb.mono HB.out.size)); have HK2 := Aside0.mk (HK.out.below hb); have hx : Below w2.heap.size w2 (w2.alloc (.cells #[.string ⟨#[]⟩, .slice none 0 0] 37)) := below_alloc (Below.refl _ _) _; have HBL := Aside0.mk (new_block w2 (.cells #[.string ⟨#[]⟩, .slice none 0 0] 37)); have HBX := Aside0.mk (HB2.out.trans (hx.mono HB2.out.size)); obtain ⟨y0, y1⟩ := HNB.out _ HBX.out; have h19 := H19.out _ (HK2.out.below hx); have HKX := Aside0.mk (HK2.out.below hx); clear hb hx)
      | (go_at_call 19; (with_reducible refine h19.mono ?_); clear h19; rintro e w3 ⟨rfl, hb⟩; have HB3 := Aside0.mk (HBX.out.trans (hb.mono HBX.out.size)); have HK3 := Aside0.mk (HKX.out.below hb); have HBL3 := Aside0.mk (blk_below HBL.out hb); obtain ⟨u0, u1⟩ := HNB.out w3 HB3.out; clear hb; simp only [pl2]; have h20 := replace_none_pk HK3.out HRR.out A2 c2 tx.length)
      | (go_at_call 20; (with_reducible refine h20.mono ?_); clear h20; rintro e w4 ⟨rfl, hb⟩; have HB4 := Aside0.mk (HB3.out.trans (hb.mono HB3.out.size)); have HBL4 := Aside0.mk (blk_below HBL3.out hb); clear hb; have h21 := Es.code_num 7 (by decide) (by decide) w4)
      | (go_at_call 21; (with_reducible refine h21.mono ?_); clear h21; rintro e w5 ⟨rfl, hb⟩; have HB5 := Aside0.mk (HB4.out.trans (hb.mono HB4.out.size)); have HBL5 := Aside0.mk (blk_below HBL4.out hb); clear hb; have h21b := Es.code_num 7 (by decide) (by decide) w5)
      | (go_at_call 21; (with_reducible refine h21b.mono ?_); clear h21b; rintro e w6 ⟨rfl, hb⟩; have HB6 := Aside0.mk (HB5.out.trans (hb.mono HB5.out.size)); have HBL6 := Aside0.mk (blk_below HBL5.out hb); clear hb; have x0 := blk_cell HBL6.out 0; have x1 := blk_cell HBL6.out 1; have h11 := works_calls w6 ml (HMW.out _ HB6.out))
      | (go_at_call 11; (with_reducible refine h11.mono ?_); clear h11; rintro e w9 ⟨rfl, hb⟩; have HB9 := Aside0.mk (HB6.out.trans (hb.mono HB6.out.size)); clear hb))
    go_ret
    exact ⟨rfl, HW0.out.2.trans (HB9.out.mono HW0.out.2.size)⟩
  | some ik =>
    obtain ⟨i, k⟩ := ik
    obtain ⟨tz, htz⟩ : ∃ tz, (((zs.map ZP.y).getD i z47).f1.getD k z37).f1 = tz := ⟨_, rfl⟩
    have HZ := Aside0.mk htz
    have h18 := find_some_pk HK.out HRR.out htz
    have p2b : decide ((i : Int) < 0) = false := decide_eq_false (by omega)
    have p2 : ((i : Int) < 0) = False := eq_false (by omega)
    clear htz
    go_wp2_with (first
      | (go_at_call 18; (with_reducible refine h18.mono ?_); clear h18; rintro e w2 ⟨A1, c1, rfl, hl1, hC1, hb⟩; have HB2 := Aside0.mk (HB.out.trans (hb.mono HB.out.size)); have HK2 := Aside0.mk (HK.out.below hb); have HC1 := Aside0.mk (Kd.C_below hC1 hb); have hx : Below w2.heap.size w2 (w2.alloc (.cells #[.string n1, .slice A1 tz.length c1] 37)) := below_alloc (Below.refl _ _) _; have HBL := Aside0.mk (new_block w2 (.cells #[.string n1, .slice A1 tz.length c1] 37)); have HBX := Aside0.mk (HB2.out.trans (hx.mono HB2.out.size)); obtain ⟨y0, y1⟩ := HNB.out _ HBX.out; have h19 := H19.out _ (HK2.out.below hx); have HKX := Aside0.mk (HK2.out.below hx); have HC1X := Aside0.mk (Kd.C_below HC1.out hx); clear hb hx hl1 hC1)
      | (go_at_call 19; (with_reducible refine h19.mono ?_); clear h19; rintro e w3 ⟨rfl, hb⟩; have HB3 := Aside0.mk (HBX.out.trans (hb.mono HBX.out.size)); have HK3 := Aside0.mk (HKX.out.below hb); have HBL3 := Aside0.mk (blk_below HBL.out hb); have HC13 := Aside0.mk (Kd.C_below HC1X.out hb); obtain ⟨u0, u1⟩ := HNB.out w3 HB3.out; clear hb; simp only [pl2]; have h20 := replace_some n0 n1 HK3.out (HT.out.1 _ HB3.out) HT.out.2.1 HT.out.2.2 HRR.out)
      | (go_at_call 20; (with_reducible refine h20.mono ?_); clear h20; rintro e w4 ⟨A4, c4, ys, rfl, hk, hm, hb⟩; have HB4 := Aside0.mk (HB3.out.trans (hb.mono HB3.out.size)); have HBL4 := Aside0.mk (blk_below HBL3.out hb); have HK4 := Aside0.mk (HK3.out.below hb); have HM4 := Aside0.mk hk; have HMM := Aside0.mk hm; have HC14 := Aside0.mk (Kd.C_below HC13.out hb); clear hk hm hb))
    have hyl : ys.length = zs.length := by have := congrArg List.length HMM.out; unfold replY at this; rw [List.length_map, List.length_set, List.length_map] at this; exact this
    obtain ⟨ad, bd, m1, d1, A5, d5, rfl, hi, hk, f0, f1, hl5, hC5, hz300⟩ := HK4.out.file HRR.out HZ.out
    obtain ⟨z0, z1⟩ := HNB.out w4 HB4.out
    have x0 := blk_cell HBL4.out 0
    have x1 := blk_cell HBL4.out 1
    have hcvA := fun a_ : Nat => Kd.C_string (P := Tryd.prog) (A := A1) (c := c1) Tryd.underlying35 Tryd.underlying5 Tryd.underlying9 (Kd.C_drewN HC14.out a_)
    have hcvB := fun a_ : Nat => Kd.C_string (P := Tryd.prog) (A := A5) (c := d5) Tryd.underlying35 Tryd.underlying5 Tryd.underlying9 (Kd.C_drewN hC5 a_)
    rw [hyl]
    obtain ⟨n, hn⟩ : ∃ n, zs.length = n := ⟨_, rfl⟩
    have q1 : ((i : Int) < (n : Int)) = True := eq_true (by omega)
    have q1n : (i < n) = True := eq_true (by omega)
    have q0 : (0 ≤ (i : Int)) = True := eq_true (by omega)
    have k1 : ((k : Int) < (m1 : Int)) = True := eq_true (by omega)
    have k1n : (k < m1) = True := eq_true hk
    have k0 : (0 ≤ (k : Int)) = True := eq_true (by omega)
    rw [hn]
    have HNN := Aside0.mk (And.intro hn (And.intro hyl (And.intro hl5 (And.intro hC5 hz300))))
    have HF5 := Aside0.mk (And.intro f0 f1)
    clear hn hyl hi hk hl5 hC5 hz300
    go_wp2
    go_quiet (fail)
    have hb5 : Below w4.heap.size w4 (w4.drewN nq) := pw_below_drewN (Below.refl _ _) nq
    have HB5 := Aside0.mk (HB4.out.trans (hb5.mono HB4.out.size))
    have HK5 := Aside0.mk (HK4.out.below hb5)
    have HM5 := Aside0.mk (HM4.out.below hb5)
    have HC5 := Aside0.mk (Kd.C_below HNN.out.2.2.2.1 hb5)
    have g0 : (w4.drewN nq).cell? _ = _ := HF5.out.1
    have g1 : (w4.drewN nq).cell? _ = _ := HF5.out.2
    clear hb5 f0 f1 x0 x1 z0 z1 hcvA hcvB
    generalize w4.drewN nq = w5 at HB5 HK5 HM5 HC5 g0 g1 ⊢
    obtain ⟨z0, z1⟩ := HNB.out w5 HB5.out
    have hpr := place_repl HRR.out tx
    rw [← HMM.out] at hpr
    have HPR := Aside0.mk hpr
    have h18 := find_some_pk HM5.out hpr.1 hpr.2.1
    rw [HNN.out.2.1, HNN.out.1] at h18
    have G5 := Aside0.mk (And.intro g0 g1)
    clear hpr g0 g1
    go_wp2_with (go_at_call 18; (with_reducible refine h18.mono ?_); clear h18; rintro e w6 ⟨A6, c6, rfl, hl6, hC6, hb⟩; have HB6 := Aside0.mk (HB5.out.trans (hb.mono HB5.out.size)); have HK6 := Aside0.mk (HK5.out.below hb); have HM6 := Aside0.mk (HM5.out.below hb); have HC6 := Aside0.mk (Kd.C_below hC6 hb); have HC56 := Aside0.mk (Kd.C_below HC5.out hb); have HG6 := Aside0.mk (And.intro ((hb.cell (World.block_lt_of_cell? w5 _ G5.out.1)).trans G5.out.1) ((hb.cell (World.block_lt_of_cell? w5 _ G5.out.2)).trans G5.out.2)); clear hb hl6 hC6)
    have hx6 : Below w6.heap.size w6 (w6.alloc (.cells #[.string n1, .slice A6 tx.length c6] 37)) := below_alloc (Below.refl _ _) _
    have HBL7 := Aside0.mk (new_block w6 (.cells #[.string n1, .slice A6 tx.length c6] 37))
    have HB7 := Aside0.mk (HB6.out.trans (hx6.mono HB6.out.size))
    have HK7 := Aside0.mk (HK6.out.below hx6)
    have HM7 := Aside0.mk (HM6.out.below hx6)
    have HC7 := Aside0.mk (Kd.C_below HC6.out hx6)
    have HC57 := Aside0.mk (Kd.C_below HC56.out hx6)
    have g0 := (hx6.cell (World.block_lt_of_cell? w6 _ HG6.out.1)).trans HG6.out.1
    have g1 := (hx6.cell (World.block_lt_of_cell? w6 _ HG6.out.2)).trans HG6.out.2
    clear hx6 z0 z1
    generalize w6.alloc (.cells #[.string n1, .slice A6 tx.length c6] 37) = w7 at HBL7 HB7 HK7 HM7 HC7 HC57 g0 g1 ⊢
    obtain ⟨z0, z1⟩ := HNB.out w7 HB7.out
    have hbd : Below w7.heap.size w7 w7.drew := below_drew1 (Below.refl _ _)
    have h20 := replace_some n0 n1 (HM7.out.below hbd) (Kd.C_below HC57.out hbd) HNN.out.2.2.1 HNN.out.2.2.2.2 HPR.out.1
    rw [HNN.out.2.1, HNN.out.1] at h20
    have H20 := Aside0.mk h20
    clear h20 hbd
    go_wp2
    refine start_ (n := 20) (S := fun w' => w'.cell? ⟨W.heap.size, 0, none⟩ = some (.string n0) ∧ w'.cell? ⟨W.heap.size, 1, none⟩ = some (.string n1) ∧ w'.cell? ⟨(ad.add (i * 2)).block, (ad.add (i * 2)).off + 1, none⟩ = some (.slice (some bd) m1 d1) ∧ w'.cell? ⟨(bd.add (k * 2)).block, (bd.add (k * 2)).off + 1, none⟩ = some (.slice A5 tz.length d5)) (ds := []) #[false, false, false, false, false, false, false, false, false, false, false, false, false, false, false, false, false, false, false, false] (by kernel_rfl) rfl rfl ⟨z0, z1, g0, g1⟩ (fun hHeld => ?_); refine with_tabW fnd.tab11 fnd.bits11 (fun HT_ HW_ => ?_)
    refine pure_ (i := 0) (N := some 121) (v := ?_) (a' := ?_) #[true, false, false, false, false, false, false, false, false, false, false, false, false, false, false, false, false, false, false, false] rfl rfl (any_of HT_.out (by kernel_rfl)) (fun _ _ _ h => h) (Or.inl ⟨by rfl, ?_⟩) ?_ ?_
    rotate_left
    · intro w'
      go_simp
      with_reducible rfl
    rotate_left
    · simp only [Act.put, List.setIfInBounds_toArray, List.set_cons_zero, List.set_cons_succ, i64_w, i32_w]
      rfl
    refine pure_ (i := 1) (N := some 122) (v := ?_) (a' := ?_) #[true, true, false, false, false, false, false, false, false, false, false, false, false, false, false, false, false, false, false, false] rfl rfl (any_of HT_.out (by kernel_rfl)) (fun _ _ _ h => h) (Or.inl ⟨by rfl, ?_⟩) ?_ ?_
    rotate_left
    · intro w'
      go_simp
      with_reducible rfl
    rotate_left
    · simp only [Act.put, List.setIfInBounds_toArray, List.set_cons_zero, List.set_cons_succ, i64_w, i32_w]
      rfl
    refine take_ (i := 2) (N := some 123) (v := ?_) (a' := ?_) #[true, true, true, false, false, false, false, false, false, false, false, false, false, false, false, false, false, false, false, false] rfl rfl (take_ofW HT_.out HW_.out (by kernel_rfl)) (fun _ _ _ h => h) (Or.inl ⟨by rfl, ?_⟩) hHeld ?_ ?_
    rotate_left
    · rintro w' ⟨s0, s1, s2, s3⟩
      go_simp
      with_reducible rfl
    rotate_left
    · simp only [Act.put, List.setIfInBounds_toArray, List.set_cons_zero, List.set_cons_succ, i64_w, i32_w]
      rfl
    refine pure_ (i := 3) (N := some 124) (v := ?_) (a' := ?_) #[true, true, true, true, false, false, false, false, false, false, false, false, false, false, false, false, false, false, false, false] rfl rfl (any_of HT_.out (by kernel_rfl)) (fun _ _ _ h => h) (Or.inl ⟨by rfl, ?_⟩) ?_ ?_
    rotate_left
    · intro w'
      go_simp
      with_reducible rfl
    rotate_left
    · simp only [Act.put, List.setIfInBounds_toArray, List.set_cons_zero, List.set_cons_succ, i64_w, i32_w]
      rfl
    refine take_ (i := 4) (N := some 125) (v := ?_) (a' := ?_) #[true, true, true, true, true, false, false, false, false, false, false, false, false, false, false, false, false, false, false, false] rfl rfl (take_ofW HT_.out HW_.out (by kernel_rfl)) (fun _ _ _ h => h) (Or.inl ⟨by rfl, ?_⟩) hHeld ?_ ?_
    rotate_left
    · rintro w' ⟨s0, s1, s2, s3⟩
      go_simp
      with_reducible rfl
    rotate_left
    · simp only [Act.put, List.setIfInBounds_toArray, List.set_cons_zero, List.set_cons_succ, i64_w, i32_w]
      rfl
    refine pure_ (i := 5) (N := some 126) (v := ?_) (a' := ?_) #[true, true, true, true, true, true, false, false, false, false, false, false, false, false, false, false, false, false, false, false] rfl rfl (any_of HT_.out (by kernel_rfl)) (fun _ _ _ h => h) (Or.inl ⟨by rfl, ?_⟩) ?_ ?_
    rotate_left
    · intro w'
      go_simp
      with_reducible rfl
    rotate_left
    · simp only [Act.put, List.setIfInBounds_toArray, List.set_cons_zero, List.set_cons_succ, i64_w, i32_w]
      rfl
    refine pure_ (i := 6) (N := some 127) (v := ?_) (a' := ?_) #[true, true, true, true, true, true, true, false, false, false, false, false, false, false, false, false, false, false, false, false] rfl rfl (any_of HT_.out (by kernel_rfl)) (fun _ _ _ h => h) (Or.inl ⟨by rfl, ?_⟩) ?_ ?_
    rotate_left
    · intro w'
      go_simp
      with_reducible rfl
    rotate_left
    · simp only [Act.put, List.setIfInBounds_toArray, List.set_cons_zero, List.set_cons_succ, i64_w, i32_w]
      rfl
    refine pure_ (i := 7) (N := some 128) (v := ?_) (a' := ?_) #[true, true, true, true, true, true, true, true, false, false, false, false, false, false, false, false, false, false, false, false] rfl rfl (any_of HT_.out (by kernel_rfl)) (fun _ _ _ h => h) (Or.inl ⟨by rfl, ?_⟩) ?_ ?_
    rotate_left
    · intro w'
      go_simp
      with_reducible rfl
    rotate_left
    · simp only [Act.put, List.setIfInBounds_toArray, List.set_cons_zero, List.set_cons_succ, i64_w, i32_w]
      rfl
    refine pure_ (i := 8) (N := some 129) (v := ?_) (a' := ?_) #[true, true, true, true, true, true, true, true, true, false, false, false, false, false, false, false, false, false, false, false] rfl rfl (any_of HT_.out (by kernel_rfl)) (fun _ _ _ h => h) (Or.inl ⟨by rfl, ?_⟩) ?_ ?_
    rotate_left
    · intro w'
      go_simp
      with_reducible rfl
    rotate_left
    · simp only [Act.put, List.setIfInBounds_toArray, List.set_cons_zero, List.set_cons_succ, i64_w, i32_w]
      rfl
    refine take_ (i := 9) (N := some 130) (v := ?_) (a' := ?_) #[true, true, true, true, true, true, true, true, true, true, false, false, false, false, false, false, false, false, false, false] rfl rfl (take_ofW HT_.out HW_.out (by kernel_rfl)) (fun _ _ _ h => h) (Or.inl ⟨by rfl, ?_⟩) hHeld ?_ ?_
    rotate_left
    · rintro w' ⟨s0, s1, s2, s3⟩
      go_simp
      with_reducible rfl
    rotate_left
    · simp only [Act.put, List.setIfInBounds_toArray, List.set_cons_zero, List.set_cons_succ, i64_w, i32_w]
      rfl
    refine pure_ (i := 10) (N := some 131) (v := ?_) (a' := ?_) #[true, true, true, true, true, true, true, true, true, true, true, false, false, false, false, false, false, false, false, false] rfl rfl (any_of HT_.out (by kernel_rfl)) (fun _ _ _ h => h) (Or.inl ⟨by rfl, ?_⟩) ?_ ?_
    rotate_left
    · intro w'
      go_simp
      with_reducible rfl
    rotate_left
    · simp only [Act.put, List.setIfInBounds_toArray, List.set_cons_zero, List.set_cons_succ, i64_w, i32_w]
      rfl
    refine pure_ (i := 11) (N := some 132) (v := ?_) (a' := ?_) #[true, true, true, true, true, true, true, true, true, true, true, true, false, false, false, false, false, false, false, false] rfl rfl (any_of HT_.out (by kernel_rfl)) (fun _ _ _ h => h) (Or.inl ⟨by rfl, ?_⟩) ?_ ?_
    rotate_left
    · intro w'
      go_simp
      with_reducible rfl
    rotate_left
    · simp only [Act.put, List.setIfInBounds_toArray, List.set_cons_zero, List.set_cons_succ, i64_w, i32_w]
      rfl
    refine pure_ (i := 12) (N := some 133) (v := ?_) (a' := ?_) #[true, true, true, true, true, true, true, true, true, true, true, true, true, false, false, false, false, false, false, false] rfl rfl (any_of HT_.out (by kernel_rfl)) (fun _ _ _ h => h) (Or.inl ⟨by rfl, ?_⟩) ?_ ?_
    rotate_left
    · intro w'
      go_simp
      with_reducible rfl
    rotate_left
    · simp only [Act.put, List.setIfInBounds_toArray, List.set_cons_zero, List.set_cons_succ, i64_w, i32_w]
      rfl
    refine take_ (i := 13) (N := some 134) (v := ?_) (a' := ?_) #[true, true, true, true, true, true, true, true, true, true, true, true, true, true, false, false, false, false, false, false] rfl rfl (take_ofW HT_.out HW_.out (by kernel_rfl)) (fun _ _ _ h => h) (Or.inl ⟨by rfl, ?_⟩) hHeld ?_ ?_
    rotate_left
    · rintro w' ⟨s0, s1, s2, s3⟩
      go_simp
      with_reducible rfl
    rotate_left
    · simp only [Act.put, List.setIfInBounds_toArray, List.set_cons_zero, List.set_cons_succ, i64_w, i32_w]
      rfl
    refine one_ (i := 14) (N := some 135) #[true, true, true, true, true, true, true, true, true, true, true, true, true, true, true, false, false, false, false, false] rfl rfl (one_of HT_.out (by kernel_rfl)) (by decide) (fun K hK => ?_)
    refine goes_ Tryd.func20 (by kernel_rfl) rfl #[.slice A4 n c4, .string n0, .string n1, .slice A5 tz.length d5] (by rfl) rfl rfl (by (try simp only [List.map_toArray, List.map_cons, List.map_nil]); first | done | rfl) ?_
    with_reducible refine H20.out.mono ?_
    rintro e w8 ⟨A8, c8, vs, rfl, hk, hm, hb⟩
    refine ⟨_, rfl, ?_⟩
    have HHB := Aside0.mk hb
    have HHK := Aside0.mk hk
    have HHM := Aside0.mk hm
    refine hK.out _ _ ⟨(hb.cell (World.block_lt_of_cell? w7.drew _ hHeld.1)).trans hHeld.1, (hb.cell (World.block_lt_of_cell? w7.drew _ hHeld.2.1)).trans hHeld.2.1, (hb.cell (World.block_lt_of_cell? w7.drew _ hHeld.2.2.1)).trans hHeld.2.2.1, (hb.cell (World.block_lt_of_cell? w7.drew _ hHeld.2.2.2)).trans hHeld.2.2.2⟩ (fun hHeld => ?_)
    clear hK K
    refine norm_ (a' := ?_) ?_ ?_
    rotate_left
    · show Act.put _ (some 135) _ = _
      simp only [Act.put, List.setIfInBounds_toArray, List.set_cons_zero, List.set_cons_succ, i64_w, i32_w]
      rfl
    refine pure_ (i := 15) (N := some 120) (v := ?_) (a' := ?_) #[true, true, true, true, true, true, true, true, true, true, true, true, true, true, true, true, false, false, false, false] rfl rfl (any_of HT_.out (by kernel_rfl)) (fun _ _ _ h => h) (Or.inl ⟨by rfl, ?_⟩) ?_ ?_
    rotate_left
    · intro w'
      go_simp
      with_reducible rfl
    rotate_left
    · simp only [Act.put, List.setIfInBounds_toArray, List.set_cons_zero, List.set_cons_succ, i64_w, i32_w]
      rfl
    refine pure_ (i := 16) (N := some 136) (v := ?_) (a' := ?_) #[true, true, true, true, true, true, true, true, true, true, true, true, true, true, true, true, true, false, false, false] rfl rfl (any_of HT_.out (by kernel_rfl)) (fun _ _ _ h => h) (Or.inl ⟨by rfl, ?_⟩) ?_ ?_
    rotate_left
    · intro w'
      go_simp
      with_reducible rfl
    rotate_left
    · simp only [Act.put, List.setIfInBounds_toArray, List.set_cons_zero, List.set_cons_succ, i64_w, i32_w]
      rfl
    refine pure_ (i := 17) (N := some 137) (v := ?_) (a' := ?_) #[true, true, true, true, true, true, true, true, true, true, true, true, true, true, true, true, true, true, false, false] rfl rfl (any_of HT_.out (by kernel_rfl)) (fun _ _ _ h => h) (Or.inl ⟨by rfl, ?_⟩) ?_ ?_
    rotate_left
    · intro w'
      go_simp
      with_reducible rfl
    rotate_left
    · simp only [Act.put, List.setIfInBounds_toArray, List.set_cons_zero, List.set_cons_succ, i64_w, i32_w]
      rfl
    refine pure_ (i := 18) (N := some 15) (v := ?_) (a' := ?_) #[true, true, true, true, true, true, true, true, true, true, true, true, true, true, true, true, true, true, true, false] rfl rfl (any_of HT_.out (by kernel_rfl)) (fun _ _ _ h => h) (Or.inl ⟨by rfl, ?_⟩) ?_ ?_
    rotate_left
    · intro w'
      go_simp
      with_reducible rfl
    rotate_left
    · simp only [Act.put, List.setIfInBounds_toArray, List.set_cons_zero, List.set_cons_succ, i64_w, i32_w]
      rfl
    refine pure_ (i := 19) (N := some 16) (v := ?_) (a' := ?_) #[true, true, true, true, true, true, true, true, true, true, true, true, true, true, true, true, true, true, true, true] rfl rfl (any_of HT_.out (by kernel_rfl)) (fun _ _ _ h => h) (Or.inl ⟨by rfl, ?_⟩) ?_ ?_
    rotate_left
    · intro w'
      go_simp
      with_reducible rfl
    rotate_left
    · simp only [Act.put, List.setIfInBounds_toArray, List.set_cons_zero, List.set_cons_succ, i64_w, i32_w]
      rfl
    refine done_ (done_of HT_.out (by kernel_rfl)) ?_
    clear g0 g1 z0 z1
    have hb' := below_step (below_drew1 (Below.refl w7.heap.size w7)) hb
    have HB8 := Aside0.mk (HB7.out.trans (hb'.mono HB7.out.size))
    have HK8 := Aside0.mk (HK7.out.below hb')
    have HBL8 := Aside0.mk (blk_below HBL7.out hb')
    have HC8 := Aside0.mk (Kd.C_below HC7.out hb')
    have x0 := blk_cell HBL8.out 0
    have x1 := blk_cell HBL8.out 1
    have hcvC := Kd.C_string (P := Tryd.prog) (A := A6) (c := c6) Tryd.underlying35 Tryd.underlying5 Tryd.underlying9 HC8.out
    have hcvD := Kd.C_string (P := Tryd.prog) (A := A2) (c := c2) Tryd.underlying35 Tryd.underlying5 Tryd.underlying9 (HT.out.1 w8 HB8.out)
    have h14 := same_pk2 hk HK8.out (by rw [hm, ← HZ.out]; exact HPR.out.2.2)
    rw [HNN.out.1] at h14
    clear hk hm hb hb'
    go_wp2_with (first
      | (go_at_call 14; (with_reducible refine h14.mono ?_); clear h14; rintro e w9 ⟨rfl, hb⟩; have HB9 := Aside0.mk (HB8.out.trans (hb.mono HB8.out.size)); clear hb; have h11 := works_calls w9 ml (HMW.out _ HB9.out))
      | (go_at_call 11; (with_reducible refine h11.mono ?_); clear h11; rintro e w10 ⟨rfl, hb⟩; have HB10 := Aside0.mk (HB9.out.trans (hb.mono HB9.out.size)); clear hb))
    go_ret
    exact ⟨rfl, HW0.out.2.trans (HB10.out.mono HW0.out.2.size)⟩
end Go.Proofs.YteakcggbolfelaaDoor.Y
