/-
  The document's Order: sorting by changing neighbours, packages and each package's files.
-/
import Derived.Test.YteakcggbolfelaaDoorBb
import Derived.Test.YteakcggbolfelaaDoorRp
namespace Go.Proofs.YteakcggbolfelaaDoor
open Go.RowKit Go.Proofs.YteakcggbolfelaaDoorW.PrintWords Go.Proofs.YteakcggbolfelaaDoorW.PrintLast Go.Proofs.YteakcggbolfelaaDoorW.PrintMore Go.Proofs.YteakcggbolfelaaDoor.Srt
set_option linter.unusedVariables false
set_option linter.unusedSimpArgs false
attribute [local go_sem] run_store_vl
def ltU (a b : U.S37) : Bool := ltB a.f0 b.f0
theorem stepB_yes {α : Type} {lt : α → α → Bool} {l : List α} {i : Nat} {a b : α} (ha : l[i + 1]? = some a) (hb : l[i]? = some b) (h : lt a b = true) : stepB lt l (i + 1) = swapAt l (i + 1) i := by
  unfold stepB; rw [ha, show i + 1 - 1 = i by omega, hb]; simp only []; rw [if_pos h]
theorem stepB_no {α : Type} {lt : α → α → Bool} {l : List α} {i : Nat} {a b : α} (ha : l[i + 1]? = some a) (hb : l[i]? = some b) (h : lt a b = false) : stepB lt l (i + 1) = l := by
  unfold stepB; rw [ha, show i + 1 - 1 = i by omega, hb]; simp only []; rw [if_neg (by rw [h]; decide)]
theorem bubI_past {α : Type} (lt : α → α → Bool) : ∀ (m i : Nat) (l : List α), l.length ≤ i → bubI lt m i l = l
  | 0, _, _, _ => rfl
  | m + 1, i, l, h => by simp only [bubI]; rw [if_neg (by omega)]
set_option maxRecDepth 100000 in
set_option maxHeartbeats 4000000 in
theorem refOrder_calls (A0 : Option Addr) (c0 : Nat) (xs : List U.S47) (w : World) (hr : Kd.C U.k47 w A0 xs.length xs) (hc : xs.length ≤ c0) (hl : xs.length < 20) (hf : ∀ x ∈ xs, x.f1.length < 20) :
    Calls Tryd.prog 24 #[.slice A0 xs.length c0] w fun e w' => ∃ v D, e = .returned v ∧ D.map Prod.fst = orderL xs ∧ Deep w' w.heap.size v D ∧ Below w.heap.size w w' := by
  have how := own_calls hr hc (by omega) (fun x hx => by have := hf x hx; omega)
  have HF := Aside0.mk (And.intro hl hf)
  clear hr hc hl hf
  go_enter Tryd.func24, Tryd.ntmps24
  go_wp2_with (go_at_call 31; (with_reducible refine how.mono ?_))
  rintro e w1 ⟨v, D0, rfl, hD, hdp, hb⟩
  obtain ⟨A, c, rfl⟩ := hdp.slice
  have HD := Aside0.mk hD
  have HDP := Aside0.mk hdp
  have HB := Aside0.mk hb
  have HL0 : Aside0 (D0.length < 20) := ⟨by have h1 := congrArg List.length hD; rw [List.length_map] at h1; have := HF.out.1; omega⟩
  obtain ⟨n, hn⟩ : ∃ n, D0.length = n := ⟨_, rfl⟩
  rw [hn] at HL0
  have HN := Aside0.mk hn
  rw [hn]
  clear how hD hdp hb hn
  go_wp2
  (try simp only [Act.put, List.setIfInBounds_toArray, List.set_cons_zero, List.set_cons_succ])
  go_loopg [4, 5] (n + 1) (fun kq v4 v5 wr => ∃ (q : Nat) (D' : List Dp), v4 = .int .i64 q ∧ Aside0 (q ≤ n ∧ kq = n + 1 - q ∧ D'.length = n) ∧ Aside0 (bubN ltD (n - q) D' = bubN ltD n D0) ∧ Aside0 (Deep wr w.heap.size (.slice A n c) D') ∧ Aside0 (Below w.heap.size w wr))
  case atStart => exact ⟨0, D0, rfl, ⟨Nat.zero_le _, rfl, HN.out⟩, ⟨rfl⟩, ⟨by have := HDP.out; rw [HN.out] at this; exact this⟩, HB⟩
  case round =>
    obtain ⟨q, D', rfl, HI, HG, HP, HB1⟩ := hrel
    by_cases cq : q < n
    · have g1 : decide ((q : Int) < (n : Int)) = true := decide_eq_true (by omega)
      have g1n : decide (q < n) = true := decide_eq_true cq
      have HCQ := Aside0.mk cq
      clear cq
      go_wp2
      (try simp only [Act.put, List.setIfInBounds_toArray, List.set_cons_zero, List.set_cons_succ])
      go_loopg [5] n (fun kq v5 wr => ∃ (i : Nat) (E : List Dp), v5 = .int .i64 i ∧ Aside0 (1 ≤ i ∧ i ≤ n ∧ kq = n + 1 - i ∧ E.length = n) ∧ Aside0 (bubI ltD kq i E = bubI ltD n 1 D') ∧ Aside0 (Deep wr w.heap.size (.slice A n c) E) ∧ Aside0 (Below w.heap.size w wr))
      case atStart => exact ⟨1, D', rfl, ⟨Nat.le_refl _, by have := HCQ.out; omega, by omega, HI.out.2.2⟩, ⟨rfl⟩, HP, HB1⟩
      case round =>
        obtain ⟨i, E, rfl, HJ, HG3, HP3, HB3⟩ := hrel
        by_cases ci : i < n
        · have HCI := Aside0.mk ci
          obtain ⟨j, rfl⟩ : ∃ j, i = j + 1 := ⟨i - 1, by have := HJ.out.1; omega⟩
          obtain ⟨x, hx⟩ : ∃ x, E[j + 1]? = some x := ⟨_, List.getElem?_eq_getElem (by rw [HJ.out.2.2.2]; exact ci)⟩
          obtain ⟨y, hy⟩ : ∃ y, E[j]? = some y := ⟨_, List.getElem?_eq_getElem (by rw [HJ.out.2.2.2]; omega)⟩
          have HXY := Aside0.mk (And.intro hx hy)
          have hdrow : Deep wr w.heap.size (.slice A n c) E := HP3.out
          obtain ⟨g, cap, eg, _⟩ := Kd.R_form hdrow.row (by rw [List.length_map, HJ.out.2.2.2]; have := HCI.out; omega)
          injection eg with eg en ec
          clear en
          subst eg
          subst ec
          have hx' : (E.map vp)[j + 1]? = some (vp x) := by rw [List.getElem?_map, hx]; rfl
          have hy' : (E.map vp)[j]? = some (vp y) := by rw [List.getElem?_map, hy]; rfl
          obtain ⟨x0, x1, hfr⟩ := V.swapF hdrow.row hx'
          obtain ⟨y0, y1, _⟩ := V.swapF hdrow.row hy'
          have hgb : w.heap.size ≤ g := Kd.R_base hdrow.row g rfl
          clear hx' hy' hdrow
          simp only [vp] at x0 x1 y0 y1
          have HGB := Aside0.mk hgb
          clear hgb hx hy ci
          have g2 : decide (((j + 1 : Nat) : Int) < (n : Int)) = true := decide_eq_true (by have := HCI.out; omega)
          have g2n : decide (j + 1 < n) = true := decide_eq_true HCI.out
          have q0 : ((j : Int) + 1 < (n : Int)) = True := eq_true (by have := HCI.out; omega)
          have q1 : ((j : Int) < (n : Int)) = True := eq_true (by have := HCI.out; omega)
          have q1n : (j < n) = True := eq_true (by have := HCI.out; omega)
          have q0n : (j + 1 < n) = True := eq_true HCI.out
          have q3 : (0 ≤ (j : Int)) = True := eq_true (by omega)
          have q4 : (0 ≤ (j : Int) + 1) = True := eq_true (by omega)
          have q5 : IntKind.i64.wrap (j : Int) = (j : Int) := (i64_w _).trans (w64 (by omega) (by have := HCI.out; have := HL0.out; omega))
          obtain ⟨b, hb⟩ : ∃ b, ltB x.1.f0 y.1.f0 = b := ⟨_, rfl⟩
          have hb2 : Op.bytesLess (x.1.f0).toList (y.1.f0).toList = b := (less_eq _ _).trans hb
          have HBB := Aside0.mk hb
          clear hb
          cases b with
          | false =>
            go_wp2
            go_quiet (fail)
            try go_wp2
            have n0_ := Aside0.mk (HP3.out.below (pw_below_drewN (Below.refl _ _) nq))
            have n1_ := Aside0.mk (pw_below_drewN HB3.out nq)
            go_roundg (gk - 1)
            case measure => have := HJ.out; have := HCI.out; omega
            case rel =>
              refine ⟨j + 2, E, by have := HL0.out; have := HCI.out; rw [w64 (by omega) (by omega)]; congr 1, ⟨by omega, by have := HCI.out; omega, by have := HJ.out; omega, HJ.out.2.2.2⟩, ⟨?_⟩, n0_, n1_⟩
              obtain ⟨x', hx'⟩ : ∃ x', gk = x' + 1 := ⟨gk - 1, by have := HJ.out; have := HCI.out; omega⟩
              have hG := HG3.out
              subst hx'
              simp only [bubI] at hG
              rw [HJ.out.2.2.2, if_pos HCI.out, stepB_no HXY.out.1 HXY.out.2 HBB.out] at hG
              exact hG
          | true =>
            go_wp2
            go_quiet (fail)
            try go_wp2
            have HP6 := Aside0.mk (HP3.out.below (pw_below_drewN (Below.refl _ _) nq))
            have HB6 := Aside0.mk (pw_below_drewN HB3.out nq)
            replace x0 : (wr.drewN nq).cell? _ = _ := x0
            replace x1 : (wr.drewN nq).cell? _ = _ := x1
            replace y0 : (wr.drewN nq).cell? _ = _ := y0
            replace y1 : (wr.drewN nq).cell? _ = _ := y1
            replace hfr : ∀ j, (wr.drewN nq).frozen? ⟨g, j, none⟩ = false := hfr
            generalize wr.drewN nq = wq at HP6 HB6 x0 x1 y0 y1 hfr ⊢
            obtain ⟨s1, t1⟩ := cell?_setCell_some (p := ⟨g, (j + 1) * 2, none⟩) (x := .string y.1.f0) x1
            obtain ⟨s2a, t2a⟩ := cell?_setCell_some (p := ⟨g, (j + 1) * 2, none⟩) (x := .string y.1.f0) y0
            obtain ⟨s2, t2⟩ := cell?_setCell_some (p := ⟨g, (j + 1) * 2 + 1, none⟩) (x := y.2.1) t2a
            obtain ⟨s3a, t3a⟩ := cell?_setCell_some (p := ⟨g, (j + 1) * 2, none⟩) (x := .string y.1.f0) y1
            obtain ⟨s3b, t3b⟩ := cell?_setCell_some (p := ⟨g, (j + 1) * 2 + 1, none⟩) (x := y.2.1) t3a
            obtain ⟨s3, t3⟩ := cell?_setCell_some (p := ⟨g, j * 2, none⟩) (x := .string x.1.f0) t3b
            clear t2a t3a t3b
            go_region
            have hsw := HP6.out.swap HXY.out.1 HXY.out.2
            have HBN := Aside0.mk (below4 (a := (j + 1) * 2) (b := (j + 1) * 2 + 1) (c := j * 2) (d := j * 2 + 1) HB6.out HGB.out (.string y.1.f0) y.2.1 (.string x.1.f0) x.2.1)
            clear x0 x1 hfr y0 y1 t1 t2 t3
            generalize ((((wq.setCell ⟨g, (j + 1) * 2, none⟩ (.string y.1.f0)).setCell ⟨g, (j + 1) * 2 + 1, none⟩ y.2.1).setCell ⟨g, j * 2, none⟩ (.string x.1.f0)).setCell ⟨g, j * 2 + 1, none⟩ x.2.1).drew = w4 at hsw HBN ⊢
            have HSW := Aside0.mk hsw
            clear hsw
            go_wp2
            go_roundg (gk - 1)
            case measure => have := HJ.out; have := HCI.out; omega
            case rel =>
              refine ⟨j + 2, swapAt E (j + 1) j, by have := HL0.out; have := HCI.out; rw [w64 (by omega) (by omega)]; congr 1, ⟨by omega, by have := HCI.out; omega, by have := HJ.out; omega, by rw [swapAt_len]; exact HJ.out.2.2.2⟩, ⟨?_⟩, HSW, HBN⟩
              obtain ⟨x', hx'⟩ : ∃ x', gk = x' + 1 := ⟨gk - 1, by have := HJ.out; have := HCI.out; omega⟩
              have hG := HG3.out
              subst hx'
              simp only [bubI] at hG
              rw [HJ.out.2.2.2, if_pos HCI.out, stepB_yes HXY.out.1 HXY.out.2 HBB.out] at hG
              exact hG
        · have g2 : decide ((i : Int) < (n : Int)) = false := decide_eq_false (by omega)
          have g2n : decide (i < n) = false := decide_eq_false ci
          have HE2 : Aside0 (bubN ltD (n - (q + 1)) E = bubN ltD n D0) := ⟨by
            have h1 := HG3.out
            rw [bubI_past ltD _ _ _ (by rw [HJ.out.2.2.2]; omega)] at h1
            have h2 := HG.out
            obtain ⟨m, hm⟩ : ∃ m, n - q = m + 1 := ⟨n - q - 1, by have := HCQ.out; omega⟩
            rw [hm] at h2
            simp only [bubN] at h2
            rw [HI.out.2.2] at h2
            rw [h1, show n - (q + 1) = m by omega]
            exact h2⟩
          clear ci
          go_wp2
          go_roundg (n - q)
          case measure => have := HI.out; have := HCQ.out; omega
          case rel => exact ⟨q + 1, E, by have := HL0.out; have := HCQ.out; rw [w64 (by omega) (by omega), Int.natCast_succ], ⟨by have := HCQ.out; omega, by omega, HJ.out.2.2.2⟩, HE2, HP3, HB3⟩
    · have g1 : decide ((q : Int) < (n : Int)) = false := decide_eq_false (by omega)
      have g1n : decide (q < n) = false := decide_eq_false cq
      have hq : q = n := by have := HI.out.1; omega
      subst hq
      have hG := HG.out
      rw [Nat.sub_self] at hG
      have HG2 : Aside0 (D' = bubN ltD q D0) := ⟨hG⟩
      have HNL := Aside0.mk HI.out.2.2
      clear hG HG HI cq g1 g1n
      have HS2 : Aside0 (D' = srt ltD D0) := ⟨by
        have h1 := bub_srt (fun d : Dp => d.1.f0) D0
        rw [HN.out] at h1
        rw [HG2.out]; exact h1⟩
      have HFL : Aside0 (∀ d ∈ D', d.1.f1.length < 20) := ⟨by
        intro d hd
        rw [HS2.out] at hd
        refine HF.out.2 d.1 ?_
        rw [← HD.out]
        exact List.mem_map_of_mem ((srt_perm ltD D0).mem_iff.1 hd)⟩
      go_wp2
      (try simp only [Act.put, List.setIfInBounds_toArray, List.set_cons_zero, List.set_cons_succ])
      go_loopg [6, 7, 8, 9] (q + 1) (fun kq v6 v7 v8 v9 wr => ∃ z : Nat, v6 = .int .i64 z ∧ Aside0 (z ≤ q ∧ kq = q + 1 - z) ∧ Aside0 (Deep wr w.heap.size (.slice A q c) (((D'.take z).map (fun d => (sF d.1, d.2))) ++ D'.drop z)) ∧ Aside0 (Below w.heap.size w wr))
      case atStart => exact ⟨0, rfl, ⟨Nat.zero_le _, rfl⟩, ⟨by simpa using HP.out⟩, HB1⟩
      case round =>
        obtain ⟨z, rfl, HI, HP2, HB2⟩ := hrel
        by_cases cz : z < q
        · obtain ⟨d, hd⟩ : ∃ d, D'[z]? = some d := ⟨_, List.getElem?_eq_getElem (by have := HNL.out; omega)⟩
          have hd2 : (((D'.take z).map (fun d => (sF d.1, d.2))) ++ D'.drop z)[z]? = some d := by
            have h1 : ((D'.take z).map (fun d : Dp => ((sF d.1, d.2) : Dp))).length = z := by rw [List.length_map, List.length_take]; have := HNL.out; omega
            rw [List.getElem?_append_right (by omega), h1, Nat.sub_self, List.getElem?_drop]; simpa using hd
          obtain ⟨E, hE⟩ : ∃ E, E = ((D'.take z).map (fun d : Dp => ((sF d.1, d.2) : Dp))) ++ D'.drop z := ⟨_, rfl⟩
          rw [← hE] at HP2 hd2
          obtain ⟨ad, rfl, a0, a1⟩ := HP2.out.at_ hd2
          obtain ⟨A9, c9, e9⟩ := Kd.R_slice (HP2.out.ins d (List.mem_of_getElem? hd2))
          rw [e9] at a1
          obtain ⟨m, hm⟩ : ∃ m, d.1.f1.length = m := ⟨_, rfl⟩
          rw [hm] at a1 e9
          have g1 : decide ((z : Int) < (q : Int)) = true := decide_eq_true (by omega)
          have g1n : decide (z < q) = true := decide_eq_true cz
          have d1 : ((z : Int) < (q : Int)) = True := eq_true (by omega)
          have d1n : (z < q) = True := eq_true cz
          have d0 : (0 ≤ (z : Int)) = True := eq_true (by omega)
          have HX := Aside0.mk (And.intro hE (And.intro hd2 (And.intro hd (And.intro hm (And.intro e9 cz)))))
          have HML : Aside0 (m < 20) := ⟨by rw [← hm]; exact HFL.out d (List.mem_of_getElem? hd)⟩
          clear hE hd2 hd hm e9 cz
          go_wp2
          (try simp only [Act.put, List.setIfInBounds_toArray, List.set_cons_zero, List.set_cons_succ])
          go_loopg [8, 9] (m + 1) (fun kq v8 v9 wr => ∃ (y : Nat) (F' : List U.S37), v8 = .int .i64 y ∧ Aside0 (y ≤ m ∧ kq = m + 1 - y ∧ F'.length = m) ∧ Aside0 (bubN ltU (m - y) F' = bubN ltU m d.1.f1) ∧ Aside0 (Deep wr w.heap.size (.slice (some ad) q c) (E.set z (⟨d.1.f0, F'⟩, d.2))) ∧ Aside0 (Below w.heap.size w wr))
          case atStart => exact ⟨0, d.1.f1, rfl, ⟨Nat.zero_le _, rfl, HX.out.2.2.2.1⟩, ⟨rfl⟩, ⟨by
            have e : E.set z (⟨d.1.f0, d.1.f1⟩, d.2) = E := by
              apply List.ext_getElem?
              intro x
              by_cases cx : z = x
              · subst cx
                rw [List.getElem?_set_self (List.getElem?_eq_some_iff.1 HX.out.2.1).1, HX.out.2.1]
              · rw [List.getElem?_set_ne cx]
            rw [e]
            exact HP2.out⟩, HB2⟩
          case round =>
            obtain ⟨y, F', rfl, HY, HG5, HP5, HB5⟩ := hrel
            by_cases cy : y < m
            · have g3 : decide ((y : Int) < (m : Int)) = true := decide_eq_true (by omega)
              have g3n : decide (y < m) = true := decide_eq_true cy
              have HCY := Aside0.mk cy
              clear cy
              go_wp2
              (try simp only [Act.put, List.setIfInBounds_toArray, List.set_cons_zero, List.set_cons_succ])
              go_loopg [9] m (fun kq v9 wr => ∃ (i : Nat) (G : List U.S37), v9 = .int .i64 i ∧ Aside0 (1 ≤ i ∧ i ≤ m ∧ kq = m + 1 - i ∧ G.length = m) ∧ Aside0 (bubI ltU kq i G = bubI ltU m 1 F') ∧ Aside0 (Deep wr w.heap.size (.slice (some ad) q c) (E.set z (⟨d.1.f0, G⟩, d.2))) ∧ Aside0 (Below w.heap.size w wr))
              case atStart => exact ⟨1, F', rfl, ⟨Nat.le_refl _, by have := HCY.out; omega, by omega, HY.out.2.2⟩, ⟨rfl⟩, HP5, HB5⟩
              case round =>
                obtain ⟨i, G, rfl, HJ, HG3, HP3, HB3⟩ := hrel
                by_cases ci : i < m
                · have HCI := Aside0.mk ci
                  obtain ⟨j, rfl⟩ : ∃ j, i = j + 1 := ⟨i - 1, by have := HJ.out.1; omega⟩
                  obtain ⟨x, hx⟩ : ∃ x, G[j + 1]? = some x := ⟨_, List.getElem?_eq_getElem (by rw [HJ.out.2.2.2]; exact ci)⟩
                  obtain ⟨y, hy⟩ : ∃ y, G[j]? = some y := ⟨_, List.getElem?_eq_getElem (by rw [HJ.out.2.2.2]; omega)⟩
                  have HXY := Aside0.mk (And.intro hx hy)
                  have hd' : (E.set z ((⟨d.1.f0, G⟩, d.2) : Dp))[z]? = some (⟨d.1.f0, G⟩, d.2) := List.getElem?_set_self (List.getElem?_eq_some_iff.1 HX.out.2.1).1
                  have hin := HP3.out.ins _ (List.mem_of_getElem? hd')
                  obtain ⟨g, cap, eg, _⟩ := Kd.R_form hin (by show 0 < G.length; rw [HJ.out.2.2.2]; have := HCI.out; omega)
                  have he9 := HX.out.2.2.2.2.1
                  have eg2 : Value.slice A9 m c9 = .slice (some ⟨g, 0, none⟩) G.length cap := he9.symm.trans eg
                  injection eg2 with eg2 en ec
                  clear en he9 eg
                  subst eg2
                  subst ec
                  have he9 := HX.out.2.2.2.2.1
                  rw [show ((⟨d.1.f0, G⟩, d.2) : Dp).2.1 = d.2.1 from rfl, he9] at hin
                  obtain ⟨x0, x1, hfr⟩ := U.swapF hin hx
                  obtain ⟨y0, y1, _⟩ := U.swapF hin hy
                  have hgb : w.heap.size ≤ g := Kd.R_base hin g rfl
                  clear hd' hin he9
                  have HGB := Aside0.mk hgb
                  clear hgb hx hy ci
                  have g2 : decide (((j + 1 : Nat) : Int) < (m : Int)) = true := decide_eq_true (by have := HCI.out; omega)
                  have g2n : decide (j + 1 < m) = true := decide_eq_true HCI.out
                  have q0 : ((j : Int) + 1 < (m : Int)) = True := eq_true (by have := HCI.out; omega)
                  have q1 : ((j : Int) < (m : Int)) = True := eq_true (by have := HCI.out; omega)
                  have q1n : (j < m) = True := eq_true (by have := HCI.out; omega)
                  have q0n : (j + 1 < m) = True := eq_true HCI.out
                  have q3 : (0 ≤ (j : Int)) = True := eq_true (by omega)
                  have q4 : (0 ≤ (j : Int) + 1) = True := eq_true (by omega)
                  have q5 : IntKind.i64.wrap (j : Int) = (j : Int) := (i64_w _).trans (w64 (by omega) (by have := HCI.out; have := HML.out; omega))
                  obtain ⟨b, hb⟩ : ∃ b, ltB x.f0 y.f0 = b := ⟨_, rfl⟩
                  have hb2 : Op.bytesLess (x.f0).toList (y.f0).toList = b := (less_eq _ _).trans hb
                  have HBB := Aside0.mk hb
                  clear hb
                  cases b with
                  | false =>
                    go_wp2
                    go_quiet (fail)
                    try go_wp2
                    have n0_ := Aside0.mk (HP3.out.below (pw_below_drewN (Below.refl _ _) nq))
                    have n1_ := Aside0.mk (pw_below_drewN HB3.out nq)
                    go_roundg (gk - 1)
                    case measure => have := HJ.out; have := HCI.out; omega
                    case rel =>
                      refine ⟨j + 2, G, by have := HML.out; have := HCI.out; rw [w64 (by omega) (by omega)]; congr 1, ⟨by omega, by have := HCI.out; omega, by have := HJ.out; omega, HJ.out.2.2.2⟩, ⟨?_⟩, n0_, n1_⟩
                      obtain ⟨x', hx'⟩ : ∃ x', gk = x' + 1 := ⟨gk - 1, by have := HJ.out; have := HCI.out; omega⟩
                      have hG := HG3.out
                      subst hx'
                      simp only [bubI] at hG
                      rw [HJ.out.2.2.2, if_pos HCI.out, stepB_no HXY.out.1 HXY.out.2 HBB.out] at hG
                      exact hG
                  | true =>
                    go_wp2
                    go_quiet (fail)
                    try go_wp2
                    have HP6 := Aside0.mk (HP3.out.below (pw_below_drewN (Below.refl _ _) nq))
                    have HB6 := Aside0.mk (pw_below_drewN HB3.out nq)
                    replace x0 : (wr.drewN nq).cell? _ = _ := x0
                    replace x1 : (wr.drewN nq).cell? _ = _ := x1
                    replace y0 : (wr.drewN nq).cell? _ = _ := y0
                    replace y1 : (wr.drewN nq).cell? _ = _ := y1
                    replace hfr : ∀ j, (wr.drewN nq).frozen? ⟨g, j, none⟩ = false := hfr
                    generalize wr.drewN nq = wq at HP6 HB6 x0 x1 y0 y1 hfr ⊢
                    obtain ⟨s1, t1⟩ := cell?_setCell_some (p := ⟨g, (j + 1) * 2, none⟩) (x := .string y.f0) x1
                    obtain ⟨s2a, t2a⟩ := cell?_setCell_some (p := ⟨g, (j + 1) * 2, none⟩) (x := .string y.f0) y0
                    obtain ⟨s2, t2⟩ := cell?_setCell_some (p := ⟨g, (j + 1) * 2 + 1, none⟩) (x := y.f1.1) t2a
                    obtain ⟨s3a, t3a⟩ := cell?_setCell_some (p := ⟨g, (j + 1) * 2, none⟩) (x := .string y.f0) y1
                    obtain ⟨s3b, t3b⟩ := cell?_setCell_some (p := ⟨g, (j + 1) * 2 + 1, none⟩) (x := y.f1.1) t3a
                    obtain ⟨s3, t3⟩ := cell?_setCell_some (p := ⟨g, j * 2, none⟩) (x := .string x.f0) t3b
                    clear t2a t3a t3b
                    go_region
                    have hd' : (E.set z ((⟨d.1.f0, G⟩, d.2) : Dp))[z]? = some (⟨d.1.f0, G⟩, d.2) := List.getElem?_set_self (List.getElem?_eq_some_iff.1 HX.out.2.1).1
                    have hsw := HP6.out.swapIn hd' HX.out.2.2.2.2.1 HXY.out.1 HXY.out.2
                    rw [List.set_set] at hsw
                    clear hd'
                    have HBN := Aside0.mk (below4 (a := (j + 1) * 2) (b := (j + 1) * 2 + 1) (c := j * 2) (d := j * 2 + 1) HB6.out HGB.out (.string y.f0) y.f1.1 (.string x.f0) x.f1.1)
                    clear x0 x1 hfr y0 y1 t1 t2 t3
                    generalize ((((wq.setCell ⟨g, (j + 1) * 2, none⟩ (.string y.f0)).setCell ⟨g, (j + 1) * 2 + 1, none⟩ y.f1.1).setCell ⟨g, j * 2, none⟩ (.string x.f0)).setCell ⟨g, j * 2 + 1, none⟩ x.f1.1).drew = w4 at hsw HBN ⊢
                    have HSW := Aside0.mk hsw
                    clear hsw
                    go_wp2
                    go_roundg (gk - 1)
                    case measure => have := HJ.out; have := HCI.out; omega
                    case rel =>
                      refine ⟨j + 2, swapAt G (j + 1) j, by have := HML.out; have := HCI.out; rw [w64 (by omega) (by omega)]; congr 1, ⟨by omega, by have := HCI.out; omega, by have := HJ.out; omega, by rw [swapAt_len]; exact HJ.out.2.2.2⟩, ⟨?_⟩, HSW, HBN⟩
                      obtain ⟨x', hx'⟩ : ∃ x', gk = x' + 1 := ⟨gk - 1, by have := HJ.out; have := HCI.out; omega⟩
                      have hG := HG3.out
                      subst hx'
                      simp only [bubI] at hG
                      rw [HJ.out.2.2.2, if_pos HCI.out, stepB_yes HXY.out.1 HXY.out.2 HBB.out] at hG
                      exact hG
                · have g2 : decide ((i : Int) < (m : Int)) = false := decide_eq_false (by omega)
                  have g2n : decide (i < m) = false := decide_eq_false ci
                  have HE2 : Aside0 (bubN ltU (m - (y + 1)) G = bubN ltU m d.1.f1) := ⟨by
                    have h1 := HG3.out
                    rw [bubI_past ltU _ _ _ (by rw [HJ.out.2.2.2]; omega)] at h1
                    have h2 := HG5.out
                    obtain ⟨x, hx⟩ : ∃ x, m - y = x + 1 := ⟨m - y - 1, by have := HCY.out; omega⟩
                    rw [hx] at h2
                    simp only [bubN] at h2
                    rw [HY.out.2.2] at h2
                    rw [h1, show m - (y + 1) = x by omega]
                    exact h2⟩
                  clear ci
                  go_wp2
                  go_roundg (m - y)
                  case measure => have := HY.out; have := HCY.out; omega
                  case rel => exact ⟨y + 1, G, by have := HML.out; have := HCY.out; rw [w64 (by omega) (by omega), Int.natCast_succ], ⟨by have := HCY.out; omega, by omega, HJ.out.2.2.2⟩, HE2, HP3, HB3⟩
            · have g3 : decide ((y : Int) < (m : Int)) = false := decide_eq_false (by omega)
              have g3n : decide (y < m) = false := decide_eq_false cy
              have hy : y = m := by have := HY.out.1; omega
              have hG := HG5.out
              rw [hy, Nat.sub_self] at hG
              have hG1 : F' = bubN ltU m d.1.f1 := hG
              have HE2 : Aside0 (Deep wr w.heap.size (.slice (some ad) q c) (((D'.take (z + 1)).map (fun d => (sF d.1, d.2))) ++ D'.drop (z + 1))) := ⟨by
                have e := map_set_next (fun d : Dp => ((sF d.1, d.2) : Dp)) D' z d HX.out.2.2.1
                rw [← e, ← HX.out.1]
                have e2 : sF d.1 = ⟨d.1.f0, F'⟩ := by
                  have h1 := bub_srt (fun x : U.S37 => x.f0) d.1.f1
                  rw [HX.out.2.2.2.1] at h1
                  rw [hG1]
                  show (⟨d.1.f0, srt U.lt d.1.f1⟩ : U.S47) = _
                  exact congrArg (fun x => (⟨d.1.f0, x⟩ : U.S47)) h1.symm
                rw [e2]
                exact HP5.out⟩
              clear hG hG1 hy cy
              go_wp2
              go_roundg (q - z)
              case measure => have := HI.out; have := HX.out.2.2.2.2.2; omega
              case rel => exact ⟨z + 1, by have := HL0.out; have := HX.out.2.2.2.2.2; rw [w64 (by omega) (by omega), Int.natCast_succ], ⟨by have := HX.out.2.2.2.2.2; omega, by omega⟩, HE2, HB5⟩
        · have g1 : decide ((z : Int) < (q : Int)) = false := decide_eq_false (by omega)
          have g1n : decide (z < q) = false := decide_eq_false cz
          have hz : z = q := by have := HI.out.1; omega
          subst hz
          go_wp2
          go_ret
          refine ⟨_, _, rfl, ?_, HP2.out, HB2.out⟩
          rw [← HNL.out, List.take_length, List.drop_length, List.append_nil, List.map_map]
          show D'.map (fun d => sF d.1) = orderL xs
          unfold orderL
          rw [← HD.out, srt_map (f := Prod.fst) (lt := ltD) (lt' := ltX) (fun _ _ => rfl) D0, List.map_map, HS2.out]
          rfl
end Go.Proofs.YteakcggbolfelaaDoor
