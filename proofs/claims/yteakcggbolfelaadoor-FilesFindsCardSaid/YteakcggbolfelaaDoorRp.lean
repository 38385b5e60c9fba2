/-
  The document's Permute.
-/
import Derived.Test.YteakcggbolfelaaDoorUF31
import Derived.Test.YteakcggbolfelaaDoorUF32
import Derived.Test.YteakcggbolfelaaDoorZz
namespace Go.Proofs.YteakcggbolfelaaDoor
open Go.RowKit Go.Proofs.YteakcggbolfelaaDoorW.PrintWords Go.Proofs.YteakcggbolfelaaDoorW.PrintLast Go.Proofs.YteakcggbolfelaaDoorW.PrintMore Go.Proofs.YteakcggbolfelaaDoor.Srt
set_option linter.unusedVariables false
set_option linter.unusedSimpArgs false
attribute [local go_sem] run_store_vl
section
variable {α : Type}
/-- Where i changes to; where there is no pick: it stays. -/
def kR (n i : Nat) (p : List Int) : Nat := if i < p.length then kAt n i (p.getD i 0) else i
theorem kR_lt (n i : Nat) (p : List Int) (h : i < n) : kR n i p < n := by
  unfold kR; split
  · exact kAt_lt _ _ _ h
  · exact h
theorem swapAt_self (l : List α) (i : Nat) : swapAt l i i = l := by
  unfold swapAt
  cases h : l[i]? with
  | none => rfl
  | some a =>
    obtain ⟨hi, rfl⟩ := List.getElem?_eq_some_iff.1 h
    simp
def refG : Nat → Nat → List α → List Int → List α
  | 0, _, l, _ => l
  | m + 1, i, l, p => if i < l.length then refG m (i + 1) (swapAt l i (kR l.length i p)) p else l
theorem refG_past (p : List Int) : ∀ (m i : Nat) (l : List α), p.length ≤ i → refG m i l p = l
  | 0, _, _, _ => rfl
  | m + 1, i, l, h => by
    simp only [refG]
    have e : kR l.length i p = i := by unfold kR; rw [if_neg (by omega)]
    rw [e, swapAt_self]
    split
    · exact refG_past p m (i + 1) l (by omega)
    · rfl
theorem refG_eq (p : List Int) : ∀ (m i : Nat) (l : List α), refG m i l p = permG m i l p
  | 0, _, _ => rfl
  | m + 1, i, l => by
    simp only [refG, permG]
    by_cases c : i < l.length
    · rw [if_pos c]
      by_cases d : i < p.length
      · rw [if_pos ⟨c, d⟩, refG_eq p m]
        unfold kR; rw [if_pos d]
      · rw [if_neg (fun h => d h.2)]
        have e : kR l.length i p = i := by unfold kR; rw [if_neg d]
        rw [e, swapAt_self]
        exact refG_past p m (i + 1) l (by omega)
    · rw [if_neg c, if_neg (fun h => c h.1)]
end
theorem to_ev (n i : Nat) (p : List Int) (h : i < n) (hn : n < 1000000) (hp : p.length < 1000000) : U.cavilref05_to.f (i : Int) (n : Int) p = some (kR n i p : Int) := by
  unfold U.cavilref05_to.f kR
  by_cases c : i < p.length
  · rw [if_neg (by omega), if_pos (by omega), if_pos (by omega), if_pos c]
    have er : rd p (i : Int) = p.getD i 0 := by unfold rd; rw [Int.toNat_natCast]
    rw [er]
    generalize p.getD i 0 = x
    have h0 : (0 : Int) < (n : Int) - i := by omega
    have h1 := Int.tmod_lt_of_pos x h0
    have h2 : -((n : Int) - i) < x.tmod ((n : Int) - i) := by
      have := Int.neg_tmod x ((n : Int) - i)
      have h3 := Int.tmod_lt_of_pos (-x) h0
      omega
    have e1 : wrap64 ((n : Int) - i) = (n : Int) - i := w64 (by omega) (by omega)
    rw [e1, if_neg (by omega)]
    unfold kAt
    generalize hd : (n : Int) - i = d at *
    generalize hq : x.tmod d = q at *
    by_cases s : q < 0
    · rw [if_pos s]
      have e2 : (q + d).tmod d = q + d := Int.tmod_eq_of_lt (by omega) (by omega)
      rw [e2, w64 (x := q + n) (by omega) (by omega), w64 (x := q + n - i) (by omega) (by omega), w64 (by omega) (by omega)]
      congr 1; omega
    · rw [if_neg s]
      have e2 : (q + d).tmod d = q := by
        have : (q + d).tmod d = (q + 1 * d).tmod d := by rw [Int.one_mul]
        rw [Int.tmod_eq_emod_of_nonneg (by omega), Int.add_emod_right, Int.emod_eq_of_lt (by omega) (by omega)]
      rw [e2, w64 (by omega) (by omega)]
      congr 1; omega
  · rw [if_pos (by omega), if_neg c]
theorem V.swapR {w : World} {base g n cap : Nat} {ok : Nat → Prop} {l : List V.S47} (h : Kd.R V.k47 47 w base ok (.slice (some ⟨g, 0, none⟩) n cap) l) {i k : Nat} {x y : V.S47} (hx : l[i]? = some x) (hy : l[k]? = some y) :
    Kd.R V.k47 47 ((((w.setCell ⟨g, i * 2, none⟩ (.string y.f0)).setCell ⟨g, i * 2 + 1, none⟩ y.f1.1).setCell ⟨g, k * 2, none⟩ (.string x.f0)).setCell ⟨g, k * 2 + 1, none⟩ x.f1.1) base ok (.slice (some ⟨g, 0, none⟩) n cap) (swapAt l i k) := by
  have hn := (Kd.R_reads' h).1
  have hi : i < l.length := (List.getElem?_eq_some_iff.1 hx).1
  have hk : k < l.length := (List.getElem?_eq_some_iff.1 hy).1
  obtain ⟨c, hcl, hM, hcc, hfr⟩ := Kd.R_elem h V.z47 (i : Int) (by omega) (by omega)
  obtain rfl := V.k47_openM hM
  have h1 := (Kd.R_seg h (i : Int) (by omega) (by omega) (seg := [.string y.f0, y.f1.1]) (j := 0) hcl hcc (show 2 ≤ 2 from by decide) (x' := y) (V.k47_mkM _ _ _ y) (fun _ hk => hk)).1
  obtain ⟨c2, hcl2, hM2, hcc2, hfr2⟩ := Kd.R_elem h1 V.z47 (k : Int) (by omega) (by omega)
  obtain rfl := V.k47_openM hM2
  have h2 := (Kd.R_seg h1 (k : Int) (by omega) (by omega) (seg := [.string x.f0, x.f1.1]) (j := 0) hcl2 hcc2 (show 2 ≤ 2 from by decide) (x' := x) (V.k47_mkM _ _ _ x) (fun _ hk => hk)).1
  have e : swapAt l i k = (l.set i y).set k x := by unfold swapAt; rw [hx, hy]
  rw [e]
  exact h2
theorem V.swapF {w : World} {base g n cap : Nat} {ok : Nat → Prop} {l : List V.S47} (h : Kd.R V.k47 47 w base ok (.slice (some ⟨g, 0, none⟩) n cap) l) {i : Nat} {x : V.S47} (hx : l[i]? = some x) :
    w.cell? ⟨g, i * 2, none⟩ = some (.string x.f0) ∧ w.cell? ⟨g, i * 2 + 1, none⟩ = some x.f1.1 ∧ ∀ j, w.frozen? ⟨g, j, none⟩ = false := by
  have hn := (Kd.R_reads' h).1
  have hi : i < l.length := (List.getElem?_eq_some_iff.1 hx).1
  obtain ⟨c, hcl, hM, hcc, hfr⟩ := Kd.R_elem h V.z47 (i : Int) (by omega) (by omega)
  obtain rfl := V.k47_openM hM
  have e : l.getD (i : Int).toNat V.z47 = x := by rw [Int.toNat_natCast, List.getD_eq_getElem?_getD, hx]; rfl
  rw [e] at hcc
  obtain ⟨g', _, e1, _, _, cells, hb⟩ := Kd.R_form h (by omega)
  injection e1 with e1
  injection e1 with e1
  injection e1 with e1
  subst e1
  exact ⟨hcc 0 _ rfl, hcc 1 _ rfl, fun j => by simp only [World.frozen?, hb]; rfl⟩
theorem U.swapR {w : World} {base g n cap : Nat} {ok : Nat → Prop} {l : List U.S37} (h : Kd.R U.k37 37 w base ok (.slice (some ⟨g, 0, none⟩) n cap) l) {i k : Nat} {x y : U.S37} (hx : l[i]? = some x) (hy : l[k]? = some y) :
    Kd.R U.k37 37 ((((w.setCell ⟨g, i * 2, none⟩ (.string y.f0)).setCell ⟨g, i * 2 + 1, none⟩ y.f1.1).setCell ⟨g, k * 2, none⟩ (.string x.f0)).setCell ⟨g, k * 2 + 1, none⟩ x.f1.1) base ok (.slice (some ⟨g, 0, none⟩) n cap) (swapAt l i k) := by
  have hn := (Kd.R_reads' h).1
  have hi : i < l.length := (List.getElem?_eq_some_iff.1 hx).1
  have hk : k < l.length := (List.getElem?_eq_some_iff.1 hy).1
  obtain ⟨c, hcl, hM, hcc, hfr⟩ := Kd.R_elem h U.z37 (i : Int) (by omega) (by omega)
  obtain rfl := U.k37_openM hM
  have h1 := (Kd.R_seg h (i : Int) (by omega) (by omega) (seg := [.string y.f0, y.f1.1]) (j := 0) hcl hcc (show 2 ≤ 2 from by decide) (x' := y) (U.k37_mkM _ _ _ y) (fun _ hk => hk)).1
  obtain ⟨c2, hcl2, hM2, hcc2, hfr2⟩ := Kd.R_elem h1 U.z37 (k : Int) (by omega) (by omega)
  obtain rfl := U.k37_openM hM2
  have h2 := (Kd.R_seg h1 (k : Int) (by omega) (by omega) (seg := [.string x.f0, x.f1.1]) (j := 0) hcl2 hcc2 (show 2 ≤ 2 from by decide) (x' := x) (U.k37_mkM _ _ _ x) (fun _ hk => hk)).1
  have e : swapAt l i k = (l.set i y).set k x := by unfold swapAt; rw [hx, hy]
  rw [e]
  exact h2
theorem U.swapF {w : World} {base g n cap : Nat} {ok : Nat → Prop} {l : List U.S37} (h : Kd.R U.k37 37 w base ok (.slice (some ⟨g, 0, none⟩) n cap) l) {i : Nat} {x : U.S37} (hx : l[i]? = some x) :
    w.cell? ⟨g, i * 2, none⟩ = some (.string x.f0) ∧ w.cell? ⟨g, i * 2 + 1, none⟩ = some x.f1.1 ∧ ∀ j, w.frozen? ⟨g, j, none⟩ = false := by
  have hn := (Kd.R_reads' h).1
  have hi : i < l.length := (List.getElem?_eq_some_iff.1 hx).1
  obtain ⟨c, hcl, hM, hcc, hfr⟩ := Kd.R_elem h U.z37 (i : Int) (by omega) (by omega)
  obtain rfl := U.k37_openM hM
  have e : l.getD (i : Int).toNat U.z37 = x := by rw [Int.toNat_natCast, List.getD_eq_getElem?_getD, hx]; rfl
  rw [e] at hcc
  obtain ⟨g', _, e1, _, _, cells, hb⟩ := Kd.R_form h (by omega)
  injection e1 with e1
  injection e1 with e1
  injection e1 with e1
  subst e1
  exact ⟨hcc 0 _ rfl, hcc 1 _ rfl, fun j => by simp only [World.frozen?, hb]; rfl⟩
namespace U
theorem ev_own_l (l : List S47) (hl : l.length < 1000000) (hf : ∀ x ∈ l, x.f1.length < 1000000) : ∀ (B A : List S47), l = A ++ B → Ev (fun k => cavilref05_own.l0 k l A (A.length : Int)) l
  | [], A, h => by
    subst h
    refine ev_succ ?_; simp only [cavilref05_own.l0]
    exact ev_neg (by simp) (ev_now (by simp))
  | b :: B, A, h => by
    have hA : A.length < l.length := by rw [h]; simp
    have g : rd_T47 l (A.length : Int) = b := by
      unfold rd_T47; rw [h, Int.toNat_natCast]; exact get_fst _ _ _ _
    have hb := hf b (by rw [h]; simp)
    refine ev_succ ?_; simp only [cavilref05_own.l0, g]
    refine ev_pos (by omega) (ev_pos (by omega) (ev_some (a := ([] : List S37)) (ev_pos (by simp; omega) (ev_pos (by omega) ?_))))
    have e1 : wrap64 ((A.length : Int) + 1) = ((A ++ [b]).length : Int) := by rw [w64 (by omega) (by omega)]; simp
    rw [e1, List.nil_append]
    exact ev_own_l l hl hf B (A ++ [b]) (by rw [h]; simp)
end U
theorem own_calls {A0 : Option Addr} {c0 : Nat} {xs : List U.S47} {w : World} (hr : Kd.C U.k47 w A0 xs.length xs) (hc : xs.length ≤ c0) (hl : xs.length < 1000000) (hf : ∀ x ∈ xs, x.f1.length < 1000000) :
    Calls Tryd.prog 31 #[.slice A0 xs.length c0] w fun e w' => ∃ v D, e = .returned v ∧ D.map Prod.fst = xs ∧ Deep w' w.heap.size v D ∧ Below w.heap.size w w' := by
  obtain ⟨k, hk⟩ := U.ev_own_l xs hl hf xs [] rfl
  refine (U.cavilref05_own.calls k A0 c0 xs xs w hr hc (hk k (Nat.le_refl _))).mono ?_
  rintro e w' ⟨v, rfl, hS, hb⟩
  obtain ⟨D, hD, h⟩ := Deep.of_S hS
  exact ⟨v, D, rfl, hD, h, hb⟩
/-- Four stores into one block. -/
theorem kept4 {w : World} {g a b c d : Nat} (u1 u2 u3 u4 : Value) : Kept w ((((w.setCell ⟨g, a, none⟩ u1).setCell ⟨g, b, none⟩ u2).setCell ⟨g, c, none⟩ u3).setCell ⟨g, d, none⟩ u4).drew (fun k => some k = some g) :=
  (((((Kept.refl w (fun k => some k = some g)).setCell (p := ⟨g, a, none⟩) (.inl rfl) u1).setCell (p := ⟨g, b, none⟩) (.inl rfl) u2).setCell (p := ⟨g, c, none⟩) (.inl rfl) u3).setCell (p := ⟨g, d, none⟩) (.inl rfl) u4).drew
theorem below4 {w0 w : World} {g a b c d : Nat} (hB : Below w0.heap.size w0 w) (hg : w0.heap.size ≤ g) (u1 u2 u3 u4 : Value) : Below w0.heap.size w0 ((((w.setCell ⟨g, a, none⟩ u1).setCell ⟨g, b, none⟩ u2).setCell ⟨g, c, none⟩ u3).setCell ⟨g, d, none⟩ u4).drew :=
  below_drew1 (below_set (below_set (below_set (below_set hB hg) hg) hg) hg)
theorem Deep.swap {w : World} {base g n c : Nat} {D : List Dp} (h : Deep w base (.slice (some ⟨g, 0, none⟩) n c) D) {i k : Nat} {x y : Dp} (hx : D[i]? = some x) (hy : D[k]? = some y) :
    Deep ((((w.setCell ⟨g, i * 2, none⟩ (.string y.1.f0)).setCell ⟨g, i * 2 + 1, none⟩ y.2.1).setCell ⟨g, k * 2, none⟩ (.string x.1.f0)).setCell ⟨g, k * 2 + 1, none⟩ x.2.1).drew base (.slice (some ⟨g, 0, none⟩) n c) (swapAt D i k) := by
  have hsw := V.swapR h.row (x := vp x) (y := vp y) (i := i) (k := k) (by rw [List.getElem?_map, hx]; rfl) (by rw [List.getElem?_map, hy]; rfl)
  have hp := swapAt_perm D i k
  refine ⟨?_, fun d hd => ?_, apart_perm hp.symm h.apart⟩
  · rw [← swapAt_map]; exact Kd.R_drew hsw
  · have hd' := hp.mem_iff.1 hd
    exact Kd.R_kept (h.ins d hd') (kept4 _ _ _ _) (fun k hk => h.ne hd' k hk)
theorem Deep.swapIn {w : World} {base g n c : Nat} {v : Value} {E : List Dp} {i : Nat} {d : Dp} (h : Deep w base v E) (hd : E[i]? = some d) (hv : d.2.1 = .slice (some ⟨g, 0, none⟩) n c) {j k : Nat} {x y : U.S37} (hx : d.1.f1[j]? = some x) (hy : d.1.f1[k]? = some y) :
    Deep ((((w.setCell ⟨g, j * 2, none⟩ (.string y.f0)).setCell ⟨g, j * 2 + 1, none⟩ y.f1.1).setCell ⟨g, k * 2, none⟩ (.string x.f0)).setCell ⟨g, k * 2 + 1, none⟩ x.f1.1).drew base v (E.set i (⟨d.1.f0, swapAt d.1.f1 j k⟩, d.2)) := by
  have hin := h.ins d (List.mem_of_getElem? hd)
  rw [hv] at hin
  have hsw := U.swapR hin hx hy
  have ho : d.own = some g := by show d.2.1.ownBlock = some g; rw [hv]; rfl
  refine h.set hd (ok := fun k => some k = d.own) (by rw [hv]; exact Kd.R_drew hsw) ?_
  rw [ho]
  exact kept4 _ _ _ _
set_option maxRecDepth 100000 in
set_option maxHeartbeats 4000000 in
theorem refPermute_calls (A0 : Option Addr) (c0 : Nat) (xs : List U.S47) (A1 : Option Addr) (c1 : Nat) (p : List Int) (w : World) (hp : Kd.C (Kd.int .i64) w A1 p.length p) (hpc : p.length ≤ c1) (hpl : p.length < 1000000) (hr : Kd.C U.k47 w A0 xs.length xs) (hc : xs.length ≤ c0) (hl : xs.length < 20) (hf : ∀ x ∈ xs, x.f1.length < 20) :
    Calls Tryd.prog 15 #[.slice A0 xs.length c0, .slice A1 p.length c1] w fun e w' => ∃ v D, e = .returned v ∧ D.map Prod.fst = permL xs p ∧ Deep w' w.heap.size v D ∧ Below w.heap.size w w' := by
  have how := own_calls hr hc (by omega) (fun x hx => by have := hf x hx; omega)
  have HF := Aside0.mk (And.intro hl hf)
  have HPK := Aside0.mk (And.intro hp (And.intro hpc hpl))
  clear hr hc hl hf hp hpc hpl
  go_enter Tryd.func15, Tryd.ntmps15
  go_wp2_with (go_at_call 31; (with_reducible refine how.mono ?_))
  rintro e w1 ⟨v, D0, rfl, hD, hdp, hb⟩
  obtain ⟨A, c, rfl⟩ := hdp.slice
  have HD := Aside0.mk hD
  have HDP := Aside0.mk hdp
  have HB := Aside0.mk hb
  have HL0 : Aside0 (D0.length < 20) := ⟨by have h1 := congrArg List.length hD; rw [List.length_map] at h1; have := HF.out.1; omega⟩
  obtain ⟨n, hn⟩ : ∃ n, D0.length = n := ⟨_, rfl⟩
  rw [hn] at HL0
  have HN := Aside0.mk hn
  rw [hn]
  clear how hD hdp hb hn
  go_wp2
  (try simp only [Act.put, List.setIfInBounds_toArray, List.set_cons_zero, List.set_cons_succ])
  go_loopg [6, 7] (n + 1) (fun kq v6 v7 wr => ∃ (i : Nat) (D' : List Dp), v6 = .int .i64 i ∧ Aside0 (i ≤ n ∧ kq = n + 1 - i ∧ D'.length = n) ∧ Aside0 (refG kq i D' p = permG (n + 1) 0 D0 p) ∧ Aside0 (Deep wr w.heap.size (.slice A n c) D') ∧ Aside0 (Below w.heap.size w wr))
  case atStart => exact ⟨0, D0, rfl, ⟨Nat.zero_le _, rfl, HN.out⟩, ⟨refG_eq _ _ _ _⟩, ⟨by have := HDP.out; rw [HN.out] at this; exact this⟩, HB⟩
  case round =>
    obtain ⟨i, D', rfl, HI, HG, HP, HB1⟩ := hrel
    by_cases ci : i < n
    · have g1 : decide ((i : Int) < (n : Int)) = true := decide_eq_true (by omega)
      have g1n : decide (i < n) = true := decide_eq_true ci
      have hk := kR_lt n i p ci
      obtain ⟨k, hke⟩ : ∃ k, kR n i p = k := ⟨_, rfl⟩
      rw [hke] at hk
      have HK := Aside0.mk hke
      have hto := fun (W : World) (hC : Kd.C (Kd.int .i64) W A1 p.length p) => U.cavilref05_to.calls (i : Int) (n : Int) A1 c1 p (k : Int) W hC HPK.out.2.1 (by rw [to_ev n i p ci (by have := HL0.out; omega) HPK.out.2.2, hke])
      have htw := hto wr (Kd.C_below HPK.out.1 HB1.out)
      have HCI := Aside0.mk (And.intro ci hk)
      clear hto hke hk ci
      go_wp2_with (go_at_call 32; (with_reducible refine htw.mono ?_))
      clear htw
      rintro e w2 ⟨rfl, m2, rfl⟩
      have HP2 := Aside0.mk (HP.out.below (pw_below_drewN (Below.refl _ _) m2))
      have HB2 := Aside0.mk (pw_below_drewN HB1.out m2)
      generalize wr.drewN m2 = w2 at HP2 HB2 ⊢
      have hnl : D'.length = n := HI.out.2.2
      obtain ⟨x, hx⟩ : ∃ x, D'[i]? = some x := ⟨_, List.getElem?_eq_getElem (by have := HCI.out.1; omega)⟩
      obtain ⟨y, hy⟩ : ∃ y, D'[k]? = some y := ⟨_, List.getElem?_eq_getElem (by have := HCI.out.2; omega)⟩
      have hdrow : Deep w2 w.heap.size (.slice A n c) D' := HP2.out
      obtain ⟨g, cap, eg, _⟩ := Kd.R_form hdrow.row (by rw [List.length_map]; have := HCI.out.1; omega)
      injection eg with eg en ec
      clear en
      subst eg
      subst ec
      have hx' : (D'.map vp)[i]? = some (vp x) := by rw [List.getElem?_map, hx]; rfl
      have hy' : (D'.map vp)[k]? = some (vp y) := by rw [List.getElem?_map, hy]; rfl
      have hsw := hdrow.swap hx hy
      obtain ⟨x0, x1, hfr⟩ := V.swapF hdrow.row hx'
      obtain ⟨y0, y1, _⟩ := V.swapF hdrow.row hy'
      have HS := Aside0.mk (And.intro hdrow (And.intro hx hy))
      have HSW := Aside0.mk hsw
      obtain ⟨s1, t1⟩ := cell?_setCell_some (p := ⟨g, i * 2, none⟩) (x := .string (vp y).f0) x1
      obtain ⟨s2a, t2a⟩ := cell?_setCell_some (p := ⟨g, i * 2, none⟩) (x := .string (vp y).f0) y0
      obtain ⟨s2, t2⟩ := cell?_setCell_some (p := ⟨g, i * 2 + 1, none⟩) (x := (vp y).f1.1) t2a
      obtain ⟨s3a, t3a⟩ := cell?_setCell_some (p := ⟨g, i * 2, none⟩) (x := .string (vp y).f0) y1
      obtain ⟨s3b, t3b⟩ := cell?_setCell_some (p := ⟨g, i * 2 + 1, none⟩) (x := (vp y).f1.1) t3a
      obtain ⟨s3, t3⟩ := cell?_setCell_some (p := ⟨g, k * 2, none⟩) (x := .string (vp x).f0) t3b
      have q1 : ((i : Int) < (n : Int)) = True := eq_true (by have := HCI.out.1; omega)
      have q2 : ((k : Int) < (n : Int)) = True := eq_true (by have := HCI.out.2; omega)
      have q1n : (i < n) = True := eq_true (by have := HCI.out.1; omega)
      have q2n : (k < n) = True := eq_true (by have := HCI.out.2; omega)
      have q3 : (0 ≤ (i : Int)) = True := eq_true (by omega)
      have q4 : (0 ≤ (k : Int)) = True := eq_true (by omega)
      clear hdrow hx hy hx' hy' hsw t2a t3a t3b hnl
      simp only [vp] at x0 x1 y0 y1 t1 t2 t3
      go_wp2
      go_region
      have hgb : w.heap.size ≤ g := Kd.R_base HS.out.1.row g rfl
      have HBN := Aside0.mk (below4 (a := i * 2) (b := i * 2 + 1) (c := k * 2) (d := k * 2 + 1) HB2.out hgb (.string y.1.f0) y.2.1 (.string x.1.f0) x.2.1)
      clear x0 x1 hfr y0 y1 t1 t2 t3 hgb
      generalize ((((w2.setCell ⟨g, i * 2, none⟩ (.string y.1.f0)).setCell ⟨g, i * 2 + 1, none⟩ y.2.1).setCell ⟨g, k * 2, none⟩ (.string x.1.f0)).setCell ⟨g, k * 2 + 1, none⟩ x.2.1).drew = w4 at HSW HBN ⊢
      go_wp2
      go_roundg (gk - 1)
      case measure => have := HI.out; have := HCI.out.1; omega
      case rel =>
        refine ⟨i + 1, swapAt D' i k, by have := HL0.out; have := HCI.out.1; rw [w64 (by omega) (by omega), Int.natCast_succ], ⟨by have := HCI.out.1; omega, by have := HI.out.2; omega, by rw [swapAt_len]; exact HI.out.2.2⟩, ⟨?_⟩, HSW, HBN⟩
        obtain ⟨m, hm⟩ : ∃ m, gk = m + 1 := ⟨gk - 1, by have := HI.out; have := HCI.out.1; omega⟩
        have hG := HG.out
        subst hm
        simp only [refG] at hG
        rw [HI.out.2.2, if_pos HCI.out.1, HK.out] at hG
        exact hG
    · have g1 : decide ((i : Int) < (n : Int)) = false := decide_eq_false (by omega)
      have g1n : decide (i < n) = false := decide_eq_false ci
      have hi : i = n := by have := HI.out.1; omega
      subst hi
      have hG := HG.out
      have hk1 : gk = 1 := by have := HI.out; omega
      subst hk1
      simp only [refG] at hG
      rw [HI.out.2.2, if_neg (Nat.lt_irrefl _)] at hG
      have HG2 := Aside0.mk hG
      have HNL := Aside0.mk HI.out.2.2
      clear hG HG HI ci g1 g1n
      have HFL : Aside0 (∀ d ∈ D', d.1.f1.length < 20) := ⟨by
        intro d hd
        have h2 : D' = perm D0 p := HG2.out.trans (by unfold perm; rw [HN.out])
        rw [h2] at hd
        refine HF.out.2 d.1 ?_
        rw [← HD.out]
        exact List.mem_map_of_mem ((perm_perm D0 p).mem_iff.1 hd)⟩
      go_wp2
      (try simp only [Act.put, List.setIfInBounds_toArray, List.set_cons_zero, List.set_cons_succ])
      go_loopg [8, 9, 10, 11] (i + 1) (fun kq v8 v9 v10 v11 wr => ∃ q : Nat, v8 = .int .i64 q ∧ Aside0 (q ≤ i ∧ kq = i + 1 - q) ∧ Aside0 (Deep wr w.heap.size (.slice A i c) (((D'.take q).map (fun d => (pF p d.1, d.2))) ++ D'.drop q)) ∧ Aside0 (Below w.heap.size w wr))
      case atStart => exact ⟨0, rfl, ⟨Nat.zero_le _, rfl⟩, ⟨by simpa using HP.out⟩, HB1⟩
      case round =>
        obtain ⟨q, rfl, HI, HP2, HB2⟩ := hrel
        by_cases cq : q < i
        · obtain ⟨d, hd⟩ : ∃ d, D'[q]? = some d := ⟨_, List.getElem?_eq_getElem (by have := HNL.out; omega)⟩
          have hd2 : (((D'.take q).map (fun d => (pF p d.1, d.2))) ++ D'.drop q)[q]? = some d := by
            have h1 : ((D'.take q).map (fun d : Dp => ((pF p d.1, d.2) : Dp))).length = q := by rw [List.length_map, List.length_take]; have := HNL.out; omega
            rw [List.getElem?_append_right (by omega), h1, Nat.sub_self, List.getElem?_drop]; simpa using hd
          obtain ⟨E, hE⟩ : ∃ E, E = ((D'.take q).map (fun d : Dp => ((pF p d.1, d.2) : Dp))) ++ D'.drop q := ⟨_, rfl⟩
          rw [← hE] at HP2 hd2
          obtain ⟨ad, rfl, a0, a1⟩ := HP2.out.at_ hd2
          obtain ⟨A9, c9, e9⟩ := Kd.R_slice (HP2.out.ins d (List.mem_of_getElem? hd2))
          rw [e9] at a1
          obtain ⟨m, hm⟩ : ∃ m, d.1.f1.length = m := ⟨_, rfl⟩
          rw [hm] at a1 e9
          have g1 : decide ((q : Int) < (i : Int)) = true := decide_eq_true (by omega)
          have g1n : decide (q < i) = true := decide_eq_true cq
          have d1 : ((q : Int) < (i : Int)) = True := eq_true (by omega)
          have d1n : (q < i) = True := eq_true cq
          have d0 : (0 ≤ (q : Int)) = True := eq_true (by omega)
          have HX := Aside0.mk (And.intro hE (And.intro hd2 (And.intro hd (And.intro hm (And.intro e9 cq)))))
          have HML : Aside0 (m < 20) := ⟨by rw [← hm]; exact HFL.out d (List.mem_of_getElem? hd)⟩
          clear hE hd2 hd hm e9 cq
          go_wp2
          (try simp only [Act.put, List.setIfInBounds_toArray, List.set_cons_zero, List.set_cons_succ])
          go_loopg [10, 11] (m + 1) (fun kq v10 v11 wr => ∃ (j : Nat) (F' : List U.S37), v10 = .int .i64 j ∧ Aside0 (j ≤ m ∧ kq = m + 1 - j ∧ F'.length = m) ∧ Aside0 (refG kq j F' p = permG (m + 1) 0 d.1.f1 p) ∧ Aside0 (Deep wr w.heap.size (.slice (some ad) i c) (E.set q (⟨d.1.f0, F'⟩, d.2))) ∧ Aside0 (Below w.heap.size w wr))
          case atStart => exact ⟨0, d.1.f1, rfl, ⟨Nat.zero_le _, rfl, HX.out.2.2.2.1⟩, ⟨refG_eq _ _ _ _⟩, ⟨by
            have e : E.set q (⟨d.1.f0, d.1.f1⟩, d.2) = E := by
              apply List.ext_getElem?
              intro z
              by_cases cz : q = z
              · subst cz
                rw [List.getElem?_set_self (List.getElem?_eq_some_iff.1 HX.out.2.1).1, HX.out.2.1]
              · rw [List.getElem?_set_ne cz]
            rw [e]
            exact HP2.out⟩, HB2⟩
          case round =>
            obtain ⟨j, F', rfl, HJ, HG3, HP3, HB3⟩ := hrel
            by_cases cj : j < m
            · have g2 : decide ((j : Int) < (m : Int)) = true := decide_eq_true (by omega)
              have g2n : decide (j < m) = true := decide_eq_true cj
              have hk := kR_lt m j p cj
              obtain ⟨k, hke⟩ : ∃ k, kR m j p = k := ⟨_, rfl⟩
              rw [hke] at hk
              have HK := Aside0.mk hke
              have htw := U.cavilref05_to.calls (j : Int) (m : Int) A1 c1 p (k : Int) wr (Kd.C_below HPK.out.1 HB3.out) HPK.out.2.1 (by rw [to_ev m j p cj (by have := HML.out; omega) HPK.out.2.2, hke])
              have HCJ := Aside0.mk (And.intro cj hk)
              clear hke hk cj
              go_wp2_with (go_at_call 32; (with_reducible refine htw.mono ?_))
              clear htw
              rintro e w2 ⟨rfl, m2, rfl⟩
              have HP4 := Aside0.mk (HP3.out.below (pw_below_drewN (Below.refl _ _) m2))
              have HB4 := Aside0.mk (pw_below_drewN HB3.out m2)
              generalize wr.drewN m2 = w2 at HP4 HB4 ⊢
              have hd' : (E.set q ((⟨d.1.f0, F'⟩, d.2) : Dp))[q]? = some (⟨d.1.f0, F'⟩, d.2) := List.getElem?_set_self (List.getElem?_eq_some_iff.1 HX.out.2.1).1
              obtain ⟨x, hx⟩ : ∃ x, F'[j]? = some x := ⟨_, List.getElem?_eq_getElem (by have := HCJ.out.1; have := HJ.out.2.2; omega)⟩
              obtain ⟨y, hy⟩ : ∃ y, F'[k]? = some y := ⟨_, List.getElem?_eq_getElem (by have := HCJ.out.2; have := HJ.out.2.2; omega)⟩
              have hin := HP4.out.ins _ (List.mem_of_getElem? hd')
              obtain ⟨g, cap, eg, _⟩ := Kd.R_form hin (by show 0 < F'.length; have := HCJ.out.1; have := HJ.out.2.2; omega)
              have he9 := HX.out.2.2.2.2.1
              have eg2 : Value.slice A9 m c9 = .slice (some ⟨g, 0, none⟩) F'.length cap := he9.symm.trans eg
              injection eg2 with eg2 en ec
              clear en he9 eg
              subst eg2
              subst ec
              have hsw := HP4.out.swapIn hd' HX.out.2.2.2.2.1 hx hy
              rw [List.set_set] at hsw
              have he9 := HX.out.2.2.2.2.1
              rw [show ((⟨d.1.f0, F'⟩, d.2) : Dp).2.1 = d.2.1 from rfl, he9] at hin
              obtain ⟨x0, x1, hfr⟩ := U.swapF hin hx
              obtain ⟨y0, y1, _⟩ := U.swapF hin hy
              have hgb : w.heap.size ≤ g := Kd.R_base hin g rfl
              have HS := Aside0.mk (And.intro hx (And.intro hy hgb))
              have HSW := Aside0.mk hsw
              obtain ⟨s1, t1⟩ := cell?_setCell_some (p := ⟨g, j * 2, none⟩) (x := .string y.f0) x1
              obtain ⟨s2a, t2a⟩ := cell?_setCell_some (p := ⟨g, j * 2, none⟩) (x := .string y.f0) y0
              obtain ⟨s2, t2⟩ := cell?_setCell_some (p := ⟨g, j * 2 + 1, none⟩) (x := y.f1.1) t2a
              obtain ⟨s3a, t3a⟩ := cell?_setCell_some (p := ⟨g, j * 2, none⟩) (x := .string y.f0) y1
              obtain ⟨s3b, t3b⟩ := cell?_setCell_some (p := ⟨g, j * 2 + 1, none⟩) (x := y.f1.1) t3a
              obtain ⟨s3, t3⟩ := cell?_setCell_some (p := ⟨g, k * 2, none⟩) (x := .string x.f0) t3b
              have q1 : ((j : Int) < (m : Int)) = True := eq_true (by have := HCJ.out.1; omega)
              have q2 : ((k : Int) < (m : Int)) = True := eq_true (by have := HCJ.out.2; omega)
              have q1n : (j < m) = True := eq_true (by have := HCJ.out.1; omega)
              have q2n : (k < m) = True := eq_true (by have := HCJ.out.2; omega)
              have q3 : (0 ≤ (j : Int)) = True := eq_true (by omega)
              have q4 : (0 ≤ (k : Int)) = True := eq_true (by omega)
              clear hd' hx hy hin hsw t2a t3a t3b he9 hgb
              go_wp2
              go_region
              have HBN := Aside0.mk (below4 (a := j * 2) (b := j * 2 + 1) (c := k * 2) (d := k * 2 + 1) HB4.out HS.out.2.2 (.string y.f0) y.f1.1 (.string x.f0) x.f1.1)
              clear x0 x1 hfr y0 y1 t1 t2 t3
              generalize ((((w2.setCell ⟨g, j * 2, none⟩ (.string y.f0)).setCell ⟨g, j * 2 + 1, none⟩ y.f1.1).setCell ⟨g, k * 2, none⟩ (.string x.f0)).setCell ⟨g, k * 2 + 1, none⟩ x.f1.1).drew = w4 at HSW HBN ⊢
              go_wp2
              go_roundg (gk - 1)
              case measure => have := HJ.out; have := HCJ.out.1; omega
              case rel =>
                refine ⟨j + 1, swapAt F' j k, by have := HML.out; have := HCJ.out.1; rw [w64 (by omega) (by omega), Int.natCast_succ], ⟨by have := HCJ.out.1; omega, by have := HJ.out.2; omega, by rw [swapAt_len]; exact HJ.out.2.2⟩, ⟨?_⟩, HSW, HBN⟩
                obtain ⟨z, hz⟩ : ∃ z, gk = z + 1 := ⟨gk - 1, by have := HJ.out; have := HCJ.out.1; omega⟩
                have hG := HG3.out
                subst hz
                simp only [refG] at hG
                rw [HJ.out.2.2, if_pos HCJ.out.1, HK.out] at hG
                exact hG
            · have g2 : decide ((j : Int) < (m : Int)) = false := decide_eq_false (by omega)
              have g2n : decide (j < m) = false := decide_eq_false cj
              have hj : j = m := by have := HJ.out.1; omega
              have hG := HG3.out
              have hk1 : gk = 1 := by have := HJ.out; omega
              rw [hk1, hj] at hG
              simp only [refG] at hG
              rw [HJ.out.2.2, if_neg (Nat.lt_irrefl _)] at hG
              have HE2 : Aside0 (Deep wr w.heap.size (.slice (some ad) i c) (((D'.take (q + 1)).map (fun d => (pF p d.1, d.2))) ++ D'.drop (q + 1))) := ⟨by
                have e := map_set_next (fun d : Dp => ((pF p d.1, d.2) : Dp)) D' q d HX.out.2.2.1
                rw [← e, ← HX.out.1]
                have e2 : pF p d.1 = ⟨d.1.f0, F'⟩ := by rw [hG]; show (⟨d.1.f0, perm d.1.f1 p⟩ : U.S47) = _; unfold perm; rw [HX.out.2.2.2.1]
                rw [e2]
                exact HP3.out⟩
              clear hG hk1 hj cj
              go_wp2
              go_roundg (i - q)
              case measure => have := HI.out; have := HX.out.2.2.2.2.2; omega
              case rel => exact ⟨q + 1, by have := HL0.out; have := HX.out.2.2.2.2.2; rw [w64 (by omega) (by omega), Int.natCast_succ], ⟨by have := HX.out.2.2.2.2.2; omega, by omega⟩, HE2, HB3⟩
        · have g1 : decide ((q : Int) < (i : Int)) = false := decide_eq_false (by omega)
          have g1n : decide (q < i) = false := decide_eq_false cq
          have hq : q = i := by have := HI.out.1; omega
          subst hq
          go_wp2
          go_ret
          refine ⟨_, _, rfl, ?_, HP2.out, HB2.out⟩
          rw [← HNL.out, List.take_length, List.drop_length, List.append_nil, List.map_map]
          show D'.map (fun d => pF p d.1) = permL xs p
          unfold permL
          rw [← HD.out, perm_map Prod.fst D0 p, List.map_map]
          have h2 : D' = perm D0 p := HG2.out.trans (by unfold perm; rw [HN.out])
          rw [h2]
          rfl
end Go.Proofs.YteakcggbolfelaaDoor
