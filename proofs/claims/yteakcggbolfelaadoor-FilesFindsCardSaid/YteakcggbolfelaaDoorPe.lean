/-
  files.Permute: the packages change places by the picks, and each package's files.
-/
import Derived.Test.YteakcggbolfelaaDoorOr
namespace Go.Proofs.YteakcggbolfelaaDoor
open Go.RowKit Go.Proofs.YteakcggbolfelaaDoorW.PrintWords Go.Proofs.YteakcggbolfelaaDoorW.PrintLast Go.Proofs.YteakcggbolfelaaDoorW.PrintMore Go.Proofs.YteakcggbolfelaaDoor.Srt
set_option linter.unusedVariables false
set_option linter.unusedSimpArgs false
attribute [local go_sem] run_store_vl
section
variable {α β : Type}
def swapAt (l : List α) (i k : Nat) : List α := match l[i]?, l[k]? with
  | some a, some b => (l.set i b).set k a
  | _, _ => l
theorem swapAt_len (l : List α) (i k : Nat) : (swapAt l i k).length = l.length := by
  unfold swapAt
  split <;> simp
theorem swapAt_map (f : α → β) (l : List α) (i k : Nat) : swapAt (l.map f) i k = (swapAt l i k).map f := by
  unfold swapAt
  rw [List.getElem?_map, List.getElem?_map]
  cases l[i]? <;> cases l[k]? <;> simp [List.map_set]
theorem swapAt_eq (l : List α) (i k : Nat) (hi : i < l.length) (hk : k < l.length) (z : α) : swapAt l i k = (l.set i (l.getD k z)).set k (l.getD i z) := by
  unfold swapAt
  rw [List.getD_eq_getElem?_getD, List.getD_eq_getElem?_getD, List.getElem?_eq_getElem hi, List.getElem?_eq_getElem hk]
  rfl
theorem set_perm : ∀ (l : List α) (i : Nat) (h : i < l.length) (y : α), (l[i] :: l.set i y).Perm (y :: l)
  | x :: t, 0, _, y => by simpa using List.Perm.swap y x t
  | x :: t, i + 1, h, y => by
    simp only [List.getElem_cons_succ, List.set_cons_succ]
    have ih := set_perm t i (by simpa using h) y
    exact (List.Perm.swap _ _ _).trans ((ih.cons x).trans (List.Perm.swap _ _ _))
theorem swapAt_perm (l : List α) (i k : Nat) : (swapAt l i k).Perm l := by
  unfold swapAt
  split
  · rename_i a b ha hb
    obtain ⟨hi, rfl⟩ := List.getElem?_eq_some_iff.1 ha
    obtain ⟨hk, rfl⟩ := List.getElem?_eq_some_iff.1 hb
    have h1 := set_perm l i hi l[k]
    have h2 := set_perm (l.set i l[k]) k (by rw [List.length_set]; exact hk) l[i]
    have e : (l.set i l[k])[k]'(by rw [List.length_set]; exact hk) = l[k] := by
      by_cases c : i = k
      · subst c; simp
      · rw [List.getElem_set_ne c]
    rw [e] at h2
    exact (List.perm_cons l[k]).1 (h2.trans h1)
  · exact List.Perm.refl _
/-- Where i changes to, of n, by a pick. -/
def kAt (n i : Nat) (p : Int) : Nat := i + ((p.tmod ((n : Int) - i) + ((n : Int) - i)).tmod ((n : Int) - i)).toNat
theorem kAt_lt (n i : Nat) (p : Int) (h : i < n) : kAt n i p < n := by
  unfold kAt
  have h0 : (0 : Int) < (n : Int) - i := by omega
  have h1 := Int.tmod_lt_of_pos p h0
  have h2 : -((n : Int) - i) < p.tmod ((n : Int) - i) := by
    have := Int.neg_tmod p ((n : Int) - i)
    have h3 := Int.tmod_lt_of_pos (-p) h0
    omega
  have h3 : 0 ≤ p.tmod ((n : Int) - i) + ((n : Int) - i) := by omega
  have h4 := Int.tmod_nonneg ((n : Int) - i) h3
  have h5 := Int.tmod_lt_of_pos (p.tmod ((n : Int) - i) + ((n : Int) - i)) h0
  omega
def permG : Nat → Nat → List α → List Int → List α
  | 0, _, l, _ => l
  | m + 1, i, l, p => if i < l.length ∧ i < p.length then permG m (i + 1) (swapAt l i (kAt l.length i (p.getD i 0))) p else l
def perm (l : List α) (p : List Int) : List α := permG (l.length + 1) 0 l p
theorem permG_map (f : α → β) (p : List Int) : ∀ (m i : Nat) (l : List α), permG m i (l.map f) p = (permG m i l p).map f
  | 0, _, _ => rfl
  | m + 1, i, l => by
    simp only [permG, List.length_map]
    split
    · rw [swapAt_map, permG_map f p m]
    · rfl
theorem perm_map (f : α → β) (l : List α) (p : List Int) : perm (l.map f) p = (perm l p).map f := by
  unfold perm
  rw [List.length_map]; exact permG_map f p _ _ _
theorem permG_perm (p : List Int) : ∀ (m i : Nat) (l : List α), (permG m i l p).Perm l
  | 0, _, _ => List.Perm.refl _
  | m + 1, i, l => by
    simp only [permG]
    split
    · exact (permG_perm p m _ _).trans (swapAt_perm _ _ _)
    · exact List.Perm.refl _
theorem perm_perm (l : List α) (p : List Int) : (perm l p).Perm l := permG_perm p _ _ _
end
theorem kAt_wrap (n i : Nat) (p : Int) (h : i < n) (hn : n < 1000000) :
    wrap64 ((n : Int) - i) = (n : Int) - i ∧ wrap64 (p.tmod ((n : Int) - i) + ((n : Int) - i)) = p.tmod ((n : Int) - i) + ((n : Int) - i) ∧
      wrap64 ((i : Int) + (p.tmod ((n : Int) - i) + ((n : Int) - i)).tmod ((n : Int) - i)) = (kAt n i p : Int) := by
  have h0 : (0 : Int) < (n : Int) - i := by omega
  have h1 := Int.tmod_lt_of_pos p h0
  have h2 : -((n : Int) - i) < p.tmod ((n : Int) - i) := by
    have := Int.neg_tmod p ((n : Int) - i)
    have h3 := Int.tmod_lt_of_pos (-p) h0
    omega
  have h3 : 0 ≤ p.tmod ((n : Int) - i) + ((n : Int) - i) := by omega
  have h4 := Int.tmod_nonneg ((n : Int) - i) h3
  have h5 := Int.tmod_lt_of_pos (p.tmod ((n : Int) - i) + ((n : Int) - i)) h0
  refine ⟨w64 (by omega) (by omega), w64 (by omega) (by omega), ?_⟩
  rw [w64 (by omega) (by omega)]
  unfold kAt
  omega
namespace V
theorem ev_swap_l (p : List Int) : ∀ (m i : Nat) (l : List S47), l.length < 1000000 → l.length + 1 ≤ i + m → Ev (fun k => api_Package_29.l0 k l p (i : Int)) (permG m i l p)
  | 0, i, l, hn, h => by
    refine ev_succ ?_; simp only [api_Package_29.l0]
    exact ev_neg (by omega) (ev_now rfl)
  | m + 1, i, l, hn, h => by
    refine ev_succ ?_; simp only [api_Package_29.l0, permG]
    by_cases c : i < l.length
    · refine ev_pos (by omega) ?_
      by_cases d : i < p.length
      · rw [if_pos ⟨c, d⟩]
        obtain ⟨e1, e2, e3⟩ := kAt_wrap l.length i (p.getD i 0) c hn
        have hk := kAt_lt l.length i (p.getD i 0) c
        have er : rd p (i : Int) = p.getD i 0 := by unfold rd; rw [Int.toNat_natCast]
        rw [er, e1, e2, e3]
        refine ev_pos (by omega) (ev_pos (by omega) (ev_neg (by omega) (ev_pos (by omega) (ev_pos (by omega) ?_))))
        have es := swapAt_eq l i (kAt l.length i (p.getD i 0)) c hk z47
        have ih := ev_swap_l p m (i + 1) (swapAt l i (kAt l.length i (p.getD i 0))) (by rw [swapAt_len]; exact hn) (by rw [swapAt_len]; omega)
        have e4 : wrap64 ((i : Int) + 1) = ((i + 1 : Nat) : Int) := by rw [w64 (by omega) (by omega)]; omega
        rw [e4, Int.toNat_natCast, Int.toNat_natCast]
        rw [es] at ih ⊢
        exact ih
      · rw [if_neg (fun h => d h.2)]
        exact ev_neg (by omega) (ev_now rfl)
    · rw [if_neg (fun h => c h.1)]
      exact ev_neg (by omega) (ev_now rfl)
theorem ev_swap (l : List S47) (p : List Int) (hn : l.length < 1000000) : Ev (fun k => api_Package_29.f k l p) (perm l p) := ev_swap_l p (l.length + 1) 0 l hn (by omega)
end V
namespace U
theorem ev_swap_l (p : List Int) : ∀ (m i : Nat) (l : List S37), l.length < 1000000 → l.length + 1 ≤ i + m → Ev (fun k => api_File_30.l0 k l p (i : Int)) (permG m i l p)
  | 0, i, l, hn, h => by
    refine ev_succ ?_; simp only [api_File_30.l0]
    exact ev_neg (by omega) (ev_now rfl)
  | m + 1, i, l, hn, h => by
    refine ev_succ ?_; simp only [api_File_30.l0, permG]
    by_cases c : i < l.length
    · refine ev_pos (by omega) ?_
      by_cases d : i < p.length
      · rw [if_pos ⟨c, d⟩]
        obtain ⟨e1, e2, e3⟩ := kAt_wrap l.length i (p.getD i 0) c hn
        have hk := kAt_lt l.length i (p.getD i 0) c
        have er : rd p (i : Int) = p.getD i 0 := by unfold rd; rw [Int.toNat_natCast]
        rw [er, e1, e2, e3]
        refine ev_pos (by omega) (ev_pos (by omega) (ev_neg (by omega) (ev_pos (by omega) (ev_pos (by omega) ?_))))
        have es := swapAt_eq l i (kAt l.length i (p.getD i 0)) c hk z37
        have ih := ev_swap_l p m (i + 1) (swapAt l i (kAt l.length i (p.getD i 0))) (by rw [swapAt_len]; exact hn) (by rw [swapAt_len]; omega)
        have e4 : wrap64 ((i : Int) + 1) = ((i + 1 : Nat) : Int) := by rw [w64 (by omega) (by omega)]; omega
        rw [e4, Int.toNat_natCast, Int.toNat_natCast]
        rw [es] at ih ⊢
        exact ih
      · rw [if_neg (fun h => d h.2)]
        exact ev_neg (by omega) (ev_now rfl)
    · rw [if_neg (fun h => c h.1)]
      exact ev_neg (by omega) (ev_now rfl)
theorem ev_swap (l : List S37) (p : List Int) (hn : l.length < 1000000) : Ev (fun k => api_File_30.f k l p) (perm l p) := ev_swap_l p (l.length + 1) 0 l hn (by omega)
end U
/-- Picks that came in are read as they are while what the call made is written. -/
theorem picks_kept {w0 w : World} {A1 : Option Addr} {p : List Int} {S : Nat → Prop} (hp : Kd.C (Kd.int .i64) w0 A1 p.length p) (hB : Below w0.heap.size w0 w) (hS : ∀ k, S k → w0.heap.size ≤ k) : ∀ W_, Kept w W_ S → Kd.C (Kd.int .i64) W_ A1 p.length p := fun W_ hk => by
  refine ⟨hp.1, hp.2.1, fun h => ?_⟩
  obtain ⟨ad, e, hc⟩ := hp.2.2 h
  refine ⟨ad, e, fun j x hj => ?_⟩
  obtain ⟨c, h1, h2, h3⟩ := hc j x hj
  refine ⟨c, h1, h2, fun i u hu => ?_⟩
  have h4 := h3 i u hu
  have h5 := World.block_lt_of_cell? w0 _ h4
  exact cell_kept ((hB.cell h5).trans h4) hk (fun h => by have := hS _ h; omega)
theorem own_base' {w : World} {base : Nat} {α : Type} {d : Kd α} {e : Nat} {ok : Nat → Prop} {v : Value} {xs : List α} (h : Kd.R d e w base ok v xs) (k : Nat) (hk : some k = v.ownBlock) : base ≤ k := Kd.R_base h k hk.symm
theorem permP_calls {w0 w : World} {v : Value} {D : List Dp} {A1 : Option Addr} {c1 : Nat} {p : List Int} (hB : Below w0.heap.size w0 w) (h : Deep w w0.heap.size v D) (hp : Kd.C (Kd.int .i64) w0 A1 p.length p) (hc : p.length ≤ c1) (hl : D.length < 20) :
    Calls Tryd.prog 29 #[v, .slice A1 p.length c1] w fun e w' => e = .returned (.tuple #[]) ∧ Deep w' w0.heap.size v (perm D p) ∧ Below w0.heap.size w0 w' := by
  obtain ⟨k, hk⟩ := V.ev_swap (D.map vp) p (by rw [List.length_map]; omega)
  refine (V.api_Package_29.calls k (fun k => some k = v.ownBlock) v (D.map vp) A1 c1 p _ w0 w hB h.row (picks_kept hp hB (own_base' h.row)) hc (hk k (Nat.le_refl _))).mono ?_
  rintro e w' ⟨rfl, hR, hb, hK⟩
  have hpp := perm_perm D p
  refine ⟨rfl, ⟨?_, fun d hd => ?_, apart_perm hpp.symm h.apart⟩, hb⟩
  · rw [← perm_map]; exact Kd.R_tight rfl hR
  · have hd' := hpp.mem_iff.1 hd
    exact Kd.R_kept (h.ins d hd') hK (fun k hk => h.ne hd' k hk)
theorem permF_calls {w0 w : World} {v : Value} {D : List Dp} {i : Nat} {d : Dp} {A1 : Option Addr} {c1 : Nat} {p : List Int} (hB : Below w0.heap.size w0 w) (h : Deep w w0.heap.size v D) (hd : D[i]? = some d) (hp : Kd.C (Kd.int .i64) w0 A1 p.length p) (hc : p.length ≤ c1) (hl : d.1.f1.length < 20) :
    Calls Tryd.prog 30 #[d.2.1, .slice A1 p.length c1] w fun e w' => e = .returned (.tuple #[]) ∧ Deep w' w0.heap.size v (D.set i (⟨d.1.f0, perm d.1.f1 p⟩, d.2)) ∧ Below w0.heap.size w0 w' := by
  obtain ⟨k, hk⟩ := U.ev_swap d.1.f1 p (by omega)
  have hin := h.ins d (List.mem_of_getElem? hd)
  refine (U.api_File_30.calls k (fun k => some k = d.own) d.2.1 d.1.f1 A1 c1 p _ w0 w hB hin (picks_kept hp hB (own_base' hin)) hc (hk k (Nat.le_refl _))).mono ?_
  rintro e w' ⟨rfl, hR, hb, hK⟩
  exact ⟨rfl, h.set hd hR hK, hb⟩
def pF (p : List Int) (x : U.S47) : U.S47 := ⟨x.f0, perm x.f1 p⟩
def permL (l : List U.S47) (p : List Int) : List U.S47 := (perm l p).map (pF p)
set_option maxRecDepth 100000 in
set_option maxHeartbeats 4000000 in
theorem permute_calls (A0 : Option Addr) (c0 : Nat) (xs : List U.S47) (A1 : Option Addr) (c1 : Nat) (p : List Int) (w : World) (hp : Kd.C (Kd.int .i64) w A1 p.length p) (hpc : p.length ≤ c1) (hr : Kd.C U.k47 w A0 xs.length xs) (hc : xs.length ≤ c0) (hl : xs.length < 20) (hf : ∀ x ∈ xs, x.f1.length < 20) :
    Calls Tryd.prog 13 #[.slice A0 xs.length c0, .slice A1 p.length c1] w fun e w' => ∃ v D, e = .returned v ∧ D.map Prod.fst = permL xs p ∧ Deep w' w.heap.size v D ∧ Below w.heap.size w w' := by
  have hcp := copied_calls hr hc (by omega) (fun x hx => by have := hf x hx; omega)
  have HF := Aside0.mk (And.intro hl hf)
  have HPK := Aside0.mk (And.intro hp hpc)
  clear hr hc hl hf hp hpc
  go_enter Tryd.func13, Tryd.ntmps13
  go_wp2_with (go_at_call 28; (with_reducible refine hcp.mono ?_))
  rintro e w1 ⟨v, D0, rfl, hD, hdp, hb⟩
  have hsp := permP_calls hb hdp HPK.out.1 HPK.out.2 (by have h1 := congrArg List.length hD; rw [List.length_map] at h1; have := HF.out.1; omega)
  have HD := Aside0.mk hD
  clear hcp hD hdp hb
  obtain ⟨D, hDe⟩ : ∃ D, D = perm D0 p := ⟨_, rfl⟩
  rw [← hDe] at hsp
  have HE := Aside0.mk hDe
  clear hDe
  go_wp2_with (go_at_call 29; (with_reducible refine hsp.mono ?_))
  rintro e w2 ⟨rfl, hdp, hb⟩
  obtain ⟨A, c, rfl⟩ := hdp.slice
  have HDP := Aside0.mk hdp
  have HB := Aside0.mk hb
  have HL : Aside0 (D.length < 20 ∧ ∀ d ∈ D, d.1.f1.length < 20) := ⟨by
    have hp := perm_perm D0 p
    rw [HE.out, hp.length_eq]
    have h1 := congrArg List.length HD.out
    rw [List.length_map] at h1
    refine ⟨by have := HF.out.1; omega, fun d hd => HF.out.2 d.1 ?_⟩
    rw [← HD.out]
    exact List.mem_map_of_mem (hp.mem_iff.1 hd)⟩
  clear hsp hdp hb
  go_wp2
  (try simp only [Act.put, List.setIfInBounds_toArray, List.set_cons_zero, List.set_cons_succ])
  go_loopg [15] (D.length + 1) (fun kq v15 wr => ∃ i : Nat, v15 = .int .i64 i ∧ Aside0 (i ≤ D.length ∧ kq = D.length + 1 - i) ∧ Aside0 (Deep wr w.heap.size (.slice A D.length c) (((D.take i).map (fun d => (pF p d.1, d.2))) ++ D.drop i)) ∧ Aside0 (Below w.heap.size w wr))
  case atStart => exact ⟨0, rfl, ⟨Nat.zero_le _, rfl⟩, ⟨by simpa using HDP.out⟩, HB⟩
  case round =>
    obtain ⟨i, rfl, HI, HP, HB1⟩ := hrel
    by_cases ci : i < D.length
    · obtain ⟨d, hd⟩ : ∃ d, D[i]? = some d := ⟨_, List.getElem?_eq_getElem ci⟩
      have hd2 : (((D.take i).map (fun d => (pF p d.1, d.2))) ++ D.drop i)[i]? = some d := by
        have h1 : ((D.take i).map (fun d : Dp => ((pF p d.1, d.2) : Dp))).length = i := by rw [List.length_map, List.length_take]; omega
        rw [List.getElem?_append_right (by omega), h1, Nat.sub_self, List.getElem?_drop]; simpa using hd
      obtain ⟨ad, rfl, a0, a1⟩ := HP.out.at_ hd2
      have g1 : decide ((i : Int) < (D.length : Int)) = true := decide_eq_true (by omega)
      have g1n : decide (i < D.length) = true := decide_eq_true ci
      have d1 : ((i : Int) < (D.length : Int)) = True := eq_true (by omega)
      have d0 : (0 ≤ (i : Int)) = True := eq_true (by omega)
      have HD2 := Aside0.mk hd2
      have HDI := Aside0.mk (And.intro hd ci)
      clear hd2 hd ci
      go_wp2_with fail
      have hBx := below_alloc HB1.out (.cells #[.string d.1.f0, d.2.1] 47)
      have hDx := HP.out.below (Below.alloc (Below.refl wr.heap.size wr) (Nat.le_refl _) (.cells #[.string d.1.f0, d.2.1] 47))
      have hlen : d.1.f1.length < 20 := HL.out.2 d (List.mem_of_getElem? HDI.out.1)
      have hso := permF_calls hBx hDx HD2.out HPK.out.1 HPK.out.2 hlen
      clear hBx hDx hlen
      with_reducible refine hso.mono ?_
      clear hso
      rintro e w3 ⟨rfl, hdp, hb⟩
      have HP3 := Aside0.mk hdp
      have HB3 := Aside0.mk hb
      clear hdp hb
      have hj : IntKind.i64.wrap ((i : Int) + 1) = ((i + 1 : Nat) : Int) := (i64_w _).trans (by have := HDI.out.2; have := HL.out.1; unfold wrap64; omega)
      go_wp2
      go_roundg (gk - 1)
      case measure => have := HI.out; have := HDI.out.2; omega
      case rel =>
        refine ⟨i + 1, by rw [Int.natCast_succ], ⟨by have := HDI.out.2; omega, by have := HI.out.2; omega⟩, ⟨?_⟩, HB3⟩
        have e := map_set_next (fun d : Dp => ((pF p d.1, d.2) : Dp)) D i d HDI.out.1
        rw [← e]
        exact HP3.out
    · have g1 : decide ((i : Int) < (D.length : Int)) = false := decide_eq_false (by omega)
      have g1n : decide (i < D.length) = false := decide_eq_false ci
      have hi : i = D.length := by have := HI.out.1; omega
      subst hi
      go_wp2
      go_ret
      refine ⟨_, _, rfl, ?_, HP.out, HB1.out⟩
      rw [List.take_length, List.drop_length, List.append_nil, List.map_map, HE.out]
      show (perm D0 p).map (fun d => pF p d.1) = permL xs p
      unfold permL
      rw [← HD.out, perm_map Prod.fst D0 p, List.map_map]
      rfl
end Go.Proofs.YteakcggbolfelaaDoor
