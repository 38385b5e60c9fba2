/-
  near.Near: the names that are one step away, in order, each once.
-/
import Derived.Test.YtfofgbiipppocaaDel
import Derived.Test.YtfofgbiipppocaaXS
import Derived.Sort.OwnSorted
import Derived.Lib.OwnBridge
import Derived.Sort.KeysCollected
namespace Go.Proofs.Ytfofgbiipppocaa.X
open Go.RowKit Go.Proofs.YtfofgbiipppocaaW.PrintWords Go.Proofs.YtfofgbiipppocaaW.PrintLast Go.Proofs.YtfofgbiipppocaaW.PrintMore
open Go.Proofs.Ytfofgbiipppocaa.XS Go.Sort
set_option linter.unusedVariables false
set_option linter.unusedSimpArgs false
/-- Is a name kept? -/
def nearKeep (k : Nat) (s o : ByteArray) : Bool := decide (o.size ≤ 64) && (near_Distance.f k s o == some 1)
def nearIns (x : List UInt8) : List (List UInt8) → List (List UInt8)
  | [] => [x]
  | y :: r => if x ≤ y then x :: y :: r else y :: nearIns x r
def nearSort : List (List UInt8) → List (List UInt8)
  | [] => []
  | x :: r => nearIns x (nearSort r)
def nearFin (l : List ByteArray) : List ByteArray := (Lib.compact (nearSort (l.map (·.data.toList)))).map (fun b => (⟨b.toArray⟩ : ByteArray))
def nearOne (k : Nat) (s o : ByteArray) : Bool := decide (64 < o.size) || (near_Distance.f k s o).isSome
def nearOk (k : Nat) (s : ByteArray) (l : List ByteArray) : Bool := decide (l.length < 1000000) && l.all (nearOne k s)
def near_Near.f (k : Nat) (a0 : ByteArray) (l1 : List ByteArray) : Option (List ByteArray) :=
  if 64 < a0.size then some []
  else if nearOk k a0 l1 = true then some (nearFin (l1.filter (nearKeep k a0))) else none
theorem nearIns_perm (x : List UInt8) : ∀ l, (nearIns x l).Perm (x :: l)
  | [] => List.Perm.refl _
  | y :: r => by
    unfold nearIns
    split
    · exact List.Perm.refl _
    · exact ((nearIns_perm x r).cons y).trans (List.Perm.swap x y r)
theorem nearSort_perm : ∀ l, (nearSort l).Perm l
  | [] => List.Perm.refl _
  | x :: r => (nearIns_perm x _).trans ((nearSort_perm r).cons x)
theorem nearIns_le (x : List UInt8) : ∀ l : List (List UInt8), l.Pairwise (fun a b => a ≤ b) → (nearIns x l).Pairwise (fun a b => a ≤ b)
  | [], _ => by simp [nearIns]
  | y :: r, h => by
    unfold nearIns
    split
    · rename_i c
      refine List.Pairwise.cons (fun z hz => ?_) h
      rcases List.mem_cons.1 hz with rfl | hz
      · exact c
      · exact List.le_trans c (List.rel_of_pairwise_cons h hz)
    · rename_i c
      refine List.Pairwise.cons (fun z hz => ?_) (nearIns_le x r h.of_cons)
      rcases List.mem_cons.1 ((nearIns_perm x r).mem_iff.1 hz) with rfl | hz
      · exact (List.le_total y z).resolve_right c
      · exact List.rel_of_pairwise_cons h hz
theorem nearSort_le : ∀ l : List (List UInt8), (nearSort l).Pairwise (fun a b => a ≤ b)
  | [] => List.Pairwise.nil
  | x :: r => nearIns_le x _ (nearSort_le r)
theorem nearSort_merge (l : List (List UInt8)) : (l.mergeSort fun x y => decide (x ≤ y)) = nearSort l := by
  have h := mergeSort_of_perm (nearSort_perm l).symm
  have e : (nearSort l).mergeSort (fun x y => decide (x ≤ y)) = nearSort l := List.mergeSort_of_pairwise ((nearSort_le l).imp (fun h => by simpa using h))
  exact h.trans e
theorem nearOk_all {k : Nat} {s : ByteArray} {l : List ByteArray} (h : nearOk k s l = true) : l.length < 1000000 ∧ ∀ o, o ∈ l → 64 < o.size ∨ ∃ q, near_Distance.f k s o = some q := by
  unfold nearOk at h
  rw [Bool.and_eq_true, decide_eq_true_eq] at h
  refine ⟨h.1, fun o ho => ?_⟩
  have := List.all_eq_true.1 h.2 o ho
  unfold nearOne at this
  rw [Bool.or_eq_true, decide_eq_true_eq] at this
  exact this.imp id Option.isSome_iff_exists.1
theorem nearOk_of {k : Nat} {s : ByteArray} {l : List ByteArray} (h : l.length < 1000000) (hl : ∀ o, o ∈ l → 64 < o.size ∨ ∃ q, near_Distance.f k s o = some q) : nearOk k s l = true := by
  unfold nearOk
  rw [Bool.and_eq_true, decide_eq_true_eq]
  refine ⟨h, List.all_eq_true.2 fun o ho => ?_⟩
  unfold nearOne
  rw [Bool.or_eq_true, decide_eq_true_eq]
  exact (hl o ho).imp id Option.isSome_iff_exists.2
theorem nearKeep_long {k : Nat} {s o : ByteArray} (h : 64 < o.size) : nearKeep k s o = false := by
  unfold nearKeep
  rw [decide_eq_false (show ¬ o.size ≤ 64 by omega)]; rfl
theorem nearKeep_short {k : Nat} {s o : ByteArray} {q : Int} (h : ¬ 64 < o.size) (hq : near_Distance.f k s o = some q) : nearKeep k s o = (q == 1) := by
  unfold nearKeep
  rw [decide_eq_true (show o.size ≤ 64 by omega), hq]; rfl
theorem near_Near.mono (a0 : ByteArray) (l1 : List ByteArray) (k : Nat) : LeO (near_Near.f k a0 l1) (near_Near.f (k + 1) a0 l1) := by
  intro r h
  unfold near_Near.f at h ⊢
  by_cases c : 64 < a0.size
  · rw [if_pos c] at h ⊢; exact h
  · rw [if_neg c] at h ⊢
    by_cases d : nearOk k a0 l1 = true
    · rw [if_pos d] at h
      obtain ⟨d1, d2⟩ := nearOk_all d
      have up : ∀ o, o ∈ l1 → 64 < o.size ∨ ∃ q, near_Distance.f (k + 1) a0 o = some q := fun o ho => (d2 o ho).imp id (fun ⟨q, hq⟩ => ⟨q, near_Distance.mono a0 o k q hq⟩)
      rw [if_pos (nearOk_of d1 up), ← h]
      have e : l1.filter (nearKeep (k + 1) a0) = l1.filter (nearKeep k a0) := by
        apply List.filter_congr
        intro o ho
        by_cases c2 : 64 < o.size
        · rw [nearKeep_long c2, nearKeep_long c2]
        · obtain ⟨q, hq⟩ := (d2 o ho).resolve_left c2
          rw [nearKeep_short c2 hq, nearKeep_short c2 (near_Distance.mono a0 o k q hq)]
      rw [e]
    · rw [if_neg d] at h; cases h
set_option maxHeartbeats 4000000 in
set_option maxRecDepth 100000 in
theorem clone_calls (A0 : Option Addr) (c0 : Nat) (l0 : List ByteArray) (w : World) (hr0 : Kd.C Kd.string w A0 l0.length l0) (hlen : l0.length < 1000000) :
    Calls Try.prog 14 #[.slice A0 l0.length c0] w fun e w' => ∃ v0_ : Value, e = .returned (v0_) ∧ Kd.R Kd.string 9 w' w.heap.size (fun _ => True) v0_ l0 ∧ Below w.heap.size w w' := by
    cases A0 with
    | none =>
      have h0 : l0 = [] := by
        by_cases c : 0 < l0.length
        · obtain ⟨ad, e, _⟩ := hr0.2.2 c; cases e
        · exact List.length_eq_zero_iff.1 (by omega)
      subst h0
      have hn := fun (w : World) (n c : Nat) => Lib.run_eql_slice_nil (P := Try.prog) w 25 9 none n c 0 0 Try.underlying25
      go_enter Try.func14, Try.ntmps14
      go_wp2_with fail
      go_ret
      exact ⟨_, rfl, Kd.R_nil _ _ _ _ _, Below.refl _ _⟩
    | some ad =>
      have hn := fun (w : World) (n c : Nat) => Lib.run_eql_slice_nil (P := Try.prog) w 25 9 (some ad) n c 0 0 Try.underlying25
      have HR := Aside0.mk hr0
      have HB := Aside0.mk (Below.refl w.heap.size w)
      have LM := Aside0.mk hlen
      clear hr0 hlen
      go_enter Try.func14, Try.ntmps14
      go_wp2_with (first | ((with_reducible refine gate_dst (N := 5) rfl ?_); refine Kd.R_lit Kd.string _ 9 ?hg (N := 5) ?hd (xs := ([] : List ByteArray)) (inner := []) (ok := fun _ => True) (okp := fun _ => True) ?hr ?hp (fun _ hk => hk) trivial (Below.refl _ _) (Nat.le_refl _) (by simp) ?_; (case hd => rfl); (case hg => rfl); (case hr => first | (go_simp; done) | (go_simp; rfl)); (case hp => exact (Reps.none _ _)); intro v1 w1 ho hb hg_ hnew_; clear hg_ hnew_; have HO := Aside0.mk ho; have HB1 := Aside0.mk hb; clear ho hb) | ((with_reducible refine gate_builtin (b := .append) (xs := #[.tmp 5, .tmp 6]) rfl ?_); at_builtin; refine Kd.R_append_rows Kd.string (w0 := w) w.heap.size rfl (.tmp 5) (.tmp 6) 25 9 (.string ⟨#[]⟩) 16 rfl Try.underlying25 info9 rfl (by decide) (by omega) v1 [] l0 _ _ _ (fun _ => True) (fun _ => False) rfl rfl ?aO ?aR (fun _ _ h => h) (fun _ h => h.elim) ?aF ?aB ?aS ?aL ?_; (case aR => exact Kd.C_below HR.out HB1.out); (case aB => exact HB1.out); (case aF => exact (fun _ _ => trivial)); (case aO => exact HO.out); (case aS => exact HB1.out.size); (case aL => have := LM.out; simp; omega); intro v2 w2 ho hb hg hat; have HO2 := Aside0.mk ho; have HB2 := Aside0.mk hb; clear ho hb hg hat))
      go_ret
      exact ⟨_, rfl, by simpa using HO2.out, HB2.out⟩
set_option maxHeartbeats 4000000 in
theorem idx_nil (B : Nat) (w : World) :
    Calls Try.prog 18 #[.slice none 0 0, .func (.func 15) #[] #[.pointer (some ⟨B, 0, none⟩)]] w fun e w' => e = .returned (.int .i64 (-1)) ∧ w' = w := by
  go_enter Try.func18, Try.ntmps18
  go_wp2
  (try simp only [Act.put, List.setIfInBounds_toArray, List.set_cons_zero, List.set_cons_succ])
  go_loopg [8] 1 (fun kq v5 w' => v5 = .int .i64 0 ∧ w' = w)
  case atStart => exact ⟨rfl, rfl⟩
  case round =>
    obtain ⟨rfl, rfl⟩ := hrel
    go_wp2
    go_ret
    exact ⟨rfl, rfl⟩
set_option maxHeartbeats 4000000 in
theorem del_nil (B : Nat) (w : World) :
    Calls Try.prog 13 #[.slice none 0 0, .func (.func 15) #[] #[.pointer (some ⟨B, 0, none⟩)]] w fun e w' => e = .returned (.slice none 0 0) ∧ w' = w := by
  have h := idx_nil B w
  go_enter Try.func13, Try.ntmps13
  go_wp2_with (go_at_call 18; refine h.mono ?_; rintro e w1 ⟨rfl, rfl⟩)
  go_ret
  exact ⟨rfl, rfl⟩
set_option maxHeartbeats 4000000 in
theorem near_long (s : ByteArray) (A1 : Option Addr) (n c1 : Nat) (w : World) (hs : 64 < s.size) :
    Calls Try.prog 9 #[.string s, .slice A1 n c1] w fun e w' => e = .returned (.slice none 0 0) ∧ Below w.heap.size w w' := by
  have c0 : decide (64 < (s.size : Int)) = true := decide_eq_true (by omega)
  go_enter Try.func9, Try.ntmps9
  go_wp2
  go_ret
  exact ⟨rfl, (Below.refl _ _).alloc (Nat.le_refl _) _⟩
/-- The end, outside the walk. -/
theorem near_end {w0 w1 : World} {base g cap nn q : Nat} {os : Array Obj} {ss : List (List UInt8)} (hown : w1.ownsRow base 9 1 (.slice (some ⟨g, 0, none⟩) ss.length cap) ss.length (ss.map encStr)) (hbel : Below base w0 w1) (hbg : base ≤ g) (hb1 : base ≤ w1.heap.size) :
    (putRow encStr (Sort.ahead (grow (putRow encStr (Sort.ahead w1 nn) g 0 (ss.mergeSort fun x y => decide (x ≤ y)).toArray) os) q) g 0 (Lib.compact (ss.mergeSort fun x y => decide (x ≤ y)) ++ List.replicate (ss.length - (Lib.compact (ss.mergeSort fun x y => decide (x ≤ y))).length) []).toArray).ownsRow base 9 1 (.slice (some ⟨g, 0, none⟩) (Lib.compact (ss.mergeSort fun x y => decide (x ≤ y))).length cap) (Lib.compact (ss.mergeSort fun x y => decide (x ≤ y))).length ((Lib.compact (ss.mergeSort fun x y => decide (x ≤ y))).map encStr) ∧
    Below base w0 (putRow encStr (Sort.ahead (grow (putRow encStr (Sort.ahead w1 nn) g 0 (ss.mergeSort fun x y => decide (x ≤ y)).toArray) os) q) g 0 (Lib.compact (ss.mergeSort fun x y => decide (x ≤ y)) ++ List.replicate (ss.length - (Lib.compact (ss.mergeSort fun x y => decide (x ≤ y))).length) []).toArray) := by
  have hl2 : (ss.mergeSort fun x y => decide (x ≤ y)).length = ss.length := List.length_mergeSort ss
  have hle := Lib.compact_length_le (ss.mergeSort fun x y => decide (x ≤ y))
  rcases hown.2 with ⟨h0, _⟩ | ⟨g', cap', cur, hv, hbase, hb, h1, h2, h3, h4⟩
  · cases h0
  injection hv with e1 _ e3
  injection e1 with e1
  injection e1 with e1
  subst e1; subst e3
  have hs := ownsRow_sorted (n := nn) (os := os) (ts := ss.mergeSort fun x y => decide (x ≤ y)) hl2 hbase hb h1 h2 h3
  have hc := Lib.ownsRow_putRow (q := q) (k := (Lib.compact (ss.mergeSort fun x y => decide (x ≤ y))).length) (ys := Lib.compact (ss.mergeSort fun x y => decide (x ≤ y)) ++ List.replicate (ss.length - (Lib.compact (ss.mergeSort fun x y => decide (x ≤ y))).length) []) hs (by simp; omega) (by omega)
  rw [List.take_left] at hc
  exact ⟨hc, Lib.below_putRow (hbel.grown (grownBy_sorted _) hb1 (fun j hj => by cases hj; exact hbase)) hbg⟩
theorem nearFin_encs (L : List ByteArray) : (Lib.compact ((L.map (·.data.toList)).mergeSort fun x y => decide (x ≤ y))).map encStr = encs Value.string (nearFin L) := by
  rw [nearSort_merge]
  unfold nearFin encs
  rw [List.map_map]
  rfl
theorem nearFin_length (L : List ByteArray) : (Lib.compact ((L.map (·.data.toList)).mergeSort fun x y => decide (x ≤ y))).length = (nearFin L).length := by
  rw [nearSort_merge]
  unfold nearFin
  rw [List.length_map]
set_option maxHeartbeats 8000000 in
theorem near_short (k : Nat) (s : ByteArray) (A1 : Option Addr) (c1 : Nat) (l1 : List ByteArray) (w : World) (hr1 : Kd.C Kd.string w A1 l1.length l1) (hok : nearOk k s l1 = true) (hs : ¬ 64 < s.size) :
    Calls Try.prog 9 #[.string s, .slice A1 l1.length c1] w fun e w' => ∃ v0_ : Value, e = .returned (v0_) ∧ Kd.R Kd.string 9 w' w.heap.size (fun _ => True) v0_ (nearFin (l1.filter (nearKeep k s))) ∧ Below w.heap.size w w' := by
  have c0 : decide (64 < (s.size : Int)) = false := decide_eq_false (by omega)
  obtain ⟨d1, d2⟩ := nearOk_all hok
  obtain ⟨W0, hW0⟩ : ∃ W0, W0 = w.alloc (.cells #[.string s] 9) := ⟨_, rfl⟩
  have hN : W0.heap.size = w.heap.size + 1 := by rw [hW0]; simp
  have hB0 : Below w.heap.size w W0 := by rw [hW0]; exact (Below.refl _ _).alloc (Nat.le_refl _) _
  have hcl := clone_calls A1 c1 l1 W0 (Kd.C_below hr1 hB0) d1
  have hbox : W0.cell? ⟨w.heap.size, 0, none⟩ = some (.string s) := by rw [hW0]; exact cell_one_new w (.string s) 9 0 _ rfl
  have X := Aside0.mk (And.intro hN (And.intro hB0 (And.intro d1 (And.intro d2 (And.intro hbox hs)))))
  rw [hW0] at hcl
  obtain ⟨L, hL⟩ : ∃ L, L = l1.filter (nearKeep k s) := ⟨_, rfl⟩
  rw [← hL]
  have V := Aside0.mk hL
  clear hL hN hB0 d1 d2 hbox hs hok hr1
  go_enter Try.func9, Try.ntmps9
  go_wp2_with (go_at_call 14; refine hcl.mono ?_)
  rw [← hW0]
  rintro e w1 ⟨v1, rfl, hR, hb1⟩
  have ho := Kd.own_of_R hR
  clear hR hcl
  rcases ho.2 with ⟨rfl, hz⟩ | ⟨g, cap, cur, rfl, hbg, _⟩
  · have hl : l1 = [] := List.eq_nil_of_length_eq_zero hz
    have hd := del_nil w.heap.size w1
    have hso := q_slices_Sort_string_none none 0 w1
    have hco := q_slices_Compact_string_empty none 0 w1
    have Y := Aside0.mk (And.intro hl hb1)
    clear hl hb1 ho hz
    go_wp2_with (first
      | (go_at_call 13; refine hd.mono ?_; rintro e w2 ⟨rfl, rfl⟩)
      | (go_at_call 16; refine hso.mono ?_; rintro e w2 ⟨rfl, rfl⟩)
      | (go_at_call 17; refine hco.mono ?_; rintro e w2 ⟨rfl, rfl⟩))
    go_ret
    obtain ⟨hl, hb⟩ := Y.out
    rw [V.out, hl]
    exact ⟨_, rfl, Kd.R_nil _ _ _ _ _, X.out.2.1.trans (hb.mono (by have := X.out.1; omega))⟩
  · obtain ⟨x1, x2, x3, x4, x5, x6⟩ := X.out
    have hNw : W0.heap.size ≤ w1.heap.size := hb1.size
    have hd := del_calls w.heap.size g cap W0.heap.size l1 (fun o => !nearKeep k s o) w1 (by omega) hNw ho (fun o hol W hW => by
      have hc : W.cell? ⟨w.heap.size, 0, none⟩ = some (.string s) := ((hW.cell (p := ⟨w.heap.size, 0, none⟩) (by show w.heap.size < W0.heap.size; omega)).trans (hb1.cell (p := ⟨w.heap.size, 0, none⟩) (by show w.heap.size < W0.heap.size; omega))).trans x5
      by_cases c2 : 64 < o.size
      · rw [nearKeep_long c2]
        exact clo_long _ s o W hc (decide_eq_true (by omega))
      · obtain ⟨q, hq⟩ := (x4 o hol).resolve_left c2
        rw [nearKeep_short c2 hq]
        exact clo_short _ s o W k q hq hc (decide_eq_false (by omega)))
    simp only [Bool.not_not] at hd
    have hL := V.out
    have hLl : L.length ≤ l1.length := by rw [hL]; exact List.length_filter_le _ _
    have hLe : l1.filter (fun o => nearKeep k s o) = L := hL.symm
    rw [hLe] at hd
    have Y := Aside0.mk (And.intro hb1 (And.intro hbg (And.intro hLl hNw)))
    clear hb1 hbg hLl hNw ho hL hLe x1 x2 x3 x4 x5 x6
    go_wp2_with (go_at_call 13; refine hd.mono ?_; rintro e w2 ⟨rfl, ho2, hb2⟩)
    clear hd
    have hnn : Value.slice (some ⟨g, 0, none⟩) L.length cap ≠ .slice none 0 0 := by intro h; cases h
    have ho3 : w2.ownsRow W0.heap.size 9 1 (.slice (some ⟨g, 0, none⟩) L.length cap) L.length ((L.map (·.data.toList)).map encStr) := by rw [Lib.map_encStr]; exact ho2
    obtain ⟨g', cap', hv, hg1, hg2, hcap, hcm, hlen, hH⟩ := Lib.holds_of_ownsRow ho3 hnn
    injection hv with e1 _ e3
    injection e1 with e1
    injection e1 with e1
    subst e1; subst e3
    obtain ⟨ss, hss⟩ : ∃ ss, ss = L.map (·.data.toList) := ⟨_, rfl⟩
    rw [← hss] at ho3 hlen hH
    have hmx : ss.length < 1000000 := by have := Y.out; have := X.out; omega
    have hso := q_slices_Sort_string g 0 cap ss w2 hH hg2 (by omega)
    rw [hlen] at hso
    have Z := Aside0.mk (And.intro ho3 (And.intro hb2 (And.intro hss (And.intro hlen (And.intro hH (And.intro hg2 (And.intro hcap hmx)))))))
    clear ho3 hb2 hss hH hg2 hcap hcm hg1 hnn ho2 hmx
    go_wp2_with (go_at_call 16; refine hso.mono ?_; rintro e w3 ⟨rfl, nn, os, rfl⟩)
    clear hso
    obtain ⟨z1, z2, z3, z4, z5, z6, z7, z8⟩ := Z.out
    have hl2 : (ss.mergeSort fun x y => decide (x ≤ y)).length = ss.length := List.length_mergeSort ss
    have hH2 : Holds encStr (grow (putRow encStr (Sort.ahead w2 nn) g 0 (ss.mergeSort fun x y => decide (x ≤ y)).toArray) os) g 0 (ss.mergeSort fun x y => decide (x ≤ y)).toArray :=
      holds_grow encStr _ os g 0 _ (by simpa [putRow, mapBlock, Sort.ahead] using z6) (holds_putRow encStr _ g 0 _ _ (holds_ahead encStr w2 nn g 0 _ z5) (by simp))
    have hco := q_slices_Compact_string g 0 cap (ss.mergeSort fun x y => decide (x ≤ y)) _ hH2 (by omega) (by omega)
    rw [hl2, hlen] at hco
    clear hH2 hl2 z1 z2 z3 z4 z5 z6 z7 z8 hlen
    go_wp2_with (go_at_call 17; refine hco.mono ?_; rintro e w4 ⟨rfl, q, rfl⟩)
    go_ret
    obtain ⟨z1, z2, z3, z4, z5, z6, z7, z8⟩ := Z.out
    obtain ⟨y1, y2, y3, y4⟩ := Y.out
    obtain ⟨x1, x2, x3, x4, x5, x6⟩ := X.out
    have hend := near_end (w0 := W0) (nn := nn) (q := q) (os := os) (base := W0.heap.size) (g := g) (cap := cap) (ss := ss) (w1 := w2) (by rw [z4]; exact z1) (y1.trans z2) y2 (Nat.le_trans y4 z2.size)
    rw [z4] at hend
    obtain ⟨e1, e2⟩ := hend
    have e3 := Kd.R_lower (Kd.R_of_own (h1 := fun _ => rfl) (enc := Value.string) (xs := nearFin L) (ok := fun _ => True) (by rw [← nearFin_length, ← nearFin_encs, ← z3]; exact e1) (fun _ _ => trivial)) (show w.heap.size ≤ W0.heap.size by omega)
    exact ⟨_, rfl, e3, x2.trans (e2.mono (by omega))⟩
theorem near_Near.calls (k : Nat) (a0 : ByteArray) (A1 : Option Addr) (c1 : Nat) (l1 : List ByteArray) (r : List ByteArray) (w : World) (hr1 : Kd.C Kd.string w A1 l1.length l1) (hc1 : l1.length ≤ c1) (h : near_Near.f k a0 l1 = some r) :
    Calls Try.prog 9 #[.string a0, .slice A1 l1.length c1] w fun e w' => ∃ v0_ : Value, e = .returned (v0_) ∧ Kd.R Kd.string 9 w' w.heap.size (fun _ => True) v0_ r ∧ Below w.heap.size w w' := by
  unfold near_Near.f at h
  by_cases c : 64 < a0.size
  · rw [if_pos c] at h
    obtain rfl := Option.some.inj h
    refine (near_long a0 A1 l1.length c1 w c).mono ?_
    rintro e w' ⟨rfl, hb⟩
    exact ⟨_, rfl, Kd.R_nil _ _ _ _ _, hb⟩
  · rw [if_neg c] at h
    by_cases d : nearOk k a0 l1 = true
    · rw [if_pos d] at h
      obtain rfl := Option.some.inj h
      exact near_short k a0 A1 c1 l1 w hr1 d c
    · rw [if_neg d] at h; cases h
end Go.Proofs.Ytfofgbiipppocaa.X
