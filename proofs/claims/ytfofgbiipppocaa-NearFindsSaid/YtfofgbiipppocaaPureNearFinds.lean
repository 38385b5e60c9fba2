/-
  The plain law NearFinds: the names that are told are just those that are one step away, in order, each once.
-/
import Derived.Test.YtfofgbiipppocaaXF4
import Derived.Test.YtfofgbiipppocaaPl
import Derived.Test.YtfofgbiipppocaaCmp
namespace Go.Proofs.Ytfofgbiipppocaa.Pure
set_option linter.unusedSectionVars false
open Go.RowKit Go.Proofs.Ytfofgbiipppocaa.X Go.Proofs.YtfofgbiipppocaaW.PrintWords Go.Proofs.YtfofgbiipppocaaW.PrintLast Go.Proofs.Ytfofgbiipppocaa.Near Go.Proofs.Ytfofgbiipppocaa.XR
theorem mem_fin (L : List ByteArray) (x : ByteArray) : x ∈ nearFin L ↔ x ∈ L := by
  unfold nearFin
  rw [List.mem_map]
  have h := (Cmp.compact_spec _ (nearSort_le (L.map (·.data.toList)))).2
  constructor
  · rintro ⟨b, hb, rfl⟩
    rw [h, (nearSort_perm _).mem_iff, List.mem_map] at hb
    obtain ⟨o, ho, rfl⟩ := hb
    have : (⟨o.data.toList.toArray⟩ : ByteArray) = o := by simp
    rw [this]; exact ho
  · intro hx
    refine ⟨x.data.toList, ?_, by simp⟩
    rw [h, (nearSort_perm _).mem_iff, List.mem_map]
    exact ⟨x, hx, rfl⟩
theorem fin_rises (L : List ByteArray) (i : Nat) (h : i + 1 < (nearFin L).length) : Op.bytesLess (((nearFin L).getD i ByteArray.empty).toList) (((nearFin L).getD (i + 1) ByteArray.empty).toList) = true := by
  have hp := (Cmp.compact_spec _ (nearSort_le (L.map (·.data.toList)))).1
  unfold nearFin at h ⊢
  generalize Lib.compact (nearSort (L.map (·.data.toList))) = c at h hp
  rw [List.length_map] at h
  rw [Go.Proofs.bytesLess_eq, decide_eq_true_eq, ByteArray.toList_eq, ByteArray.toList_eq]
  have e : ∀ j, (hj : j < c.length) → ((c.map (fun b => (⟨b.toArray⟩ : ByteArray))).getD j ByteArray.empty).data.toList = c[j] := fun j hj => by
    rw [List.getD_eq_getElem?_getD, List.getElem?_map, List.getElem?_eq_getElem hj]
    simp
  rw [e i (by omega), e (i + 1) h]
  exact List.pairwise_iff_getElem.1 hp i (i + 1) (by omega) h (by omega)
/-- The names as the law takes them. -/
def cut (o : ByteArray) : ByteArray := o.extract 0 (mn (o.size : Int) 70).toNat
theorem cut_in (o : ByteArray) : 0 ≤ mn (o.size : Int) 70 ∧ mn (o.size : Int) 70 ≤ o.size ∧ (cut o).size ≤ 70 := by
  have h : 0 ≤ mn (o.size : Int) 70 ∧ mn (o.size : Int) 70 ≤ o.size ∧ mn (o.size : Int) 70 ≤ 70 := by unfold mn; split <;> omega
  refine ⟨h.1, h.2.1, ?_⟩
  unfold cut
  rw [ByteArray.size_extract]; omega
noncomputable def kept (s : ByteArray) (o : ByteArray) : Bool := decide (o.size ≤ 64) && decide (dst (BL s) (BL o) = 1)
noncomputable def outL (s : ByteArray) (l : List ByteArray) : List ByteArray := if 64 < s.size then [] else nearFin (l.filter (kept s))
theorem mem_out (s : ByteArray) (l : List ByteArray) (x : ByteArray) : x ∈ outL s l ↔ s.size ≤ 64 ∧ x ∈ l ∧ x.size ≤ 64 ∧ dst (BL s) (BL x) = 1 := by
  unfold outL
  by_cases c : 64 < s.size
  · rw [if_pos c]
    exact ⟨fun h => by simp at h, fun h => absurd h.1 (by omega)⟩
  · rw [if_neg c, mem_fin, List.mem_filter]
    unfold kept
    rw [Bool.and_eq_true, decide_eq_true_eq, decide_eq_true_eq]
    exact ⟨fun h => ⟨by omega, h⟩, fun h => h.2⟩
theorem out_rises (s : ByteArray) (l : List ByteArray) (i : Nat) (h : i + 1 < (outL s l).length) : Op.bytesLess (((outL s l).getD i ByteArray.empty).toList) (((outL s l).getD (i + 1) ByteArray.empty).toList) = true := by
  unfold outL at h ⊢
  by_cases c : 64 < s.size
  · rw [if_pos c] at h; simp at h
  · rw [if_neg c] at h ⊢; exact fin_rises _ i h
theorem out_len (s : ByteArray) (l : List ByteArray) (hl : l.length ≤ 12) : (outL s l).length ≤ 12 := by
  unfold outL
  by_cases c : 64 < s.size
  · rw [if_pos c]; simp
  · rw [if_neg c]
    unfold nearFin
    rw [List.length_map]
    refine Nat.le_trans (Lib.compact_length_le _) ?_
    rw [(nearSort_perm _).length_eq, List.length_map]
    exact Nat.le_trans (List.length_filter_le _ _) hl
theorem all_dist (s : ByteArray) (hs : s.size ≤ 70) : ∀ l : List ByteArray, (∀ o, o ∈ l → o.size ≤ 70) → ∃ K, ∀ k, K ≤ k → ∀ o, o ∈ l → near_Distance.f k s o = some (dst (BL s) (BL o) : Int)
  | [], _ => ⟨0, fun k _ o ho => by simp at ho⟩
  | o :: l, h => by
    obtain ⟨K, hK⟩ := all_dist s hs l (fun o' ho' => h o' (List.mem_cons_of_mem _ ho'))
    obtain ⟨K', hK'⟩ := dist_ev s o (by omega) (by have := h o List.mem_cons_self; omega)
    refine ⟨K + K', fun k hk o' ho' => ?_⟩
    rcases List.mem_cons.1 ho' with rfl | ho'
    · exact hK' k (by omega)
    · exact hK k (by omega) o' ho'
theorem near_ev (s : ByteArray) (l : List ByteArray) (hs : s.size ≤ 70) (hl : l.length ≤ 12) (ho : ∀ o, o ∈ l → o.size ≤ 70) : Ev (fun k => near_Near.f k s l) (outL s l) := by
  obtain ⟨K, hK⟩ := all_dist s hs l ho
  refine ⟨K, fun k hk => ?_⟩
  show near_Near.f k s l = some (outL s l)
  unfold near_Near.f outL
  by_cases c : 64 < s.size
  · rw [if_pos c, if_pos c]
  · rw [if_neg c, if_neg c, if_pos (nearOk_of (by omega) (fun o h => .inr ⟨_, hK k hk o h⟩))]
    congr 2
    apply List.filter_congr
    intro o h
    by_cases c2 : 64 < o.size
    · rw [nearKeep_long c2]
      unfold kept
      rw [decide_eq_false (by omega)]; rfl
    · rw [nearKeep_short c2 (hK k hk o h)]
      unfold kept
      rw [decide_eq_true (show o.size ≤ 64 by omega), Bool.true_and, Bool.eq_iff_iff, beq_iff_eq, decide_eq_true_eq]
      omega
theorem rdOf_nat (l : List ByteArray) (i : Nat) : rdOf ByteArray.empty l (i : Int) = l.getD i ByteArray.empty := by unfold rdOf; rw [Int.toNat_natCast]
theorem getD_mem {l : List ByteArray} {i : Nat} (h : i < l.length) : l.getD i ByteArray.empty ∈ l := by
  rw [List.getD_eq_getElem?_getD, List.getElem?_eq_getElem h]; exact List.getElem_mem h
theorem mem_take_succ {l : List ByteArray} {i : Nat} (h : i < l.length) (x : ByteArray) : x ∈ l.take (i + 1) ↔ x ∈ l.take i ∨ x = l.getD i ByteArray.empty := by
  rw [List.take_succ_eq_append_getElem h, List.mem_append, List.mem_singleton, List.getD_eq_getElem?_getD, List.getElem?_eq_getElem h]
  rfl
theorem ba_eq (x y : ByteArray) : ((x.toList == y.toList) = true) ↔ x = y := by
  rw [beq_iff_eq, ByteArray.toList_eq, ByteArray.toList_eq]
  exact ⟨fun h => WideShapes.bytes_inj h, fun h => by rw [h]⟩
theorem w1 (i : Nat) (h : i ≤ 1000) : wrap64 ((i : Int) + 1) = ((i + 1 : Nat) : Int) := by rw [w64 (by omega) (by omega)]; omega
section
variable (s : ByteArray) (inn out : List ByteArray) (hn : inn.length ≤ 12) (ho : out.length ≤ 12)
include hn ho
/-- The last look: each name that is told came in. -/
theorem ev_l5 (x : ByteArray) (i4 : Nat) (hx : x ∈ inn) (hnext : Ev (fun k => cavillaw34_NearFinds.l4 k inn out (out.length : Int) (wrap64 ((i4 : Int) + 1))) true) :
    ∀ d i (fl : Bool), i + d = inn.length → (fl = true ↔ x ∈ inn.take i) → Ev (fun k => cavillaw34_NearFinds.l5 k inn x fl out (out.length : Int) (i4 : Int) inn (inn.length : Int) (i : Int)) true := by
  intro d
  induction d with
  | zero =>
    intro i fl hi hf
    refine ev_succ ?_; simp only [cavillaw34_NearFinds.l5]
    rw [List.take_of_length_le (by omega)] at hf
    exact ev_neg (by omega) (ev_pos (hf.2 hx) hnext)
  | succ d ih =>
    intro i fl hi hf
    have hlt : i < inn.length := by omega
    refine ev_succ ?_; simp only [cavillaw34_NearFinds.l5]
    rw [w1 i (by omega), rdOf_nat]
    refine ev_pos (by omega) (ev_pos (by omega) (ev_pos (by omega) ?_))
    by_cases c : fl = true
    · exact ev_pos c (ih (i + 1) true (by omega) (by rw [mem_take_succ hlt]; exact ⟨fun _ => .inl (hf.1 c), fun _ => rfl⟩))
    · refine ev_neg c (ih (i + 1) _ (by omega) ?_)
      rw [mem_take_succ hlt, ba_eq]
      exact ⟨.inr, fun h => h.resolve_left (fun h => c (hf.2 h))⟩
theorem ev_l4 (hin : ∀ x, x ∈ out → x ∈ inn) : ∀ d i, i + d = out.length → Ev (fun k => cavillaw34_NearFinds.l4 k inn out (out.length : Int) (i : Int)) true := by
  intro d
  induction d with
  | zero =>
    intro i hi
    refine ev_succ ?_; simp only [cavillaw34_NearFinds.l4]
    exact ev_neg (by omega) (ev_of works (ev_now rfl))
  | succ d ih =>
    intro i hi
    have hlt : i < out.length := by omega
    refine ev_succ ?_; simp only [cavillaw34_NearFinds.l4]
    rw [rdOf_nat]
    refine ev_pos (by omega) (ev_pos (by omega) (ev_pos (by omega) ?_))
    refine ev_l5 inn out hn ho _ i (hin _ (getD_mem hlt)) ?_ inn.length 0 false (by omega) (by simp)
    rw [w1 i (by omega)]
    exact ih (i + 1) (by omega)
theorem ev_l3 (x : ByteArray) (i4 : Nat) (hi4 : i4 ≤ 100) (hs : s.size ≤ 70) (hx : x.size ≤ 70) (hq : x ∈ out ↔ s.size ≤ 64 ∧ x.size ≤ 64 ∧ dst (BL s) (BL x) = 1) (hnext : Ev (fun k => cavillaw34_NearFinds.l2 k s inn out inn (inn.length : Int) (((i4 + 1 : Nat)) : Int)) true) :
    ∀ d i (fl : Bool), i + d = out.length → (fl = true ↔ x ∈ out.take i) → Ev (fun k => cavillaw34_NearFinds.l3 k s inn out x fl inn (inn.length : Int) (i4 : Int) out (out.length : Int) (i : Int)) true := by
  have j6 : ∀ q : Bool, q = false → Ev (fun k => cavillaw34_NearFinds.j6 k s inn out inn (inn.length : Int) (i4 : Int) q) true := fun q e => by
    subst e
    refine ev_succ ?_; simp only [cavillaw34_NearFinds.j6]
    rw [w1 i4 (by omega)]
    exact ev_neg (by simp) hnext
  intro d
  induction d with
  | zero =>
    intro i fl hi hf
    refine ev_succ ?_; simp only [cavillaw34_NearFinds.l3]
    rw [List.take_of_length_le (by omega), hq] at hf
    refine ev_neg (by omega) ?_
    by_cases c1 : s.size ≤ 64
    · refine ev_pos (by omega) ?_
      by_cases c2 : x.size ≤ 64
      · refine ev_pos (by omega) (ev_of (one_ev (by omega) (by omega)) (j6 _ ?_))
        have : fl = decide (dst (BL s) (BL x) = 1) := by
          rw [Bool.eq_iff_iff, hf, decide_eq_true_eq]
          exact ⟨fun h => h.2.2, fun h => ⟨c1, c2, h⟩⟩
        rw [this]; simp
      · refine ev_neg (by omega) (j6 _ ?_)
        have : fl = false := by
          cases fl with
          | false => rfl
          | true => exact absurd (hf.1 rfl).2.1 c2
        rw [this]; rfl
    · refine ev_neg (by omega) (j6 _ ?_)
      have : fl = false := by
        cases fl with
        | false => rfl
        | true => exact absurd (hf.1 rfl).1 c1
      rw [this]; rfl
  | succ d ih =>
    intro i fl hi hf
    have hlt : i < out.length := by omega
    refine ev_succ ?_; simp only [cavillaw34_NearFinds.l3]
    rw [w1 i (by omega), rdOf_nat]
    refine ev_pos (by omega) (ev_pos (by omega) (ev_pos (by omega) ?_))
    by_cases c : fl = true
    · exact ev_pos c (ih (i + 1) true (by omega) (by rw [mem_take_succ hlt]; exact ⟨fun _ => .inl (hf.1 c), fun _ => rfl⟩))
    · refine ev_neg c (ih (i + 1) _ (by omega) ?_)
      rw [mem_take_succ hlt, ba_eq]
      exact ⟨fun h => .inr h.symm, fun h => (h.resolve_left (fun h => c (hf.2 h))).symm⟩
theorem ev_l2 (hs : s.size ≤ 70) (hx : ∀ x, x ∈ inn → x.size ≤ 70) (hq : ∀ x, x ∈ inn → (x ∈ out ↔ s.size ≤ 64 ∧ x.size ≤ 64 ∧ dst (BL s) (BL x) = 1)) (hin : ∀ x, x ∈ out → x ∈ inn) :
    ∀ d i, i + d = inn.length → Ev (fun k => cavillaw34_NearFinds.l2 k s inn out inn (inn.length : Int) (i : Int)) true := by
  intro d
  induction d with
  | zero =>
    intro i hi
    refine ev_succ ?_; simp only [cavillaw34_NearFinds.l2]
    exact ev_neg (by omega) (ev_l4 inn out hn ho hin out.length 0 (by omega))
  | succ d ih =>
    intro i hi
    have hlt : i < inn.length := by omega
    refine ev_succ ?_; simp only [cavillaw34_NearFinds.l2]
    rw [rdOf_nat]
    refine ev_pos (by omega) (ev_pos (by omega) (ev_pos (by omega) ?_))
    exact ev_l3 s inn out hn ho _ i (by omega) hs (hx _ (getD_mem hlt)) (hq _ (getD_mem hlt)) (ih (i + 1) (by omega)) out.length 0 false (by omega) (by simp)
theorem ev_l1 (hs : s.size ≤ 70) (hx : ∀ x, x ∈ inn → x.size ≤ 70) (hq : ∀ x, x ∈ inn → (x ∈ out ↔ s.size ≤ 64 ∧ x.size ≤ 64 ∧ dst (BL s) (BL x) = 1)) (hin : ∀ x, x ∈ out → x ∈ inn)
    (hr : ∀ i, i + 1 < out.length → Op.bytesLess ((out.getD i ByteArray.empty).toList) ((out.getD (i + 1) ByteArray.empty).toList) = true) :
    ∀ d i, i + d = out.length → Ev (fun k => cavillaw34_NearFinds.l1 k s inn out out (out.length : Int) (i : Int)) true := by
  intro d
  induction d with
  | zero =>
    intro i hi
    refine ev_succ ?_; simp only [cavillaw34_NearFinds.l1]
    exact ev_neg (by omega) (ev_l2 s inn out hn ho hs hx hq hin inn.length 0 (by omega))
  | succ d ih =>
    intro i hi
    have hlt : i < out.length := by omega
    have hm := getD_mem hlt
    have hz := (hq _ (hin _ hm)).1 hm
    have one := one_ev (a := s) (b := out.getD i ByteArray.empty) (by omega) (by have := hz.2.1; omega)
    rw [decide_eq_true hz.2.2] at one
    have j3 : ∀ q : Bool, q = false → Ev (fun k => cavillaw34_NearFinds.j3 k s inn out out (out.length : Int) (i : Int) q) true := fun q e => by
      subst e
      refine ev_succ ?_; simp only [cavillaw34_NearFinds.j3]
      rw [w1 i (by omega)]
      exact ev_neg (by simp) (ih (i + 1) (by omega))
    refine ev_succ ?_; simp only [cavillaw34_NearFinds.l1]
    rw [rdOf_nat]
    refine ev_pos (by omega) (ev_pos (by omega) (ev_pos (by omega) ?_))
    have big : decide (((out.getD i ByteArray.empty).size : Int) > 64) = false := decide_eq_false (by have := hz.2.1; omega)
    by_cases c : i = 0
    · subst c
      exact ev_neg (by omega) (ev_of one (ev_pos rfl (j3 _ big)))
    · obtain ⟨j, rfl⟩ : ∃ j, i = j + 1 := ⟨i - 1, by omega⟩
      have e1 : wrap64 (((j + 1 : Nat) : Int) - 1) = (j : Int) := by rw [w64 (by omega) (by omega)]; omega
      rw [e1, rdOf_nat]
      exact ev_pos (by omega) (ev_pos (by omega) (ev_pos (by omega) (ev_pos (hr j hlt) (ev_of one (ev_pos rfl (j3 _ big))))))
end
theorem ev_l0 (s : ByteArray) (l : List ByteArray) (hs : s.size ≤ 70) : ∀ d i (acc : List ByteArray), i + d = min 12 l.length → acc.length = i → (∀ o, o ∈ acc → o.size ≤ 70) → Ev (fun k => cavillaw34_NearFinds.l0 k s l acc (i : Int)) true := by
  intro d
  induction d with
  | zero =>
    intro i acc hi ha hsz
    have step : Ev (fun k => cavillaw34_NearFinds.j1 k s l acc (i : Int) false) true := by
      refine ev_succ ?_; simp only [cavillaw34_NearFinds.j1]
      refine ev_neg (by simp) (ev_of (near_ev s acc hs (by omega) hsz) ?_)
      refine ev_l1 s acc (outL s acc) (by omega) (out_len s acc (by omega)) hs hsz (fun x hx => ?_) (fun x hx => ((mem_out s acc x).1 hx).2.1) (out_rises s acc) _ 0 (Nat.zero_add _)
      rw [mem_out]
      exact ⟨fun h => ⟨h.1, h.2.2⟩, fun h => ⟨h.1, hx, h.2⟩⟩
    refine ev_succ ?_; simp only [cavillaw34_NearFinds.l0]
    by_cases c : i < l.length
    · refine ev_pos (by omega) ?_
      rw [decide_eq_false (show ¬ (i : Int) < 12 by omega)]; exact step
    · exact ev_neg (by omega) step
  | succ d ih =>
    intro i acc hi ha hsz
    obtain ⟨z1, z2, z3⟩ := cut_in (l.getD i ByteArray.empty)
    refine ev_succ ?_; simp only [cavillaw34_NearFinds.l0]
    refine ev_pos (by omega) ?_
    rw [decide_eq_true (show (i : Int) < 12 by omega)]
    refine ev_succ ?_; simp only [cavillaw34_NearFinds.j1]
    rw [rdOf_nat, w1 i (by omega)]
    refine ev_pos (by first | trivial | rfl) (ev_pos (by omega) (ev_pos (by omega) (ev_pos z1 (ev_pos z2 (ev_pos (by omega) ?_)))))
    refine ih (i + 1) _ (by omega) (by simp [ha]) (fun o ho => ?_)
    rcases List.mem_append.1 ho with ho | ho
    · exact hsz o ho
    · rw [List.mem_singleton.1 ho]; exact z3
theorem NearFinds : cavillaw34_NearFinds.Pure := by
  intro a0 l1 _ _
  have key : Ev (fun k => cavillaw34_NearFinds.f k a0 l1) true := by
    obtain ⟨z1, z2, z3⟩ := cut_in a0
    unfold cavillaw34_NearFinds.f
    exact ev_pos z1 (ev_pos z2 (ev_l0 _ l1 z3 (min 12 l1.length) 0 [] (by omega) rfl (fun o h => by simp at h)))
  exact key.rounds
end Go.Proofs.Ytfofgbiipppocaa.Pure
