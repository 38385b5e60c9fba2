/-
  Plain laws: what Check, Same, Few hand on answer; sorting and changing places of packages told with their texts.
-/
import Derived.Test.YteakcggbolfelaaDoorFw
import Derived.Test.YteakcggbolfelaaDoorZz
namespace Go.Proofs.YteakcggbolfelaaDoor
open Go.RowKit Go.Proofs.YteakcggbolfelaaDoorW.PrintWords Go.Proofs.YteakcggbolfelaaDoorW.PrintMore Go.Proofs.YteakcggbolfelaaDoor.Srt
set_option linter.unusedVariables false
/-! Check -/
def fst' (s : ByteArray) (may : Bool) (ah : List ByteArray) : Option Er := if may = true then (if Lib.containsS ah s = true then some (.lack s 6) else none) else some (.lack s 8)
def chkT : List ByteArray → List Y.S37 → Option Er
  | _, [] => none
  | ah, f :: t => match fst' f.f0 (X.nameOk f.f0 true) ah with
    | some e => some e
    | none => chkT (ah ++ [f.f0]) t
def chkP : List ByteArray → List Y.S47 → Option Er
  | _, [] => none
  | ah, p :: t => match fst' p.f0 (X.pathOk p.f0) ah with
    | some e => some e
    | none => match chkT [] p.f1 with
      | some e => some e
      | none => chkP (ah ++ [p.f0]) t
namespace Y
theorem first_eq (s : ByteArray) (may : Bool) (ah : List ByteArray) : files_first.f s may ah = some (fst' s may ah) := by
  unfold files_first.f fst' slices_Contains_string_string.f
  split
  · simp only [Option.bind_some]; split <;> rfl
  · rfl
theorem ev_texts_l (l : List S37) (hl : l.length < 1000) (hf : ∀ f ∈ l, FOk f) : ∀ (B A : List S37) (ah : List ByteArray), l = A ++ B → ah.length = A.length → Ev (fun k => files_texts.l0 k ah l (l.length : Int) (A.length : Int)) (chkT ah B)
  | [], A, ah, h, ha => by
    subst h
    refine ev_succ ?_; simp only [files_texts.l0]
    exact ev_neg (by simp) (ev_now rfl)
  | b :: B, A, ah, h, ha => by
    have hA : A.length < l.length := by rw [h]; simp
    have g : rd_T37 l (A.length : Int) = b := by
      unfold rd_T37; rw [h, Int.toNat_natCast]; exact get_fst _ _ _ _
    have hb := hf b (by rw [h]; simp)
    have hm : b.f0.size ≤ maxLen := by have h1 := hb.1; have h2 : (70 : Nat) ≤ maxLen := by decide
                                       omega
    have ht := hb.2
    refine ev_succ ?_; simp only [files_texts.l0, g]
    refine ev_pos (by omega) (ev_pos (by omega) (ev_pos (by omega) ?_))
    have e1 : files_Name.f b.f0 = some (X.nameOk b.f0 true) := by unfold files_Name.f; rw [if_pos hm]
    rw [e1]
    refine ev_some (a := X.nameOk b.f0 true) ?_
    rw [first_eq]
    refine ev_some (a := fst' b.f0 (X.nameOk b.f0 true) ah) ?_
    cases hq : fst' b.f0 (X.nameOk b.f0 true) ah with
    | none =>
      refine ev_pos rfl (ev_succ ?_)
      simp only [files_texts.j1]
      refine ev_neg (by simp; omega) (ev_pos rfl (ev_pos (by omega) ?_))
      have e2 : wrap64 ((A.length : Int) + 1) = ((A ++ [b]).length : Int) := by rw [w64 (by omega) (by omega)]; simp
      rw [e2]
      have e3 : chkT ah (b :: B) = chkT (ah ++ [b.f0]) B := by simp only [chkT, hq]
      rw [e3]
      exact ev_texts_l l hl hf B (A ++ [b]) (ah ++ [b.f0]) (by rw [h]; simp) (by simp [ha])
    | some e =>
      refine ev_neg (by simp) (ev_succ ?_)
      simp only [files_texts.j1]
      refine ev_neg (by simp) (ev_neg (by simp) (ev_now ?_))
      have e3 : chkT ah (b :: B) = some e := by simp only [chkT, hq]
      rw [e3]; rfl
theorem ev_texts (l : List S37) (hl : l.length < 1000) (hf : ∀ f ∈ l, FOk f) : Ev (fun k => files_texts.f k l) (chkT [] l) := ev_texts_l l hl hf l [] [] rfl rfl
theorem ev_index_l (l : List S47) (hl : l.length < 1000) (hf : ∀ p ∈ l, POk p) : ∀ (B A : List S47), l = A ++ B → Ev (fun k => api_Package_48.l0 k l (l.length : Int) (A.length : Int)) (-1)
  | [], A, h => by
    subst h
    refine ev_succ ?_; simp only [api_Package_48.l0]
    exact ev_neg (by simp) (ev_now rfl)
  | b :: B, A, h => by
    have hA : A.length < l.length := by rw [h]; simp
    have g : rd_T47 l (A.length : Int) = b := by
      unfold rd_T47; rw [h, Int.toNat_natCast]; exact get_fst _ _ _ _
    have hb := (hf b (by rw [h]; simp)).2.1
    refine ev_succ ?_; simp only [api_Package_48.l0, g]
    refine ev_pos (by omega) (ev_pos (by omega) (ev_pos (by omega) ?_))
    refine ev_some (a := decide ((b.f1.length : Int) > 4096)) ?_
    refine ev_neg (by simp; omega) ?_
    have e2 : wrap64 ((A.length : Int) + 1) = ((A ++ [b]).length : Int) := by rw [w64 (by omega) (by omega)]; simp
    rw [e2]
    exact ev_index_l l hl hf B (A ++ [b]) (by rw [h]; simp)
theorem ev_check_l (l : List S47) (hl : l.length < 1000) (hf : ∀ p ∈ l, POk p) : ∀ (B A : List S47) (ah : List ByteArray), l = A ++ B → ah.length = A.length → Ev (fun k => files_Check.l0 k ah l (l.length : Int) (A.length : Int)) (chkP ah B)
  | [], A, ah, h, ha => by
    subst h
    refine ev_succ ?_; simp only [files_Check.l0]
    exact ev_neg (by simp) (ev_now rfl)
  | b :: B, A, ah, h, ha => by
    have hA : A.length < l.length := by rw [h]; simp
    have g : rd_T47 l (A.length : Int) = b := by
      unfold rd_T47; rw [h, Int.toNat_natCast]; exact get_fst _ _ _ _
    have hb := hf b (by rw [h]; simp)
    have hm : b.f0.size ≤ maxLen := by have h1 := hb.1; have h2 : (140 : Nat) ≤ maxLen := by decide
                                       omega
    refine ev_succ ?_; simp only [files_Check.l0, g]
    refine ev_pos (by omega) (ev_pos (by omega) (ev_pos (by omega) ?_))
    have e1 : files_Path.f b.f0 = some (X.pathOk b.f0) := by unfold files_Path.f; rw [if_pos hm]
    rw [e1]
    refine ev_some (a := X.pathOk b.f0) ?_
    rw [first_eq]
    refine ev_some (a := fst' b.f0 (X.pathOk b.f0) ah) ?_
    cases hq : fst' b.f0 (X.pathOk b.f0) ah with
    | none =>
      refine ev_pos rfl (ev_of (a := chkT [] b.f1) (ev_texts b.f1 (by have := hb.2.1; omega) hb.2.2) ?_)
      cases ht : chkT [] b.f1 with
      | none =>
        refine ev_pos rfl (ev_pos (by omega) ?_)
        have e2 : wrap64 ((A.length : Int) + 1) = ((A ++ [b]).length : Int) := by rw [w64 (by omega) (by omega)]; simp
        rw [e2]
        have e3 : chkP ah (b :: B) = chkP (ah ++ [b.f0]) B := by simp only [chkP, hq, ht]
        rw [e3]
        exact ev_check_l l hl hf B (A ++ [b]) (ah ++ [b.f0]) (by rw [h]; simp) (by simp [ha])
      | some e =>
        refine ev_neg (by simp) (ev_now ?_)
        have e3 : chkP ah (b :: B) = some e := by simp only [chkP, hq, ht]
        rw [e3]; rfl
    | some e =>
      refine ev_neg (by simp) (ev_now ?_)
      have e3 : chkP ah (b :: B) = some e := by simp only [chkP, hq]
      rw [e3]; rfl
theorem ev_check (l : List S47) (h : FewOk l) : Ev (fun k => files_Check.f k l) (chkP [] l) := by
  have hl : l.length < 1000 := by have := h.1; omega
  unfold files_Check.f
  refine ev_neg (by omega) ?_
  refine ev_of (a := false) ?_ ?_
  · unfold api_Package_33.f
    exact ev_of (a := -1) (ev_index_l l hl h.2 l [] rfl) (ev_now rfl)
  · refine ev_succ ?_; simp only [files_Check.j0]
    exact ev_neg (by simp) (ev_check_l l hl h.2 l [] [] rfl rfl)
/-! Same -/
theorem same_f (l : List S47) (i : Nat) (hi : i < l.length) (hn : (rd_T47 l (i : Int)).f1.length < 1000) (ih : Ev (fun k => cavilref05_Same.l0 k l l (wrap64 ((i : Int) + 1))) true) :
    ∀ (m j : Nat), j + m = (rd_T47 l (i : Int)).f1.length → Ev (fun k => cavilref05_Same.l1 k l l (i : Int) (j : Int)) true
  | 0, j, h => by
    refine ev_succ ?_; simp only [cavilref05_Same.l1]
    exact ev_pos (by omega) (ev_pos (by omega) (ev_neg (by omega) ih))
  | m + 1, j, h => by
    refine ev_succ ?_; simp only [cavilref05_Same.l1]
    have e1 : wrap64 ((j : Int) + 1) = ((j + 1 : Nat) : Int) := by rw [w64 (by omega) (by omega)]; omega
    refine ev_pos (by omega) (ev_pos (by omega) (ev_pos (by omega) (ev_pos (by omega) (ev_pos (by omega) (ev_pos (by omega) (ev_pos trivial (ev_pos trivial ?_)))))))
    rw [e1]
    exact same_f l i hi hn ih m (j + 1) (by omega)
theorem same_l (l : List S47) (hl : l.length < 1000) (hf : ∀ p ∈ l, p.f1.length < 1000) : ∀ (m i : Nat), i + m = l.length → Ev (fun k => cavilref05_Same.l0 k l l (i : Int)) true
  | 0, i, h => by
    refine ev_succ ?_; simp only [cavilref05_Same.l0]
    exact ev_neg (by omega) (ev_now rfl)
  | m + 1, i, h => by
    refine ev_succ ?_; simp only [cavilref05_Same.l0]
    refine ev_pos (by omega) (ev_pos (by omega) (ev_pos (by omega) (ev_pos trivial (ev_succ ?_))))
    simp only [cavilref05_Same.j1]
    refine ev_neg (by simp) ?_
    have e1 : wrap64 ((i : Int) + 1) = ((i + 1 : Nat) : Int) := by rw [w64 (by omega) (by omega)]; omega
    refine same_f l i (by omega) ?_ ?_ (rd_T47 l (i : Int)).f1.length 0 (by omega)
    · unfold rd_T47
      rw [Int.toNat_natCast, List.getD_eq_getElem?_getD, List.getElem?_eq_getElem (by omega)]
      exact hf _ (List.getElem_mem _)
    · rw [e1]
      exact same_l l hl hf m (i + 1) (by omega)
theorem ev_same (l : List S47) (hl : l.length < 1000) (hf : ∀ p ∈ l, p.f1.length < 1000) : Ev (fun k => cavilref05_Same.f k l l) true := by
  unfold cavilref05_Same.f
  exact ev_pos rfl (same_l l hl hf l.length 0 (by omega))
end Y
/-! What no error says of names -/
theorem fst_none {s : ByteArray} {may : Bool} {ah : List ByteArray} (h : fst' s may ah = none) : s ∉ ah := fun hm => by
  unfold fst' at h
  cases may with
  | false => simp at h
  | true => rw [if_pos rfl, if_pos ((Lib.containsS_iff _ _).2 hm)] at h; cases h
theorem chkT_none : ∀ (l : List Y.S37) (ah : List ByteArray), chkT ah l = none → (∀ x ∈ l.map Y.S37.f0, x ∉ ah) ∧ (l.map Y.S37.f0).Nodup
  | [], _, _ => ⟨fun x hx => by simp at hx, List.nodup_nil⟩
  | f :: t, ah, h => by
    simp only [chkT] at h
    cases hq : fst' f.f0 (X.nameOk f.f0 true) ah with
    | some e => rw [hq] at h; cases h
    | none =>
      rw [hq] at h
      obtain ⟨h1, h2⟩ := chkT_none t _ h
      refine ⟨fun x hx => ?_, List.nodup_cons.2 ⟨fun hm => h1 _ hm (by simp), h2⟩⟩
      rcases List.mem_cons.1 hx with rfl | hx
      · exact fst_none hq
      · exact fun hm => h1 x hx (List.mem_append_left _ hm)
theorem chkP_none : ∀ (l : List Y.S47) (ah : List ByteArray), chkP ah l = none → (∀ x ∈ l.map Y.S47.f0, x ∉ ah) ∧ (l.map Y.S47.f0).Nodup ∧ ∀ p ∈ l, (p.f1.map Y.S37.f0).Nodup
  | [], _, _ => ⟨fun x hx => by simp at hx, List.nodup_nil, fun p hp => by cases hp⟩
  | f :: t, ah, h => by
    simp only [chkP] at h
    cases hq : fst' f.f0 (X.pathOk f.f0) ah with
    | some e => rw [hq] at h; cases h
    | none =>
      rw [hq] at h
      cases ht : chkT [] f.f1 with
      | some e => rw [ht] at h; cases h
      | none =>
        rw [ht] at h
        obtain ⟨h1, h2, h3⟩ := chkP_none t _ h
        refine ⟨fun x hx => ?_, List.nodup_cons.2 ⟨fun hm => h1 _ hm (by simp), h2⟩, fun p hp => ?_⟩
        · rcases List.mem_cons.1 hx with rfl | hx
          · exact fst_none hq
          · exact fun hm => h1 x hx (List.mem_append_left _ hm)
        · rcases List.mem_cons.1 hp with rfl | hp
          · exact (chkT_none _ _ ht).2
          · exact h3 p hp
/-! One order alone -/
section
variable {α : Type}
theorem sorted_unique {R : α → α → Prop} : ∀ (l l' : List α), l.Perm l' → l.Pairwise R → l'.Pairwise R → (∀ a ∈ l, ∀ b ∈ l, R a b → R b a → a = b) → l = l'
  | [], l', h, _, _, _ => (List.nil_perm.1 h).symm
  | a :: l, [], h, _, _, _ => absurd h.length_eq (by simp)
  | a :: l, b :: l', h, h1, h2, ha => by
    have e : a = b := by
      have ma : a ∈ b :: l' := h.mem_iff.1 List.mem_cons_self
      have mb : b ∈ a :: l := h.mem_iff.2 List.mem_cons_self
      rcases List.mem_cons.1 ma with e | ma
      · exact e
      · rcases List.mem_cons.1 mb with e | mb'
        · exact e.symm
        · exact ha a List.mem_cons_self b mb ((List.pairwise_cons.1 h1).1 b mb') ((List.pairwise_cons.1 h2).1 a ma)
    subst e
    rw [sorted_unique l l' ((List.perm_cons a).1 h) (List.pairwise_cons.1 h1).2 (List.pairwise_cons.1 h2).2 (fun x hx y hy => ha x (List.mem_cons_of_mem _ hx) y (List.mem_cons_of_mem _ hy))]
theorem nodup_inj {β : Type} {f : α → β} : ∀ (l : List α), (l.map f).Nodup → ∀ a ∈ l, ∀ b ∈ l, f a = f b → a = b
  | [], _, a, ha, _, _, _ => by cases ha
  | x :: t, h, a, ha, b, hb, e => by
    rw [List.map_cons, List.nodup_cons] at h
    rcases List.mem_cons.1 ha with e1 | ha'
    · rcases List.mem_cons.1 hb with e2 | hb'
      · rw [e1, e2]
      · have m := List.mem_map_of_mem (f := f) hb'
        rw [← e, e1] at m
        exact absurd m h.1
    · rcases List.mem_cons.1 hb with e2 | hb'
      · have m := List.mem_map_of_mem (f := f) ha'
        rw [e, e2] at m
        exact absurd m h.1
      · exact nodup_inj t h.2 a ha' b hb' e
end
theorem cmpL_anti : ∀ (a b : List UInt8), ¬ Lib.compareBytes a b < 0 → ¬ Lib.compareBytes b a < 0 → a = b
  | [], [], _, _ => rfl
  | [], _ :: _, h, _ => by simp [Lib.compareBytes] at h
  | _ :: _, [], _, h => by simp [Lib.compareBytes] at h
  | a :: as_, b :: bs, h, k => by
    simp only [Lib.compareBytes] at h k
    by_cases c : a < b
    · rw [if_pos c] at h; exact absurd (by decide) h
    · by_cases d : b < a
      · rw [if_pos d] at k; exact absurd (by decide) k
      · rw [if_neg c, if_neg d] at h
        rw [if_neg d, if_neg c] at k
        have e : a = b := UInt8.toNat_inj.1 (Nat.le_antisymm (Nat.le_of_not_lt d) (Nat.le_of_not_lt c))
        rw [e, cmpL_anti as_ bs h k]
theorem ltB_anti (a b : ByteArray) (h : ltB a b = false) (k : ltB b a = false) : a = b := by
  unfold ltB X.cmpN at h k
  have := cmpL_anti _ _ (of_decide_eq_false h) (of_decide_eq_false k)
  cases a; cases b
  simp only [ByteArray.mk.injEq]
  exact Array.toList_inj.1 this
/-- Of distinct keys there is one order. -/
theorem srt_unique {α : Type} (key : α → ByteArray) (l l' : List α) (hp : l'.Perm l) (hd : (l.map key).Nodup) : srt (fun a b => ltB (key a) (key b)) l' = srt (fun a b => ltB (key a) (key b)) l := by
  have htr : ∀ a b c : α, ltB (key a) (key b) = false → ltB (key b) (key c) = false → ltB (key a) (key c) = false := fun a b c => ltB_tr _ _ _
  have has : ∀ a b : α, ltB (key a) (key b) = true → ltB (key b) (key a) = false := fun a b => ltB_as _ _
  have p1 := srt_perm (fun a b => ltB (key a) (key b)) l
  have p2 := srt_perm (fun a b => ltB (key a) (key b)) l'
  refine sorted_unique _ _ (p2.trans (hp.trans p1.symm)) (srt_sorted htr has l') (srt_sorted htr has l) (fun a ha b hb h1 h2 => ?_)
  have ma : a ∈ l := hp.mem_iff.1 (p2.mem_iff.1 ha)
  have mb : b ∈ l := hp.mem_iff.1 (p2.mem_iff.1 hb)
  exact nodup_inj l hd a ma b mb (ltB_anti _ _ h2 h1)
/-! Packages told with their texts -/
def ltZ (a b : ZP) : Bool := ltB a.p b.p
def ltZF (a b : ZF) : Bool := ltB a.n b.n
def sZ (z : ZP) : ZP := ⟨z.p, srt ltZF z.l⟩
def orderZ (zs : List ZP) : List ZP := (srt ltZ zs).map sZ
def pZ (p : List Int) (z : ZP) : ZP := ⟨z.p, perm z.l p⟩
def permZ (zs : List ZP) (p : List Int) : List ZP := (perm zs p).map (pZ p)
theorem orderL_u (zs : List ZP) : orderL (zs.map ZP.u) = (orderZ zs).map ZP.u := by
  unfold orderL orderZ
  rw [srt_map (f := ZP.u) (lt := ltZ) (fun _ _ => rfl) zs, List.map_map, List.map_map]
  refine List.map_congr_left (fun z _ => ?_)
  show (⟨z.p, srt U.lt (z.l.map ZF.u)⟩ : U.S47) = ⟨z.p, (srt ltZF z.l).map ZF.u⟩
  rw [srt_map (f := ZF.u) (lt := ltZF) (fun _ _ => rfl) z.l]
theorem permL_u (zs : List ZP) (p : List Int) : permL (zs.map ZP.u) p = (permZ zs p).map ZP.u := by
  unfold permL permZ
  rw [perm_map ZP.u, List.map_map, List.map_map]
  refine List.map_congr_left (fun z _ => ?_)
  show (⟨z.p, perm (z.l.map ZF.u) p⟩ : U.S47) = ⟨z.p, (perm z.l p).map ZF.u⟩
  rw [perm_map ZF.u]
theorem Texts.order {w : World} {zs : List ZP} (h : Texts w zs) : Texts w (orderZ zs) := fun z hz f hf => by
  obtain ⟨y, hy, rfl⟩ := List.mem_map.1 hz
  exact h y ((srt_perm _ _).mem_iff.1 hy) f ((srt_perm _ _).mem_iff.1 hf)
theorem Texts.perm {w : World} {zs : List ZP} (h : Texts w zs) (p : List Int) : Texts w (permZ zs p) := fun z hz f hf => by
  obtain ⟨y, hy, rfl⟩ := List.mem_map.1 hz
  exact h y ((perm_perm _ _).mem_iff.1 hy) f ((perm_perm _ _).mem_iff.1 hf)
theorem order_perm (zs : List ZP) (p : List Int) (h1 : (zs.map ZP.p).Nodup) (h2 : ∀ z ∈ zs, (z.l.map ZF.n).Nodup) : orderZ (permZ zs p) = orderZ zs := by
  unfold orderZ permZ
  have e1 : srt ltZ ((perm zs p).map (pZ p)) = (srt ltZ (perm zs p)).map (pZ p) := srt_map (fun _ _ => rfl) _
  have e2 : srt ltZ (perm zs p) = srt ltZ zs := srt_unique ZP.p zs (perm zs p) (perm_perm zs p) h1
  rw [e1, e2, List.map_map]
  refine List.map_congr_left (fun z hz => ?_)
  have hm : z ∈ zs := (srt_perm ltZ zs).mem_iff.1 hz
  show (⟨z.p, srt ltZF (perm z.l p)⟩ : ZP) = ⟨z.p, srt ltZF z.l⟩
  have e3 : srt ltZF (perm z.l p) = srt ltZF z.l := srt_unique ZF.n z.l (perm z.l p) (perm_perm z.l p) (h2 z hm)
  rw [e3]
end Go.Proofs.YteakcggbolfelaaDoor
