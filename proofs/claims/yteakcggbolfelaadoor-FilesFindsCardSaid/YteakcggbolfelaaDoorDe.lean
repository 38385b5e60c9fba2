/-
  Packages of the call's own: a row of paths and slices, and for each slice a row of files of its own, no two of which are one; sorting and changing places, of packages and of one package's files.
-/
import Derived.Test.YteakcggbolfelaaDoorSo
namespace Go.Proofs.YteakcggbolfelaaDoor
open Go.RowKit Go.Proofs.YteakcggbolfelaaDoorW.PrintWords Go.Proofs.YteakcggbolfelaaDoorW.PrintLast Go.Proofs.YteakcggbolfelaaDoorW.PrintMore Go.Proofs.YteakcggbolfelaaDoor.Srt
set_option linter.unusedVariables false
abbrev Dp := U.S47 × Vl
def vp (d : Dp) : V.S47 := ⟨d.1.f0, d.2⟩
abbrev Dp.own (d : Dp) : Option Nat := d.2.1.ownBlock
structure Deep (w : World) (base : Nat) (v : Value) (D : List Dp) : Prop where
  row : Kd.R V.k47 47 w base (fun k => some k = v.ownBlock) v (D.map vp)
  ins : ∀ d ∈ D, Kd.R U.k37 37 w base (fun k => some k = d.own) d.2.1 d.1.f1
  apart : D.Pairwise (fun a b => a.own = b.own → a.own = none)
theorem pick_list {α β : Type} : ∀ (xs : List α) (P : Nat → α → β → Prop), (∀ j x, xs[j]? = some x → ∃ y, P j x y) → ∃ D : List (α × β), D.map Prod.fst = xs ∧ ∀ j d, D[j]? = some d → P j d.1 d.2
  | [], P, _ => ⟨[], rfl, fun j d h => by simp at h⟩
  | x :: t, P, h => by
    obtain ⟨y, hy⟩ := h 0 x rfl
    obtain ⟨D, hD, hP⟩ := pick_list t (fun j => P (j + 1)) (fun j x hx => h (j + 1) x (by simpa using hx))
    refine ⟨(x, y) :: D, by simp [hD], fun j d hd => ?_⟩
    cases j with
    | zero => obtain rfl := Option.some.inj hd; exact hy
    | succ j => exact hP j d (by simpa using hd)
theorem Deep.of_S {w : World} {base : Nat} {ok : Nat → Prop} {v : Value} {xs : List U.S47} (h : Kd.S U.k47 47 w base ok v xs) : ∃ D : List Dp, D.map Prod.fst = xs ∧ Deep w base v D := by
  obtain ⟨f, h0, inner, ho, hr⟩ := h
  have hlen : inner.length = xs.length * 2 := by have := hr.1; rw [List.length_zipIdx] at this; exact this
  obtain ⟨D, hD, hP⟩ := pick_list (β := Vl) xs (fun j x y => (inner.drop (j * 2)).take 2 = [.string x.f0, y.1] ∧ Kd.R U.k37 37 w base (fun k => (ok k ∧ some k ≠ v.ownBlock) ∧ f k = j) y.1 x.f1) (fun j x hx => by
    obtain ⟨v1, e, hR⟩ := U.k47_openM (hr.2 j (x, j) (Kd.zip_at hx))
    obtain ⟨A, c, e1⟩ := Kd.R_slice hR
    exact ⟨⟨v1, by rw [e1]; rfl⟩, e, hR⟩)
  have hDl : D.length = xs.length := by rw [← hD, List.length_map]
  refine ⟨D, hD, ⟨fun k hk => hk.symm, inner, ?_, ?_, fun j p hp => ?_⟩, fun d hd => ?_, ?_⟩
  · rw [List.length_map, hDl]; rw [List.length_zipIdx] at ho; exact ho
  · rw [List.length_map, hDl]; exact hlen
  · rw [List.getElem?_map] at hp
    obtain ⟨d, hd, rfl⟩ := Option.map_eq_some_iff.1 hp
    have e := (hP j d hd).1
    show V.k47.M w base _ (vp d) ((inner.drop (j * 2)).take 2)
    rw [e]
    exact V.k47_mkM _ _ _ (vp d)
  · obtain ⟨j, hj⟩ := List.getElem?_of_mem hd
    exact Kd.R_tight rfl (hP j d hj).2
  · refine List.pairwise_iff_getElem.2 (fun i j hi hj hij e => ?_)
    cases hk : Dp.own (D[i]) with
    | none => rfl
    | some k =>
      have a := (hP i _ (List.getElem?_eq_getElem hi)).2.1 k hk
      have b := (hP j _ (List.getElem?_eq_getElem hj)).2.1 k (e.symm.trans hk)
      have := a.2.symm.trans b.2
      omega
theorem Deep.below {w w' : World} {base : Nat} {v : Value} {D : List Dp} (h : Deep w base v D) (hb : Below w.heap.size w w') : Deep w' base v D :=
  ⟨Kd.R_below h.row hb, fun d hd => Kd.R_below (h.ins d hd) hb, h.apart⟩
theorem Deep.slice {w : World} {base : Nat} {v : Value} {D : List Dp} (h : Deep w base v D) : ∃ A c, v = .slice A D.length c := by
  obtain ⟨A, c, e⟩ := Kd.R_slice h.row
  rw [List.length_map] at e
  exact ⟨A, c, e⟩
theorem Deep.reads {w : World} {base : Nat} {v : Value} {D : List Dp} (h : Deep w base v D) : ∃ A c, v = .slice A D.length c ∧ D.length ≤ c ∧ Kd.C U.k47 w A D.length (D.map Prod.fst) := by
  obtain ⟨A, c, e, hl, h1, h2, h3⟩ := Kd.R_reads h.row
  rw [List.length_map] at e hl h2 h3
  refine ⟨A, c, e, hl, by rw [List.length_map], h2, fun hp => ?_⟩
  obtain ⟨ad, ea, hc⟩ := h3 hp
  refine ⟨ad, ea, fun j p hj => ?_⟩
  rw [List.getElem?_map] at hj
  obtain ⟨d, hd, rfl⟩ := Option.map_eq_some_iff.1 hj
  obtain ⟨c, hcl, hK, hcc⟩ := hc j (vp d) (by rw [List.getElem?_map, hd]; rfl)
  obtain rfl := V.k47_open hK
  obtain ⟨A1, c1, e1, hl1, hC1⟩ := Kd.R_reads (h.ins d (List.mem_of_getElem? hd))
  refine ⟨_, rfl, ?_, hcc⟩
  show U.k47.K w d.1 [.string d.1.f0, d.2.1]
  rw [e1]
  exact U.k47_mk w d.1 hl1 hC1
theorem Deep.at_ {w : World} {base n c i : Nat} {A : Option Addr} {D : List Dp} {d : Dp} (h : Deep w base (.slice A n c) D) (hd : D[i]? = some d) :
    ∃ ad, A = some ad ∧ w.cell? (ad.add (i * 2)) = some (.string d.1.f0) ∧ w.cell? ⟨(ad.add (i * 2)).block, (ad.add (i * 2)).off + 1, none⟩ = some d.2.1 := by
  obtain ⟨hn, _, hC⟩ := Kd.R_reads' h.row
  have hi : i < D.length := (List.getElem?_eq_some_iff.1 hd).1
  rw [List.length_map] at hn
  obtain ⟨ad, ea, h1, h2⟩ := V.at_T47 hC (i : Int) (by omega) (by rw [List.length_map]; omega)
  have e : V.rd_T47 (D.map vp) (i : Int) = vp d := by
    unfold V.rd_T47
    rw [Int.toNat_natCast, List.getD_eq_getElem?_getD, List.getElem?_map, hd]; rfl
  rw [e, Int.toNat_natCast] at h1 h2
  exact ⟨ad, ea, h1, h2⟩
theorem R_block {α : Type} {d : Kd α} {e : Nat} {w : World} {base : Nat} {ok : Nat → Prop} {v : Value} {xs : List α} (h : Kd.R d e w base ok v xs) (k : Nat) (hk : v.ownBlock = some k) : ∃ cells, w.heap[k]? = some (.cells cells e (0, 0)) := by
  obtain ⟨_, inner, ho, _⟩ := h
  exact own_typed ho k hk
/-- A package's row of files is not the packages' row. -/
theorem Deep.ne {w : World} {base : Nat} {v : Value} {D : List Dp} (h : Deep w base v D) {d : Dp} (hd : d ∈ D) (k : Nat) (hk : some k = d.own) : some k ≠ v.ownBlock := fun e => by
  obtain ⟨c1, e1⟩ := R_block (h.ins d hd) k hk.symm
  obtain ⟨c2, e2⟩ := R_block h.row k e.symm
  rw [e1] at e2
  injection e2 with e2
  injection e2 with _ e2
  exact absurd e2 (by decide)
theorem Deep.idx {w : World} {base : Nat} {v : Value} {D : List Dp} (h : Deep w base v D) {i j : Nat} {a b : Dp} (ha : D[i]? = some a) (hb : D[j]? = some b) (hij : i ≠ j) (k : Nat) (hk : some k = a.own) : some k ≠ b.own := fun e => by
  obtain ⟨hi, rfl⟩ := List.getElem?_eq_some_iff.1 ha
  obtain ⟨hj, rfl⟩ := List.getElem?_eq_some_iff.1 hb
  have hp := List.pairwise_iff_getElem.1 h.apart
  rcases Nat.lt_or_ge i j with c | c
  · have := hp i j hi hj c (hk.symm.trans e)
    rw [this] at hk; cases hk
  · have := hp j i hj hi (by omega) (e.symm.trans hk)
    rw [this] at e; cases e
theorem kept_below {base : Nat} {w0 w w' : World} {S : Nat → Prop} (hb : Below base w0 w) (hk : Kept w w' S) (hw : base ≤ w.heap.size) (hS : ∀ k, S k → base ≤ k) : Kept w w' S ∧ ∀ i, i < base → w'.heap[i]? = w.heap[i]? :=
  ⟨hk, fun i hi => hk.2 i (by omega) (fun h => by have := hS i h; omega)⟩
def ltX (a b : U.S47) : Bool := ltB a.f0 b.f0
def ltD (a b : Dp) : Bool := ltB a.1.f0 b.1.f0
theorem apart_perm {D D' : List Dp} (h : D.Perm D') (ha : D.Pairwise (fun a b => a.own = b.own → a.own = none)) : D'.Pairwise (fun a b => a.own = b.own → a.own = none) :=
  (h.pairwise_iff (fun {a b} hab e => e.trans (hab e.symm))).1 ha
/-- Packages in order. -/
theorem sortP_calls {w0 w : World} {v : Value} {D : List Dp} (hB : Below w0.heap.size w0 w) (h : Deep w w0.heap.size v D) (hl : D.length < 20) :
    Calls Tryd.prog 37 #[v, .func (.func 38) #[] #[]] w fun e w' => e = .returned (.tuple #[]) ∧ Deep w' w0.heap.size v (srt ltD D) ∧ Below w0.heap.size w0 w' := by
  obtain ⟨k, hk⟩ := V.ev_sort (D.map vp) (by rw [List.length_map]; exact hl)
  refine (V.api_Package_37.calls k (fun k => some k = v.ownBlock) v (D.map vp) _ w0 w hB h.row (hk k (Nat.le_refl _))).mono ?_
  rintro e w' ⟨rfl, hR, hb, hK⟩
  have hp := srt_perm ltD D
  have hm : srt V.lt (D.map vp) = (srt ltD D).map vp := srt_map (fun _ _ => rfl) D
  refine ⟨rfl, ⟨?_, fun d hd => ?_, apart_perm hp.symm h.apart⟩, hb⟩
  · rw [← hm]; exact Kd.R_tight rfl hR
  · have hd' := hp.mem_iff.1 hd
    exact Kd.R_kept (h.ins d hd') hK (fun k hk => h.ne hd' k hk)
/-- One package's files are written: the others stay. -/
theorem Deep.set {w w' : World} {base : Nat} {v : Value} {D : List Dp} {i : Nat} {d : Dp} (h : Deep w base v D) (hd : D[i]? = some d) {r : List U.S37} {ok : Nat → Prop} (hR : Kd.R U.k37 37 w' base ok d.2.1 r) (hK : Kept w w' (fun k => some k = d.own)) :
    Deep w' base v (D.set i (⟨d.1.f0, r⟩, d.2)) := by
  have hi : i < D.length := (List.getElem?_eq_some_iff.1 hd).1
  have hdD := List.mem_of_getElem? hd
  have hown : ∀ j (a : Dp), (D.set i (⟨d.1.f0, r⟩, d.2))[j]? = some a → ∃ b : Dp, D[j]? = some b ∧ a.2 = b.2 := fun j a ha => by
    by_cases c : i = j
    · subst c
      rw [List.getElem?_set_self hi] at ha
      obtain rfl := Option.some.inj ha
      exact ⟨d, hd, rfl⟩
    · rw [List.getElem?_set_ne c] at ha
      exact ⟨a, ha, rfl⟩
  refine ⟨?_, fun a ha => ?_, ?_⟩
  · have e : (D.set i (⟨d.1.f0, r⟩, d.2)).map vp = D.map vp := by
      rw [List.map_set]
      apply List.ext_getElem?
      intro j
      by_cases c : i = j
      · subst c
        rw [List.getElem?_set_self (by rw [List.length_map]; exact hi), List.getElem?_map, hd]; rfl
      · rw [List.getElem?_set_ne c]
    rw [e]
    exact Kd.R_kept h.row hK (fun k hk hk2 => h.ne hdD k hk2 hk)
  · obtain ⟨j, hj⟩ := List.getElem?_of_mem ha
    by_cases c : i = j
    · subst c
      rw [List.getElem?_set_self hi] at hj
      obtain rfl := Option.some.inj hj
      exact Kd.R_tight rfl hR
    · rw [List.getElem?_set_ne c] at hj
      exact Kd.R_kept (h.ins a (List.mem_of_getElem? hj)) hK (fun k hk => h.idx hj hd (fun e => c e.symm) k hk)
  · refine List.pairwise_iff_getElem.2 (fun j l hj hl hjl => ?_)
    obtain ⟨a, ha, ea⟩ := hown j _ (List.getElem?_eq_getElem hj)
    obtain ⟨b, hb, eb⟩ := hown l _ (List.getElem?_eq_getElem hl)
    obtain ⟨hj', rfl⟩ := List.getElem?_eq_some_iff.1 ha
    obtain ⟨hl', rfl⟩ := List.getElem?_eq_some_iff.1 hb
    have := List.pairwise_iff_getElem.1 h.apart j l hj' hl' hjl
    unfold Dp.own at this ⊢
    rw [ea, eb]
    exact this
/-- One package's files in order. -/
theorem sortF_calls {w0 w : World} {v : Value} {D : List Dp} {i : Nat} {d : Dp} (hB : Below w0.heap.size w0 w) (h : Deep w w0.heap.size v D) (hd : D[i]? = some d) (hl : d.1.f1.length < 20) :
    Calls Tryd.prog 40 #[d.2.1, .func (.func 41) #[] #[]] w fun e w' => e = .returned (.tuple #[]) ∧ Deep w' w0.heap.size v (D.set i (⟨d.1.f0, srt U.lt d.1.f1⟩, d.2)) ∧ Below w0.heap.size w0 w' := by
  obtain ⟨k, hk⟩ := U.ev_sort d.1.f1 hl
  refine (U.api_File_40.calls k (fun k => some k = d.own) d.2.1 d.1.f1 _ w0 w hB (h.ins d (List.mem_of_getElem? hd)) (hk k (Nat.le_refl _))).mono ?_
  rintro e w' ⟨rfl, hR, hb, hK⟩
  exact ⟨rfl, h.set hd hR hK, hb⟩
/-- Packages whose lists are their own. -/
theorem copied_calls {A0 : Option Addr} {c0 : Nat} {xs : List U.S47} {w : World} (hr : Kd.C U.k47 w A0 xs.length xs) (hc : xs.length ≤ c0) (hl : xs.length < 1000000) (hf : ∀ x ∈ xs, x.f1.length < 1000000) :
    Calls Tryd.prog 28 #[.slice A0 xs.length c0] w fun e w' => ∃ v D, e = .returned v ∧ D.map Prod.fst = xs ∧ Deep w' w.heap.size v D ∧ Below w.heap.size w w' := by
  obtain ⟨k, hk⟩ := U.ev_copied xs hl hf
  refine (U.files_copied.calls k A0 c0 xs xs w hr hc (hk k (Nat.le_refl _))).mono ?_
  rintro e w' ⟨v, rfl, hS, hb⟩
  obtain ⟨D, hD, h⟩ := Deep.of_S hS
  exact ⟨v, D, rfl, hD, h, hb⟩
end Go.Proofs.YteakcggbolfelaaDoor
