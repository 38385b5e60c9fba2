/-
  Packages told twice: with the texts' bytes, and with the texts' slices as they are.
-/
import Derived.Test.YteakcggbolfelaaDoorPe
import Derived.Test.YteakcggbolfelaaDoorYM
namespace Go.Proofs.YteakcggbolfelaaDoor
open Go.RowKit Go.Proofs.YteakcggbolfelaaDoorW.PrintWords Go.Proofs.YteakcggbolfelaaDoorW.PrintMore
set_option linter.unusedVariables false
structure ZF where
  n : ByteArray
  t : List Int
  v : Vl
structure ZP where
  p : ByteArray
  l : List ZF
def ZF.u (f : ZF) : U.S37 := ⟨f.n, f.v⟩
def ZF.y (f : ZF) : Y.S37 := ⟨f.n, f.t⟩
def ZP.u (z : ZP) : U.S47 := ⟨z.p, z.l.map ZF.u⟩
def ZP.y (z : ZP) : Y.S47 := ⟨z.p, z.l.map ZF.y⟩
/-- What a text's slice reads. -/
def TextOk (w : World) (f : ZF) : Prop := ∃ A c, f.v.1 = .slice A f.t.length c ∧ f.t.length ≤ c ∧ Kd.C (Kd.int .u8) w A f.t.length f.t
def Texts (w : World) (zs : List ZP) : Prop := ∀ z ∈ zs, ∀ f ∈ z.l, TextOk w f
theorem TextOk.below {w w' : World} {f : ZF} (h : TextOk w f) (hb : Below w.heap.size w w') : TextOk w' f := by
  obtain ⟨A, c, e, hl, hC⟩ := h
  exact ⟨A, c, e, hl, Kd.C_below hC hb⟩
theorem Texts.below {w w' : World} {zs : List ZP} (h : Texts w zs) (hb : Below w.heap.size w w') : Texts w' zs := fun z hz f hf => (h z hz f hf).below hb
theorem split_F {w : World} {A : Option Addr} {l : List Y.S37} (h : Kd.C Y.k37 w A l.length l) : ∃ fs : List ZF, fs.map ZF.y = l ∧ Kd.C U.k37 w A l.length (fs.map ZF.u) ∧ ∀ f ∈ fs, TextOk w f := by
  obtain ⟨h1, h2, h3⟩ := h
  cases l with
  | nil => exact ⟨[], rfl, ⟨rfl, h2, fun h => absurd h (by simp)⟩, fun f hf => by cases hf⟩
  | cons x t =>
    obtain ⟨ad, rfl, hc⟩ := h3 (by simp)
    obtain ⟨D, hD, hP⟩ := pick_list (β := Vl) (x :: t) (fun j p v => (∃ A1 c1, v.1 = .slice A1 p.f1.length c1 ∧ p.f1.length ≤ c1 ∧ Kd.C (Kd.int .u8) w A1 p.f1.length p.f1) ∧ ∀ i u, [Value.string p.f0, v.1][i]? = some u → w.cell? (ad.add (j * 2 + i)) = some u) (fun j p hp => by
      obtain ⟨c, _, hK, hcc⟩ := hc j p hp
      obtain ⟨A1, c1, rfl, hl, hC⟩ := Y.k37_open hK
      exact ⟨⟨.slice A1 p.f1.length c1, rfl⟩, ⟨A1, c1, rfl, hl, hC⟩, hcc⟩)
    have hl : D.length = (x :: t).length := by rw [← hD, List.length_map]
    refine ⟨D.map (fun d => ⟨d.1.f0, d.1.f1, d.2⟩), ?_, ⟨by simp only [List.length_map]; exact hl, h2, fun _ => ⟨ad, rfl, fun j p hp => ?_⟩⟩, fun f hf => ?_⟩
    · rw [List.map_map, ← hD]; rfl
    · rw [List.map_map, List.getElem?_map] at hp
      obtain ⟨d, hd, rfl⟩ := Option.map_eq_some_iff.1 hp
      exact ⟨[.string d.1.f0, d.2.1], rfl, U.k37_mk w ⟨d.1.f0, d.2⟩, (hP j d hd).2⟩
    · obtain ⟨d, hd, rfl⟩ := List.mem_map.1 hf
      obtain ⟨j, hj⟩ := List.getElem?_of_mem hd
      exact (hP j d hj).1
theorem split_P {w : World} {A : Option Addr} {l : List Y.S47} (h : Kd.C Y.k47 w A l.length l) : ∃ zs : List ZP, zs.map ZP.y = l ∧ Kd.C U.k47 w A l.length (zs.map ZP.u) ∧ Texts w zs := by
  obtain ⟨h1, h2, h3⟩ := h
  cases l with
  | nil => exact ⟨[], rfl, ⟨rfl, h2, fun h => absurd h (by simp)⟩, fun f hf => by cases hf⟩
  | cons x t =>
    obtain ⟨ad, rfl, hc⟩ := h3 (by simp)
    obtain ⟨D, hD, hP⟩ := pick_list (β := List ZF) (x :: t) (fun j p fs => fs.map ZF.y = p.f1 ∧ (∀ f ∈ fs, TextOk w f) ∧ ∃ A1 c1, p.f1.length ≤ c1 ∧ Kd.C U.k37 w A1 p.f1.length (fs.map ZF.u) ∧ ∀ i u, [Value.string p.f0, .slice A1 p.f1.length c1][i]? = some u → w.cell? (ad.add (j * 2 + i)) = some u) (fun j p hp => by
      obtain ⟨c, _, hK, hcc⟩ := hc j p hp
      obtain ⟨A1, c1, rfl, hl, hC⟩ := Y.k47_open hK
      obtain ⟨fs, e, hU, hT⟩ := split_F hC
      exact ⟨fs, e, hT, A1, c1, hl, hU, hcc⟩)
    have hl : D.length = (x :: t).length := by rw [← hD, List.length_map]
    have hy : ∀ d ∈ D, (d.2.map ZF.y : List Y.S37) = d.1.f1 := fun d hd => by
      obtain ⟨j, hj⟩ := List.getElem?_of_mem hd
      exact (hP j d hj).1
    refine ⟨D.map (fun d => ⟨d.1.f0, d.2⟩), ?_, ⟨by simp only [List.length_map]; exact hl, h2, fun _ => ⟨ad, rfl, fun j p hp => ?_⟩⟩, fun z hz => ?_⟩
    · rw [List.map_map, ← hD]
      exact List.map_congr_left (fun d hd => by show (⟨d.1.f0, d.2.map ZF.y⟩ : Y.S47) = d.1; rw [hy d hd])
    · rw [List.map_map, List.getElem?_map] at hp
      obtain ⟨d, hd, rfl⟩ := Option.map_eq_some_iff.1 hp
      obtain ⟨e, _, A1, c1, hl1, hU, hcc⟩ := hP j d hd
      have el : d.1.f1.length = (d.2.map ZF.u).length := by rw [← e, List.length_map, List.length_map]
      rw [el] at hl1 hU hcc
      exact ⟨_, rfl, U.k47_mk w ⟨d.1.f0, d.2.map ZF.u⟩ hl1 hU, hcc⟩
    · obtain ⟨d, hd, rfl⟩ := List.mem_map.1 hz
      obtain ⟨j, hj⟩ := List.getElem?_of_mem hd
      exact (hP j d hj).2.1
theorem join_F {w : World} {A : Option Addr} {n : Nat} {fs : List ZF} (h : Kd.C U.k37 w A n (fs.map ZF.u)) (ht : ∀ f ∈ fs, TextOk w f) : Kd.C Y.k37 w A n (fs.map ZF.y) := by
  obtain ⟨h1, h2, h3⟩ := h
  refine ⟨by rw [← h1, List.length_map, List.length_map], h2, fun hp => ?_⟩
  obtain ⟨ad, e, hc⟩ := h3 hp
  refine ⟨ad, e, fun j p hj => ?_⟩
  rw [List.getElem?_map] at hj
  obtain ⟨f, hf, rfl⟩ := Option.map_eq_some_iff.1 hj
  obtain ⟨c, hcl, hK, hcc⟩ := hc j f.u (by rw [List.getElem?_map, hf]; rfl)
  obtain rfl := U.k37_open hK
  obtain ⟨A1, c1, e1, hl1, hC1⟩ := ht f (List.mem_of_getElem? hf)
  refine ⟨_, rfl, ?_, hcc⟩
  show Y.k37.K w f.y [.string f.n, f.v.1]
  rw [e1]
  exact Y.k37_mk w f.y hl1 hC1
theorem join_P {w : World} {A : Option Addr} {n : Nat} {zs : List ZP} (h : Kd.C U.k47 w A n (zs.map ZP.u)) (ht : Texts w zs) : Kd.C Y.k47 w A n (zs.map ZP.y) := by
  obtain ⟨h1, h2, h3⟩ := h
  refine ⟨by rw [← h1, List.length_map, List.length_map], h2, fun hp => ?_⟩
  obtain ⟨ad, e, hc⟩ := h3 hp
  refine ⟨ad, e, fun j p hj => ?_⟩
  rw [List.getElem?_map] at hj
  obtain ⟨z, hz, rfl⟩ := Option.map_eq_some_iff.1 hj
  obtain ⟨c, hcl, hK, hcc⟩ := hc j z.u (by rw [List.getElem?_map, hz]; rfl)
  obtain ⟨A1, c1, rfl, hl1, hC1⟩ := U.k47_open hK
  have hY := join_F hC1 (ht z (List.mem_of_getElem? hz))
  have el : z.u.f1.length = z.y.f1.length := by show (z.l.map ZF.u).length = (z.l.map ZF.y).length; rw [List.length_map, List.length_map]
  rw [el] at hl1 hY hcc
  refine ⟨_, rfl, ?_, hcc⟩
  exact Y.k47_mk w z.y hl1 hY
end Go.Proofs.YteakcggbolfelaaDoor
