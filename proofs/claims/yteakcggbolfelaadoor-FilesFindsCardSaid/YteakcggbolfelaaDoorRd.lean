/-
  Reading what came in: a value that reads as data of a type is told by the kinds of the walks (K), with what is known of each number and each length.
-/
import Derived.Test.YteakcggbolfelaaDoorWWords
import Derived.ProofKit
import Derived.Deep.Slices
import Derived.Deep.Strs
import Derived.ChangeSame
import Derived.Below
import Derived.Carry
import Derived.OpenShut
namespace Go.Proofs.YteakcggbolfelaaDoor.Rd
open Go.RowKit Go.Deep Go.Proofs.YteakcggbolfelaaDoorW.PrintWords
set_option linter.unusedVariables false

/-- Whatever reads as data of type t is of the kind d, with Q. -/
def Rds (P : Program) (t : TypeId) {α : Type} (d : Kd α) (Q : α → Prop) : Prop :=
  ∀ (H : Type) (enc : TypeId × Value → H) (W : World) (base : Nat) (spare : Nat → Bool) (held : Bool) (fuel : Nat) (cs : List Value) (x : DataW H × List MemPlace),
    DataW.trod enc P W base spare held fuel t cs = some x → ∃ a, d.K W a cs ∧ Q a
section
variable {P : Program} {t e : TypeId}
theorem Rds.int {k : IntKind} (ht : P.underlying t = some (.int k)) : Rds P t (Kd.int k) (fun a => (Lit.int k a).wf = true) := by
  intro H enc W base spare held fuel cs x h
  obtain ⟨n, rfl, rfl, hw⟩ := DataW.trod_int ht h
  exact ⟨n, rfl, hw⟩
theorem Rds.bool (ht : P.underlying t = some .bool) : Rds P t Kd.bool (fun _ => True) := by
  intro H enc W base spare held fuel cs x h
  cases fuel with
  | zero => simp [DataW.trod] at h
  | succ n =>
    simp only [DataW.trod, ht] at h
    split at h <;> first | (exact ⟨_, rfl, trivial⟩) | simp_all
theorem Rds.string (ht : P.underlying t = some .string) : Rds P t Kd.string (fun a => a.size ≤ maxLen) := by
  intro H enc W base spare held fuel cs x h
  cases fuel with
  | zero => simp [DataW.trod] at h
  | succ n =>
    simp only [DataW.trod, ht] at h
    split at h <;> simp_all
    rename_i s
    exact ⟨s, rfl, h.1⟩
theorem mapM_at {α β : Type} {f : α → Option β} : ∀ {l : List α} {r : List β}, l.mapM f = some r → r.length = l.length ∧ ∀ (i : Nat) (a : α) (b : β), l[i]? = some a → r[i]? = some b → f a = some b
  | [], r, h => by
    simp at h; subst h; simp
  | a :: l, r, h => by
    simp only [List.mapM_cons, Option.bind_eq_bind, Option.bind_eq_some_iff, Option.pure_def, Option.some.injEq] at h
    obtain ⟨b, hb, bs, hbs, rfl⟩ := h
    obtain ⟨h1, h2⟩ := mapM_at hbs
    refine ⟨by simp [h1], fun i x y hx hy => ?_⟩
    cases i with
    | zero => simp at hx hy; subst hx hy; exact hb
    | succ i => exact h2 i x y (by simpa using hx) (by simpa using hy)
theorem cells_at {W : World} {base : Nat} {a : Addr} {n : Nat} {cs : List Value} (h : W.cells? base a n = some cs) : cs.length = n ∧ ∀ i u, cs[i]? = some u → W.cell? (a.add i) = some u := by
  unfold World.cells? at h
  split at h
  · obtain ⟨h1, h2⟩ := mapM_at h
    rw [List.length_range] at h1
    refine ⟨h1, fun i u hi => ?_⟩
    have hlt : i < cs.length := (List.getElem?_eq_some_iff.1 hi).1
    exact h2 i i u (by rw [List.getElem?_range (by omega)]) hi
  · simp at h
theorem add_add_nat (a : Addr) (i j : Nat) : (a.add i).add j = a.add (i + j) := by
  obtain ⟨b, o, s⟩ := a
  unfold Addr.add
  by_cases hi : i = 0 <;> by_cases hj : j = 0 <;> simp_all <;> omega
theorem choose_list {α : Type} {p : Nat → α → Prop} : ∀ (n : Nat), (∀ i, i < n → ∃ a, p i a) → ∃ l : List α, l.length = n ∧ ∀ i a, l[i]? = some a → p i a
  | 0, _ => ⟨[], rfl, by simp⟩
  | n + 1, h => by
    obtain ⟨l, hl, hp⟩ := choose_list n (fun i hi => h i (by omega))
    obtain ⟨a, ha⟩ := h n (by omega)
    refine ⟨l ++ [a], by simp [hl], fun i b hb => ?_⟩
    by_cases hi : i < n
    · rw [List.getElem?_append_left (by omega)] at hb; exact hp i b hb
    · have : i < (l ++ [a]).length := (List.getElem?_eq_some_iff.1 hb).1
      simp [hl] at this
      obtain rfl : i = n := by omega
      rw [List.getElem?_append_right (by omega)] at hb
      simp [hl] at hb; subst hb; exact ha
theorem Rds.slice {α : Type} {d : Kd α} {Q : α → Prop} (ht : P.underlying t = some (.slice e)) (hc : P.cellsOf e = d.sz) (h : Rds P e d Q) : Rds P t (Kd.slice e d) (fun l => l.length ≤ maxLen ∧ ∀ x ∈ l, Q x) := by
  intro H enc W base spare held fuel cs x hx
  rcases open_slice ht hx with ⟨rfl, _⟩ | ⟨a, len, cap, m, n, D, Pl, rfl, hb, hl, hm, hmm, _, hel⟩
  · refine ⟨[], ⟨none, 0, rfl, by simp, rfl, by simp, fun h => by simp at h⟩, by simp, by simp⟩
  · have hle : len ≤ m := by rw [hmm]; split <;> omega
    obtain ⟨l, hlen, hl2⟩ := choose_list (p := fun i (y : α) => ∃ c, (c.length = d.sz ∧ ∀ j u, c[j]? = some u → W.cell? (a.add (i * d.sz + j)) = some u) ∧ d.K W y c ∧ Q y) len (fun i hi => by
      obtain ⟨cs', h1, h2⟩ := hel i (by omega)
      obtain ⟨y, hy, hq⟩ := h H enc W base spare held n cs' _ h2
      rw [hc] at h1
      obtain ⟨h3, h4⟩ := cells_at h1
      exact ⟨y, cs', ⟨h3, fun j u hj => by rw [← add_add_nat]; exact h4 j u hj⟩, hy, hq⟩)
    have hmx : maxLen = 9223372036854775807 := rfl
    refine ⟨l, ⟨some a, cap, by rw [hlen], by omega, rfl, by omega, fun _ => ⟨a, rfl, fun j p hj => ?_⟩⟩, by omega, fun y hy => ?_⟩
    · obtain ⟨c, ⟨h1, h2⟩, h3, _⟩ := hl2 j p hj
      exact ⟨c, h1, h3, h2⟩
    · obtain ⟨i, hi⟩ := List.mem_iff_getElem?.1 hy
      obtain ⟨_, _, _, hq⟩ := hl2 i y hi
      exact hq
theorem take_drop_split {α : Type} {cs : List α} {a b : Nat} (h : cs.length = a + b) : cs = cs.take a ++ (cs.drop a).take b := by
  rw [List.take_of_length_le (l := cs.drop a) (by simp; omega), List.take_append_drop]
theorem Rds.struct2 {α β γ : Type} {d0 : Kd α} {d1 : Kd β} {Q0 : α → Prop} {Q1 : β → Prop} {f : γ → α × β} {f0 f1 : Field} (ht : P.underlying t = some (.struct #[f0, f1])) (ho0 : f0.offset = 0) (ho1 : f1.offset = d0.sz)
    (hc0 : P.cellsOf f0.type = d0.sz) (hc1 : P.cellsOf f1.type = d1.sz) (hc : P.cellsOf t = d0.sz + d1.sz) (h0 : Rds P f0.type d0 Q0) (h1 : Rds P f1.type d1 Q1) (g : α → β → γ) (hg : ∀ a b, f (g a b) = (a, b)) :
    Rds P t (Kd.iso (Kd.pair d0 d1) f) (fun x => Q0 (f x).1 ∧ Q1 (f x).2) := by
  intro H enc W base spare held fuel cs x hx
  obtain ⟨y0, y1, n, _, hl, t0, t1⟩ := ChangeShapes.trod_struct2 ht hx
  rw [ho0, hc0, List.drop_zero] at t0
  rw [ho1, hc1] at t1
  obtain ⟨a, ka, qa⟩ := h0 H enc W base spare held n _ _ t0
  obtain ⟨b, kb, qb⟩ := h1 H enc W base spare held n _ _ t1
  refine ⟨g a b, ⟨_, _, take_drop_split (hl.trans hc), ?_, ?_⟩, ?_⟩
  · rw [hg]; exact ka
  · rw [hg]; exact kb
  · show Q0 (f (g a b)).1 ∧ Q1 (f (g a b)).2; rw [hg]; exact ⟨qa, qb⟩
theorem Rds.struct3 {α β δ γ : Type} {d0 : Kd α} {d1 : Kd β} {d2 : Kd δ} {Q0 : α → Prop} {Q1 : β → Prop} {Q2 : δ → Prop} {f : γ → α × (β × δ)} {f0 f1 f2 : Field} (ht : P.underlying t = some (.struct #[f0, f1, f2])) (ho0 : f0.offset = 0) (ho1 : f1.offset = d0.sz) (ho2 : f2.offset = d0.sz + d1.sz)
    (hc0 : P.cellsOf f0.type = d0.sz) (hc1 : P.cellsOf f1.type = d1.sz) (hc2 : P.cellsOf f2.type = d2.sz) (hc : P.cellsOf t = d0.sz + (d1.sz + d2.sz)) (h0 : Rds P f0.type d0 Q0) (h1 : Rds P f1.type d1 Q1) (h2 : Rds P f2.type d2 Q2) (g : α → β → δ → γ) (hg : ∀ a b c, f (g a b c) = (a, b, c)) :
    Rds P t (Kd.iso (Kd.pair d0 (Kd.pair d1 d2)) f) (fun x => Q0 (f x).1 ∧ Q1 (f x).2.1 ∧ Q2 (f x).2.2) := by
  intro H enc W base spare held fuel cs x hx
  obtain ⟨y0, y1, y2, n, _, hl, t0, t1, t2⟩ := trod_struct3 ht hx
  rw [ho0, hc0, List.drop_zero] at t0
  rw [ho1, hc1] at t1
  rw [ho2, hc2] at t2
  obtain ⟨a, ka, qa⟩ := h0 H enc W base spare held n _ _ t0
  obtain ⟨b, kb, qb⟩ := h1 H enc W base spare held n _ _ t1
  obtain ⟨c, kc, qc⟩ := h2 H enc W base spare held n _ _ t2
  have e1 := take_drop_split (cs := cs) (a := d0.sz) (b := d1.sz + d2.sz) (hl.trans hc)
  have e2 := take_drop_split (cs := (cs.drop d0.sz).take (d1.sz + d2.sz)) (a := d1.sz) (b := d2.sz) (by rw [List.length_take, List.length_drop, hl, hc]; omega)
  refine ⟨g a b c, ⟨_, _, e1, by rw [hg]; exact ka, ⟨_, _, e2, ?_, ?_⟩⟩, by show Q0 (f (g a b c)).1 ∧ Q1 (f (g a b c)).2.1 ∧ Q2 (f (g a b c)).2.2; rw [hg]; exact ⟨qa, qb, qc⟩⟩
  · rw [hg, List.take_take, Nat.min_eq_left (by omega)]; exact kb
  · rw [hg, List.drop_take, List.drop_drop, Nat.add_sub_cancel_left, List.take_take, Nat.min_self]; exact kc
theorem Rds.array2 {α γ : Type} {d0 : Kd α} {Q0 : α → Prop} {f : γ → α × α} {e : TypeId} (ht : P.underlying t = some (.array 2 e))
    (hc0 : P.cellsOf e = d0.sz) (hc : P.cellsOf t = d0.sz + d0.sz) (h0 : Rds P e d0 Q0) (g : α → α → γ) (hg : ∀ a b, f (g a b) = (a, b)) :
    Rds P t (Kd.iso (Kd.pair d0 d0) f) (fun x => Q0 (f x).1 ∧ Q0 (f x).2) := by
  intro H enc W base spare held fuel cs x hx
  obtain ⟨xs, n, _, _, hl, hxl, hf⟩ := DataW.trod_array ht hx
  have t0 := hf 0 (by omega)
  have t1 := hf 1 (by omega)
  rw [List.getElem?_eq_getElem (by omega), hc0] at t0 t1
  rw [Nat.zero_mul, List.drop_zero] at t0
  rw [Nat.one_mul] at t1
  obtain ⟨a, ka, qa⟩ := h0 H enc W base spare held n _ _ t0
  obtain ⟨b, kb, qb⟩ := h0 H enc W base spare held n _ _ t1
  refine ⟨g a b, ⟨_, _, take_drop_split (hl.trans hc), ?_, ?_⟩, ?_⟩
  · rw [hg]; exact ka
  · rw [hg]; exact kb
  · show Q0 (f (g a b)).1 ∧ Q0 (f (g a b)).2; rw [hg]; exact ⟨qa, qb⟩
theorem Rds.imp {α : Type} {d : Kd α} {Q Q' : α → Prop} (h : Rds P t d Q) (hq : ∀ a, Q a → Q' a) : Rds P t d Q' := by
  intro H enc W base spare held fuel cs x hx
  obtain ⟨a, ha, qa⟩ := h H enc W base spare held fuel cs x hx
  exact ⟨a, ha, hq a qa⟩
/-- An argument that is a slice, opened. -/
theorem Rds.open_slice {H : Type} {enc : TypeId × Value → H} {W : World} {base : Nat} {spare : Nat → Bool} {held : Bool} {D : DataW H} {ps : List MemPlace} {α : Type} {d : Kd α} {Q : List α → Prop} (h : Rds P t (Kd.slice e d) Q) {a : Option Addr} {len cap : Nat} (ht : DataW.Trod enc P W base spare held t (.slice a len cap) D ps) :
    ∃ l : List α, len = l.length ∧ l.length ≤ cap ∧ d.C W a l.length l ∧ Q l := by
  obtain ⟨fuel, hf⟩ := ht
  obtain ⟨l, ⟨A, c, hcs, hl, hC⟩, hQ⟩ := h H enc W base spare held fuel _ _ hf
  simp [Value.cells] at hcs
  obtain ⟨rfl, rfl, rfl⟩ := hcs
  exact ⟨l, rfl, hl, hC, hQ⟩
/-- An argument that is a struct, opened. -/
theorem Rds.open_agg {H : Type} {enc : TypeId × Value → H} {W : World} {base : Nat} {spare : Nat → Bool} {held : Bool} {D : DataW H} {ps : List MemPlace} {α : Type} {d : Kd α} {Q : α → Prop} (h : Rds P t d Q) {cs : Array Value} (ht : DataW.Trod enc P W base spare held t (.agg cs) D ps) :
    ∃ x : α, d.K W x cs.toList ∧ Q x := by
  obtain ⟨fuel, hf⟩ := ht
  exact h H enc W base spare held fuel _ _ hf
end
end Go.Proofs.YteakcggbolfelaaDoor.Rd
