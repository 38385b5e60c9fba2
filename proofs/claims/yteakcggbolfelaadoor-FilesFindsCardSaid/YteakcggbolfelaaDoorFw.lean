/-
  What Few hands on is small.
-/
import Derived.Test.YteakcggbolfelaaDoorYM2
import Derived.Test.YteakcggbolfelaaDoorSo
namespace Go.Proofs.YteakcggbolfelaaDoor.Y
open Go.RowKit Go.Proofs.YteakcggbolfelaaDoorW.PrintWords Go.Proofs.YteakcggbolfelaaDoorW.PrintMore
set_option linter.unusedVariables false
def FOk (f : S37) : Prop := f.f0.size ≤ 70 ∧ f.f1.length ≤ 300
def POk (p : S47) : Prop := p.f0.size ≤ 140 ∧ p.f1.length ≤ 6 ∧ ∀ f ∈ p.f1, FOk f
def FewOk (r : List S47) : Prop := r.length ≤ 8 ∧ ∀ p ∈ r, POk p
theorem mn70 (a : Nat) : 0 ≤ mn (a : Int) 70 ∧ mn (a : Int) 70 ≤ (a : Int) ∧ (mn (a : Int) 70).toNat ≤ 70 := by
  unfold mn; split <;> omega
theorem mn140 (a : Nat) : 0 ≤ mn (a : Int) 140 ∧ mn (a : Int) 140 ≤ (a : Int) ∧ (mn (a : Int) 140).toNat ≤ 140 := by
  unfold mn; split <;> omega
theorem mn300 (a : Nat) : 0 ≤ mn (a : Int) 300 ∧ mn (a : Int) 300 ≤ (a : Int) ∧ (mn (a : Int) 300).toNat ≤ 300 := by
  unfold mn; split <;> omega
theorem cut70 (s : ByteArray) : (s.extract 0 ((mn (s.size : Int) 70) : Int).toNat).size ≤ 70 := by
  have := (mn70 s.size).2.2
  rw [ByteArray.size_extract]; omega
theorem cut140 (s : ByteArray) : (s.extract 0 ((mn (s.size : Int) 140) : Int).toNat).size ≤ 140 := by
  have := (mn140 s.size).2.2
  rw [ByteArray.size_extract]; omega
theorem cut300 (s : List Int) : (s.take ((mn (s.length : Int) 300) : Int).toNat).length ≤ 300 := by
  have := (mn300 s.length).2.2
  rw [List.length_take]; omega
theorem few_l1 (x0 x3 : List S47) (i : Nat) (path : ByteArray) (hi : i < x0.length) (h3 : x3.length < 9) (hp : path.size ≤ 140)
    (ih : ∀ y, POk y → ∃ r, Ev (fun k => cavillaw05_Few.l0 k x0 (x3 ++ [y]) (wrap64 ((i : Int) + 1))) r ∧ FewOk r) :
    ∀ (m j : Nat) (acc : List S37), j + m = 6 → acc.length = j → (∀ f ∈ acc, FOk f) → ∃ r, Ev (fun k => cavillaw05_Few.l1 k x0 x3 (i : Int) (j : Int) path acc) r ∧ FewOk r
  | 0, j, acc, hj, hl, ha => by
    obtain ⟨r, hr, ho⟩ := ih ⟨path, acc⟩ ⟨hp, by show acc.length ≤ 6; omega, ha⟩
    refine ⟨r, ev_succ ?_, ho⟩
    simp only [cavillaw05_Few.l1]
    refine ev_pos (by omega) (ev_pos (by omega) ?_)
    by_cases c : (j : Int) < (((rd_T47 x0 (i : Int)).f1).length : Int)
    · exact ev_pos c (ev_neg (by omega) (ev_pos (by omega) hr))
    · exact ev_neg c (ev_pos (by omega) hr)
  | m + 1, j, acc, hj, hl, ha => by
    by_cases c : (j : Int) < (((rd_T47 x0 (i : Int)).f1).length : Int)
    · have e1 : wrap64 ((j : Int) + 1) = ((j + 1 : Nat) : Int) := by rw [w64 (by omega) (by omega)]; omega
      have c1 : 0 ≤ (i : Int) := by omega
      have c2 : (i : Int) < (x0.length : Int) := by omega
      have c3 : (j : Int) < 6 := by omega
      have c4 : 0 ≤ (j : Int) := by omega
      have c5 : acc.length < 3518437208883 := by omega
      have rec_ := few_l1 x0 x3 i path hi h3 hp ih m (j + 1)
      generalize hF : rd_T37 ((rd_T47 x0 (i : Int)).f1) (j : Int) = F
      obtain ⟨r, hr, ho⟩ := rec_ (acc ++ [⟨(F.f0).extract 0 ((mn ((F.f0).size : Int) 70) : Int).toNat, ((F.f1).take ((mn ((F.f1).length : Int) 300) : Int).toNat)⟩]) (by omega) (by simp; omega) (fun f hf => by
          rcases List.mem_append.1 hf with hf | hf
          · exact ha f hf
          · obtain rfl := List.mem_singleton.1 hf
            exact ⟨cut70 _, cut300 _⟩)
      clear rec_ ih
      refine ⟨r, ev_succ ?_, ho⟩
      simp only [cavillaw05_Few.l1, hF]
      rw [← e1] at hr
      exact ev_pos c1 (ev_pos c2 (ev_pos c (ev_pos c3 (ev_pos c4 (ev_pos (mn70 _).1 (ev_pos (mn70 _).2.1 (ev_pos (mn300 _).1 (ev_pos (mn300 _).2.1 (ev_pos c5 hr)))))))))
    · obtain ⟨r, hr, ho⟩ := ih ⟨path, acc⟩ ⟨hp, by show acc.length ≤ 6; omega, ha⟩
      refine ⟨r, ev_succ ?_, ho⟩
      simp only [cavillaw05_Few.l1]
      exact ev_pos (by omega) (ev_pos (by omega) (ev_neg c (ev_pos (by omega) hr)))
theorem few_l0 (x0 : List S47) : ∀ (m i : Nat) (x3 : List S47), i + m = 8 → x3.length = i → (∀ p ∈ x3, POk p) → ∃ r, Ev (fun k => cavillaw05_Few.l0 k x0 x3 (i : Int)) r ∧ FewOk r
  | 0, i, x3, hj, hl, ha => by
    refine ⟨x3, ev_succ ?_, by omega, ha⟩
    simp only [cavillaw05_Few.l0]
    have e : decide ((i : Int) < 8) = false := decide_eq_false (by omega)
    rw [e]
    by_cases c : (i : Int) < (x0.length : Int)
    · refine ev_pos c (ev_succ ?_); simp only [cavillaw05_Few.j1]; exact ev_neg (by simp) (ev_now rfl)
    · refine ev_neg c (ev_succ ?_); simp only [cavillaw05_Few.j1]; exact ev_neg (by simp) (ev_now rfl)
  | m + 1, i, x3, hj, hl, ha => by
    by_cases c : (i : Int) < (x0.length : Int)
    · have e1 : wrap64 ((i : Int) + 1) = ((i + 1 : Nat) : Int) := by rw [w64 (by omega) (by omega)]; omega
      obtain ⟨r, hr, ho⟩ := few_l1 x0 x3 i (((rd_T47 x0 (i : Int)).f0).extract 0 ((mn (((rd_T47 x0 (i : Int)).f0).size : Int) 140) : Int).toNat) (by omega) (by omega) (cut140 _) (fun y hy => by
        rw [e1]
        exact few_l0 x0 m (i + 1) (x3 ++ [y]) (by omega) (by simp; omega) (fun p hp => by
          rcases List.mem_append.1 hp with hp | hp
          · exact ha p hp
          · obtain rfl := List.mem_singleton.1 hp; exact hy)) 6 0 [] rfl rfl (fun f hf => by cases hf)
      refine ⟨r, ev_succ ?_, ho⟩
      simp only [cavillaw05_Few.l0]
      have e : decide ((i : Int) < 8) = true := decide_eq_true (by omega)
      rw [e]
      refine ev_pos c (ev_succ ?_)
      simp only [cavillaw05_Few.j1]
      exact ev_pos trivial (ev_pos (by omega) (ev_pos (by omega) (ev_pos (mn140 _).1 (ev_pos (mn140 _).2.1 hr))))
    · refine ⟨x3, ev_succ ?_, by omega, ha⟩
      simp only [cavillaw05_Few.l0]
      refine ev_neg c (ev_succ ?_)
      simp only [cavillaw05_Few.j1]
      exact ev_neg (by simp) (ev_now rfl)
theorem few_ev (x0 : List S47) : ∃ r, Ev (fun k => cavillaw05_Few.f k x0) r ∧ FewOk r := few_l0 x0 8 0 [] rfl rfl (fun p hp => by cases hp)
end Go.Proofs.YteakcggbolfelaaDoor.Y
