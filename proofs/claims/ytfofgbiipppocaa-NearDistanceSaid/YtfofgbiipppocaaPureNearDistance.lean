/-
  The plain law NearDistance: both tell the least number of steps.
-/
import Derived.Test.YtfofgbiipppocaaXF3
import Derived.Test.YtfofgbiipppocaaPl
namespace Go.Proofs.Ytfofgbiipppocaa.Pure
open Go.RowKit Go.Proofs.Ytfofgbiipppocaa.X Go.Proofs.YtfofgbiipppocaaW.PrintWords Go.Proofs.YtfofgbiipppocaaW.PrintLast Go.Proofs.Ytfofgbiipppocaa.Near Go.Proofs.Ytfofgbiipppocaa.XR
theorem cut_le (a : ByteArray) : 0 ≤ mn (a.size : Int) 6 ∧ mn (a.size : Int) 6 ≤ a.size ∧ (a.extract 0 (mn (a.size : Int) 6).toNat).size ≤ 6 := by
  have h : 0 ≤ mn (a.size : Int) 6 ∧ mn (a.size : Int) 6 ≤ a.size ∧ mn (a.size : Int) 6 ≤ 6 := by unfold mn; split <;> omega
  refine ⟨h.1, h.2.1, ?_⟩
  rw [ByteArray.size_extract]; omega
theorem NearDistance : cavillaw34_NearDistance.Pure := by
  intro a0 a1 _ _
  have key : Ev (fun k => cavillaw34_NearDistance.f k a0 a1) true := by
    unfold cavillaw34_NearDistance.f
    obtain ⟨p1, p2, p3⟩ := cut_le a0
    obtain ⟨q1, q2, q3⟩ := cut_le a1
    refine ev_pos p1 (ev_pos p2 (ev_pos q1 (ev_pos q2 ?_)))
    generalize a0.extract 0 (mn (a0.size : Int) 6).toNat = a at p3
    generalize a1.extract 0 (mn (a1.size : Int) 6).toNat = b at q3
    refine ev_of (dist_ev a b (by omega) (by omega)) ?_
    have hr : X.cavilref34_Distance.f a b = some (dst (BL a) (BL b) : Int) := by
      unfold X.cavilref34_Distance.f; rw [if_pos (by omega)]
    simp only [hr, Option.bind_some]
    exact ev_pos trivial (ev_of works (ev_now rfl))
  exact key.rounds
end Go.Proofs.Ytfofgbiipppocaa.Pure
