/-
  The document's Distance as the laws meet it: at texts of fewer than a thousand bytes together it tells the least number of steps.
-/
import Derived.Test.YtfofgbiipppocaaX0
import Derived.Test.YtfofgbiipppocaaRefD
namespace Go.Proofs.Ytfofgbiipppocaa.X
open Go.RowKit Go.Proofs.YtfofgbiipppocaaW.PrintWords Go.Proofs.YtfofgbiipppocaaW.PrintLast Go.Proofs.YtfofgbiipppocaaW.PrintMore Go.Proofs.Ytfofgbiipppocaa.Near
noncomputable def cavilref34_Distance.f (a0 : ByteArray) (a1 : ByteArray) : Option Int := if a0.size + a1.size < 1000 then some (dst (XR.BL a0) (XR.BL a1) : Int) else none
theorem cavilref34_Distance.calls (a0 : ByteArray) (a1 : ByteArray) (r : Int) (w : World) (h : cavilref34_Distance.f a0 a1 = some r) :
    Calls Try.prog 7 #[.string a0, .string a1] w fun e w' => e = .returned (.int .i64 r) ∧ Below w.heap.size w w' := by
  unfold cavilref34_Distance.f at h
  by_cases c : a0.size + a1.size < 1000
  · rw [if_pos c] at h
    obtain rfl := Option.some.inj h
    exact XR.ref_calls a0 a1 w c
  · rw [if_neg c] at h; cases h
end Go.Proofs.Ytfofgbiipppocaa.X
