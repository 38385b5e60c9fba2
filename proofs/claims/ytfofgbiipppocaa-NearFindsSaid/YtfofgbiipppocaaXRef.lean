/-
  The document's Distance calls itself through two other functions: what it answers is told by a bound on the lengths, and its contract is a premise (a class) till the induction closes.
-/
import Derived.Test.YtfofgbiipppocaaXR0
import Derived.Test.YtfofgbiipppocaaDst
namespace Go.Proofs.Ytfofgbiipppocaa.XR
open Go.RowKit Go.Proofs.YtfofgbiipppocaaW.PrintWords Go.Proofs.YtfofgbiipppocaaW.PrintLast Go.Proofs.YtfofgbiipppocaaW.PrintMore Go.Proofs.Ytfofgbiipppocaa.Near
/-- A text's bytes. -/
def BL (a : ByteArray) : List Int := (RP a a.size).reverse
/-- A bound on both lengths together. -/
class Bound : Type where
  n : Nat
noncomputable def cavilref34_Distance.f [Bound] (a b : ByteArray) : Option Int := if a.size + b.size < Bound.n then some (dst (BL a) (BL b) : Int) else none
class Told [Bound] : Prop where
  told : ∀ (a0 : ByteArray) (a1 : ByteArray) (r : Int) (w : World), cavilref34_Distance.f a0 a1 = some r →
    Calls Try.prog 7 #[.string a0, .string a1] w fun e w' => e = .returned (.int .i64 r) ∧ Below w.heap.size w w'
theorem cavilref34_Distance.calls [Bound] [Told] (a0 : ByteArray) (a1 : ByteArray) (r : Int) (w : World) (h : cavilref34_Distance.f a0 a1 = some r) :
    Calls Try.prog 7 #[.string a0, .string a1] w fun e w' => e = .returned (.int .i64 r) ∧ Below w.heap.size w w' := Told.told a0 a1 r w h
end Go.Proofs.Ytfofgbiipppocaa.XR
