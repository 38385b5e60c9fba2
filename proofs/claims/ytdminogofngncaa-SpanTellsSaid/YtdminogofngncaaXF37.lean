/-
  The merge in place of the sort, left out: no list of at most twenty spans comes to it. Its plain function answers nothing, so that its contract says nothing; what needs it is not proved by this text.
-/
import Derived.Test.YtdminogofngncaaX0
namespace Go.Proofs.Ytdminogofngncaa.X
open Go.RowKit Go.Proofs.YtdminogofngncaaW.PrintWords Go.Proofs.YtdminogofngncaaW.PrintLast Go.Proofs.YtdminogofngncaaW.PrintMore
set_option linter.unusedVariables false
def api_Span_37.f (_ : Nat) (_ : List S26) (_ _ _ : Int) : Option (List S26) := none
theorem api_Span_37.mono (y0 : List S26) (y1 y2 y3 : Int) : ∀ k, LeO (api_Span_37.f k y0 y1 y2 y3) (api_Span_37.f (k + 1) y0 y1 y2 y3) := fun _ => LeO.none _
theorem api_Span_37.calls (k : Nat) : ∀ (P0_ : Nat → Prop) (u9000_ : Value) (l0 : List (S26)) (a1 : Int) (a2 : Int) (a3 : Int)  (r : List (S26)) (w0 w : World) (hB : Below w0.heap.size w0 w) (ho0 : Kd.R k26 26 w w0.heap.size P0_ u9000_ l0) (h : api_Span_37.f k l0 a1 a2 a3 = some r),
    Calls Try.prog 37 #[u9000_, .int .i64 a1, .int .i64 a2, .int .i64 a3, .func (.func 25) #[] #[]] w fun e w' => e = .returned (.tuple #[]) ∧ Kd.R k26 26 w' w0.heap.size (fun k_ => (P0_ k_ ∨ w.heap.size ≤ k_)) u9000_ r ∧ Below w0.heap.size w0 w' ∧ Kept w w' (fun k_ => P0_ k_) := by
  intro P0_ u9000_ l0 a1 a2 a3 r w0 w hB ho0 h
  simp [api_Span_37.f] at h
end Go.Proofs.Ytdminogofngncaa.X
