/-
  What the laws of spans check at fixed spans.
-/
import Derived.Test.YtdminogofngncaaXF10
import Derived.Test.YtdminogofngncaaXM2
namespace Go.Proofs.Ytdminogofngncaa.X
open Go.RowKit Go.Proofs.YtdminogofngncaaW.PrintWords
theorem works_at : cavillaw03_works.f 40 = some true := by decide +kernel
theorem works : Ev (fun k => cavillaw03_works.f k) true := Ev.of cavillaw03_works.mono works_at
end Go.Proofs.Ytdminogofngncaa.X
