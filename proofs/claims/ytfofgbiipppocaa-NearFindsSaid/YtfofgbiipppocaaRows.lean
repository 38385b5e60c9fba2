/-
  No cell of these rows narrows 'for every input' (looked for: loops, veiled, ifaces, maps, wideKeys, modest, calm, conditions, laid).
  DERIVED. THE GIVEN ROWS OF THIS SEAT. 3 by the template 'for every input the law returns true; each argument reads behind the call as it read before'; 0 by the template 'total and deterministic' (their statements: YtfofgbiipppocaaTotals.lean).
  GIVEN WITH THE SEED: the statements are not yours to turn. If you find one false, say at which input.
  Laid BY PROGRAM, IN A SANDBOX (cutbox-rows.mjs): the forced cells as the released guide's own fill.sh prints them over the translation 6360ed9f2b423de8… (all of the seat's roots in one cut). By AI agents, Wed Nov 11 2026. No macro, syntax, notation, axiom, sorry.
-/
import Derived.Test.YtfofgbiipppocaaChecked
import GoSem.Claim
import GoSem.ClaimJoined
import GoSem.ClaimMapViews
import Derived.JoinedTies
import Derived.KernelRfl
namespace Go.Proofs.Ytfofgbiipppocaa
/- THE CELL 'sum', in the pinned program and in every row, IS THE sha256 OF THE DUMP (.gsa) THAT YtfofgbiipppocaaProg.lean LOADS. Nothing in Lean hashes anything: it is a label: what it is worth is what the hold of that sum in a sandbox is worth. -/
noncomputable def Try.pinned : Pinned := { name := "ytfofgbiipppocaa", sum := "6360ed9f2b423de85b389a16d80e9b08c5a97125b4e029fe4ddfd7881cfc9708", checked := Try.checked }
namespace Rows
def none {H : Type} : Left H := { results := [], args := [] }

/-- 'cavillaw34.NearDistance': WHATEVER THE INPUT: true; the input reads as it did. -/
def nearDistanceSpec : ChangeSpec := { name := "nearDistance", fn := fun _ => fun
  | [d1, d2] => { results := [.lit (.bool true)], args := [d1, d2] }
  | _ => none }
def nearDistanceRow : OpenClaim := { program := "ytfofgbiipppocaa", sum := "6360ed9f2b423de85b389a16d80e9b08c5a97125b4e029fe4ddfd7881cfc9708", func := "cavil/cavillaw34.NearDistance", spec := "nearDistance", unfollowed := true, recurses := true, apart := false }
def NearDistanceSaid : Prop := nearDistanceRow.holds Try.pinned (OpenSpec.ofChange nearDistanceSpec)

/-- ITS FALSE NEIGHBOUR: 'it returns false'. Refute it at one input. -/
def nearDistanceWrong : ChangeSpec := { name := "nearDistance", fn := fun _ => fun
  | [d1, d2] => { results := [.lit (.bool false)], args := [d1, d2] }
  | _ => none }
def NearDistanceWrongFalsely : Prop := nearDistanceRow.holds Try.pinned (OpenSpec.ofChange nearDistanceWrong)

/-- 'cavillaw34.NearFinds': WHATEVER THE INPUT: true; the input reads as it did. -/
def nearFindsSpec : ChangeSpec := { name := "nearFinds", fn := fun _ => fun
  | [d1, d2] => { results := [.lit (.bool true)], args := [d1, d2] }
  | _ => none }
def nearFindsRow : OpenClaim := { program := "ytfofgbiipppocaa", sum := "6360ed9f2b423de85b389a16d80e9b08c5a97125b4e029fe4ddfd7881cfc9708", func := "cavil/cavillaw34.NearFinds", spec := "nearFinds", unfollowed := true, recurses := true, apart := false }
def NearFindsSaid : Prop := nearFindsRow.holds Try.pinned (OpenSpec.ofChange nearFindsSpec)

/-- ITS FALSE NEIGHBOUR: 'it returns false'. Refute it at one input. -/
def nearFindsWrong : ChangeSpec := { name := "nearFinds", fn := fun _ => fun
  | [d1, d2] => { results := [.lit (.bool false)], args := [d1, d2] }
  | _ => none }
def NearFindsWrongFalsely : Prop := nearFindsRow.holds Try.pinned (OpenSpec.ofChange nearFindsWrong)

/-- 'cavillaw34.NearMeasures': WHATEVER THE INPUT: true; the input reads as it did. -/
def nearMeasuresSpec : ChangeSpec := { name := "nearMeasures", fn := fun _ => fun
  | [d1, d2] => { results := [.lit (.bool true)], args := [d1, d2] }
  | _ => none }
def nearMeasuresRow : OpenClaim := { program := "ytfofgbiipppocaa", sum := "6360ed9f2b423de85b389a16d80e9b08c5a97125b4e029fe4ddfd7881cfc9708", func := "cavil/cavillaw34.NearMeasures", spec := "nearMeasures", unfollowed := true, recurses := true, apart := false }
def NearMeasuresSaid : Prop := nearMeasuresRow.holds Try.pinned (OpenSpec.ofChange nearMeasuresSpec)

/-- ITS FALSE NEIGHBOUR: 'it returns false'. Refute it at one input. -/
def nearMeasuresWrong : ChangeSpec := { name := "nearMeasures", fn := fun _ => fun
  | [d1, d2] => { results := [.lit (.bool false)], args := [d1, d2] }
  | _ => none }
def NearMeasuresWrongFalsely : Prop := nearMeasuresRow.holds Try.pinned (OpenSpec.ofChange nearMeasuresWrong)

/- THE SECOND FORM. 'bulk': how many values and letters a reading holds, each counted each time it is reached (what is shared counts as often as it is met; a slice's spare places count too). A statement '..UptoSaid' is the law's where the arguments, and the package variables that the reading takes, are together of bulk at most 1048576: NARROWER than '..Said'. Prove '..Said' where nothing that the law and all that it calls make is longer than what came in: it says more and counts as full. Else prove '..UptoSaid'. A law counts once. -/
mutual
def uptoBulk {H : Type} : DataW H → Nat
  | .lit (.string bytes) => bytes.length + 1
  | .lit _ => 1
  | .nil => 1
  | .ptr d => uptoBulk d + 1
  | .slice elems spare => uptoBulkAll elems + uptoBulkAll spare + 1
  | .agg parts => uptoBulkAll parts + 1
  | .iface _ d => uptoBulk d + 1
  | .map entries => uptoBulkEntries entries + 1
  | .held _ => 1
def uptoBulkAll {H : Type} : List (DataW H) → Nat
  | [] => 0
  | d :: r => uptoBulk d + uptoBulkAll r
def uptoBulkEntries {H : Type} : List (Lit × DataW H) → Nat
  | [] => 0
  | x :: r => uptoBulkEntry x + uptoBulkEntries r
def uptoBulkEntry {H : Type} : Lit × DataW H → Nat
  | (.string bytes, d) => bytes.length + uptoBulk d + 1
  | (_, d) => uptoBulk d + 1
 end
def uptoSmall : (H : Type) → List (DataW H) → Bool := fun _ ds => decide (uptoBulkAll ds ≤ 1048576)
def OpenSpec.upto (s : _root_.Go.ChangeSpec) : _root_.Go.OpenSpec := { _root_.Go.OpenSpec.ofChange s with cond := some uptoSmall }

/-- 'cavillaw34.NearDistance', WHERE WHAT IT READS IS OF BULK AT MOST 1048576: true; the input reads as it did. -/
def nearDistanceUptoRow : OpenClaim := { program := "ytfofgbiipppocaa", sum := "6360ed9f2b423de85b389a16d80e9b08c5a97125b4e029fe4ddfd7881cfc9708", func := "cavil/cavillaw34.NearDistance", spec := "nearDistance", unfollowed := true, recurses := true, apart := false, narrowed := true }
def NearDistanceUptoSaid : Prop := nearDistanceUptoRow.holds Try.pinned (OpenSpec.upto nearDistanceSpec)

/-- 'cavillaw34.NearFinds', WHERE WHAT IT READS IS OF BULK AT MOST 1048576: true; the input reads as it did. -/
def nearFindsUptoRow : OpenClaim := { program := "ytfofgbiipppocaa", sum := "6360ed9f2b423de85b389a16d80e9b08c5a97125b4e029fe4ddfd7881cfc9708", func := "cavil/cavillaw34.NearFinds", spec := "nearFinds", unfollowed := true, recurses := true, apart := false, narrowed := true }
def NearFindsUptoSaid : Prop := nearFindsUptoRow.holds Try.pinned (OpenSpec.upto nearFindsSpec)

/-- 'cavillaw34.NearMeasures', WHERE WHAT IT READS IS OF BULK AT MOST 1048576: true; the input reads as it did. -/
def nearMeasuresUptoRow : OpenClaim := { program := "ytfofgbiipppocaa", sum := "6360ed9f2b423de85b389a16d80e9b08c5a97125b4e029fe4ddfd7881cfc9708", func := "cavil/cavillaw34.NearMeasures", spec := "nearMeasures", unfollowed := true, recurses := true, apart := false, narrowed := true }
def NearMeasuresUptoSaid : Prop := nearMeasuresUptoRow.holds Try.pinned (OpenSpec.upto nearMeasuresSpec)

end Rows
end Go.Proofs.Ytfofgbiipppocaa
