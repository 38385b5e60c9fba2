/-
  DERIVED. GIVEN WITH THE SEED: THE CARDS: each row of YteakcggbolfelaaDoorRows.lean that lists a variable, with what it lists TIED to the program's text (the seventh form; the later family's looks); each row that meets fmt, with fmt's text TOLD by the authors' own Lean function (tested against real Go, not proved from fmt's source: count such statements apart). THE CARD IS WHAT COUNTS. Prove the row's statement (the work); the ties are given (YteakcggbolfelaaDoorTie.lean); close each card by the builder's one call (the guide's Derived/Test/ToyasCard.lean, 'card_holds'). Laid BY PROGRAM, IN A SANDBOX (cutbox-door.mjs). By AI agents, Wed Nov 11 2026. No macro, syntax, notation, axiom, sorry.
-/
import Derived.Test.YteakcggbolfelaaDoorRows
import GoSem.ClaimSeven
namespace Go.Proofs.YteakcggbolfelaaDoor
namespace Rows

/-- THE TIED CARD OF 'cavillaw05.FilesNames'. -/
def filesNamesCard : Claim7 := { stood := { row := filesNamesRow, standIns := [], harness := (true, "9784589d359dd75b57f5c18852d1fd7182604635ff9998e0f45546fd1054a173"), looks := true }, kinds := [], alts := [], laidByText := true, laidKinds := [.data, .pinned], laidTests := true, laidLooks := .later }
def FilesNamesCardSaid : Prop := Claim7.holds Tryd.pinned (.plain (OpenSpec.ofChange filesNamesSpec)) filesNamesCard

/-- THE TIED CARD OF 'cavillaw05.FilesPermutes'. -/
def filesPermutesCard : Claim7 := { stood := { row := filesPermutesRow, standIns := [], harness := (true, "9784589d359dd75b57f5c18852d1fd7182604635ff9998e0f45546fd1054a173"), looks := true }, kinds := [], alts := [], laidByText := true, laidKinds := [.data, .pinned], laidTests := true, laidLooks := .later }
def FilesPermutesCardSaid : Prop := Claim7.holds Tryd.pinned (.plain (OpenSpec.ofChange filesPermutesSpec)) filesPermutesCard

/-- THE TIED CARD OF 'cavillaw05.FilesFinds'. -/
def filesFindsCard : Claim7 := { stood := { row := filesFindsRow, standIns := [], harness := (true, "9784589d359dd75b57f5c18852d1fd7182604635ff9998e0f45546fd1054a173"), looks := true }, kinds := [], alts := [], laidByText := true, laidKinds := [.data, .pinned], laidTests := true, laidLooks := .later }
def FilesFindsCardSaid : Prop := Claim7.holds Tryd.pinned (.plain (OpenSpec.ofChange filesFindsSpec)) filesFindsCard

/-- THE TIED CARD OF 'cavillaw05.FilesChecks'. -/
def filesChecksCard : Claim7 := { stood := { row := filesChecksRow, standIns := [], harness := (true, "9784589d359dd75b57f5c18852d1fd7182604635ff9998e0f45546fd1054a173"), looks := true }, kinds := [], alts := [], laidByText := true, laidKinds := [.data, .handle, .pinned], laidTests := true, laidLooks := .later }
def FilesChecksCardSaid : Prop := Claim7.holds Tryd.pinned (.plain (OpenSpec.ofChange filesChecksSpec)) filesChecksCard

/-- THE SECOND FORM's CARD OF 'cavillaw05.FilesNames'. -/
def filesNamesUptoCard : Claim7 := { stood := { row := filesNamesUptoRow, standIns := [], harness := (true, "9784589d359dd75b57f5c18852d1fd7182604635ff9998e0f45546fd1054a173"), looks := true }, kinds := [], alts := [], laidByText := true, laidKinds := [.data, .pinned], laidTests := true, laidLooks := .later }
def FilesNamesUptoCardSaid : Prop := Claim7.holds Tryd.pinned (.plain (OpenSpec.upto filesNamesSpec)) filesNamesUptoCard

/-- THE SECOND FORM's CARD OF 'cavillaw05.FilesPermutes'. -/
def filesPermutesUptoCard : Claim7 := { stood := { row := filesPermutesUptoRow, standIns := [], harness := (true, "9784589d359dd75b57f5c18852d1fd7182604635ff9998e0f45546fd1054a173"), looks := true }, kinds := [], alts := [], laidByText := true, laidKinds := [.data, .pinned], laidTests := true, laidLooks := .later }
def FilesPermutesUptoCardSaid : Prop := Claim7.holds Tryd.pinned (.plain (OpenSpec.upto filesPermutesSpec)) filesPermutesUptoCard

/-- THE SECOND FORM's CARD OF 'cavillaw05.FilesFinds'. -/
def filesFindsUptoCard : Claim7 := { stood := { row := filesFindsUptoRow, standIns := [], harness := (true, "9784589d359dd75b57f5c18852d1fd7182604635ff9998e0f45546fd1054a173"), looks := true }, kinds := [], alts := [], laidByText := true, laidKinds := [.data, .pinned], laidTests := true, laidLooks := .later }
def FilesFindsUptoCardSaid : Prop := Claim7.holds Tryd.pinned (.plain (OpenSpec.upto filesFindsSpec)) filesFindsUptoCard

/-- THE SECOND FORM's CARD OF 'cavillaw05.FilesChecks'. -/
def filesChecksUptoCard : Claim7 := { stood := { row := filesChecksUptoRow, standIns := [], harness := (true, "9784589d359dd75b57f5c18852d1fd7182604635ff9998e0f45546fd1054a173"), looks := true }, kinds := [], alts := [], laidByText := true, laidKinds := [.data, .handle, .pinned], laidTests := true, laidLooks := .later }
def FilesChecksUptoCardSaid : Prop := Claim7.holds Tryd.pinned (.plain (OpenSpec.upto filesChecksSpec)) filesChecksUptoCard
end Rows
end Go.Proofs.YteakcggbolfelaaDoor
