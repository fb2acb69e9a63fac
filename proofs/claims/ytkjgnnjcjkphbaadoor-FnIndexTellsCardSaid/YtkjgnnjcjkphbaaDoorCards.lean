/-
  DERIVED. GIVEN WITH THE SEED: THE CARDS: each row of YtkjgnnjcjkphbaaDoorRows.lean that lists a variable, with what it lists TIED to the program's text (the seventh form; the later family's looks); each row that meets fmt, with fmt's text TOLD by the authors' own Lean function (tested against real Go, not proved from fmt's source: count such statements apart). THE CARD IS WHAT COUNTS. Prove the row's statement (the work); the ties are given (YtkjgnnjcjkphbaaDoorTie.lean); close each card by the builder's one call (the guide's Derived/Test/ToyasCard.lean, 'card_holds'). Laid BY PROGRAM, IN A SANDBOX (cutbox-door.mjs). By AI agents, Wed Nov 11 2026. No macro, syntax, notation, axiom, sorry.
-/
import Derived.Test.YtkjgnnjcjkphbaaDoorRows
import GoSem.ClaimSeven
namespace Go.Proofs.YtkjgnnjcjkphbaaDoor
namespace Rows

/-- THE TIED CARD OF 'laws.FnIndexByte'. -/
def fnIndexByteCard : Claim7 := { stood := { row := fnIndexByteRow, standIns := [], harness := (true, "2a5c7b9fc9a5cb81cac84f4e74760f3284bb47b73f9c424dda2a18cb5fe360d5"), looks := true }, kinds := [], alts := [], laidByText := true, laidKinds := [.data, .data, .data, .data, .sentinel, .sentinel, .pinned], laidTests := true, laidLooks := .later }
def FnIndexByteCardSaid : Prop := Claim7.holds Tryd.pinned (.plain (OpenSpec.ofChange fnIndexByteSpec)) fnIndexByteCard

/-- THE TIED CARD OF 'laws.FnIndexTells'. -/
def fnIndexTellsCard : Claim7 := { stood := { row := fnIndexTellsRow, standIns := [], harness := (true, "2a5c7b9fc9a5cb81cac84f4e74760f3284bb47b73f9c424dda2a18cb5fe360d5"), looks := true }, kinds := [], alts := [], laidByText := true, laidKinds := [.data, .data, .data, .data, .sentinel, .sentinel, .pinned], laidTests := true, laidLooks := .later }
def FnIndexTellsCardSaid : Prop := Claim7.holds Tryd.pinned (.plain (OpenSpec.ofChange fnIndexTellsSpec)) fnIndexTellsCard

/-- THE TIED CARD OF 'laws.FnPkgBack'. -/
def fnPkgBackCard : Claim7 := { stood := { row := fnPkgBackRow, standIns := [], harness := (true, "2a5c7b9fc9a5cb81cac84f4e74760f3284bb47b73f9c424dda2a18cb5fe360d5"), looks := true }, kinds := [], alts := [], laidByText := true, laidKinds := [.data, .data, .data, .data, .sentinel, .sentinel, .pinned], laidTests := true, laidLooks := .later }
def FnPkgBackCardSaid : Prop := Claim7.holds Tryd.pinned (.plain (OpenSpec.ofChange fnPkgBackSpec)) fnPkgBackCard

/-- THE TIED CARD OF 'laws.FnPkgCut'. -/
def fnPkgCutCard : Claim7 := { stood := { row := fnPkgCutRow, standIns := [], harness := (true, "2a5c7b9fc9a5cb81cac84f4e74760f3284bb47b73f9c424dda2a18cb5fe360d5"), looks := true }, kinds := [], alts := [], laidByText := true, laidKinds := [.data, .data, .data, .data, .sentinel, .sentinel, .pinned], laidTests := true, laidLooks := .later }
def FnPkgCutCardSaid : Prop := Claim7.holds Tryd.pinned (.plain (OpenSpec.ofChange fnPkgCutSpec)) fnPkgCutCard

/-- THE TIED CARD OF 'laws.FnPkgStrict'. -/
def fnPkgStrictCard : Claim7 := { stood := { row := fnPkgStrictRow, standIns := [], harness := (true, "2a5c7b9fc9a5cb81cac84f4e74760f3284bb47b73f9c424dda2a18cb5fe360d5"), looks := true }, kinds := [], alts := [], laidByText := true, laidKinds := [.data, .data, .data, .data, .sentinel, .sentinel, .pinned], laidTests := true, laidLooks := .later }
def FnPkgStrictCardSaid : Prop := Claim7.holds Tryd.pinned (.plain (OpenSpec.ofChange fnPkgStrictSpec)) fnPkgStrictCard

/-- THE TIED CARD OF 'laws.FnExactIndexRead'. -/
def fnExactIndexReadCard : Claim7 := { stood := { row := fnExactIndexReadRow, standIns := [], harness := (true, "2a5c7b9fc9a5cb81cac84f4e74760f3284bb47b73f9c424dda2a18cb5fe360d5"), looks := true }, kinds := [], alts := [], laidByText := true, laidKinds := [.data, .data, .data, .data, .sentinel, .sentinel, .pinned], laidTests := true, laidLooks := .later }
def FnExactIndexReadCardSaid : Prop := Claim7.holds Tryd.pinned (.plain (OpenSpec.ofChange fnExactIndexReadSpec)) fnExactIndexReadCard

/-- THE TIED CARD OF 'laws.FnExactPkgRead'. -/
def fnExactPkgReadCard : Claim7 := { stood := { row := fnExactPkgReadRow, standIns := [], harness := (true, "2a5c7b9fc9a5cb81cac84f4e74760f3284bb47b73f9c424dda2a18cb5fe360d5"), looks := true }, kinds := [], alts := [], laidByText := true, laidKinds := [.data, .data, .data, .data, .sentinel, .sentinel, .pinned], laidTests := true, laidLooks := .later }
def FnExactPkgReadCardSaid : Prop := Claim7.holds Tryd.pinned (.plain (OpenSpec.ofChange fnExactPkgReadSpec)) fnExactPkgReadCard

/-- THE TIED CARD OF 'laws.FnIndexBack'. -/
def fnIndexBackCard : Claim7 := { stood := { row := fnIndexBackRow, standIns := [], harness := (true, "2a5c7b9fc9a5cb81cac84f4e74760f3284bb47b73f9c424dda2a18cb5fe360d5"), looks := true }, kinds := [], alts := [], laidByText := true, laidKinds := [.data, .data, .data, .data, .sentinel, .sentinel, .pinned], laidTests := true, laidLooks := .later }
def FnIndexBackCardSaid : Prop := Claim7.holds Tryd.pinned (.plain (OpenSpec.ofChange fnIndexBackSpec)) fnIndexBackCard

/-- THE TIED CARD OF 'laws.FnIndexCut'. -/
def fnIndexCutCard : Claim7 := { stood := { row := fnIndexCutRow, standIns := [], harness := (true, "2a5c7b9fc9a5cb81cac84f4e74760f3284bb47b73f9c424dda2a18cb5fe360d5"), looks := true }, kinds := [], alts := [], laidByText := true, laidKinds := [.data, .data, .data, .data, .sentinel, .sentinel, .pinned], laidTests := true, laidLooks := .later }
def FnIndexCutCardSaid : Prop := Claim7.holds Tryd.pinned (.plain (OpenSpec.ofChange fnIndexCutSpec)) fnIndexCutCard

/-- THE TIED CARD OF 'laws.FnIndexStrict'. -/
def fnIndexStrictCard : Claim7 := { stood := { row := fnIndexStrictRow, standIns := [], harness := (true, "2a5c7b9fc9a5cb81cac84f4e74760f3284bb47b73f9c424dda2a18cb5fe360d5"), looks := true }, kinds := [], alts := [], laidByText := true, laidKinds := [.data, .data, .data, .data, .sentinel, .sentinel, .pinned], laidTests := true, laidLooks := .later }
def FnIndexStrictCardSaid : Prop := Claim7.holds Tryd.pinned (.plain (OpenSpec.ofChange fnIndexStrictSpec)) fnIndexStrictCard

/-- THE SECOND FORM's CARD OF 'laws.FnIndexByte'. -/
def fnIndexByteUptoCard : Claim7 := { stood := { row := fnIndexByteUptoRow, standIns := [], harness := (true, "2a5c7b9fc9a5cb81cac84f4e74760f3284bb47b73f9c424dda2a18cb5fe360d5"), looks := true }, kinds := [], alts := [], laidByText := true, laidKinds := [.data, .data, .data, .data, .sentinel, .sentinel, .pinned], laidTests := true, laidLooks := .later }
def FnIndexByteUptoCardSaid : Prop := Claim7.holds Tryd.pinned (.plain (OpenSpec.upto fnIndexByteSpec)) fnIndexByteUptoCard

/-- THE SECOND FORM's CARD OF 'laws.FnIndexTells'. -/
def fnIndexTellsUptoCard : Claim7 := { stood := { row := fnIndexTellsUptoRow, standIns := [], harness := (true, "2a5c7b9fc9a5cb81cac84f4e74760f3284bb47b73f9c424dda2a18cb5fe360d5"), looks := true }, kinds := [], alts := [], laidByText := true, laidKinds := [.data, .data, .data, .data, .sentinel, .sentinel, .pinned], laidTests := true, laidLooks := .later }
def FnIndexTellsUptoCardSaid : Prop := Claim7.holds Tryd.pinned (.plain (OpenSpec.upto fnIndexTellsSpec)) fnIndexTellsUptoCard

/-- THE SECOND FORM's CARD OF 'laws.FnPkgBack'. -/
def fnPkgBackUptoCard : Claim7 := { stood := { row := fnPkgBackUptoRow, standIns := [], harness := (true, "2a5c7b9fc9a5cb81cac84f4e74760f3284bb47b73f9c424dda2a18cb5fe360d5"), looks := true }, kinds := [], alts := [], laidByText := true, laidKinds := [.data, .data, .data, .data, .sentinel, .sentinel, .pinned], laidTests := true, laidLooks := .later }
def FnPkgBackUptoCardSaid : Prop := Claim7.holds Tryd.pinned (.plain (OpenSpec.upto fnPkgBackSpec)) fnPkgBackUptoCard

/-- THE SECOND FORM's CARD OF 'laws.FnPkgCut'. -/
def fnPkgCutUptoCard : Claim7 := { stood := { row := fnPkgCutUptoRow, standIns := [], harness := (true, "2a5c7b9fc9a5cb81cac84f4e74760f3284bb47b73f9c424dda2a18cb5fe360d5"), looks := true }, kinds := [], alts := [], laidByText := true, laidKinds := [.data, .data, .data, .data, .sentinel, .sentinel, .pinned], laidTests := true, laidLooks := .later }
def FnPkgCutUptoCardSaid : Prop := Claim7.holds Tryd.pinned (.plain (OpenSpec.upto fnPkgCutSpec)) fnPkgCutUptoCard

/-- THE SECOND FORM's CARD OF 'laws.FnPkgStrict'. -/
def fnPkgStrictUptoCard : Claim7 := { stood := { row := fnPkgStrictUptoRow, standIns := [], harness := (true, "2a5c7b9fc9a5cb81cac84f4e74760f3284bb47b73f9c424dda2a18cb5fe360d5"), looks := true }, kinds := [], alts := [], laidByText := true, laidKinds := [.data, .data, .data, .data, .sentinel, .sentinel, .pinned], laidTests := true, laidLooks := .later }
def FnPkgStrictUptoCardSaid : Prop := Claim7.holds Tryd.pinned (.plain (OpenSpec.upto fnPkgStrictSpec)) fnPkgStrictUptoCard

/-- THE SECOND FORM's CARD OF 'laws.FnExactIndexRead'. -/
def fnExactIndexReadUptoCard : Claim7 := { stood := { row := fnExactIndexReadUptoRow, standIns := [], harness := (true, "2a5c7b9fc9a5cb81cac84f4e74760f3284bb47b73f9c424dda2a18cb5fe360d5"), looks := true }, kinds := [], alts := [], laidByText := true, laidKinds := [.data, .data, .data, .data, .sentinel, .sentinel, .pinned], laidTests := true, laidLooks := .later }
def FnExactIndexReadUptoCardSaid : Prop := Claim7.holds Tryd.pinned (.plain (OpenSpec.upto fnExactIndexReadSpec)) fnExactIndexReadUptoCard

/-- THE SECOND FORM's CARD OF 'laws.FnExactPkgRead'. -/
def fnExactPkgReadUptoCard : Claim7 := { stood := { row := fnExactPkgReadUptoRow, standIns := [], harness := (true, "2a5c7b9fc9a5cb81cac84f4e74760f3284bb47b73f9c424dda2a18cb5fe360d5"), looks := true }, kinds := [], alts := [], laidByText := true, laidKinds := [.data, .data, .data, .data, .sentinel, .sentinel, .pinned], laidTests := true, laidLooks := .later }
def FnExactPkgReadUptoCardSaid : Prop := Claim7.holds Tryd.pinned (.plain (OpenSpec.upto fnExactPkgReadSpec)) fnExactPkgReadUptoCard

/-- THE SECOND FORM's CARD OF 'laws.FnIndexBack'. -/
def fnIndexBackUptoCard : Claim7 := { stood := { row := fnIndexBackUptoRow, standIns := [], harness := (true, "2a5c7b9fc9a5cb81cac84f4e74760f3284bb47b73f9c424dda2a18cb5fe360d5"), looks := true }, kinds := [], alts := [], laidByText := true, laidKinds := [.data, .data, .data, .data, .sentinel, .sentinel, .pinned], laidTests := true, laidLooks := .later }
def FnIndexBackUptoCardSaid : Prop := Claim7.holds Tryd.pinned (.plain (OpenSpec.upto fnIndexBackSpec)) fnIndexBackUptoCard

/-- THE SECOND FORM's CARD OF 'laws.FnIndexCut'. -/
def fnIndexCutUptoCard : Claim7 := { stood := { row := fnIndexCutUptoRow, standIns := [], harness := (true, "2a5c7b9fc9a5cb81cac84f4e74760f3284bb47b73f9c424dda2a18cb5fe360d5"), looks := true }, kinds := [], alts := [], laidByText := true, laidKinds := [.data, .data, .data, .data, .sentinel, .sentinel, .pinned], laidTests := true, laidLooks := .later }
def FnIndexCutUptoCardSaid : Prop := Claim7.holds Tryd.pinned (.plain (OpenSpec.upto fnIndexCutSpec)) fnIndexCutUptoCard

/-- THE SECOND FORM's CARD OF 'laws.FnIndexStrict'. -/
def fnIndexStrictUptoCard : Claim7 := { stood := { row := fnIndexStrictUptoRow, standIns := [], harness := (true, "2a5c7b9fc9a5cb81cac84f4e74760f3284bb47b73f9c424dda2a18cb5fe360d5"), looks := true }, kinds := [], alts := [], laidByText := true, laidKinds := [.data, .data, .data, .data, .sentinel, .sentinel, .pinned], laidTests := true, laidLooks := .later }
def FnIndexStrictUptoCardSaid : Prop := Claim7.holds Tryd.pinned (.plain (OpenSpec.upto fnIndexStrictSpec)) fnIndexStrictUptoCard
end Rows
end Go.Proofs.YtkjgnnjcjkphbaaDoor
