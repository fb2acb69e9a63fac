/-
  DERIVED. GIVEN WITH THE SEED: THE CARDS: each row of YtkjgnnjcjkphbaaGreatDoorRows.lean that lists a variable, with what it lists TIED to the program's text (the seventh form; the later family's looks); each row that meets fmt, with fmt's text TOLD by the authors' own Lean function (tested against real Go, not proved from fmt's source: count such statements apart). THE CARD IS WHAT COUNTS. Prove the row's statement (the work); the ties are given (YtkjgnnjcjkphbaaGreatDoorTie.lean); close each card by the builder's one call (the guide's Derived/Test/ToyasCard.lean, 'card_holds'). Laid BY PROGRAM, IN A SANDBOX (cutbox-door.mjs). By AI agents, Wed Nov 11 2026. No macro, syntax, notation, axiom, sorry.
-/
import Derived.Test.YtkjgnnjcjkphbaaGreatDoorRows
import GoSem.ClaimSeven
namespace Go.Proofs.YtkjgnnjcjkphbaaGreatDoor
namespace Rows

/-- THE TIED CARD OF 'laws.FnExactIndexHas'. -/
def fnExactIndexHasCard : Claim7 := { stood := { row := fnExactIndexHasRow, standIns := [], harness := (true, "6e1e5c9c72f4a5113a2d6c1dbdce37f3ce46a7978fe1ca1a748c6fb47203ec92"), looks := true }, kinds := [], alts := [], laidByText := true, laidKinds := [.data, .data, .data, .data, .sentinel, .sentinel, .pinned], laidTests := true, laidLooks := .later }
def FnExactIndexHasCardSaid : Prop := Claim7.holds Tryz.pinned (.plain (OpenSpec.ofChange fnExactIndexHasSpec)) fnExactIndexHasCard

/-- THE SECOND FORM's CARD OF 'laws.FnExactIndexHas'. -/
def fnExactIndexHasUptoCard : Claim7 := { stood := { row := fnExactIndexHasUptoRow, standIns := [], harness := (true, "6e1e5c9c72f4a5113a2d6c1dbdce37f3ce46a7978fe1ca1a748c6fb47203ec92"), looks := true }, kinds := [], alts := [], laidByText := true, laidKinds := [.data, .data, .data, .data, .sentinel, .sentinel, .pinned], laidTests := true, laidLooks := .later }
def FnExactIndexHasUptoCardSaid : Prop := Claim7.holds Tryz.pinned (.plain (OpenSpec.upto fnExactIndexHasSpec)) fnExactIndexHasUptoCard
end Rows
end Go.Proofs.YtkjgnnjcjkphbaaGreatDoor
