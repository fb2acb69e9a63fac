/-
  DERIVED. GIVEN WITH THE SEED: THE CARDS: each row of YtlmgnnpmcdeclaaDoorRows.lean that lists a variable, with what it lists TIED to the program's text (the seventh form; the later family's looks); each row that meets fmt, with fmt's text TOLD by the authors' own Lean function (tested against real Go, not proved from fmt's source: count such statements apart). THE CARD IS WHAT COUNTS. Prove the row's statement (the work); the ties are given (YtlmgnnpmcdeclaaDoorTie.lean); close each card by the builder's one call (the guide's Derived/Test/ToyasCard.lean, 'card_holds'). Laid BY PROGRAM, IN A SANDBOX (cutbox-door.mjs). By AI agents, Wed Nov 11 2026. No macro, syntax, notation, axiom, sorry.
-/
import Derived.Test.YtlmgnnpmcdeclaaDoorRows
import GoSem.ClaimSeven
namespace Go.Proofs.YtlmgnnpmcdeclaaDoor
namespace Rows

/-- THE TIED CARD OF 'laws.FnPkgVer'. -/
def fnPkgVerCard : Claim7 := { stood := { row := fnPkgVerRow, standIns := [], harness := (true, "94d8854106733394b0f7fcf677f6de89e280f109c33349d4199bb2f1f266ffc5"), looks := false }, kinds := [], alts := [], laidByText := true, laidKinds := [.data, .data, .data], laidTests := true, laidLooks := .later }
def FnPkgVerCardSaid : Prop := Claim7.holds Tryd.pinned (.plain (OpenSpec.ofChange fnPkgVerSpec)) fnPkgVerCard

/-- THE TIED CARD OF 'laws.FnExactIndexText'. -/
def fnExactIndexTextCard : Claim7 := { stood := { row := fnExactIndexTextRow, standIns := [], harness := (true, "94d8854106733394b0f7fcf677f6de89e280f109c33349d4199bb2f1f266ffc5"), looks := false }, kinds := [], alts := [], laidByText := true, laidKinds := [.data, .data, .data], laidTests := true, laidLooks := .later }
def FnExactIndexTextCardSaid : Prop := Claim7.holds Tryd.pinned (.plain (OpenSpec.ofChange fnExactIndexTextSpec)) fnExactIndexTextCard

/-- THE TIED CARD OF 'laws.FnPkgOne'. -/
def fnPkgOneCard : Claim7 := { stood := { row := fnPkgOneRow, standIns := [], harness := (true, "94d8854106733394b0f7fcf677f6de89e280f109c33349d4199bb2f1f266ffc5"), looks := false }, kinds := [], alts := [], laidByText := true, laidKinds := [.data, .data, .data], laidTests := true, laidLooks := .later }
def FnPkgOneCardSaid : Prop := Claim7.holds Tryd.pinned (.plain (OpenSpec.ofChange fnPkgOneSpec)) fnPkgOneCard

/-- THE TIED CARD OF 'laws.FnExactPkgText'. -/
def fnExactPkgTextCard : Claim7 := { stood := { row := fnExactPkgTextRow, standIns := [], harness := (true, "94d8854106733394b0f7fcf677f6de89e280f109c33349d4199bb2f1f266ffc5"), looks := false }, kinds := [], alts := [], laidByText := true, laidKinds := [.data, .data, .data], laidTests := true, laidLooks := .later }
def FnExactPkgTextCardSaid : Prop := Claim7.holds Tryd.pinned (.plain (OpenSpec.ofChange fnExactPkgTextSpec)) fnExactPkgTextCard

/-- THE TIED CARD OF 'laws.FnIndexOne'. -/
def fnIndexOneCard : Claim7 := { stood := { row := fnIndexOneRow, standIns := [], harness := (true, "94d8854106733394b0f7fcf677f6de89e280f109c33349d4199bb2f1f266ffc5"), looks := false }, kinds := [], alts := [], laidByText := true, laidKinds := [.data, .data, .data], laidTests := true, laidLooks := .later }
def FnIndexOneCardSaid : Prop := Claim7.holds Tryd.pinned (.plain (OpenSpec.ofChange fnIndexOneSpec)) fnIndexOneCard

/-- THE SECOND FORM's CARD OF 'laws.FnPkgVer'. -/
def fnPkgVerUptoCard : Claim7 := { stood := { row := fnPkgVerUptoRow, standIns := [], harness := (true, "94d8854106733394b0f7fcf677f6de89e280f109c33349d4199bb2f1f266ffc5"), looks := false }, kinds := [], alts := [], laidByText := true, laidKinds := [.data, .data, .data], laidTests := true, laidLooks := .later }
def FnPkgVerUptoCardSaid : Prop := Claim7.holds Tryd.pinned (.plain (OpenSpec.upto fnPkgVerSpec)) fnPkgVerUptoCard

/-- THE SECOND FORM's CARD OF 'laws.FnExactIndexText'. -/
def fnExactIndexTextUptoCard : Claim7 := { stood := { row := fnExactIndexTextUptoRow, standIns := [], harness := (true, "94d8854106733394b0f7fcf677f6de89e280f109c33349d4199bb2f1f266ffc5"), looks := false }, kinds := [], alts := [], laidByText := true, laidKinds := [.data, .data, .data], laidTests := true, laidLooks := .later }
def FnExactIndexTextUptoCardSaid : Prop := Claim7.holds Tryd.pinned (.plain (OpenSpec.upto fnExactIndexTextSpec)) fnExactIndexTextUptoCard

/-- THE SECOND FORM's CARD OF 'laws.FnPkgOne'. -/
def fnPkgOneUptoCard : Claim7 := { stood := { row := fnPkgOneUptoRow, standIns := [], harness := (true, "94d8854106733394b0f7fcf677f6de89e280f109c33349d4199bb2f1f266ffc5"), looks := false }, kinds := [], alts := [], laidByText := true, laidKinds := [.data, .data, .data], laidTests := true, laidLooks := .later }
def FnPkgOneUptoCardSaid : Prop := Claim7.holds Tryd.pinned (.plain (OpenSpec.upto fnPkgOneSpec)) fnPkgOneUptoCard

/-- THE SECOND FORM's CARD OF 'laws.FnExactPkgText'. -/
def fnExactPkgTextUptoCard : Claim7 := { stood := { row := fnExactPkgTextUptoRow, standIns := [], harness := (true, "94d8854106733394b0f7fcf677f6de89e280f109c33349d4199bb2f1f266ffc5"), looks := false }, kinds := [], alts := [], laidByText := true, laidKinds := [.data, .data, .data], laidTests := true, laidLooks := .later }
def FnExactPkgTextUptoCardSaid : Prop := Claim7.holds Tryd.pinned (.plain (OpenSpec.upto fnExactPkgTextSpec)) fnExactPkgTextUptoCard

/-- THE SECOND FORM's CARD OF 'laws.FnIndexOne'. -/
def fnIndexOneUptoCard : Claim7 := { stood := { row := fnIndexOneUptoRow, standIns := [], harness := (true, "94d8854106733394b0f7fcf677f6de89e280f109c33349d4199bb2f1f266ffc5"), looks := false }, kinds := [], alts := [], laidByText := true, laidKinds := [.data, .data, .data], laidTests := true, laidLooks := .later }
def FnIndexOneUptoCardSaid : Prop := Claim7.holds Tryd.pinned (.plain (OpenSpec.upto fnIndexOneSpec)) fnIndexOneUptoCard
end Rows
end Go.Proofs.YtlmgnnpmcdeclaaDoor
