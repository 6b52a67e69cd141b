/-
  DERIVED. GIVEN WITH THE SEED: THE CARDS: each row of YtkbgphdepkjccaaDoorRows.lean that lists a variable, with what it lists TIED to the program's text (the seventh form; the later family's looks); each row that meets fmt, with fmt's text TOLD by the authors' own Lean function (tested against real Go, not proved from fmt's source: count such statements apart). THE CARD IS WHAT COUNTS. Prove the row's statement (the work); the ties are given (YtkbgphdepkjccaaDoorTie.lean); close each card by the builder's one call (the guide's Derived/Test/ToyasCard.lean, 'card_holds'). Laid BY PROGRAM, IN A SANDBOX (cutbox-door.mjs). By AI agents, Wed Nov 11 2026. No macro, syntax, notation, axiom, sorry.
-/
import Derived.Test.YtkbgphdepkjccaaDoorRows
import GoSem.ClaimSeven
namespace Go.Proofs.YtkbgphdepkjccaaDoor
namespace Rows

/-- THE TIED CARD OF 'laws.FnExactTickText'. -/
def fnExactTickTextCard : Claim7 := { stood := { row := fnExactTickTextRow, standIns := [], harness := (true, "d2528eeb47620cbd3313f88b3c0138ae525310e0d11148deb22903094d72be03"), looks := true }, kinds := [], alts := [], laidByText := true, laidKinds := [.data, .data, .data], laidTests := true, laidLooks := .later }
def FnExactTickTextCardSaid : Prop := Claim7.holds Tryd.pinned (.plain (OpenSpec.ofChange fnExactTickTextSpec)) fnExactTickTextCard

/-- THE TIED CARD OF 'laws.FnExactAggText'. -/
def fnExactAggTextCard : Claim7 := { stood := { row := fnExactAggTextRow, standIns := [], harness := (true, "d2528eeb47620cbd3313f88b3c0138ae525310e0d11148deb22903094d72be03"), looks := true }, kinds := [], alts := [], laidByText := true, laidKinds := [.data, .data, .data], laidTests := true, laidLooks := .later }
def FnExactAggTextCardSaid : Prop := Claim7.holds Tryd.pinned (.plain (OpenSpec.ofChange fnExactAggTextSpec)) fnExactAggTextCard

/-- THE TIED CARD OF 'laws.FnExactParseTick'. -/
def fnExactParseTickCard : Claim7 := { stood := { row := fnExactParseTickRow, standIns := [], harness := (true, "d2528eeb47620cbd3313f88b3c0138ae525310e0d11148deb22903094d72be03"), looks := true }, kinds := [], alts := [], laidByText := true, laidKinds := [.data, .data, .data, .sentinel, .sentinel], laidTests := true, laidLooks := .later }
def FnExactParseTickCardSaid : Prop := Claim7.holds Tryd.pinned (.plain (OpenSpec.ofChange fnExactParseTickSpec)) fnExactParseTickCard

/-- THE TIED CARD OF 'laws.FnTicks'. -/
def fnTicksCard : Claim7 := { stood := { row := fnTicksRow, standIns := [], harness := (true, "d2528eeb47620cbd3313f88b3c0138ae525310e0d11148deb22903094d72be03"), looks := true }, kinds := [], alts := [], laidByText := true, laidKinds := [.data, .data, .data, .sentinel, .sentinel], laidTests := true, laidLooks := .later }
def FnTicksCardSaid : Prop := Claim7.holds Tryd.pinned (.plain (OpenSpec.ofChange fnTicksSpec)) fnTicksCard

/-- THE SECOND FORM's CARD OF 'laws.FnExactTickText'. -/
def fnExactTickTextUptoCard : Claim7 := { stood := { row := fnExactTickTextUptoRow, standIns := [], harness := (true, "d2528eeb47620cbd3313f88b3c0138ae525310e0d11148deb22903094d72be03"), looks := true }, kinds := [], alts := [], laidByText := true, laidKinds := [.data, .data, .data], laidTests := true, laidLooks := .later }
def FnExactTickTextUptoCardSaid : Prop := Claim7.holds Tryd.pinned (.plain (OpenSpec.upto fnExactTickTextSpec)) fnExactTickTextUptoCard

/-- THE SECOND FORM's CARD OF 'laws.FnExactAggText'. -/
def fnExactAggTextUptoCard : Claim7 := { stood := { row := fnExactAggTextUptoRow, standIns := [], harness := (true, "d2528eeb47620cbd3313f88b3c0138ae525310e0d11148deb22903094d72be03"), looks := true }, kinds := [], alts := [], laidByText := true, laidKinds := [.data, .data, .data], laidTests := true, laidLooks := .later }
def FnExactAggTextUptoCardSaid : Prop := Claim7.holds Tryd.pinned (.plain (OpenSpec.upto fnExactAggTextSpec)) fnExactAggTextUptoCard

/-- THE SECOND FORM's CARD OF 'laws.FnExactParseTick'. -/
def fnExactParseTickUptoCard : Claim7 := { stood := { row := fnExactParseTickUptoRow, standIns := [], harness := (true, "d2528eeb47620cbd3313f88b3c0138ae525310e0d11148deb22903094d72be03"), looks := true }, kinds := [], alts := [], laidByText := true, laidKinds := [.data, .data, .data, .sentinel, .sentinel], laidTests := true, laidLooks := .later }
def FnExactParseTickUptoCardSaid : Prop := Claim7.holds Tryd.pinned (.plain (OpenSpec.upto fnExactParseTickSpec)) fnExactParseTickUptoCard

/-- THE SECOND FORM's CARD OF 'laws.FnTicks'. -/
def fnTicksUptoCard : Claim7 := { stood := { row := fnTicksUptoRow, standIns := [], harness := (true, "d2528eeb47620cbd3313f88b3c0138ae525310e0d11148deb22903094d72be03"), looks := true }, kinds := [], alts := [], laidByText := true, laidKinds := [.data, .data, .data, .sentinel, .sentinel], laidTests := true, laidLooks := .later }
def FnTicksUptoCardSaid : Prop := Claim7.holds Tryd.pinned (.plain (OpenSpec.upto fnTicksSpec)) fnTicksUptoCard
end Rows
end Go.Proofs.YtkbgphdepkjccaaDoor
