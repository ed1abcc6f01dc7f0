/-
  DERIVED. GIVEN WITH THE SEED: THE CARDS: each row of YtddhebmnhcilfaaDoorRows.lean that lists a variable, with what it lists TIED to the program's text (the seventh form; the later family's looks); each row that meets fmt, with fmt's text TOLD by the authors' own Lean function (tested against real Go, not proved from fmt's source: count such statements apart). THE CARD IS WHAT COUNTS. Prove the row's statement (the work); the ties are given (YtddhebmnhcilfaaDoorTie.lean); close each card by the builder's one call (the guide's Derived/Test/ToyasCard.lean, 'card_holds'). Laid BY PROGRAM, IN A SANDBOX (cutbox-door.mjs). By AI agents, Wed Nov 11 2026. No macro, syntax, notation, axiom, sorry.
-/
import Derived.Test.YtddhebmnhcilfaaDoorRows
import GoSem.ClaimSeven
namespace Go.Proofs.YtddhebmnhcilfaaDoor
namespace Rows

/-- THE TIED CARD OF 'laws.FnExactReadStrands'. -/
def fnExactReadStrandsCard : Claim7 := { stood := { row := fnExactReadStrandsRow, standIns := [], harness := (true, "7e82ff31f637cfdb727a1c487fe3fff5415bacbe271d4f334258d020fc717122"), looks := true }, kinds := [], alts := [], laidByText := true, laidKinds := [.data, .data, .data, .data, .sentinel, .sentinel, .pinned], laidTests := true, laidLooks := .later }
def FnExactReadStrandsCardSaid : Prop := Claim7.holds Tryd.pinned (.plain (OpenSpec.ofChange fnExactReadStrandsSpec)) fnExactReadStrandsCard

/-- THE TIED CARD OF 'laws.FnExactReadYarns'. -/
def fnExactReadYarnsCard : Claim7 := { stood := { row := fnExactReadYarnsRow, standIns := [], harness := (true, "7e82ff31f637cfdb727a1c487fe3fff5415bacbe271d4f334258d020fc717122"), looks := true }, kinds := [], alts := [], laidByText := true, laidKinds := [.data, .data, .data, .data, .sentinel, .sentinel, .pinned], laidTests := true, laidLooks := .later }
def FnExactReadYarnsCardSaid : Prop := Claim7.holds Tryd.pinned (.plain (OpenSpec.ofChange fnExactReadYarnsSpec)) fnExactReadYarnsCard

/-- THE TIED CARD OF 'laws.FnExactStrandsText'. -/
def fnExactStrandsTextCard : Claim7 := { stood := { row := fnExactStrandsTextRow, standIns := [], harness := (true, "7e82ff31f637cfdb727a1c487fe3fff5415bacbe271d4f334258d020fc717122"), looks := true }, kinds := [], alts := [], laidByText := true, laidKinds := [.data, .data, .data], laidTests := true, laidLooks := .later }
def FnExactStrandsTextCardSaid : Prop := Claim7.holds Tryd.pinned (.plain (OpenSpec.ofChange fnExactStrandsTextSpec)) fnExactStrandsTextCard

/-- THE TIED CARD OF 'laws.FnExactYarnsText'. -/
def fnExactYarnsTextCard : Claim7 := { stood := { row := fnExactYarnsTextRow, standIns := [], harness := (true, "7e82ff31f637cfdb727a1c487fe3fff5415bacbe271d4f334258d020fc717122"), looks := true }, kinds := [], alts := [], laidByText := true, laidKinds := [.data, .data, .data], laidTests := true, laidLooks := .later }
def FnExactYarnsTextCardSaid : Prop := Claim7.holds Tryd.pinned (.plain (OpenSpec.ofChange fnExactYarnsTextSpec)) fnExactYarnsTextCard

/-- THE SECOND FORM's CARD OF 'laws.FnExactReadStrands'. -/
def fnExactReadStrandsUptoCard : Claim7 := { stood := { row := fnExactReadStrandsUptoRow, standIns := [], harness := (true, "7e82ff31f637cfdb727a1c487fe3fff5415bacbe271d4f334258d020fc717122"), looks := true }, kinds := [], alts := [], laidByText := true, laidKinds := [.data, .data, .data, .data, .sentinel, .sentinel, .pinned], laidTests := true, laidLooks := .later }
def FnExactReadStrandsUptoCardSaid : Prop := Claim7.holds Tryd.pinned (.plain (OpenSpec.upto fnExactReadStrandsSpec)) fnExactReadStrandsUptoCard

/-- THE SECOND FORM's CARD OF 'laws.FnExactReadYarns'. -/
def fnExactReadYarnsUptoCard : Claim7 := { stood := { row := fnExactReadYarnsUptoRow, standIns := [], harness := (true, "7e82ff31f637cfdb727a1c487fe3fff5415bacbe271d4f334258d020fc717122"), looks := true }, kinds := [], alts := [], laidByText := true, laidKinds := [.data, .data, .data, .data, .sentinel, .sentinel, .pinned], laidTests := true, laidLooks := .later }
def FnExactReadYarnsUptoCardSaid : Prop := Claim7.holds Tryd.pinned (.plain (OpenSpec.upto fnExactReadYarnsSpec)) fnExactReadYarnsUptoCard

/-- THE SECOND FORM's CARD OF 'laws.FnExactStrandsText'. -/
def fnExactStrandsTextUptoCard : Claim7 := { stood := { row := fnExactStrandsTextUptoRow, standIns := [], harness := (true, "7e82ff31f637cfdb727a1c487fe3fff5415bacbe271d4f334258d020fc717122"), looks := true }, kinds := [], alts := [], laidByText := true, laidKinds := [.data, .data, .data], laidTests := true, laidLooks := .later }
def FnExactStrandsTextUptoCardSaid : Prop := Claim7.holds Tryd.pinned (.plain (OpenSpec.upto fnExactStrandsTextSpec)) fnExactStrandsTextUptoCard

/-- THE SECOND FORM's CARD OF 'laws.FnExactYarnsText'. -/
def fnExactYarnsTextUptoCard : Claim7 := { stood := { row := fnExactYarnsTextUptoRow, standIns := [], harness := (true, "7e82ff31f637cfdb727a1c487fe3fff5415bacbe271d4f334258d020fc717122"), looks := true }, kinds := [], alts := [], laidByText := true, laidKinds := [.data, .data, .data], laidTests := true, laidLooks := .later }
def FnExactYarnsTextUptoCardSaid : Prop := Claim7.holds Tryd.pinned (.plain (OpenSpec.upto fnExactYarnsTextSpec)) fnExactYarnsTextUptoCard
end Rows
end Go.Proofs.YtddhebmnhcilfaaDoor
