/-
  DERIVED. GIVEN WITH THE SEED: THE CARDS: each row of YtlppeljofjomiaaDoorRows.lean that lists a variable, with what it lists TIED to the program's text (the seventh form; the later family's looks); each row that meets fmt, with fmt's text TOLD by the authors' own Lean function (tested against real Go, not proved from fmt's source: count such statements apart). THE CARD IS WHAT COUNTS. Prove the row's statement (the work); the ties are given (YtlppeljofjomiaaDoorTie.lean); close each card by the builder's one call (the guide's Derived/Test/ToyasCard.lean, 'card_holds'). Laid BY PROGRAM, IN A SANDBOX (cutbox-door.mjs). By AI agents, Wed Nov 11 2026. No macro, syntax, notation, axiom, sorry.
-/
import Derived.Test.YtlppeljofjomiaaDoorRows
import GoSem.ClaimSeven
namespace Go.Proofs.YtlppeljofjomiaaDoor
namespace Rows

/-- THE TIED CARD OF 'quillworklaw03.AttrsOnly'. -/
def attrsOnlyCard : Claim7 := { stood := { row := attrsOnlyRow, standIns := [], harness := (true, "fd9a677f012b419458fe00a9dfca7ac4a5b4dc30432c17f2c2897d93e12f082b"), looks := false }, kinds := [], alts := [], laidByText := true, laidKinds := [.data, .pinned], laidTests := true, laidLooks := .later }
def AttrsOnlyCardSaid : Prop := Claim7.holds Tryd.pinned (.plain (OpenSpec.ofChange attrsOnlySpec)) attrsOnlyCard

/-- THE TIED CARD OF 'quillworklaw05.CellsMay'. -/
def cellsMayCard : Claim7 := { stood := { row := cellsMayRow, standIns := [], harness := (true, "fd9a677f012b419458fe00a9dfca7ac4a5b4dc30432c17f2c2897d93e12f082b"), looks := false }, kinds := [], alts := [], laidByText := true, laidKinds := [.data, .pinned], laidTests := true, laidLooks := .later }
def CellsMayCardSaid : Prop := Claim7.holds Tryd.pinned (.plain (OpenSpec.ofChange cellsMaySpec)) cellsMayCard

/-- THE TIED CARD OF 'quillworklaw03.AttrsTell'. -/
def attrsTellCard : Claim7 := { stood := { row := attrsTellRow, standIns := [], harness := (true, "fd9a677f012b419458fe00a9dfca7ac4a5b4dc30432c17f2c2897d93e12f082b"), looks := false }, kinds := [], alts := [], laidByText := true, laidKinds := [.data, .pinned], laidTests := true, laidLooks := .later }
def AttrsTellCardSaid : Prop := Claim7.holds Tryd.pinned (.plain (OpenSpec.ofChange attrsTellSpec)) attrsTellCard

/-- THE TIED CARD OF 'quillworklaw03.AttrsSame'. -/
def attrsSameCard : Claim7 := { stood := { row := attrsSameRow, standIns := [], harness := (true, "fd9a677f012b419458fe00a9dfca7ac4a5b4dc30432c17f2c2897d93e12f082b"), looks := false }, kinds := [], alts := [], laidByText := true, laidKinds := [.data, .pinned], laidTests := true, laidLooks := .later }
def AttrsSameCardSaid : Prop := Claim7.holds Tryd.pinned (.plain (OpenSpec.ofChange attrsSameSpec)) attrsSameCard

/-- THE TIED CARD OF 'quillworklaw03.AttrsPut'. -/
def attrsPutCard : Claim7 := { stood := { row := attrsPutRow, standIns := [], harness := (true, "fd9a677f012b419458fe00a9dfca7ac4a5b4dc30432c17f2c2897d93e12f082b"), looks := false }, kinds := [], alts := [], laidByText := true, laidKinds := [.data, .pinned], laidTests := true, laidLooks := .later }
def AttrsPutCardSaid : Prop := Claim7.holds Tryd.pinned (.plain (OpenSpec.ofChange attrsPutSpec)) attrsPutCard

/-- THE TIED CARD OF 'quillworklaw03.AttrsRows'. -/
def attrsRowsCard : Claim7 := { stood := { row := attrsRowsRow, standIns := [], harness := (true, "fd9a677f012b419458fe00a9dfca7ac4a5b4dc30432c17f2c2897d93e12f082b"), looks := false }, kinds := [], alts := [], laidByText := true, laidKinds := [.data, .pinned], laidTests := true, laidLooks := .later }
def AttrsRowsCardSaid : Prop := Claim7.holds Tryd.pinned (.plain (OpenSpec.ofChange attrsRowsSpec)) attrsRowsCard

/-- THE SECOND FORM's CARD OF 'quillworklaw03.AttrsOnly'. -/
def attrsOnlyUptoCard : Claim7 := { stood := { row := attrsOnlyUptoRow, standIns := [], harness := (true, "fd9a677f012b419458fe00a9dfca7ac4a5b4dc30432c17f2c2897d93e12f082b"), looks := false }, kinds := [], alts := [], laidByText := true, laidKinds := [.data, .pinned], laidTests := true, laidLooks := .later }
def AttrsOnlyUptoCardSaid : Prop := Claim7.holds Tryd.pinned (.plain (OpenSpec.upto attrsOnlySpec)) attrsOnlyUptoCard

/-- THE SECOND FORM's CARD OF 'quillworklaw05.CellsMay'. -/
def cellsMayUptoCard : Claim7 := { stood := { row := cellsMayUptoRow, standIns := [], harness := (true, "fd9a677f012b419458fe00a9dfca7ac4a5b4dc30432c17f2c2897d93e12f082b"), looks := false }, kinds := [], alts := [], laidByText := true, laidKinds := [.data, .pinned], laidTests := true, laidLooks := .later }
def CellsMayUptoCardSaid : Prop := Claim7.holds Tryd.pinned (.plain (OpenSpec.upto cellsMaySpec)) cellsMayUptoCard

/-- THE SECOND FORM's CARD OF 'quillworklaw03.AttrsTell'. -/
def attrsTellUptoCard : Claim7 := { stood := { row := attrsTellUptoRow, standIns := [], harness := (true, "fd9a677f012b419458fe00a9dfca7ac4a5b4dc30432c17f2c2897d93e12f082b"), looks := false }, kinds := [], alts := [], laidByText := true, laidKinds := [.data, .pinned], laidTests := true, laidLooks := .later }
def AttrsTellUptoCardSaid : Prop := Claim7.holds Tryd.pinned (.plain (OpenSpec.upto attrsTellSpec)) attrsTellUptoCard

/-- THE SECOND FORM's CARD OF 'quillworklaw03.AttrsSame'. -/
def attrsSameUptoCard : Claim7 := { stood := { row := attrsSameUptoRow, standIns := [], harness := (true, "fd9a677f012b419458fe00a9dfca7ac4a5b4dc30432c17f2c2897d93e12f082b"), looks := false }, kinds := [], alts := [], laidByText := true, laidKinds := [.data, .pinned], laidTests := true, laidLooks := .later }
def AttrsSameUptoCardSaid : Prop := Claim7.holds Tryd.pinned (.plain (OpenSpec.upto attrsSameSpec)) attrsSameUptoCard

/-- THE SECOND FORM's CARD OF 'quillworklaw03.AttrsPut'. -/
def attrsPutUptoCard : Claim7 := { stood := { row := attrsPutUptoRow, standIns := [], harness := (true, "fd9a677f012b419458fe00a9dfca7ac4a5b4dc30432c17f2c2897d93e12f082b"), looks := false }, kinds := [], alts := [], laidByText := true, laidKinds := [.data, .pinned], laidTests := true, laidLooks := .later }
def AttrsPutUptoCardSaid : Prop := Claim7.holds Tryd.pinned (.plain (OpenSpec.upto attrsPutSpec)) attrsPutUptoCard

/-- THE SECOND FORM's CARD OF 'quillworklaw03.AttrsRows'. -/
def attrsRowsUptoCard : Claim7 := { stood := { row := attrsRowsUptoRow, standIns := [], harness := (true, "fd9a677f012b419458fe00a9dfca7ac4a5b4dc30432c17f2c2897d93e12f082b"), looks := false }, kinds := [], alts := [], laidByText := true, laidKinds := [.data, .pinned], laidTests := true, laidLooks := .later }
def AttrsRowsUptoCardSaid : Prop := Claim7.holds Tryd.pinned (.plain (OpenSpec.upto attrsRowsSpec)) attrsRowsUptoCard
end Rows
end Go.Proofs.YtlppeljofjomiaaDoor
