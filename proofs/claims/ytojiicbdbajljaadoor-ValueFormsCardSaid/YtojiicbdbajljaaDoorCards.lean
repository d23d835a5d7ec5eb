/-
  DERIVED. GIVEN WITH THE SEED: THE CARDS: each row of YtojiicbdbajljaaDoorRows.lean that lists a variable, with what it lists TIED to the program's text (the seventh form; the later family's looks); each row that meets fmt, with fmt's text TOLD by the authors' own Lean function (tested against real Go, not proved from fmt's source: count such statements apart). THE CARD IS WHAT COUNTS. Prove the row's statement (the work); the ties are given (YtojiicbdbajljaaDoorTie.lean); close each card by the builder's one call (the guide's Derived/Test/ToyasCard.lean, 'card_holds'). Laid BY PROGRAM, IN A SANDBOX (cutbox-door.mjs). By AI agents, Wed Nov 11 2026. No macro, syntax, notation, axiom, sorry.
-/
import Derived.Test.YtojiicbdbajljaaDoorRows
import GoSem.ClaimSeven
namespace Go.Proofs.YtojiicbdbajljaaDoor
namespace Rows

/-- THE TIED CARD OF 'hachurelaw22.SchemaAsks'. -/
def schemaAsksCard : Claim7 := { stood := { row := schemaAsksRow, standIns := [], harness := (true, "a5586da9569bcaadfe655a43af0f15d377f6033ffa714123d64f8add14db87fc"), looks := true }, kinds := [], alts := [], laidByText := true, laidKinds := [.data, .data, .data, .data, .widerDeep], laidTests := true, laidLooks := .later }
def SchemaAsksCardSaid : Prop := Claim7.holds Tryd.pinned (.plain (OpenSpec.ofChange schemaAsksSpec)) schemaAsksCard

/-- THE TIED CARD OF 'hachurelaw21.ValueForms'. -/
def valueFormsCard : Claim7 := { stood := { row := valueFormsRow, standIns := [], harness := (true, "a5586da9569bcaadfe655a43af0f15d377f6033ffa714123d64f8add14db87fc"), looks := true }, kinds := [], alts := [], laidByText := true, laidKinds := [.data, .data, .data], laidTests := true, laidLooks := .later }
def ValueFormsCardSaid : Prop := Claim7.holds Tryd.pinned (.plain (OpenSpec.ofChange valueFormsSpec)) valueFormsCard

/-- THE TIED CARD OF 'hachurelaw22.SchemaForms'. -/
def schemaFormsCard : Claim7 := { stood := { row := schemaFormsRow, standIns := [], harness := (true, "a5586da9569bcaadfe655a43af0f15d377f6033ffa714123d64f8add14db87fc"), looks := true }, kinds := [], alts := [], laidByText := true, laidKinds := [.data, .data, .data, .data, .widerDeep], laidTests := true, laidLooks := .later }
def SchemaFormsCardSaid : Prop := Claim7.holds Tryd.pinned (.plain (OpenSpec.ofChange schemaFormsSpec)) schemaFormsCard

/-- THE TIED CARD OF 'hachurelaw22.SchemaBack'. -/
def schemaBackCard : Claim7 := { stood := { row := schemaBackRow, standIns := [], harness := (true, "a5586da9569bcaadfe655a43af0f15d377f6033ffa714123d64f8add14db87fc"), looks := true }, kinds := [], alts := [], laidByText := true, laidKinds := [.data, .data, .data, .data, .widerDeep], laidTests := true, laidLooks := .later }
def SchemaBackCardSaid : Prop := Claim7.holds Tryd.pinned (.plain (OpenSpec.ofChange schemaBackSpec)) schemaBackCard

/-- THE TIED CARD OF 'hachurelaw21.ValueBack'. -/
def valueBackCard : Claim7 := { stood := { row := valueBackRow, standIns := [], harness := (true, "a5586da9569bcaadfe655a43af0f15d377f6033ffa714123d64f8add14db87fc"), looks := true }, kinds := [], alts := [], laidByText := true, laidKinds := [.data, .data, .data, .sentinel, .sentinel], laidTests := true, laidLooks := .later }
def ValueBackCardSaid : Prop := Claim7.holds Tryd.pinned (.plain (OpenSpec.ofChange valueBackSpec)) valueBackCard

/-- THE SECOND FORM's CARD OF 'hachurelaw22.SchemaAsks'. -/
def schemaAsksUptoCard : Claim7 := { stood := { row := schemaAsksUptoRow, standIns := [], harness := (true, "a5586da9569bcaadfe655a43af0f15d377f6033ffa714123d64f8add14db87fc"), looks := true }, kinds := [], alts := [], laidByText := true, laidKinds := [.data, .data, .data, .data, .widerDeep], laidTests := true, laidLooks := .later }
def SchemaAsksUptoCardSaid : Prop := Claim7.holds Tryd.pinned (.plain (OpenSpec.upto schemaAsksSpec)) schemaAsksUptoCard

/-- THE SECOND FORM's CARD OF 'hachurelaw21.ValueForms'. -/
def valueFormsUptoCard : Claim7 := { stood := { row := valueFormsUptoRow, standIns := [], harness := (true, "a5586da9569bcaadfe655a43af0f15d377f6033ffa714123d64f8add14db87fc"), looks := true }, kinds := [], alts := [], laidByText := true, laidKinds := [.data, .data, .data], laidTests := true, laidLooks := .later }
def ValueFormsUptoCardSaid : Prop := Claim7.holds Tryd.pinned (.plain (OpenSpec.upto valueFormsSpec)) valueFormsUptoCard

/-- THE SECOND FORM's CARD OF 'hachurelaw22.SchemaForms'. -/
def schemaFormsUptoCard : Claim7 := { stood := { row := schemaFormsUptoRow, standIns := [], harness := (true, "a5586da9569bcaadfe655a43af0f15d377f6033ffa714123d64f8add14db87fc"), looks := true }, kinds := [], alts := [], laidByText := true, laidKinds := [.data, .data, .data, .data, .widerDeep], laidTests := true, laidLooks := .later }
def SchemaFormsUptoCardSaid : Prop := Claim7.holds Tryd.pinned (.plain (OpenSpec.upto schemaFormsSpec)) schemaFormsUptoCard

/-- THE SECOND FORM's CARD OF 'hachurelaw22.SchemaBack'. -/
def schemaBackUptoCard : Claim7 := { stood := { row := schemaBackUptoRow, standIns := [], harness := (true, "a5586da9569bcaadfe655a43af0f15d377f6033ffa714123d64f8add14db87fc"), looks := true }, kinds := [], alts := [], laidByText := true, laidKinds := [.data, .data, .data, .data, .widerDeep], laidTests := true, laidLooks := .later }
def SchemaBackUptoCardSaid : Prop := Claim7.holds Tryd.pinned (.plain (OpenSpec.upto schemaBackSpec)) schemaBackUptoCard

/-- THE SECOND FORM's CARD OF 'hachurelaw21.ValueBack'. -/
def valueBackUptoCard : Claim7 := { stood := { row := valueBackUptoRow, standIns := [], harness := (true, "a5586da9569bcaadfe655a43af0f15d377f6033ffa714123d64f8add14db87fc"), looks := true }, kinds := [], alts := [], laidByText := true, laidKinds := [.data, .data, .data, .sentinel, .sentinel], laidTests := true, laidLooks := .later }
def ValueBackUptoCardSaid : Prop := Claim7.holds Tryd.pinned (.plain (OpenSpec.upto valueBackSpec)) valueBackUptoCard
end Rows
end Go.Proofs.YtojiicbdbajljaaDoor
