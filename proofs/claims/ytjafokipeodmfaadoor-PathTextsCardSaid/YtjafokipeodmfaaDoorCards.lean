/-
  DERIVED. GIVEN WITH THE SEED: THE CARDS: each row of YtjafokipeodmfaaDoorRows.lean that lists a variable, with what it lists TIED to the program's text (the seventh form; the later family's looks); each row that meets fmt, with fmt's text TOLD by the authors' own Lean function (tested against real Go, not proved from fmt's source: count such statements apart). THE CARD IS WHAT COUNTS. Prove the row's statement (the work); the ties are given (YtjafokipeodmfaaDoorTie.lean); close each card by the builder's one call (the guide's Derived/Test/ToyasCard.lean, 'card_holds'). Laid BY PROGRAM, IN A SANDBOX (cutbox-door.mjs). By AI agents, Wed Nov 11 2026. No macro, syntax, notation, axiom, sorry.
-/
import Derived.Test.YtjafokipeodmfaaDoorRows
import GoSem.ClaimSeven
namespace Go.Proofs.YtjafokipeodmfaaDoor
namespace Rows

/-- THE TIED CARD OF 'tributarylaw04.PathParses'. -/
def pathParsesCard : Claim7 := { stood := { row := pathParsesRow, standIns := [], harness := (true, "868894b061a0f78f3c1bf1af653824afbd2a563566eb969e1c3c37359d6ba4fb"), looks := false }, kinds := [], alts := [], laidByText := true, laidKinds := [.data, .pinned], laidTests := true, laidLooks := .later }
def PathParsesCardSaid : Prop := Claim7.holds Tryd.pinned (.plain (OpenSpec.ofChange pathParsesSpec)) pathParsesCard

/-- THE TIED CARD OF 'tributarylaw04.PathTexts'. -/
def pathTextsCard : Claim7 := { stood := { row := pathTextsRow, standIns := [], harness := (true, "868894b061a0f78f3c1bf1af653824afbd2a563566eb969e1c3c37359d6ba4fb"), looks := false }, kinds := [], alts := [], laidByText := true, laidKinds := [.data, .pinned], laidTests := true, laidLooks := .later }
def PathTextsCardSaid : Prop := Claim7.holds Tryd.pinned (.plain (OpenSpec.ofChange pathTextsSpec)) pathTextsCard

/-- THE TIED CARD OF 'tributarylaw04.PathIndexes'. -/
def pathIndexesCard : Claim7 := { stood := { row := pathIndexesRow, standIns := [], harness := (true, "868894b061a0f78f3c1bf1af653824afbd2a563566eb969e1c3c37359d6ba4fb"), looks := false }, kinds := [], alts := [], laidByText := true, laidKinds := [.data, .pinned], laidTests := true, laidLooks := .later }
def PathIndexesCardSaid : Prop := Claim7.holds Tryd.pinned (.plain (OpenSpec.ofChange pathIndexesSpec)) pathIndexesCard

/-- THE TIED CARD OF 'tributarylaw04.PathMeets'. -/
def pathMeetsCard : Claim7 := { stood := { row := pathMeetsRow, standIns := [], harness := (true, "868894b061a0f78f3c1bf1af653824afbd2a563566eb969e1c3c37359d6ba4fb"), looks := false }, kinds := [], alts := [], laidByText := true, laidKinds := [.data, .pinned], laidTests := true, laidLooks := .later }
def PathMeetsCardSaid : Prop := Claim7.holds Tryd.pinned (.plain (OpenSpec.ofChange pathMeetsSpec)) pathMeetsCard

/-- THE TIED CARD OF 'tributarylaw04.PathJoins'. -/
def pathJoinsCard : Claim7 := { stood := { row := pathJoinsRow, standIns := [], harness := (true, "868894b061a0f78f3c1bf1af653824afbd2a563566eb969e1c3c37359d6ba4fb"), looks := false }, kinds := [], alts := [], laidByText := true, laidKinds := [.data, .pinned], laidTests := true, laidLooks := .later }
def PathJoinsCardSaid : Prop := Claim7.holds Tryd.pinned (.plain (OpenSpec.ofChange pathJoinsSpec)) pathJoinsCard

/-- THE SECOND FORM's CARD OF 'tributarylaw04.PathParses'. -/
def pathParsesUptoCard : Claim7 := { stood := { row := pathParsesUptoRow, standIns := [], harness := (true, "868894b061a0f78f3c1bf1af653824afbd2a563566eb969e1c3c37359d6ba4fb"), looks := false }, kinds := [], alts := [], laidByText := true, laidKinds := [.data, .pinned], laidTests := true, laidLooks := .later }
def PathParsesUptoCardSaid : Prop := Claim7.holds Tryd.pinned (.plain (OpenSpec.upto pathParsesSpec)) pathParsesUptoCard

/-- THE SECOND FORM's CARD OF 'tributarylaw04.PathTexts'. -/
def pathTextsUptoCard : Claim7 := { stood := { row := pathTextsUptoRow, standIns := [], harness := (true, "868894b061a0f78f3c1bf1af653824afbd2a563566eb969e1c3c37359d6ba4fb"), looks := false }, kinds := [], alts := [], laidByText := true, laidKinds := [.data, .pinned], laidTests := true, laidLooks := .later }
def PathTextsUptoCardSaid : Prop := Claim7.holds Tryd.pinned (.plain (OpenSpec.upto pathTextsSpec)) pathTextsUptoCard

/-- THE SECOND FORM's CARD OF 'tributarylaw04.PathIndexes'. -/
def pathIndexesUptoCard : Claim7 := { stood := { row := pathIndexesUptoRow, standIns := [], harness := (true, "868894b061a0f78f3c1bf1af653824afbd2a563566eb969e1c3c37359d6ba4fb"), looks := false }, kinds := [], alts := [], laidByText := true, laidKinds := [.data, .pinned], laidTests := true, laidLooks := .later }
def PathIndexesUptoCardSaid : Prop := Claim7.holds Tryd.pinned (.plain (OpenSpec.upto pathIndexesSpec)) pathIndexesUptoCard

/-- THE SECOND FORM's CARD OF 'tributarylaw04.PathMeets'. -/
def pathMeetsUptoCard : Claim7 := { stood := { row := pathMeetsUptoRow, standIns := [], harness := (true, "868894b061a0f78f3c1bf1af653824afbd2a563566eb969e1c3c37359d6ba4fb"), looks := false }, kinds := [], alts := [], laidByText := true, laidKinds := [.data, .pinned], laidTests := true, laidLooks := .later }
def PathMeetsUptoCardSaid : Prop := Claim7.holds Tryd.pinned (.plain (OpenSpec.upto pathMeetsSpec)) pathMeetsUptoCard

/-- THE SECOND FORM's CARD OF 'tributarylaw04.PathJoins'. -/
def pathJoinsUptoCard : Claim7 := { stood := { row := pathJoinsUptoRow, standIns := [], harness := (true, "868894b061a0f78f3c1bf1af653824afbd2a563566eb969e1c3c37359d6ba4fb"), looks := false }, kinds := [], alts := [], laidByText := true, laidKinds := [.data, .pinned], laidTests := true, laidLooks := .later }
def PathJoinsUptoCardSaid : Prop := Claim7.holds Tryd.pinned (.plain (OpenSpec.upto pathJoinsSpec)) pathJoinsUptoCard
end Rows
end Go.Proofs.YtjafokipeodmfaaDoor
