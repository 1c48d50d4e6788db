/-
  DERIVED. GIVEN WITH THE SEED: THE CARDS: each row of YtkadphbjfhbapaaDoorRows.lean that lists a variable, with what it lists TIED to the program's text (the seventh form; the later family's looks); each row that meets fmt, with fmt's text TOLD by the authors' own Lean function (tested against real Go, not proved from fmt's source: count such statements apart). THE CARD IS WHAT COUNTS. Prove the row's statement (the work); the ties are given (YtkadphbjfhbapaaDoorTie.lean); close each card by the builder's one call (the guide's Derived/Test/ToyasCard.lean, 'card_holds'). Laid BY PROGRAM, IN A SANDBOX (cutbox-door.mjs). By AI agents, Wed Nov 11 2026. No macro, syntax, notation, axiom, sorry.
-/
import Derived.Test.YtkadphbjfhbapaaDoorRows
import GoSem.ClaimSeven
namespace Go.Proofs.YtkadphbjfhbapaaDoor
namespace Rows

/-- THE TIED CARD OF 'laws.FnTabBack'. -/
def fnTabBackCard : Claim7 := { stood := { row := fnTabBackRow, standIns := [], harness := (true, "6a66448867a9e208eac32b7edfda438f181d4342c960a419c3a09233c23c42f7"), looks := true }, kinds := [], alts := [], laidByText := true, laidKinds := [.data, .data, .data, .data, .sentinel, .sentinel, .pinned], laidTests := true, laidLooks := .later }
def FnTabBackCardSaid : Prop := Claim7.holds Tryd.pinned (.plain (OpenSpec.ofChange fnTabBackSpec)) fnTabBackCard

/-- THE TIED CARD OF 'laws.FnExactTabRead'. -/
def fnExactTabReadCard : Claim7 := { stood := { row := fnExactTabReadRow, standIns := [], harness := (true, "6a66448867a9e208eac32b7edfda438f181d4342c960a419c3a09233c23c42f7"), looks := true }, kinds := [], alts := [], laidByText := true, laidKinds := [.data, .data, .data, .data, .sentinel, .sentinel, .pinned], laidTests := true, laidLooks := .later }
def FnExactTabReadCardSaid : Prop := Claim7.holds Tryd.pinned (.plain (OpenSpec.ofChange fnExactTabReadSpec)) fnExactTabReadCard

/-- THE TIED CARD OF 'laws.FnTabStrict'. -/
def fnTabStrictCard : Claim7 := { stood := { row := fnTabStrictRow, standIns := [], harness := (true, "6a66448867a9e208eac32b7edfda438f181d4342c960a419c3a09233c23c42f7"), looks := true }, kinds := [], alts := [], laidByText := true, laidKinds := [.data, .data, .data, .data, .sentinel, .sentinel, .pinned], laidTests := true, laidLooks := .later }
def FnTabStrictCardSaid : Prop := Claim7.holds Tryd.pinned (.plain (OpenSpec.ofChange fnTabStrictSpec)) fnTabStrictCard

/-- THE TIED CARD OF 'laws.FnExactTabText'. -/
def fnExactTabTextCard : Claim7 := { stood := { row := fnExactTabTextRow, standIns := [], harness := (true, "6a66448867a9e208eac32b7edfda438f181d4342c960a419c3a09233c23c42f7"), looks := true }, kinds := [], alts := [], laidByText := true, laidKinds := [.data, .data, .data], laidTests := true, laidLooks := .later }
def FnExactTabTextCardSaid : Prop := Claim7.holds Tryd.pinned (.plain (OpenSpec.ofChange fnExactTabTextSpec)) fnExactTabTextCard

/-- THE TIED CARD OF 'laws.FnTabOne'. -/
def fnTabOneCard : Claim7 := { stood := { row := fnTabOneRow, standIns := [], harness := (true, "6a66448867a9e208eac32b7edfda438f181d4342c960a419c3a09233c23c42f7"), looks := true }, kinds := [], alts := [], laidByText := true, laidKinds := [.data, .data, .data], laidTests := true, laidLooks := .later }
def FnTabOneCardSaid : Prop := Claim7.holds Tryd.pinned (.plain (OpenSpec.ofChange fnTabOneSpec)) fnTabOneCard

/-- THE SECOND FORM's CARD OF 'laws.FnTabBack'. -/
def fnTabBackUptoCard : Claim7 := { stood := { row := fnTabBackUptoRow, standIns := [], harness := (true, "6a66448867a9e208eac32b7edfda438f181d4342c960a419c3a09233c23c42f7"), looks := true }, kinds := [], alts := [], laidByText := true, laidKinds := [.data, .data, .data, .data, .sentinel, .sentinel, .pinned], laidTests := true, laidLooks := .later }
def FnTabBackUptoCardSaid : Prop := Claim7.holds Tryd.pinned (.plain (OpenSpec.upto fnTabBackSpec)) fnTabBackUptoCard

/-- THE SECOND FORM's CARD OF 'laws.FnExactTabRead'. -/
def fnExactTabReadUptoCard : Claim7 := { stood := { row := fnExactTabReadUptoRow, standIns := [], harness := (true, "6a66448867a9e208eac32b7edfda438f181d4342c960a419c3a09233c23c42f7"), looks := true }, kinds := [], alts := [], laidByText := true, laidKinds := [.data, .data, .data, .data, .sentinel, .sentinel, .pinned], laidTests := true, laidLooks := .later }
def FnExactTabReadUptoCardSaid : Prop := Claim7.holds Tryd.pinned (.plain (OpenSpec.upto fnExactTabReadSpec)) fnExactTabReadUptoCard

/-- THE SECOND FORM's CARD OF 'laws.FnTabStrict'. -/
def fnTabStrictUptoCard : Claim7 := { stood := { row := fnTabStrictUptoRow, standIns := [], harness := (true, "6a66448867a9e208eac32b7edfda438f181d4342c960a419c3a09233c23c42f7"), looks := true }, kinds := [], alts := [], laidByText := true, laidKinds := [.data, .data, .data, .data, .sentinel, .sentinel, .pinned], laidTests := true, laidLooks := .later }
def FnTabStrictUptoCardSaid : Prop := Claim7.holds Tryd.pinned (.plain (OpenSpec.upto fnTabStrictSpec)) fnTabStrictUptoCard

/-- THE SECOND FORM's CARD OF 'laws.FnExactTabText'. -/
def fnExactTabTextUptoCard : Claim7 := { stood := { row := fnExactTabTextUptoRow, standIns := [], harness := (true, "6a66448867a9e208eac32b7edfda438f181d4342c960a419c3a09233c23c42f7"), looks := true }, kinds := [], alts := [], laidByText := true, laidKinds := [.data, .data, .data], laidTests := true, laidLooks := .later }
def FnExactTabTextUptoCardSaid : Prop := Claim7.holds Tryd.pinned (.plain (OpenSpec.upto fnExactTabTextSpec)) fnExactTabTextUptoCard

/-- THE SECOND FORM's CARD OF 'laws.FnTabOne'. -/
def fnTabOneUptoCard : Claim7 := { stood := { row := fnTabOneUptoRow, standIns := [], harness := (true, "6a66448867a9e208eac32b7edfda438f181d4342c960a419c3a09233c23c42f7"), looks := true }, kinds := [], alts := [], laidByText := true, laidKinds := [.data, .data, .data], laidTests := true, laidLooks := .later }
def FnTabOneUptoCardSaid : Prop := Claim7.holds Tryd.pinned (.plain (OpenSpec.upto fnTabOneSpec)) fnTabOneUptoCard
end Rows
end Go.Proofs.YtkadphbjfhbapaaDoor
