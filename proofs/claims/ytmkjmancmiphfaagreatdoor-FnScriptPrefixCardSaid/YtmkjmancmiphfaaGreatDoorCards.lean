/-
  DERIVED. GIVEN WITH THE SEED: THE CARDS: each row of YtmkjmancmiphfaaGreatDoorRows.lean that lists a variable, with what it lists TIED to the program's text (the seventh form; the later family's looks); each row that meets fmt, with fmt's text TOLD by the authors' own Lean function (tested against real Go, not proved from fmt's source: count such statements apart). THE CARD IS WHAT COUNTS. Prove the row's statement (the work); the ties are given (YtmkjmancmiphfaaGreatDoorTie.lean); close each card by the builder's one call (the guide's Derived/Test/ToyasCard.lean, 'card_holds'). Laid BY PROGRAM, IN A SANDBOX (cutbox-door.mjs). By AI agents, Wed Nov 11 2026. No macro, syntax, notation, axiom, sorry.
-/
import Derived.Test.YtmkjmancmiphfaaGreatDoorRows
import GoSem.ClaimSeven
namespace Go.Proofs.YtmkjmancmiphfaaGreatDoor
namespace Rows

/-- THE TIED CARD OF 'laws.FnScriptRun'. -/
def fnScriptRunCard : Claim7 := { stood := { row := fnScriptRunRow, standIns := [], harness := (true, "74102130d830dfba4418ea06ae63a0b6dcec1dcf8107afcd9dc9897d072acdcc"), looks := true }, kinds := [], alts := [], laidByText := true, laidKinds := [.data, .data, .data, .data, .sentinel, .sentinel, .pinned], laidTests := true, laidLooks := .later }
def FnScriptRunCardSaid : Prop := Claim7.holds Tryz.pinned (.plain (OpenSpec.ofChange fnScriptRunSpec)) fnScriptRunCard

/-- THE TIED CARD OF 'laws.FnExactRunScript'. -/
def fnExactRunScriptCard : Claim7 := { stood := { row := fnExactRunScriptRow, standIns := [], harness := (true, "74102130d830dfba4418ea06ae63a0b6dcec1dcf8107afcd9dc9897d072acdcc"), looks := true }, kinds := [], alts := [], laidByText := true, laidKinds := [.data, .data, .data, .data, .sentinel, .sentinel, .pinned], laidTests := true, laidLooks := .later }
def FnExactRunScriptCardSaid : Prop := Claim7.holds Tryz.pinned (.plain (OpenSpec.ofChange fnExactRunScriptSpec)) fnExactRunScriptCard

/-- THE TIED CARD OF 'laws.FnScriptPrefix'. -/
def fnScriptPrefixCard : Claim7 := { stood := { row := fnScriptPrefixRow, standIns := [], harness := (true, "74102130d830dfba4418ea06ae63a0b6dcec1dcf8107afcd9dc9897d072acdcc"), looks := true }, kinds := [], alts := [], laidByText := true, laidKinds := [.data, .data, .data, .data, .sentinel, .sentinel, .pinned], laidTests := true, laidLooks := .later }
def FnScriptPrefixCardSaid : Prop := Claim7.holds Tryz.pinned (.plain (OpenSpec.ofChange fnScriptPrefixSpec)) fnScriptPrefixCard

/-- THE TIED CARD OF 'laws.FnScriptShow'. -/
def fnScriptShowCard : Claim7 := { stood := { row := fnScriptShowRow, standIns := [], harness := (true, "74102130d830dfba4418ea06ae63a0b6dcec1dcf8107afcd9dc9897d072acdcc"), looks := true }, kinds := [], alts := [], laidByText := true, laidKinds := [.data, .data, .data, .data, .sentinel, .sentinel, .pinned], laidTests := true, laidLooks := .later }
def FnScriptShowCardSaid : Prop := Claim7.holds Tryz.pinned (.plain (OpenSpec.ofChange fnScriptShowSpec)) fnScriptShowCard

/-- THE SECOND FORM's CARD OF 'laws.FnScriptRun'. -/
def fnScriptRunUptoCard : Claim7 := { stood := { row := fnScriptRunUptoRow, standIns := [], harness := (true, "74102130d830dfba4418ea06ae63a0b6dcec1dcf8107afcd9dc9897d072acdcc"), looks := true }, kinds := [], alts := [], laidByText := true, laidKinds := [.data, .data, .data, .data, .sentinel, .sentinel, .pinned], laidTests := true, laidLooks := .later }
def FnScriptRunUptoCardSaid : Prop := Claim7.holds Tryz.pinned (.plain (OpenSpec.upto fnScriptRunSpec)) fnScriptRunUptoCard

/-- THE SECOND FORM's CARD OF 'laws.FnExactRunScript'. -/
def fnExactRunScriptUptoCard : Claim7 := { stood := { row := fnExactRunScriptUptoRow, standIns := [], harness := (true, "74102130d830dfba4418ea06ae63a0b6dcec1dcf8107afcd9dc9897d072acdcc"), looks := true }, kinds := [], alts := [], laidByText := true, laidKinds := [.data, .data, .data, .data, .sentinel, .sentinel, .pinned], laidTests := true, laidLooks := .later }
def FnExactRunScriptUptoCardSaid : Prop := Claim7.holds Tryz.pinned (.plain (OpenSpec.upto fnExactRunScriptSpec)) fnExactRunScriptUptoCard

/-- THE SECOND FORM's CARD OF 'laws.FnScriptPrefix'. -/
def fnScriptPrefixUptoCard : Claim7 := { stood := { row := fnScriptPrefixUptoRow, standIns := [], harness := (true, "74102130d830dfba4418ea06ae63a0b6dcec1dcf8107afcd9dc9897d072acdcc"), looks := true }, kinds := [], alts := [], laidByText := true, laidKinds := [.data, .data, .data, .data, .sentinel, .sentinel, .pinned], laidTests := true, laidLooks := .later }
def FnScriptPrefixUptoCardSaid : Prop := Claim7.holds Tryz.pinned (.plain (OpenSpec.upto fnScriptPrefixSpec)) fnScriptPrefixUptoCard

/-- THE SECOND FORM's CARD OF 'laws.FnScriptShow'. -/
def fnScriptShowUptoCard : Claim7 := { stood := { row := fnScriptShowUptoRow, standIns := [], harness := (true, "74102130d830dfba4418ea06ae63a0b6dcec1dcf8107afcd9dc9897d072acdcc"), looks := true }, kinds := [], alts := [], laidByText := true, laidKinds := [.data, .data, .data, .data, .sentinel, .sentinel, .pinned], laidTests := true, laidLooks := .later }
def FnScriptShowUptoCardSaid : Prop := Claim7.holds Tryz.pinned (.plain (OpenSpec.upto fnScriptShowSpec)) fnScriptShowUptoCard
end Rows
end Go.Proofs.YtmkjmancmiphfaaGreatDoor
