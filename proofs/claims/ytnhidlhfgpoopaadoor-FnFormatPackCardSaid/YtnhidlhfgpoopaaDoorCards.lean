/-
  DERIVED. GIVEN WITH THE SEED: THE CARDS: each row of YtnhidlhfgpoopaaDoorRows.lean that lists a variable, with what it lists TIED to the program's text (the seventh form; the later family's looks); each row that meets fmt, with fmt's text TOLD by the authors' own Lean function (tested against real Go, not proved from fmt's source: count such statements apart). THE CARD IS WHAT COUNTS. Prove the row's statement (the work); the ties are given (YtnhidlhfgpoopaaDoorTie.lean); close each card by the builder's one call (the guide's Derived/Test/ToyasCard.lean, 'card_holds'). Laid BY PROGRAM, IN A SANDBOX (cutbox-door.mjs). By AI agents, Wed Nov 11 2026. No macro, syntax, notation, axiom, sorry.
-/
import Derived.Test.YtnhidlhfgpoopaaDoorRows
import GoSem.ClaimSeven
namespace Go.Proofs.YtnhidlhfgpoopaaDoor
namespace Rows

/-- THE TIED CARD OF 'laws.FnExactFormatPack'. -/
def fnExactFormatPackCard : Claim7 := { stood := { row := fnExactFormatPackRow, standIns := [], harness := (true, "f0e8bc768f18842d9165121d099d81a523b996871c0c07baa66a3fe503588234"), looks := false }, kinds := [], alts := [], laidByText := true, laidKinds := [.data, .data, .data], laidTests := true, laidLooks := .later }
def FnExactFormatPackCardSaid : Prop := Claim7.holds Tryd.pinned (.plain (OpenSpec.ofChange fnExactFormatPackSpec)) fnExactFormatPackCard

/-- THE TIED CARD OF 'laws.FnFormatPack'. -/
def fnFormatPackCard : Claim7 := { stood := { row := fnFormatPackRow, standIns := [], harness := (true, "f0e8bc768f18842d9165121d099d81a523b996871c0c07baa66a3fe503588234"), looks := false }, kinds := [], alts := [], laidByText := true, laidKinds := [.data, .data, .data], laidTests := true, laidLooks := .later }
def FnFormatPackCardSaid : Prop := Claim7.holds Tryd.pinned (.plain (OpenSpec.ofChange fnFormatPackSpec)) fnFormatPackCard

/-- THE TIED CARD OF 'laws.FnPackText'. -/
def fnPackTextCard : Claim7 := { stood := { row := fnPackTextRow, standIns := [], harness := (true, "f0e8bc768f18842d9165121d099d81a523b996871c0c07baa66a3fe503588234"), looks := false }, kinds := [], alts := [], laidByText := true, laidKinds := [.data, .data, .data], laidTests := true, laidLooks := .later }
def FnPackTextCardSaid : Prop := Claim7.holds Tryd.pinned (.plain (OpenSpec.ofChange fnPackTextSpec)) fnPackTextCard

/-- THE SECOND FORM's CARD OF 'laws.FnExactFormatPack'. -/
def fnExactFormatPackUptoCard : Claim7 := { stood := { row := fnExactFormatPackUptoRow, standIns := [], harness := (true, "f0e8bc768f18842d9165121d099d81a523b996871c0c07baa66a3fe503588234"), looks := false }, kinds := [], alts := [], laidByText := true, laidKinds := [.data, .data, .data], laidTests := true, laidLooks := .later }
def FnExactFormatPackUptoCardSaid : Prop := Claim7.holds Tryd.pinned (.plain (OpenSpec.upto fnExactFormatPackSpec)) fnExactFormatPackUptoCard

/-- THE SECOND FORM's CARD OF 'laws.FnFormatPack'. -/
def fnFormatPackUptoCard : Claim7 := { stood := { row := fnFormatPackUptoRow, standIns := [], harness := (true, "f0e8bc768f18842d9165121d099d81a523b996871c0c07baa66a3fe503588234"), looks := false }, kinds := [], alts := [], laidByText := true, laidKinds := [.data, .data, .data], laidTests := true, laidLooks := .later }
def FnFormatPackUptoCardSaid : Prop := Claim7.holds Tryd.pinned (.plain (OpenSpec.upto fnFormatPackSpec)) fnFormatPackUptoCard

/-- THE SECOND FORM's CARD OF 'laws.FnPackText'. -/
def fnPackTextUptoCard : Claim7 := { stood := { row := fnPackTextUptoRow, standIns := [], harness := (true, "f0e8bc768f18842d9165121d099d81a523b996871c0c07baa66a3fe503588234"), looks := false }, kinds := [], alts := [], laidByText := true, laidKinds := [.data, .data, .data], laidTests := true, laidLooks := .later }
def FnPackTextUptoCardSaid : Prop := Claim7.holds Tryd.pinned (.plain (OpenSpec.upto fnPackTextSpec)) fnPackTextUptoCard
end Rows
end Go.Proofs.YtnhidlhfgpoopaaDoor
