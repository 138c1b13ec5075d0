/-
  No cell of these rows narrows 'for every input' (looked for: loops, veiled, ifaces, maps, wideKeys, modest, calm, conditions, laid).
  DERIVED. THE GIVEN ROWS OF THIS SEAT. 18 by the template 'for every input the law returns true; each argument reads behind the call as it read before'; 0 by the template 'total and deterministic' (their statements: YtnhidlhfgpoopaaTotals.lean).
  GIVEN WITH THE SEED: the statements are not yours to turn. If you find one false, say at which input.
  Laid BY PROGRAM, IN A SANDBOX (cutbox-rows.mjs): the forced cells as the released guide's own fill.sh prints them over the translation 2563368aea876757… (all of the seat's roots in one cut). By AI agents, Wed Nov 11 2026. No macro, syntax, notation, axiom, sorry.
-/
import Derived.Test.YtnhidlhfgpoopaaChecked
import GoSem.Claim
import GoSem.ClaimJoined
import GoSem.ClaimMapViews
import Derived.JoinedTies
import Derived.KernelRfl
namespace Go.Proofs.Ytnhidlhfgpoopaa
/- THE CELL 'sum', in the pinned program and in every row, IS THE sha256 OF THE DUMP (.gsa) THAT YtnhidlhfgpoopaaProg.lean LOADS. Nothing in Lean hashes anything: it is a label: what it is worth is what the hold of that sum in a sandbox is worth. -/
noncomputable def Try.pinned : Pinned := { name := "ytnhidlhfgpoopaa", sum := "2563368aea876757482b89e11d3d585fbaad7203975703c27fbc83e397a1994c", checked := Try.checked }
namespace Rows
def none {H : Type} : Left H := { results := [], args := [] }

/-- 'laws.FnExactPackValid': WHATEVER THE INPUT: true; the input reads as it did. -/
def fnExactPackValidSpec : ChangeSpec := { name := "fnExactPackValid", fn := fun _ => fun
  | [d1, d2, d3] => { results := [.lit (.bool true)], args := [d1, d2, d3] }
  | _ => none }
def fnExactPackValidRow : OpenClaim := { program := "ytnhidlhfgpoopaa", sum := "2563368aea876757482b89e11d3d585fbaad7203975703c27fbc83e397a1994c", func := "loop.example/dualmodes/laws.FnExactPackValid", spec := "fnExactPackValid", apart := false }
def FnExactPackValidSaid : Prop := fnExactPackValidRow.holds Try.pinned (OpenSpec.ofChange fnExactPackValidSpec)

/-- ITS FALSE NEIGHBOUR: 'it returns false'. Refute it at one input. -/
def fnExactPackValidWrong : ChangeSpec := { name := "fnExactPackValid", fn := fun _ => fun
  | [d1, d2, d3] => { results := [.lit (.bool false)], args := [d1, d2, d3] }
  | _ => none }
def FnExactPackValidWrongFalsely : Prop := fnExactPackValidRow.holds Try.pinned (OpenSpec.ofChange fnExactPackValidWrong)

/-- 'laws.FnPackValid': WHATEVER THE INPUT: true; the input reads as it did. -/
def fnPackValidSpec : ChangeSpec := { name := "fnPackValid", fn := fun _ => fun
  | [d] => { results := [.lit (.bool true)], args := [d] }
  | _ => none }
def fnPackValidRow : OpenClaim := { program := "ytnhidlhfgpoopaa", sum := "2563368aea876757482b89e11d3d585fbaad7203975703c27fbc83e397a1994c", func := "loop.example/dualmodes/laws.FnPackValid", spec := "fnPackValid", apart := false }
def FnPackValidSaid : Prop := fnPackValidRow.holds Try.pinned (OpenSpec.ofChange fnPackValidSpec)

/-- ITS FALSE NEIGHBOUR: 'it returns false'. Refute it at one input. -/
def fnPackValidWrong : ChangeSpec := { name := "fnPackValid", fn := fun _ => fun
  | [d] => { results := [.lit (.bool false)], args := [d] }
  | _ => none }
def FnPackValidWrongFalsely : Prop := fnPackValidRow.holds Try.pinned (OpenSpec.ofChange fnPackValidWrong)

/-- 'laws.FnGroupOf': WHATEVER THE INPUT: true; the input reads as it did. -/
def fnGroupOfSpec : ChangeSpec := { name := "fnGroupOf", fn := fun _ => fun
  | [d] => { results := [.lit (.bool true)], args := [d] }
  | _ => none }
def fnGroupOfRow : OpenClaim := { program := "ytnhidlhfgpoopaa", sum := "2563368aea876757482b89e11d3d585fbaad7203975703c27fbc83e397a1994c", func := "loop.example/dualmodes/laws.FnGroupOf", spec := "fnGroupOf", apart := false }
def FnGroupOfSaid : Prop := fnGroupOfRow.holds Try.pinned (OpenSpec.ofChange fnGroupOfSpec)

/-- ITS FALSE NEIGHBOUR: 'it returns false'. Refute it at one input. -/
def fnGroupOfWrong : ChangeSpec := { name := "fnGroupOf", fn := fun _ => fun
  | [d] => { results := [.lit (.bool false)], args := [d] }
  | _ => none }
def FnGroupOfWrongFalsely : Prop := fnGroupOfRow.holds Try.pinned (OpenSpec.ofChange fnGroupOfWrong)

/-- 'laws.FnExactGroupOf': WHATEVER THE INPUT: true; the input reads as it did. -/
def fnExactGroupOfSpec : ChangeSpec := { name := "fnExactGroupOf", fn := fun _ => fun
  | [d1, d2, d3] => { results := [.lit (.bool true)], args := [d1, d2, d3] }
  | _ => none }
def fnExactGroupOfRow : OpenClaim := { program := "ytnhidlhfgpoopaa", sum := "2563368aea876757482b89e11d3d585fbaad7203975703c27fbc83e397a1994c", func := "loop.example/dualmodes/laws.FnExactGroupOf", spec := "fnExactGroupOf", apart := false }
def FnExactGroupOfSaid : Prop := fnExactGroupOfRow.holds Try.pinned (OpenSpec.ofChange fnExactGroupOfSpec)

/-- ITS FALSE NEIGHBOUR: 'it returns false'. Refute it at one input. -/
def fnExactGroupOfWrong : ChangeSpec := { name := "fnExactGroupOf", fn := fun _ => fun
  | [d1, d2, d3] => { results := [.lit (.bool false)], args := [d1, d2, d3] }
  | _ => none }
def FnExactGroupOfWrongFalsely : Prop := fnExactGroupOfRow.holds Try.pinned (OpenSpec.ofChange fnExactGroupOfWrong)

/-- 'laws.FnGroupShare': WHATEVER THE INPUT: true; the input reads as it did. -/
def fnGroupShareSpec : ChangeSpec := { name := "fnGroupShare", fn := fun _ => fun
  | [d] => { results := [.lit (.bool true)], args := [d] }
  | _ => none }
def fnGroupShareRow : OpenClaim := { program := "ytnhidlhfgpoopaa", sum := "2563368aea876757482b89e11d3d585fbaad7203975703c27fbc83e397a1994c", func := "loop.example/dualmodes/laws.FnGroupShare", spec := "fnGroupShare", apart := false }
def FnGroupShareSaid : Prop := fnGroupShareRow.holds Try.pinned (OpenSpec.ofChange fnGroupShareSpec)

/-- ITS FALSE NEIGHBOUR: 'it returns false'. Refute it at one input. -/
def fnGroupShareWrong : ChangeSpec := { name := "fnGroupShare", fn := fun _ => fun
  | [d] => { results := [.lit (.bool false)], args := [d] }
  | _ => none }
def FnGroupShareWrongFalsely : Prop := fnGroupShareRow.holds Try.pinned (OpenSpec.ofChange fnGroupShareWrong)

/-- 'laws.FnLeaveTask': WHATEVER THE INPUT: true; the input reads as it did. -/
def fnLeaveTaskSpec : ChangeSpec := { name := "fnLeaveTask", fn := fun _ => fun
  | [d] => { results := [.lit (.bool true)], args := [d] }
  | _ => none }
def fnLeaveTaskRow : OpenClaim := { program := "ytnhidlhfgpoopaa", sum := "2563368aea876757482b89e11d3d585fbaad7203975703c27fbc83e397a1994c", func := "loop.example/dualmodes/laws.FnLeaveTask", spec := "fnLeaveTask", unfollowed := true, recurses := true, apart := false }
def FnLeaveTaskSaid : Prop := fnLeaveTaskRow.holds Try.pinned (OpenSpec.ofChange fnLeaveTaskSpec)

/-- ITS FALSE NEIGHBOUR: 'it returns false'. Refute it at one input. -/
def fnLeaveTaskWrong : ChangeSpec := { name := "fnLeaveTask", fn := fun _ => fun
  | [d] => { results := [.lit (.bool false)], args := [d] }
  | _ => none }
def FnLeaveTaskWrongFalsely : Prop := fnLeaveTaskRow.holds Try.pinned (OpenSpec.ofChange fnLeaveTaskWrong)

/-- 'laws.FnExactHoldsBy': WHATEVER THE INPUT: true; the input reads as it did. -/
def fnExactHoldsBySpec : ChangeSpec := { name := "fnExactHoldsBy", fn := fun _ => fun
  | [d1, d2] => { results := [.lit (.bool true)], args := [d1, d2] }
  | _ => none }
def fnExactHoldsByRow : OpenClaim := { program := "ytnhidlhfgpoopaa", sum := "2563368aea876757482b89e11d3d585fbaad7203975703c27fbc83e397a1994c", func := "loop.example/dualmodes/laws.FnExactHoldsBy", spec := "fnExactHoldsBy", unfollowed := true, recurses := true, apart := false }
def FnExactHoldsBySaid : Prop := fnExactHoldsByRow.holds Try.pinned (OpenSpec.ofChange fnExactHoldsBySpec)

/-- ITS FALSE NEIGHBOUR: 'it returns false'. Refute it at one input. -/
def fnExactHoldsByWrong : ChangeSpec := { name := "fnExactHoldsBy", fn := fun _ => fun
  | [d1, d2] => { results := [.lit (.bool false)], args := [d1, d2] }
  | _ => none }
def FnExactHoldsByWrongFalsely : Prop := fnExactHoldsByRow.holds Try.pinned (OpenSpec.ofChange fnExactHoldsByWrong)

/-- 'laws.FnExactMostHigh': WHATEVER THE INPUT: true; the input reads as it did. -/
def fnExactMostHighSpec : ChangeSpec := { name := "fnExactMostHigh", fn := fun _ => fun
  | [d1, d2, d3] => { results := [.lit (.bool true)], args := [d1, d2, d3] }
  | _ => none }
def fnExactMostHighRow : OpenClaim := { program := "ytnhidlhfgpoopaa", sum := "2563368aea876757482b89e11d3d585fbaad7203975703c27fbc83e397a1994c", func := "loop.example/dualmodes/laws.FnExactMostHigh", spec := "fnExactMostHigh", unfollowed := true, recurses := true, apart := false }
def FnExactMostHighSaid : Prop := fnExactMostHighRow.holds Try.pinned (OpenSpec.ofChange fnExactMostHighSpec)

/-- ITS FALSE NEIGHBOUR: 'it returns false'. Refute it at one input. -/
def fnExactMostHighWrong : ChangeSpec := { name := "fnExactMostHigh", fn := fun _ => fun
  | [d1, d2, d3] => { results := [.lit (.bool false)], args := [d1, d2, d3] }
  | _ => none }
def FnExactMostHighWrongFalsely : Prop := fnExactMostHighRow.holds Try.pinned (OpenSpec.ofChange fnExactMostHighWrong)

/-- 'laws.FnExactMostLow': WHATEVER THE INPUT: true; the input reads as it did. -/
def fnExactMostLowSpec : ChangeSpec := { name := "fnExactMostLow", fn := fun _ => fun
  | [d1, d2, d3] => { results := [.lit (.bool true)], args := [d1, d2, d3] }
  | _ => none }
def fnExactMostLowRow : OpenClaim := { program := "ytnhidlhfgpoopaa", sum := "2563368aea876757482b89e11d3d585fbaad7203975703c27fbc83e397a1994c", func := "loop.example/dualmodes/laws.FnExactMostLow", spec := "fnExactMostLow", unfollowed := true, recurses := true, apart := false }
def FnExactMostLowSaid : Prop := fnExactMostLowRow.holds Try.pinned (OpenSpec.ofChange fnExactMostLowSpec)

/-- ITS FALSE NEIGHBOUR: 'it returns false'. Refute it at one input. -/
def fnExactMostLowWrong : ChangeSpec := { name := "fnExactMostLow", fn := fun _ => fun
  | [d1, d2, d3] => { results := [.lit (.bool false)], args := [d1, d2, d3] }
  | _ => none }
def FnExactMostLowWrongFalsely : Prop := fnExactMostLowRow.holds Try.pinned (OpenSpec.ofChange fnExactMostLowWrong)

/-- 'laws.FnExactCanHold': WHATEVER THE INPUT: true; the input reads as it did. -/
def fnExactCanHoldSpec : ChangeSpec := { name := "fnExactCanHold", fn := fun _ => fun
  | [d1, d2] => { results := [.lit (.bool true)], args := [d1, d2] }
  | _ => none }
def fnExactCanHoldRow : OpenClaim := { program := "ytnhidlhfgpoopaa", sum := "2563368aea876757482b89e11d3d585fbaad7203975703c27fbc83e397a1994c", func := "loop.example/dualmodes/laws.FnExactCanHold", spec := "fnExactCanHold", unfollowed := true, recurses := true, apart := false }
def FnExactCanHoldSaid : Prop := fnExactCanHoldRow.holds Try.pinned (OpenSpec.ofChange fnExactCanHoldSpec)

/-- ITS FALSE NEIGHBOUR: 'it returns false'. Refute it at one input. -/
def fnExactCanHoldWrong : ChangeSpec := { name := "fnExactCanHold", fn := fun _ => fun
  | [d1, d2] => { results := [.lit (.bool false)], args := [d1, d2] }
  | _ => none }
def FnExactCanHoldWrongFalsely : Prop := fnExactCanHoldRow.holds Try.pinned (OpenSpec.ofChange fnExactCanHoldWrong)

/-- 'laws.FnCanHold': WHATEVER THE INPUT: true; the input reads as it did. -/
def fnCanHoldSpec : ChangeSpec := { name := "fnCanHold", fn := fun _ => fun
  | [d] => { results := [.lit (.bool true)], args := [d] }
  | _ => none }
def fnCanHoldRow : OpenClaim := { program := "ytnhidlhfgpoopaa", sum := "2563368aea876757482b89e11d3d585fbaad7203975703c27fbc83e397a1994c", func := "loop.example/dualmodes/laws.FnCanHold", spec := "fnCanHold", unfollowed := true, recurses := true, apart := false }
def FnCanHoldSaid : Prop := fnCanHoldRow.holds Try.pinned (OpenSpec.ofChange fnCanHoldSpec)

/-- ITS FALSE NEIGHBOUR: 'it returns false'. Refute it at one input. -/
def fnCanHoldWrong : ChangeSpec := { name := "fnCanHold", fn := fun _ => fun
  | [d] => { results := [.lit (.bool false)], args := [d] }
  | _ => none }
def FnCanHoldWrongFalsely : Prop := fnCanHoldRow.holds Try.pinned (OpenSpec.ofChange fnCanHoldWrong)

/-- 'laws.FnMostBetween': WHATEVER THE INPUT: true; the input reads as it did. -/
def fnMostBetweenSpec : ChangeSpec := { name := "fnMostBetween", fn := fun _ => fun
  | [d] => { results := [.lit (.bool true)], args := [d] }
  | _ => none }
def fnMostBetweenRow : OpenClaim := { program := "ytnhidlhfgpoopaa", sum := "2563368aea876757482b89e11d3d585fbaad7203975703c27fbc83e397a1994c", func := "loop.example/dualmodes/laws.FnMostBetween", spec := "fnMostBetween", unfollowed := true, recurses := true, apart := false }
def FnMostBetweenSaid : Prop := fnMostBetweenRow.holds Try.pinned (OpenSpec.ofChange fnMostBetweenSpec)

/-- ITS FALSE NEIGHBOUR: 'it returns false'. Refute it at one input. -/
def fnMostBetweenWrong : ChangeSpec := { name := "fnMostBetween", fn := fun _ => fun
  | [d] => { results := [.lit (.bool false)], args := [d] }
  | _ => none }
def FnMostBetweenWrongFalsely : Prop := fnMostBetweenRow.holds Try.pinned (OpenSpec.ofChange fnMostBetweenWrong)

/-- 'laws.FnMostHigh': WHATEVER THE INPUT: true; the input reads as it did. -/
def fnMostHighSpec : ChangeSpec := { name := "fnMostHigh", fn := fun _ => fun
  | [d] => { results := [.lit (.bool true)], args := [d] }
  | _ => none }
def fnMostHighRow : OpenClaim := { program := "ytnhidlhfgpoopaa", sum := "2563368aea876757482b89e11d3d585fbaad7203975703c27fbc83e397a1994c", func := "loop.example/dualmodes/laws.FnMostHigh", spec := "fnMostHigh", unfollowed := true, recurses := true, apart := false }
def FnMostHighSaid : Prop := fnMostHighRow.holds Try.pinned (OpenSpec.ofChange fnMostHighSpec)

/-- ITS FALSE NEIGHBOUR: 'it returns false'. Refute it at one input. -/
def fnMostHighWrong : ChangeSpec := { name := "fnMostHigh", fn := fun _ => fun
  | [d] => { results := [.lit (.bool false)], args := [d] }
  | _ => none }
def FnMostHighWrongFalsely : Prop := fnMostHighRow.holds Try.pinned (OpenSpec.ofChange fnMostHighWrong)

/-- 'laws.FnMostLast': WHATEVER THE INPUT: true; the input reads as it did. -/
def fnMostLastSpec : ChangeSpec := { name := "fnMostLast", fn := fun _ => fun
  | [d] => { results := [.lit (.bool true)], args := [d] }
  | _ => none }
def fnMostLastRow : OpenClaim := { program := "ytnhidlhfgpoopaa", sum := "2563368aea876757482b89e11d3d585fbaad7203975703c27fbc83e397a1994c", func := "loop.example/dualmodes/laws.FnMostLast", spec := "fnMostLast", unfollowed := true, recurses := true, apart := false }
def FnMostLastSaid : Prop := fnMostLastRow.holds Try.pinned (OpenSpec.ofChange fnMostLastSpec)

/-- ITS FALSE NEIGHBOUR: 'it returns false'. Refute it at one input. -/
def fnMostLastWrong : ChangeSpec := { name := "fnMostLast", fn := fun _ => fun
  | [d] => { results := [.lit (.bool false)], args := [d] }
  | _ => none }
def FnMostLastWrongFalsely : Prop := fnMostLastRow.holds Try.pinned (OpenSpec.ofChange fnMostLastWrong)

/-- 'laws.FnMostLow': WHATEVER THE INPUT: true; the input reads as it did. -/
def fnMostLowSpec : ChangeSpec := { name := "fnMostLow", fn := fun _ => fun
  | [d] => { results := [.lit (.bool true)], args := [d] }
  | _ => none }
def fnMostLowRow : OpenClaim := { program := "ytnhidlhfgpoopaa", sum := "2563368aea876757482b89e11d3d585fbaad7203975703c27fbc83e397a1994c", func := "loop.example/dualmodes/laws.FnMostLow", spec := "fnMostLow", unfollowed := true, recurses := true, apart := false }
def FnMostLowSaid : Prop := fnMostLowRow.holds Try.pinned (OpenSpec.ofChange fnMostLowSpec)

/-- ITS FALSE NEIGHBOUR: 'it returns false'. Refute it at one input. -/
def fnMostLowWrong : ChangeSpec := { name := "fnMostLow", fn := fun _ => fun
  | [d] => { results := [.lit (.bool false)], args := [d] }
  | _ => none }
def FnMostLowWrongFalsely : Prop := fnMostLowRow.holds Try.pinned (OpenSpec.ofChange fnMostLowWrong)

/-- 'laws.FnMostLowHigh': WHATEVER THE INPUT: true; the input reads as it did. -/
def fnMostLowHighSpec : ChangeSpec := { name := "fnMostLowHigh", fn := fun _ => fun
  | [d] => { results := [.lit (.bool true)], args := [d] }
  | _ => none }
def fnMostLowHighRow : OpenClaim := { program := "ytnhidlhfgpoopaa", sum := "2563368aea876757482b89e11d3d585fbaad7203975703c27fbc83e397a1994c", func := "loop.example/dualmodes/laws.FnMostLowHigh", spec := "fnMostLowHigh", unfollowed := true, recurses := true, apart := false }
def FnMostLowHighSaid : Prop := fnMostLowHighRow.holds Try.pinned (OpenSpec.ofChange fnMostLowHighSpec)

/-- ITS FALSE NEIGHBOUR: 'it returns false'. Refute it at one input. -/
def fnMostLowHighWrong : ChangeSpec := { name := "fnMostLowHigh", fn := fun _ => fun
  | [d] => { results := [.lit (.bool false)], args := [d] }
  | _ => none }
def FnMostLowHighWrongFalsely : Prop := fnMostLowHighRow.holds Try.pinned (OpenSpec.ofChange fnMostLowHighWrong)

/-- 'laws.FnHoldsBy': WHATEVER THE INPUT: true; the input reads as it did. -/
def fnHoldsBySpec : ChangeSpec := { name := "fnHoldsBy", fn := fun _ => fun
  | [d] => { results := [.lit (.bool true)], args := [d] }
  | _ => none }
def fnHoldsByRow : OpenClaim := { program := "ytnhidlhfgpoopaa", sum := "2563368aea876757482b89e11d3d585fbaad7203975703c27fbc83e397a1994c", func := "loop.example/dualmodes/laws.FnHoldsBy", spec := "fnHoldsBy", unfollowed := true, recurses := true, apart := false }
def FnHoldsBySaid : Prop := fnHoldsByRow.holds Try.pinned (OpenSpec.ofChange fnHoldsBySpec)

/-- ITS FALSE NEIGHBOUR: 'it returns false'. Refute it at one input. -/
def fnHoldsByWrong : ChangeSpec := { name := "fnHoldsBy", fn := fun _ => fun
  | [d] => { results := [.lit (.bool false)], args := [d] }
  | _ => none }
def FnHoldsByWrongFalsely : Prop := fnHoldsByRow.holds Try.pinned (OpenSpec.ofChange fnHoldsByWrong)

/-- 'laws.FnExactPackHolds': WHATEVER THE INPUT: true; the input reads as it did. -/
def fnExactPackHoldsSpec : ChangeSpec := { name := "fnExactPackHolds", fn := fun _ => fun
  | [d1, d2, d3, d4] => { results := [.lit (.bool true)], args := [d1, d2, d3, d4] }
  | _ => none }
def fnExactPackHoldsRow : OpenClaim := { program := "ytnhidlhfgpoopaa", sum := "2563368aea876757482b89e11d3d585fbaad7203975703c27fbc83e397a1994c", func := "loop.example/dualmodes/laws.FnExactPackHolds", spec := "fnExactPackHolds", unfollowed := true, recurses := true, apart := false }
def FnExactPackHoldsSaid : Prop := fnExactPackHoldsRow.holds Try.pinned (OpenSpec.ofChange fnExactPackHoldsSpec)

/-- ITS FALSE NEIGHBOUR: 'it returns false'. Refute it at one input. -/
def fnExactPackHoldsWrong : ChangeSpec := { name := "fnExactPackHolds", fn := fun _ => fun
  | [d1, d2, d3, d4] => { results := [.lit (.bool false)], args := [d1, d2, d3, d4] }
  | _ => none }
def FnExactPackHoldsWrongFalsely : Prop := fnExactPackHoldsRow.holds Try.pinned (OpenSpec.ofChange fnExactPackHoldsWrong)

/- THE SECOND FORM. 'bulk': how many values and letters a reading holds, each counted each time it is reached (what is shared counts as often as it is met; a slice's spare places count too). A statement '..UptoSaid' is the law's where the arguments, and the package variables that the reading takes, are together of bulk at most 1048576: NARROWER than '..Said'. Prove '..Said' where nothing that the law and all that it calls make is longer than what came in: it says more and counts as full. Else prove '..UptoSaid'. A law counts once. -/
mutual
def uptoBulk {H : Type} : DataW H → Nat
  | .lit (.string bytes) => bytes.length + 1
  | .lit _ => 1
  | .nil => 1
  | .ptr d => uptoBulk d + 1
  | .slice elems spare => uptoBulkAll elems + uptoBulkAll spare + 1
  | .agg parts => uptoBulkAll parts + 1
  | .iface _ d => uptoBulk d + 1
  | .map entries => uptoBulkEntries entries + 1
  | .held _ => 1
def uptoBulkAll {H : Type} : List (DataW H) → Nat
  | [] => 0
  | d :: r => uptoBulk d + uptoBulkAll r
def uptoBulkEntries {H : Type} : List (Lit × DataW H) → Nat
  | [] => 0
  | x :: r => uptoBulkEntry x + uptoBulkEntries r
def uptoBulkEntry {H : Type} : Lit × DataW H → Nat
  | (.string bytes, d) => bytes.length + uptoBulk d + 1
  | (_, d) => uptoBulk d + 1
 end
def uptoSmall : (H : Type) → List (DataW H) → Bool := fun _ ds => decide (uptoBulkAll ds ≤ 1048576)
def OpenSpec.upto (s : _root_.Go.ChangeSpec) : _root_.Go.OpenSpec := { _root_.Go.OpenSpec.ofChange s with cond := some uptoSmall }

/-- 'laws.FnExactPackValid', WHERE WHAT IT READS IS OF BULK AT MOST 1048576: true; the input reads as it did. -/
def fnExactPackValidUptoRow : OpenClaim := { program := "ytnhidlhfgpoopaa", sum := "2563368aea876757482b89e11d3d585fbaad7203975703c27fbc83e397a1994c", func := "loop.example/dualmodes/laws.FnExactPackValid", spec := "fnExactPackValid", apart := false, narrowed := true }
def FnExactPackValidUptoSaid : Prop := fnExactPackValidUptoRow.holds Try.pinned (OpenSpec.upto fnExactPackValidSpec)

/-- 'laws.FnPackValid', WHERE WHAT IT READS IS OF BULK AT MOST 1048576: true; the input reads as it did. -/
def fnPackValidUptoRow : OpenClaim := { program := "ytnhidlhfgpoopaa", sum := "2563368aea876757482b89e11d3d585fbaad7203975703c27fbc83e397a1994c", func := "loop.example/dualmodes/laws.FnPackValid", spec := "fnPackValid", apart := false, narrowed := true }
def FnPackValidUptoSaid : Prop := fnPackValidUptoRow.holds Try.pinned (OpenSpec.upto fnPackValidSpec)

/-- 'laws.FnGroupOf', WHERE WHAT IT READS IS OF BULK AT MOST 1048576: true; the input reads as it did. -/
def fnGroupOfUptoRow : OpenClaim := { program := "ytnhidlhfgpoopaa", sum := "2563368aea876757482b89e11d3d585fbaad7203975703c27fbc83e397a1994c", func := "loop.example/dualmodes/laws.FnGroupOf", spec := "fnGroupOf", apart := false, narrowed := true }
def FnGroupOfUptoSaid : Prop := fnGroupOfUptoRow.holds Try.pinned (OpenSpec.upto fnGroupOfSpec)

/-- 'laws.FnExactGroupOf', WHERE WHAT IT READS IS OF BULK AT MOST 1048576: true; the input reads as it did. -/
def fnExactGroupOfUptoRow : OpenClaim := { program := "ytnhidlhfgpoopaa", sum := "2563368aea876757482b89e11d3d585fbaad7203975703c27fbc83e397a1994c", func := "loop.example/dualmodes/laws.FnExactGroupOf", spec := "fnExactGroupOf", apart := false, narrowed := true }
def FnExactGroupOfUptoSaid : Prop := fnExactGroupOfUptoRow.holds Try.pinned (OpenSpec.upto fnExactGroupOfSpec)

/-- 'laws.FnGroupShare', WHERE WHAT IT READS IS OF BULK AT MOST 1048576: true; the input reads as it did. -/
def fnGroupShareUptoRow : OpenClaim := { program := "ytnhidlhfgpoopaa", sum := "2563368aea876757482b89e11d3d585fbaad7203975703c27fbc83e397a1994c", func := "loop.example/dualmodes/laws.FnGroupShare", spec := "fnGroupShare", apart := false, narrowed := true }
def FnGroupShareUptoSaid : Prop := fnGroupShareUptoRow.holds Try.pinned (OpenSpec.upto fnGroupShareSpec)

/-- 'laws.FnLeaveTask', WHERE WHAT IT READS IS OF BULK AT MOST 1048576: true; the input reads as it did. -/
def fnLeaveTaskUptoRow : OpenClaim := { program := "ytnhidlhfgpoopaa", sum := "2563368aea876757482b89e11d3d585fbaad7203975703c27fbc83e397a1994c", func := "loop.example/dualmodes/laws.FnLeaveTask", spec := "fnLeaveTask", unfollowed := true, recurses := true, apart := false, narrowed := true }
def FnLeaveTaskUptoSaid : Prop := fnLeaveTaskUptoRow.holds Try.pinned (OpenSpec.upto fnLeaveTaskSpec)

/-- 'laws.FnExactHoldsBy', WHERE WHAT IT READS IS OF BULK AT MOST 1048576: true; the input reads as it did. -/
def fnExactHoldsByUptoRow : OpenClaim := { program := "ytnhidlhfgpoopaa", sum := "2563368aea876757482b89e11d3d585fbaad7203975703c27fbc83e397a1994c", func := "loop.example/dualmodes/laws.FnExactHoldsBy", spec := "fnExactHoldsBy", unfollowed := true, recurses := true, apart := false, narrowed := true }
def FnExactHoldsByUptoSaid : Prop := fnExactHoldsByUptoRow.holds Try.pinned (OpenSpec.upto fnExactHoldsBySpec)

/-- 'laws.FnExactMostHigh', WHERE WHAT IT READS IS OF BULK AT MOST 1048576: true; the input reads as it did. -/
def fnExactMostHighUptoRow : OpenClaim := { program := "ytnhidlhfgpoopaa", sum := "2563368aea876757482b89e11d3d585fbaad7203975703c27fbc83e397a1994c", func := "loop.example/dualmodes/laws.FnExactMostHigh", spec := "fnExactMostHigh", unfollowed := true, recurses := true, apart := false, narrowed := true }
def FnExactMostHighUptoSaid : Prop := fnExactMostHighUptoRow.holds Try.pinned (OpenSpec.upto fnExactMostHighSpec)

/-- 'laws.FnExactMostLow', WHERE WHAT IT READS IS OF BULK AT MOST 1048576: true; the input reads as it did. -/
def fnExactMostLowUptoRow : OpenClaim := { program := "ytnhidlhfgpoopaa", sum := "2563368aea876757482b89e11d3d585fbaad7203975703c27fbc83e397a1994c", func := "loop.example/dualmodes/laws.FnExactMostLow", spec := "fnExactMostLow", unfollowed := true, recurses := true, apart := false, narrowed := true }
def FnExactMostLowUptoSaid : Prop := fnExactMostLowUptoRow.holds Try.pinned (OpenSpec.upto fnExactMostLowSpec)

/-- 'laws.FnExactCanHold', WHERE WHAT IT READS IS OF BULK AT MOST 1048576: true; the input reads as it did. -/
def fnExactCanHoldUptoRow : OpenClaim := { program := "ytnhidlhfgpoopaa", sum := "2563368aea876757482b89e11d3d585fbaad7203975703c27fbc83e397a1994c", func := "loop.example/dualmodes/laws.FnExactCanHold", spec := "fnExactCanHold", unfollowed := true, recurses := true, apart := false, narrowed := true }
def FnExactCanHoldUptoSaid : Prop := fnExactCanHoldUptoRow.holds Try.pinned (OpenSpec.upto fnExactCanHoldSpec)

/-- 'laws.FnCanHold', WHERE WHAT IT READS IS OF BULK AT MOST 1048576: true; the input reads as it did. -/
def fnCanHoldUptoRow : OpenClaim := { program := "ytnhidlhfgpoopaa", sum := "2563368aea876757482b89e11d3d585fbaad7203975703c27fbc83e397a1994c", func := "loop.example/dualmodes/laws.FnCanHold", spec := "fnCanHold", unfollowed := true, recurses := true, apart := false, narrowed := true }
def FnCanHoldUptoSaid : Prop := fnCanHoldUptoRow.holds Try.pinned (OpenSpec.upto fnCanHoldSpec)

/-- 'laws.FnMostBetween', WHERE WHAT IT READS IS OF BULK AT MOST 1048576: true; the input reads as it did. -/
def fnMostBetweenUptoRow : OpenClaim := { program := "ytnhidlhfgpoopaa", sum := "2563368aea876757482b89e11d3d585fbaad7203975703c27fbc83e397a1994c", func := "loop.example/dualmodes/laws.FnMostBetween", spec := "fnMostBetween", unfollowed := true, recurses := true, apart := false, narrowed := true }
def FnMostBetweenUptoSaid : Prop := fnMostBetweenUptoRow.holds Try.pinned (OpenSpec.upto fnMostBetweenSpec)

/-- 'laws.FnMostHigh', WHERE WHAT IT READS IS OF BULK AT MOST 1048576: true; the input reads as it did. -/
def fnMostHighUptoRow : OpenClaim := { program := "ytnhidlhfgpoopaa", sum := "2563368aea876757482b89e11d3d585fbaad7203975703c27fbc83e397a1994c", func := "loop.example/dualmodes/laws.FnMostHigh", spec := "fnMostHigh", unfollowed := true, recurses := true, apart := false, narrowed := true }
def FnMostHighUptoSaid : Prop := fnMostHighUptoRow.holds Try.pinned (OpenSpec.upto fnMostHighSpec)

/-- 'laws.FnMostLast', WHERE WHAT IT READS IS OF BULK AT MOST 1048576: true; the input reads as it did. -/
def fnMostLastUptoRow : OpenClaim := { program := "ytnhidlhfgpoopaa", sum := "2563368aea876757482b89e11d3d585fbaad7203975703c27fbc83e397a1994c", func := "loop.example/dualmodes/laws.FnMostLast", spec := "fnMostLast", unfollowed := true, recurses := true, apart := false, narrowed := true }
def FnMostLastUptoSaid : Prop := fnMostLastUptoRow.holds Try.pinned (OpenSpec.upto fnMostLastSpec)

/-- 'laws.FnMostLow', WHERE WHAT IT READS IS OF BULK AT MOST 1048576: true; the input reads as it did. -/
def fnMostLowUptoRow : OpenClaim := { program := "ytnhidlhfgpoopaa", sum := "2563368aea876757482b89e11d3d585fbaad7203975703c27fbc83e397a1994c", func := "loop.example/dualmodes/laws.FnMostLow", spec := "fnMostLow", unfollowed := true, recurses := true, apart := false, narrowed := true }
def FnMostLowUptoSaid : Prop := fnMostLowUptoRow.holds Try.pinned (OpenSpec.upto fnMostLowSpec)

/-- 'laws.FnMostLowHigh', WHERE WHAT IT READS IS OF BULK AT MOST 1048576: true; the input reads as it did. -/
def fnMostLowHighUptoRow : OpenClaim := { program := "ytnhidlhfgpoopaa", sum := "2563368aea876757482b89e11d3d585fbaad7203975703c27fbc83e397a1994c", func := "loop.example/dualmodes/laws.FnMostLowHigh", spec := "fnMostLowHigh", unfollowed := true, recurses := true, apart := false, narrowed := true }
def FnMostLowHighUptoSaid : Prop := fnMostLowHighUptoRow.holds Try.pinned (OpenSpec.upto fnMostLowHighSpec)

/-- 'laws.FnHoldsBy', WHERE WHAT IT READS IS OF BULK AT MOST 1048576: true; the input reads as it did. -/
def fnHoldsByUptoRow : OpenClaim := { program := "ytnhidlhfgpoopaa", sum := "2563368aea876757482b89e11d3d585fbaad7203975703c27fbc83e397a1994c", func := "loop.example/dualmodes/laws.FnHoldsBy", spec := "fnHoldsBy", unfollowed := true, recurses := true, apart := false, narrowed := true }
def FnHoldsByUptoSaid : Prop := fnHoldsByUptoRow.holds Try.pinned (OpenSpec.upto fnHoldsBySpec)

/-- 'laws.FnExactPackHolds', WHERE WHAT IT READS IS OF BULK AT MOST 1048576: true; the input reads as it did. -/
def fnExactPackHoldsUptoRow : OpenClaim := { program := "ytnhidlhfgpoopaa", sum := "2563368aea876757482b89e11d3d585fbaad7203975703c27fbc83e397a1994c", func := "loop.example/dualmodes/laws.FnExactPackHolds", spec := "fnExactPackHolds", unfollowed := true, recurses := true, apart := false, narrowed := true }
def FnExactPackHoldsUptoSaid : Prop := fnExactPackHoldsUptoRow.holds Try.pinned (OpenSpec.upto fnExactPackHoldsSpec)

end Rows
end Go.Proofs.Ytnhidlhfgpoopaa
