/-
  No cell of these rows narrows 'for every input' (looked for: loops, veiled, ifaces, maps, wideKeys, modest, calm, conditions, laid).
  DERIVED. THE GIVEN ROWS OF THIS SEAT. 26 by the template 'for every input the law returns true; each argument reads behind the call as it read before'; 0 by the template 'total and deterministic' (their statements: YtnldiakjmhfodaaTotals.lean).
  GIVEN WITH THE SEED: the statements are not yours to turn. If you find one false, say at which input.
  Laid BY PROGRAM, IN A SANDBOX (cutbox-rows.mjs): the forced cells as the released guide's own fill.sh prints them over the translation 826f89a1f3b780f9… (all of the seat's roots in one cut). By AI agents, Wed Nov 11 2026. No macro, syntax, notation, axiom, sorry.
-/
import Derived.Test.YtnldiakjmhfodaaChecked
import GoSem.Claim
import GoSem.ClaimJoined
import GoSem.ClaimMapViews
import Derived.JoinedTies
import Derived.KernelRfl
namespace Go.Proofs.Ytnldiakjmhfodaa
/- THE CELL 'sum', in the pinned program and in every row, IS THE sha256 OF THE DUMP (.gsa) THAT YtnldiakjmhfodaaProg.lean LOADS. Nothing in Lean hashes anything: it is a label: what it is worth is what the hold of that sum in a sandbox is worth. -/
noncomputable def Try.pinned : Pinned := { name := "ytnldiakjmhfodaa", sum := "826f89a1f3b780f98ffaae6a7bbbdd5255d57956ac5364f9a6f5cc482e692aba", checked := Try.checked }
namespace Rows
def none {H : Type} : Left H := { results := [], args := [] }

/-- 'laws.FnExactAdmitTask': WHATEVER THE INPUT: true; the input reads as it did. -/
def fnExactAdmitTaskSpec : ChangeSpec := { name := "fnExactAdmitTask", fn := fun _ => fun
  | [d1, d2, d3] => { results := [.lit (.bool true)], args := [d1, d2, d3] }
  | _ => none }
def fnExactAdmitTaskRow : OpenClaim := { program := "ytnldiakjmhfodaa", sum := "826f89a1f3b780f98ffaae6a7bbbdd5255d57956ac5364f9a6f5cc482e692aba", func := "loop.example/dualmodes/laws.FnExactAdmitTask", spec := "fnExactAdmitTask", unfollowed := true, recurses := true, apart := false }
def FnExactAdmitTaskSaid : Prop := fnExactAdmitTaskRow.holds Try.pinned (OpenSpec.ofChange fnExactAdmitTaskSpec)

/-- ITS FALSE NEIGHBOUR: 'it returns false'. Refute it at one input. -/
def fnExactAdmitTaskWrong : ChangeSpec := { name := "fnExactAdmitTask", fn := fun _ => fun
  | [d1, d2, d3] => { results := [.lit (.bool false)], args := [d1, d2, d3] }
  | _ => none }
def FnExactAdmitTaskWrongFalsely : Prop := fnExactAdmitTaskRow.holds Try.pinned (OpenSpec.ofChange fnExactAdmitTaskWrong)

/-- 'laws.FnExactPackFirst': WHATEVER THE INPUT: true; the input reads as it did. -/
def fnExactPackFirstSpec : ChangeSpec := { name := "fnExactPackFirst", fn := fun _ => fun
  | [d1, d2, d3] => { results := [.lit (.bool true)], args := [d1, d2, d3] }
  | _ => none }
def fnExactPackFirstRow : OpenClaim := { program := "ytnldiakjmhfodaa", sum := "826f89a1f3b780f98ffaae6a7bbbdd5255d57956ac5364f9a6f5cc482e692aba", func := "loop.example/dualmodes/laws.FnExactPackFirst", spec := "fnExactPackFirst", unfollowed := true, recurses := true, apart := false }
def FnExactPackFirstSaid : Prop := fnExactPackFirstRow.holds Try.pinned (OpenSpec.ofChange fnExactPackFirstSpec)

/-- ITS FALSE NEIGHBOUR: 'it returns false'. Refute it at one input. -/
def fnExactPackFirstWrong : ChangeSpec := { name := "fnExactPackFirst", fn := fun _ => fun
  | [d1, d2, d3] => { results := [.lit (.bool false)], args := [d1, d2, d3] }
  | _ => none }
def FnExactPackFirstWrongFalsely : Prop := fnExactPackFirstRow.holds Try.pinned (OpenSpec.ofChange fnExactPackFirstWrong)

/-- 'laws.FnPackMore': WHATEVER THE INPUT: true; the input reads as it did. -/
def fnPackMoreSpec : ChangeSpec := { name := "fnPackMore", fn := fun _ => fun
  | [d] => { results := [.lit (.bool true)], args := [d] }
  | _ => none }
def fnPackMoreRow : OpenClaim := { program := "ytnldiakjmhfodaa", sum := "826f89a1f3b780f98ffaae6a7bbbdd5255d57956ac5364f9a6f5cc482e692aba", func := "loop.example/dualmodes/laws.FnPackMore", spec := "fnPackMore", unfollowed := true, recurses := true, apart := false }
def FnPackMoreSaid : Prop := fnPackMoreRow.holds Try.pinned (OpenSpec.ofChange fnPackMoreSpec)

/-- ITS FALSE NEIGHBOUR: 'it returns false'. Refute it at one input. -/
def fnPackMoreWrong : ChangeSpec := { name := "fnPackMore", fn := fun _ => fun
  | [d] => { results := [.lit (.bool false)], args := [d] }
  | _ => none }
def FnPackMoreWrongFalsely : Prop := fnPackMoreRow.holds Try.pinned (OpenSpec.ofChange fnPackMoreWrong)

/-- 'laws.FnPackSwap': WHATEVER THE INPUT: true; the input reads as it did. -/
def fnPackSwapSpec : ChangeSpec := { name := "fnPackSwap", fn := fun _ => fun
  | [d] => { results := [.lit (.bool true)], args := [d] }
  | _ => none }
def fnPackSwapRow : OpenClaim := { program := "ytnldiakjmhfodaa", sum := "826f89a1f3b780f98ffaae6a7bbbdd5255d57956ac5364f9a6f5cc482e692aba", func := "loop.example/dualmodes/laws.FnPackSwap", spec := "fnPackSwap", unfollowed := true, recurses := true, apart := false }
def FnPackSwapSaid : Prop := fnPackSwapRow.holds Try.pinned (OpenSpec.ofChange fnPackSwapSpec)

/-- ITS FALSE NEIGHBOUR: 'it returns false'. Refute it at one input. -/
def fnPackSwapWrong : ChangeSpec := { name := "fnPackSwap", fn := fun _ => fun
  | [d] => { results := [.lit (.bool false)], args := [d] }
  | _ => none }
def FnPackSwapWrongFalsely : Prop := fnPackSwapRow.holds Try.pinned (OpenSpec.ofChange fnPackSwapWrong)

/-- 'laws.FnPackHolds': WHATEVER THE INPUT: true; the input reads as it did. -/
def fnPackHoldsSpec : ChangeSpec := { name := "fnPackHolds", fn := fun _ => fun
  | [d] => { results := [.lit (.bool true)], args := [d] }
  | _ => none }
def fnPackHoldsRow : OpenClaim := { program := "ytnldiakjmhfodaa", sum := "826f89a1f3b780f98ffaae6a7bbbdd5255d57956ac5364f9a6f5cc482e692aba", func := "loop.example/dualmodes/laws.FnPackHolds", spec := "fnPackHolds", unfollowed := true, recurses := true, apart := false }
def FnPackHoldsSaid : Prop := fnPackHoldsRow.holds Try.pinned (OpenSpec.ofChange fnPackHoldsSpec)

/-- ITS FALSE NEIGHBOUR: 'it returns false'. Refute it at one input. -/
def fnPackHoldsWrong : ChangeSpec := { name := "fnPackHolds", fn := fun _ => fun
  | [d] => { results := [.lit (.bool false)], args := [d] }
  | _ => none }
def FnPackHoldsWrongFalsely : Prop := fnPackHoldsRow.holds Try.pinned (OpenSpec.ofChange fnPackHoldsWrong)

/-- 'laws.FnFirstMore': WHATEVER THE INPUT: true; the input reads as it did. -/
def fnFirstMoreSpec : ChangeSpec := { name := "fnFirstMore", fn := fun _ => fun
  | [d] => { results := [.lit (.bool true)], args := [d] }
  | _ => none }
def fnFirstMoreRow : OpenClaim := { program := "ytnldiakjmhfodaa", sum := "826f89a1f3b780f98ffaae6a7bbbdd5255d57956ac5364f9a6f5cc482e692aba", func := "loop.example/dualmodes/laws.FnFirstMore", spec := "fnFirstMore", unfollowed := true, recurses := true, apart := false }
def FnFirstMoreSaid : Prop := fnFirstMoreRow.holds Try.pinned (OpenSpec.ofChange fnFirstMoreSpec)

/-- ITS FALSE NEIGHBOUR: 'it returns false'. Refute it at one input. -/
def fnFirstMoreWrong : ChangeSpec := { name := "fnFirstMore", fn := fun _ => fun
  | [d] => { results := [.lit (.bool false)], args := [d] }
  | _ => none }
def FnFirstMoreWrongFalsely : Prop := fnFirstMoreRow.holds Try.pinned (OpenSpec.ofChange fnFirstMoreWrong)

/-- 'laws.FnFirstOrder': WHATEVER THE INPUT: true; the input reads as it did. -/
def fnFirstOrderSpec : ChangeSpec := { name := "fnFirstOrder", fn := fun _ => fun
  | [d] => { results := [.lit (.bool true)], args := [d] }
  | _ => none }
def fnFirstOrderRow : OpenClaim := { program := "ytnldiakjmhfodaa", sum := "826f89a1f3b780f98ffaae6a7bbbdd5255d57956ac5364f9a6f5cc482e692aba", func := "loop.example/dualmodes/laws.FnFirstOrder", spec := "fnFirstOrder", unfollowed := true, recurses := true, apart := false }
def FnFirstOrderSaid : Prop := fnFirstOrderRow.holds Try.pinned (OpenSpec.ofChange fnFirstOrderSpec)

/-- ITS FALSE NEIGHBOUR: 'it returns false'. Refute it at one input. -/
def fnFirstOrderWrong : ChangeSpec := { name := "fnFirstOrder", fn := fun _ => fun
  | [d] => { results := [.lit (.bool false)], args := [d] }
  | _ => none }
def FnFirstOrderWrongFalsely : Prop := fnFirstOrderRow.holds Try.pinned (OpenSpec.ofChange fnFirstOrderWrong)

/-- 'laws.FnFirstPart': WHATEVER THE INPUT: true; the input reads as it did. -/
def fnFirstPartSpec : ChangeSpec := { name := "fnFirstPart", fn := fun _ => fun
  | [d] => { results := [.lit (.bool true)], args := [d] }
  | _ => none }
def fnFirstPartRow : OpenClaim := { program := "ytnldiakjmhfodaa", sum := "826f89a1f3b780f98ffaae6a7bbbdd5255d57956ac5364f9a6f5cc482e692aba", func := "loop.example/dualmodes/laws.FnFirstPart", spec := "fnFirstPart", unfollowed := true, recurses := true, apart := false }
def FnFirstPartSaid : Prop := fnFirstPartRow.holds Try.pinned (OpenSpec.ofChange fnFirstPartSpec)

/-- ITS FALSE NEIGHBOUR: 'it returns false'. Refute it at one input. -/
def fnFirstPartWrong : ChangeSpec := { name := "fnFirstPart", fn := fun _ => fun
  | [d] => { results := [.lit (.bool false)], args := [d] }
  | _ => none }
def FnFirstPartWrongFalsely : Prop := fnFirstPartRow.holds Try.pinned (OpenSpec.ofChange fnFirstPartWrong)

/-- 'laws.FnAdmitAgain': WHATEVER THE INPUT: true; the input reads as it did. -/
def fnAdmitAgainSpec : ChangeSpec := { name := "fnAdmitAgain", fn := fun _ => fun
  | [d] => { results := [.lit (.bool true)], args := [d] }
  | _ => none }
def fnAdmitAgainRow : OpenClaim := { program := "ytnldiakjmhfodaa", sum := "826f89a1f3b780f98ffaae6a7bbbdd5255d57956ac5364f9a6f5cc482e692aba", func := "loop.example/dualmodes/laws.FnAdmitAgain", spec := "fnAdmitAgain", unfollowed := true, recurses := true, apart := false }
def FnAdmitAgainSaid : Prop := fnAdmitAgainRow.holds Try.pinned (OpenSpec.ofChange fnAdmitAgainSpec)

/-- ITS FALSE NEIGHBOUR: 'it returns false'. Refute it at one input. -/
def fnAdmitAgainWrong : ChangeSpec := { name := "fnAdmitAgain", fn := fun _ => fun
  | [d] => { results := [.lit (.bool false)], args := [d] }
  | _ => none }
def FnAdmitAgainWrongFalsely : Prop := fnAdmitAgainRow.holds Try.pinned (OpenSpec.ofChange fnAdmitAgainWrong)

/-- 'laws.FnAdmitPolicy': WHATEVER THE INPUT: true; the input reads as it did. -/
def fnAdmitPolicySpec : ChangeSpec := { name := "fnAdmitPolicy", fn := fun _ => fun
  | [d] => { results := [.lit (.bool true)], args := [d] }
  | _ => none }
def fnAdmitPolicyRow : OpenClaim := { program := "ytnldiakjmhfodaa", sum := "826f89a1f3b780f98ffaae6a7bbbdd5255d57956ac5364f9a6f5cc482e692aba", func := "loop.example/dualmodes/laws.FnAdmitPolicy", spec := "fnAdmitPolicy", unfollowed := true, recurses := true, apart := false }
def FnAdmitPolicySaid : Prop := fnAdmitPolicyRow.holds Try.pinned (OpenSpec.ofChange fnAdmitPolicySpec)

/-- ITS FALSE NEIGHBOUR: 'it returns false'. Refute it at one input. -/
def fnAdmitPolicyWrong : ChangeSpec := { name := "fnAdmitPolicy", fn := fun _ => fun
  | [d] => { results := [.lit (.bool false)], args := [d] }
  | _ => none }
def FnAdmitPolicyWrongFalsely : Prop := fnAdmitPolicyRow.holds Try.pinned (OpenSpec.ofChange fnAdmitPolicyWrong)

/-- 'laws.FnExactFewestFor': WHATEVER THE INPUT: true; the input reads as it did. -/
def fnExactFewestForSpec : ChangeSpec := { name := "fnExactFewestFor", fn := fun _ => fun
  | [d1, d2] => { results := [.lit (.bool true)], args := [d1, d2] }
  | _ => none }
def fnExactFewestForRow : OpenClaim := { program := "ytnldiakjmhfodaa", sum := "826f89a1f3b780f98ffaae6a7bbbdd5255d57956ac5364f9a6f5cc482e692aba", func := "loop.example/dualmodes/laws.FnExactFewestFor", spec := "fnExactFewestFor", unfollowed := true, recurses := true, apart := false }
def FnExactFewestForSaid : Prop := fnExactFewestForRow.holds Try.pinned (OpenSpec.ofChange fnExactFewestForSpec)

/-- ITS FALSE NEIGHBOUR: 'it returns false'. Refute it at one input. -/
def fnExactFewestForWrong : ChangeSpec := { name := "fnExactFewestFor", fn := fun _ => fun
  | [d1, d2] => { results := [.lit (.bool false)], args := [d1, d2] }
  | _ => none }
def FnExactFewestForWrongFalsely : Prop := fnExactFewestForRow.holds Try.pinned (OpenSpec.ofChange fnExactFewestForWrong)

/-- 'laws.FnAdmitLeave': WHATEVER THE INPUT: true; the input reads as it did. -/
def fnAdmitLeaveSpec : ChangeSpec := { name := "fnAdmitLeave", fn := fun _ => fun
  | [d] => { results := [.lit (.bool true)], args := [d] }
  | _ => none }
def fnAdmitLeaveRow : OpenClaim := { program := "ytnldiakjmhfodaa", sum := "826f89a1f3b780f98ffaae6a7bbbdd5255d57956ac5364f9a6f5cc482e692aba", func := "loop.example/dualmodes/laws.FnAdmitLeave", spec := "fnAdmitLeave", unfollowed := true, recurses := true, apart := false }
def FnAdmitLeaveSaid : Prop := fnAdmitLeaveRow.holds Try.pinned (OpenSpec.ofChange fnAdmitLeaveSpec)

/-- ITS FALSE NEIGHBOUR: 'it returns false'. Refute it at one input. -/
def fnAdmitLeaveWrong : ChangeSpec := { name := "fnAdmitLeave", fn := fun _ => fun
  | [d] => { results := [.lit (.bool false)], args := [d] }
  | _ => none }
def FnAdmitLeaveWrongFalsely : Prop := fnAdmitLeaveRow.holds Try.pinned (OpenSpec.ofChange fnAdmitLeaveWrong)

/-- 'laws.FnAdmitAll': WHATEVER THE INPUT: true; the input reads as it did. -/
def fnAdmitAllSpec : ChangeSpec := { name := "fnAdmitAll", fn := fun _ => fun
  | [d] => { results := [.lit (.bool true)], args := [d] }
  | _ => none }
def fnAdmitAllRow : OpenClaim := { program := "ytnldiakjmhfodaa", sum := "826f89a1f3b780f98ffaae6a7bbbdd5255d57956ac5364f9a6f5cc482e692aba", func := "loop.example/dualmodes/laws.FnAdmitAll", spec := "fnAdmitAll", unfollowed := true, recurses := true, apart := false }
def FnAdmitAllSaid : Prop := fnAdmitAllRow.holds Try.pinned (OpenSpec.ofChange fnAdmitAllSpec)

/-- ITS FALSE NEIGHBOUR: 'it returns false'. Refute it at one input. -/
def fnAdmitAllWrong : ChangeSpec := { name := "fnAdmitAll", fn := fun _ => fun
  | [d] => { results := [.lit (.bool false)], args := [d] }
  | _ => none }
def FnAdmitAllWrongFalsely : Prop := fnAdmitAllRow.holds Try.pinned (OpenSpec.ofChange fnAdmitAllWrong)

/-- 'laws.FnAdmitRefused': WHATEVER THE INPUT: true; the input reads as it did. -/
def fnAdmitRefusedSpec : ChangeSpec := { name := "fnAdmitRefused", fn := fun _ => fun
  | [d] => { results := [.lit (.bool true)], args := [d] }
  | _ => none }
def fnAdmitRefusedRow : OpenClaim := { program := "ytnldiakjmhfodaa", sum := "826f89a1f3b780f98ffaae6a7bbbdd5255d57956ac5364f9a6f5cc482e692aba", func := "loop.example/dualmodes/laws.FnAdmitRefused", spec := "fnAdmitRefused", unfollowed := true, recurses := true, apart := false }
def FnAdmitRefusedSaid : Prop := fnAdmitRefusedRow.holds Try.pinned (OpenSpec.ofChange fnAdmitRefusedSpec)

/-- ITS FALSE NEIGHBOUR: 'it returns false'. Refute it at one input. -/
def fnAdmitRefusedWrong : ChangeSpec := { name := "fnAdmitRefused", fn := fun _ => fun
  | [d] => { results := [.lit (.bool false)], args := [d] }
  | _ => none }
def FnAdmitRefusedWrongFalsely : Prop := fnAdmitRefusedRow.holds Try.pinned (OpenSpec.ofChange fnAdmitRefusedWrong)

/-- 'laws.FnAdmitTask': WHATEVER THE INPUT: true; the input reads as it did. -/
def fnAdmitTaskSpec : ChangeSpec := { name := "fnAdmitTask", fn := fun _ => fun
  | [d] => { results := [.lit (.bool true)], args := [d] }
  | _ => none }
def fnAdmitTaskRow : OpenClaim := { program := "ytnldiakjmhfodaa", sum := "826f89a1f3b780f98ffaae6a7bbbdd5255d57956ac5364f9a6f5cc482e692aba", func := "loop.example/dualmodes/laws.FnAdmitTask", spec := "fnAdmitTask", unfollowed := true, recurses := true, apart := false }
def FnAdmitTaskSaid : Prop := fnAdmitTaskRow.holds Try.pinned (OpenSpec.ofChange fnAdmitTaskSpec)

/-- ITS FALSE NEIGHBOUR: 'it returns false'. Refute it at one input. -/
def fnAdmitTaskWrong : ChangeSpec := { name := "fnAdmitTask", fn := fun _ => fun
  | [d] => { results := [.lit (.bool false)], args := [d] }
  | _ => none }
def FnAdmitTaskWrongFalsely : Prop := fnAdmitTaskRow.holds Try.pinned (OpenSpec.ofChange fnAdmitTaskWrong)

/-- 'laws.FnAdmitNone': WHATEVER THE INPUT: true; the input reads as it did. -/
def fnAdmitNoneSpec : ChangeSpec := { name := "fnAdmitNone", fn := fun _ => fun
  | [d] => { results := [.lit (.bool true)], args := [d] }
  | _ => none }
def fnAdmitNoneRow : OpenClaim := { program := "ytnldiakjmhfodaa", sum := "826f89a1f3b780f98ffaae6a7bbbdd5255d57956ac5364f9a6f5cc482e692aba", func := "loop.example/dualmodes/laws.FnAdmitNone", spec := "fnAdmitNone", unfollowed := true, recurses := true, apart := false }
def FnAdmitNoneSaid : Prop := fnAdmitNoneRow.holds Try.pinned (OpenSpec.ofChange fnAdmitNoneSpec)

/-- ITS FALSE NEIGHBOUR: 'it returns false'. Refute it at one input. -/
def fnAdmitNoneWrong : ChangeSpec := { name := "fnAdmitNone", fn := fun _ => fun
  | [d] => { results := [.lit (.bool false)], args := [d] }
  | _ => none }
def FnAdmitNoneWrongFalsely : Prop := fnAdmitNoneRow.holds Try.pinned (OpenSpec.ofChange fnAdmitNoneWrong)

/-- 'laws.FnHoldsSafe': WHATEVER THE INPUT: true; the input reads as it did. -/
def fnHoldsSafeSpec : ChangeSpec := { name := "fnHoldsSafe", fn := fun _ => fun
  | [d] => { results := [.lit (.bool true)], args := [d] }
  | _ => none }
def fnHoldsSafeRow : OpenClaim := { program := "ytnldiakjmhfodaa", sum := "826f89a1f3b780f98ffaae6a7bbbdd5255d57956ac5364f9a6f5cc482e692aba", func := "loop.example/dualmodes/laws.FnHoldsSafe", spec := "fnHoldsSafe", unfollowed := true, recurses := true, apart := false }
def FnHoldsSafeSaid : Prop := fnHoldsSafeRow.holds Try.pinned (OpenSpec.ofChange fnHoldsSafeSpec)

/-- ITS FALSE NEIGHBOUR: 'it returns false'. Refute it at one input. -/
def fnHoldsSafeWrong : ChangeSpec := { name := "fnHoldsSafe", fn := fun _ => fun
  | [d] => { results := [.lit (.bool false)], args := [d] }
  | _ => none }
def FnHoldsSafeWrongFalsely : Prop := fnHoldsSafeRow.holds Try.pinned (OpenSpec.ofChange fnHoldsSafeWrong)

/-- 'laws.FnExactAdmitAll': WHATEVER THE INPUT: true; the input reads as it did. -/
def fnExactAdmitAllSpec : ChangeSpec := { name := "fnExactAdmitAll", fn := fun _ => fun
  | [d1, d2] => { results := [.lit (.bool true)], args := [d1, d2] }
  | _ => none }
def fnExactAdmitAllRow : OpenClaim := { program := "ytnldiakjmhfodaa", sum := "826f89a1f3b780f98ffaae6a7bbbdd5255d57956ac5364f9a6f5cc482e692aba", func := "loop.example/dualmodes/laws.FnExactAdmitAll", spec := "fnExactAdmitAll", unfollowed := true, recurses := true, apart := false }
def FnExactAdmitAllSaid : Prop := fnExactAdmitAllRow.holds Try.pinned (OpenSpec.ofChange fnExactAdmitAllSpec)

/-- ITS FALSE NEIGHBOUR: 'it returns false'. Refute it at one input. -/
def fnExactAdmitAllWrong : ChangeSpec := { name := "fnExactAdmitAll", fn := fun _ => fun
  | [d1, d2] => { results := [.lit (.bool false)], args := [d1, d2] }
  | _ => none }
def FnExactAdmitAllWrongFalsely : Prop := fnExactAdmitAllRow.holds Try.pinned (OpenSpec.ofChange fnExactAdmitAllWrong)

/-- 'laws.FnExactPackAny': WHATEVER THE INPUT: true; the input reads as it did. -/
def fnExactPackAnySpec : ChangeSpec := { name := "fnExactPackAny", fn := fun _ => fun
  | [d1, d2, d3] => { results := [.lit (.bool true)], args := [d1, d2, d3] }
  | _ => none }
def fnExactPackAnyRow : OpenClaim := { program := "ytnldiakjmhfodaa", sum := "826f89a1f3b780f98ffaae6a7bbbdd5255d57956ac5364f9a6f5cc482e692aba", func := "loop.example/dualmodes/laws.FnExactPackAny", spec := "fnExactPackAny", unfollowed := true, recurses := true, apart := false }
def FnExactPackAnySaid : Prop := fnExactPackAnyRow.holds Try.pinned (OpenSpec.ofChange fnExactPackAnySpec)

/-- ITS FALSE NEIGHBOUR: 'it returns false'. Refute it at one input. -/
def fnExactPackAnyWrong : ChangeSpec := { name := "fnExactPackAny", fn := fun _ => fun
  | [d1, d2, d3] => { results := [.lit (.bool false)], args := [d1, d2, d3] }
  | _ => none }
def FnExactPackAnyWrongFalsely : Prop := fnExactPackAnyRow.holds Try.pinned (OpenSpec.ofChange fnExactPackAnyWrong)

/-- 'laws.FnPackFirst': WHATEVER THE INPUT: true; the input reads as it did. -/
def fnPackFirstSpec : ChangeSpec := { name := "fnPackFirst", fn := fun _ => fun
  | [d] => { results := [.lit (.bool true)], args := [d] }
  | _ => none }
def fnPackFirstRow : OpenClaim := { program := "ytnldiakjmhfodaa", sum := "826f89a1f3b780f98ffaae6a7bbbdd5255d57956ac5364f9a6f5cc482e692aba", func := "loop.example/dualmodes/laws.FnPackFirst", spec := "fnPackFirst", unfollowed := true, recurses := true, apart := false }
def FnPackFirstSaid : Prop := fnPackFirstRow.holds Try.pinned (OpenSpec.ofChange fnPackFirstSpec)

/-- ITS FALSE NEIGHBOUR: 'it returns false'. Refute it at one input. -/
def fnPackFirstWrong : ChangeSpec := { name := "fnPackFirst", fn := fun _ => fun
  | [d] => { results := [.lit (.bool false)], args := [d] }
  | _ => none }
def FnPackFirstWrongFalsely : Prop := fnPackFirstRow.holds Try.pinned (OpenSpec.ofChange fnPackFirstWrong)

/-- 'laws.FnPackOne': WHATEVER THE INPUT: true; the input reads as it did. -/
def fnPackOneSpec : ChangeSpec := { name := "fnPackOne", fn := fun _ => fun
  | [d] => { results := [.lit (.bool true)], args := [d] }
  | _ => none }
def fnPackOneRow : OpenClaim := { program := "ytnldiakjmhfodaa", sum := "826f89a1f3b780f98ffaae6a7bbbdd5255d57956ac5364f9a6f5cc482e692aba", func := "loop.example/dualmodes/laws.FnPackOne", spec := "fnPackOne", unfollowed := true, recurses := true, apart := false }
def FnPackOneSaid : Prop := fnPackOneRow.holds Try.pinned (OpenSpec.ofChange fnPackOneSpec)

/-- ITS FALSE NEIGHBOUR: 'it returns false'. Refute it at one input. -/
def fnPackOneWrong : ChangeSpec := { name := "fnPackOne", fn := fun _ => fun
  | [d] => { results := [.lit (.bool false)], args := [d] }
  | _ => none }
def FnPackOneWrongFalsely : Prop := fnPackOneRow.holds Try.pinned (OpenSpec.ofChange fnPackOneWrong)

/-- 'laws.FnPackZero': WHATEVER THE INPUT: true; the input reads as it did. -/
def fnPackZeroSpec : ChangeSpec := { name := "fnPackZero", fn := fun _ => fun
  | [d] => { results := [.lit (.bool true)], args := [d] }
  | _ => none }
def fnPackZeroRow : OpenClaim := { program := "ytnldiakjmhfodaa", sum := "826f89a1f3b780f98ffaae6a7bbbdd5255d57956ac5364f9a6f5cc482e692aba", func := "loop.example/dualmodes/laws.FnPackZero", spec := "fnPackZero", unfollowed := true, recurses := true, apart := false }
def FnPackZeroSaid : Prop := fnPackZeroRow.holds Try.pinned (OpenSpec.ofChange fnPackZeroSpec)

/-- ITS FALSE NEIGHBOUR: 'it returns false'. Refute it at one input. -/
def fnPackZeroWrong : ChangeSpec := { name := "fnPackZero", fn := fun _ => fun
  | [d] => { results := [.lit (.bool false)], args := [d] }
  | _ => none }
def FnPackZeroWrongFalsely : Prop := fnPackZeroRow.holds Try.pinned (OpenSpec.ofChange fnPackZeroWrong)

/-- 'laws.FnFewestFor': WHATEVER THE INPUT: true; the input reads as it did. -/
def fnFewestForSpec : ChangeSpec := { name := "fnFewestFor", fn := fun _ => fun
  | [d] => { results := [.lit (.bool true)], args := [d] }
  | _ => none }
def fnFewestForRow : OpenClaim := { program := "ytnldiakjmhfodaa", sum := "826f89a1f3b780f98ffaae6a7bbbdd5255d57956ac5364f9a6f5cc482e692aba", func := "loop.example/dualmodes/laws.FnFewestFor", spec := "fnFewestFor", unfollowed := true, recurses := true, apart := false }
def FnFewestForSaid : Prop := fnFewestForRow.holds Try.pinned (OpenSpec.ofChange fnFewestForSpec)

/-- ITS FALSE NEIGHBOUR: 'it returns false'. Refute it at one input. -/
def fnFewestForWrong : ChangeSpec := { name := "fnFewestFor", fn := fun _ => fun
  | [d] => { results := [.lit (.bool false)], args := [d] }
  | _ => none }
def FnFewestForWrongFalsely : Prop := fnFewestForRow.holds Try.pinned (OpenSpec.ofChange fnFewestForWrong)

/-- 'laws.FnFewestLess': WHATEVER THE INPUT: true; the input reads as it did. -/
def fnFewestLessSpec : ChangeSpec := { name := "fnFewestLess", fn := fun _ => fun
  | [d] => { results := [.lit (.bool true)], args := [d] }
  | _ => none }
def fnFewestLessRow : OpenClaim := { program := "ytnldiakjmhfodaa", sum := "826f89a1f3b780f98ffaae6a7bbbdd5255d57956ac5364f9a6f5cc482e692aba", func := "loop.example/dualmodes/laws.FnFewestLess", spec := "fnFewestLess", unfollowed := true, recurses := true, apart := false }
def FnFewestLessSaid : Prop := fnFewestLessRow.holds Try.pinned (OpenSpec.ofChange fnFewestLessSpec)

/-- ITS FALSE NEIGHBOUR: 'it returns false'. Refute it at one input. -/
def fnFewestLessWrong : ChangeSpec := { name := "fnFewestLess", fn := fun _ => fun
  | [d] => { results := [.lit (.bool false)], args := [d] }
  | _ => none }
def FnFewestLessWrongFalsely : Prop := fnFewestLessRow.holds Try.pinned (OpenSpec.ofChange fnFewestLessWrong)

/-- 'laws.FnPackAny': WHATEVER THE INPUT: true; the input reads as it did. -/
def fnPackAnySpec : ChangeSpec := { name := "fnPackAny", fn := fun _ => fun
  | [d] => { results := [.lit (.bool true)], args := [d] }
  | _ => none }
def fnPackAnyRow : OpenClaim := { program := "ytnldiakjmhfodaa", sum := "826f89a1f3b780f98ffaae6a7bbbdd5255d57956ac5364f9a6f5cc482e692aba", func := "loop.example/dualmodes/laws.FnPackAny", spec := "fnPackAny", unfollowed := true, recurses := true, apart := false }
def FnPackAnySaid : Prop := fnPackAnyRow.holds Try.pinned (OpenSpec.ofChange fnPackAnySpec)

/-- ITS FALSE NEIGHBOUR: 'it returns false'. Refute it at one input. -/
def fnPackAnyWrong : ChangeSpec := { name := "fnPackAny", fn := fun _ => fun
  | [d] => { results := [.lit (.bool false)], args := [d] }
  | _ => none }
def FnPackAnyWrongFalsely : Prop := fnPackAnyRow.holds Try.pinned (OpenSpec.ofChange fnPackAnyWrong)

/-- 'laws.FnFewestShare': WHATEVER THE INPUT: true; the input reads as it did. -/
def fnFewestShareSpec : ChangeSpec := { name := "fnFewestShare", fn := fun _ => fun
  | [d] => { results := [.lit (.bool true)], args := [d] }
  | _ => none }
def fnFewestShareRow : OpenClaim := { program := "ytnldiakjmhfodaa", sum := "826f89a1f3b780f98ffaae6a7bbbdd5255d57956ac5364f9a6f5cc482e692aba", func := "loop.example/dualmodes/laws.FnFewestShare", spec := "fnFewestShare", unfollowed := true, recurses := true, apart := false }
def FnFewestShareSaid : Prop := fnFewestShareRow.holds Try.pinned (OpenSpec.ofChange fnFewestShareSpec)

/-- ITS FALSE NEIGHBOUR: 'it returns false'. Refute it at one input. -/
def fnFewestShareWrong : ChangeSpec := { name := "fnFewestShare", fn := fun _ => fun
  | [d] => { results := [.lit (.bool false)], args := [d] }
  | _ => none }
def FnFewestShareWrongFalsely : Prop := fnFewestShareRow.holds Try.pinned (OpenSpec.ofChange fnFewestShareWrong)

/- THE SECOND FORM. 'bulk': how many values and letters a reading holds, each counted each time it is reached (what is shared counts as often as it is met; a slice's spare places count too). A statement '..UptoSaid' is the law's where the arguments, and the package variables that the reading takes, are together of bulk at most 1048576: NARROWER than '..Said'. Prove '..Said' where nothing that the law and all that it calls make is longer than what came in: it says more and counts as full. Else prove '..UptoSaid'. A law counts once. -/
mutual
def uptoBulk {H : Type} : DataW H → Nat
  | .lit (.string bytes) => bytes.length + 1
  | .lit _ => 1
  | .nil => 1
  | .ptr d => uptoBulk d + 1
  | .slice elems spare => uptoBulkAll elems + uptoBulkAll spare + 1
  | .agg parts => uptoBulkAll parts + 1
  | .iface _ d => uptoBulk d + 1
  | .map entries => uptoBulkEntries entries + 1
  | .held _ => 1
def uptoBulkAll {H : Type} : List (DataW H) → Nat
  | [] => 0
  | d :: r => uptoBulk d + uptoBulkAll r
def uptoBulkEntries {H : Type} : List (Lit × DataW H) → Nat
  | [] => 0
  | x :: r => uptoBulkEntry x + uptoBulkEntries r
def uptoBulkEntry {H : Type} : Lit × DataW H → Nat
  | (.string bytes, d) => bytes.length + uptoBulk d + 1
  | (_, d) => uptoBulk d + 1
 end
def uptoSmall : (H : Type) → List (DataW H) → Bool := fun _ ds => decide (uptoBulkAll ds ≤ 1048576)
def OpenSpec.upto (s : _root_.Go.ChangeSpec) : _root_.Go.OpenSpec := { _root_.Go.OpenSpec.ofChange s with cond := some uptoSmall }

/-- 'laws.FnExactAdmitTask', WHERE WHAT IT READS IS OF BULK AT MOST 1048576: true; the input reads as it did. -/
def fnExactAdmitTaskUptoRow : OpenClaim := { program := "ytnldiakjmhfodaa", sum := "826f89a1f3b780f98ffaae6a7bbbdd5255d57956ac5364f9a6f5cc482e692aba", func := "loop.example/dualmodes/laws.FnExactAdmitTask", spec := "fnExactAdmitTask", unfollowed := true, recurses := true, apart := false, narrowed := true }
def FnExactAdmitTaskUptoSaid : Prop := fnExactAdmitTaskUptoRow.holds Try.pinned (OpenSpec.upto fnExactAdmitTaskSpec)

/-- 'laws.FnExactPackFirst', WHERE WHAT IT READS IS OF BULK AT MOST 1048576: true; the input reads as it did. -/
def fnExactPackFirstUptoRow : OpenClaim := { program := "ytnldiakjmhfodaa", sum := "826f89a1f3b780f98ffaae6a7bbbdd5255d57956ac5364f9a6f5cc482e692aba", func := "loop.example/dualmodes/laws.FnExactPackFirst", spec := "fnExactPackFirst", unfollowed := true, recurses := true, apart := false, narrowed := true }
def FnExactPackFirstUptoSaid : Prop := fnExactPackFirstUptoRow.holds Try.pinned (OpenSpec.upto fnExactPackFirstSpec)

/-- 'laws.FnPackMore', WHERE WHAT IT READS IS OF BULK AT MOST 1048576: true; the input reads as it did. -/
def fnPackMoreUptoRow : OpenClaim := { program := "ytnldiakjmhfodaa", sum := "826f89a1f3b780f98ffaae6a7bbbdd5255d57956ac5364f9a6f5cc482e692aba", func := "loop.example/dualmodes/laws.FnPackMore", spec := "fnPackMore", unfollowed := true, recurses := true, apart := false, narrowed := true }
def FnPackMoreUptoSaid : Prop := fnPackMoreUptoRow.holds Try.pinned (OpenSpec.upto fnPackMoreSpec)

/-- 'laws.FnPackSwap', WHERE WHAT IT READS IS OF BULK AT MOST 1048576: true; the input reads as it did. -/
def fnPackSwapUptoRow : OpenClaim := { program := "ytnldiakjmhfodaa", sum := "826f89a1f3b780f98ffaae6a7bbbdd5255d57956ac5364f9a6f5cc482e692aba", func := "loop.example/dualmodes/laws.FnPackSwap", spec := "fnPackSwap", unfollowed := true, recurses := true, apart := false, narrowed := true }
def FnPackSwapUptoSaid : Prop := fnPackSwapUptoRow.holds Try.pinned (OpenSpec.upto fnPackSwapSpec)

/-- 'laws.FnPackHolds', WHERE WHAT IT READS IS OF BULK AT MOST 1048576: true; the input reads as it did. -/
def fnPackHoldsUptoRow : OpenClaim := { program := "ytnldiakjmhfodaa", sum := "826f89a1f3b780f98ffaae6a7bbbdd5255d57956ac5364f9a6f5cc482e692aba", func := "loop.example/dualmodes/laws.FnPackHolds", spec := "fnPackHolds", unfollowed := true, recurses := true, apart := false, narrowed := true }
def FnPackHoldsUptoSaid : Prop := fnPackHoldsUptoRow.holds Try.pinned (OpenSpec.upto fnPackHoldsSpec)

/-- 'laws.FnFirstMore', WHERE WHAT IT READS IS OF BULK AT MOST 1048576: true; the input reads as it did. -/
def fnFirstMoreUptoRow : OpenClaim := { program := "ytnldiakjmhfodaa", sum := "826f89a1f3b780f98ffaae6a7bbbdd5255d57956ac5364f9a6f5cc482e692aba", func := "loop.example/dualmodes/laws.FnFirstMore", spec := "fnFirstMore", unfollowed := true, recurses := true, apart := false, narrowed := true }
def FnFirstMoreUptoSaid : Prop := fnFirstMoreUptoRow.holds Try.pinned (OpenSpec.upto fnFirstMoreSpec)

/-- 'laws.FnFirstOrder', WHERE WHAT IT READS IS OF BULK AT MOST 1048576: true; the input reads as it did. -/
def fnFirstOrderUptoRow : OpenClaim := { program := "ytnldiakjmhfodaa", sum := "826f89a1f3b780f98ffaae6a7bbbdd5255d57956ac5364f9a6f5cc482e692aba", func := "loop.example/dualmodes/laws.FnFirstOrder", spec := "fnFirstOrder", unfollowed := true, recurses := true, apart := false, narrowed := true }
def FnFirstOrderUptoSaid : Prop := fnFirstOrderUptoRow.holds Try.pinned (OpenSpec.upto fnFirstOrderSpec)

/-- 'laws.FnFirstPart', WHERE WHAT IT READS IS OF BULK AT MOST 1048576: true; the input reads as it did. -/
def fnFirstPartUptoRow : OpenClaim := { program := "ytnldiakjmhfodaa", sum := "826f89a1f3b780f98ffaae6a7bbbdd5255d57956ac5364f9a6f5cc482e692aba", func := "loop.example/dualmodes/laws.FnFirstPart", spec := "fnFirstPart", unfollowed := true, recurses := true, apart := false, narrowed := true }
def FnFirstPartUptoSaid : Prop := fnFirstPartUptoRow.holds Try.pinned (OpenSpec.upto fnFirstPartSpec)

/-- 'laws.FnAdmitAgain', WHERE WHAT IT READS IS OF BULK AT MOST 1048576: true; the input reads as it did. -/
def fnAdmitAgainUptoRow : OpenClaim := { program := "ytnldiakjmhfodaa", sum := "826f89a1f3b780f98ffaae6a7bbbdd5255d57956ac5364f9a6f5cc482e692aba", func := "loop.example/dualmodes/laws.FnAdmitAgain", spec := "fnAdmitAgain", unfollowed := true, recurses := true, apart := false, narrowed := true }
def FnAdmitAgainUptoSaid : Prop := fnAdmitAgainUptoRow.holds Try.pinned (OpenSpec.upto fnAdmitAgainSpec)

/-- 'laws.FnAdmitPolicy', WHERE WHAT IT READS IS OF BULK AT MOST 1048576: true; the input reads as it did. -/
def fnAdmitPolicyUptoRow : OpenClaim := { program := "ytnldiakjmhfodaa", sum := "826f89a1f3b780f98ffaae6a7bbbdd5255d57956ac5364f9a6f5cc482e692aba", func := "loop.example/dualmodes/laws.FnAdmitPolicy", spec := "fnAdmitPolicy", unfollowed := true, recurses := true, apart := false, narrowed := true }
def FnAdmitPolicyUptoSaid : Prop := fnAdmitPolicyUptoRow.holds Try.pinned (OpenSpec.upto fnAdmitPolicySpec)

/-- 'laws.FnExactFewestFor', WHERE WHAT IT READS IS OF BULK AT MOST 1048576: true; the input reads as it did. -/
def fnExactFewestForUptoRow : OpenClaim := { program := "ytnldiakjmhfodaa", sum := "826f89a1f3b780f98ffaae6a7bbbdd5255d57956ac5364f9a6f5cc482e692aba", func := "loop.example/dualmodes/laws.FnExactFewestFor", spec := "fnExactFewestFor", unfollowed := true, recurses := true, apart := false, narrowed := true }
def FnExactFewestForUptoSaid : Prop := fnExactFewestForUptoRow.holds Try.pinned (OpenSpec.upto fnExactFewestForSpec)

/-- 'laws.FnAdmitLeave', WHERE WHAT IT READS IS OF BULK AT MOST 1048576: true; the input reads as it did. -/
def fnAdmitLeaveUptoRow : OpenClaim := { program := "ytnldiakjmhfodaa", sum := "826f89a1f3b780f98ffaae6a7bbbdd5255d57956ac5364f9a6f5cc482e692aba", func := "loop.example/dualmodes/laws.FnAdmitLeave", spec := "fnAdmitLeave", unfollowed := true, recurses := true, apart := false, narrowed := true }
def FnAdmitLeaveUptoSaid : Prop := fnAdmitLeaveUptoRow.holds Try.pinned (OpenSpec.upto fnAdmitLeaveSpec)

/-- 'laws.FnAdmitAll', WHERE WHAT IT READS IS OF BULK AT MOST 1048576: true; the input reads as it did. -/
def fnAdmitAllUptoRow : OpenClaim := { program := "ytnldiakjmhfodaa", sum := "826f89a1f3b780f98ffaae6a7bbbdd5255d57956ac5364f9a6f5cc482e692aba", func := "loop.example/dualmodes/laws.FnAdmitAll", spec := "fnAdmitAll", unfollowed := true, recurses := true, apart := false, narrowed := true }
def FnAdmitAllUptoSaid : Prop := fnAdmitAllUptoRow.holds Try.pinned (OpenSpec.upto fnAdmitAllSpec)

/-- 'laws.FnAdmitRefused', WHERE WHAT IT READS IS OF BULK AT MOST 1048576: true; the input reads as it did. -/
def fnAdmitRefusedUptoRow : OpenClaim := { program := "ytnldiakjmhfodaa", sum := "826f89a1f3b780f98ffaae6a7bbbdd5255d57956ac5364f9a6f5cc482e692aba", func := "loop.example/dualmodes/laws.FnAdmitRefused", spec := "fnAdmitRefused", unfollowed := true, recurses := true, apart := false, narrowed := true }
def FnAdmitRefusedUptoSaid : Prop := fnAdmitRefusedUptoRow.holds Try.pinned (OpenSpec.upto fnAdmitRefusedSpec)

/-- 'laws.FnAdmitTask', WHERE WHAT IT READS IS OF BULK AT MOST 1048576: true; the input reads as it did. -/
def fnAdmitTaskUptoRow : OpenClaim := { program := "ytnldiakjmhfodaa", sum := "826f89a1f3b780f98ffaae6a7bbbdd5255d57956ac5364f9a6f5cc482e692aba", func := "loop.example/dualmodes/laws.FnAdmitTask", spec := "fnAdmitTask", unfollowed := true, recurses := true, apart := false, narrowed := true }
def FnAdmitTaskUptoSaid : Prop := fnAdmitTaskUptoRow.holds Try.pinned (OpenSpec.upto fnAdmitTaskSpec)

/-- 'laws.FnAdmitNone', WHERE WHAT IT READS IS OF BULK AT MOST 1048576: true; the input reads as it did. -/
def fnAdmitNoneUptoRow : OpenClaim := { program := "ytnldiakjmhfodaa", sum := "826f89a1f3b780f98ffaae6a7bbbdd5255d57956ac5364f9a6f5cc482e692aba", func := "loop.example/dualmodes/laws.FnAdmitNone", spec := "fnAdmitNone", unfollowed := true, recurses := true, apart := false, narrowed := true }
def FnAdmitNoneUptoSaid : Prop := fnAdmitNoneUptoRow.holds Try.pinned (OpenSpec.upto fnAdmitNoneSpec)

/-- 'laws.FnHoldsSafe', WHERE WHAT IT READS IS OF BULK AT MOST 1048576: true; the input reads as it did. -/
def fnHoldsSafeUptoRow : OpenClaim := { program := "ytnldiakjmhfodaa", sum := "826f89a1f3b780f98ffaae6a7bbbdd5255d57956ac5364f9a6f5cc482e692aba", func := "loop.example/dualmodes/laws.FnHoldsSafe", spec := "fnHoldsSafe", unfollowed := true, recurses := true, apart := false, narrowed := true }
def FnHoldsSafeUptoSaid : Prop := fnHoldsSafeUptoRow.holds Try.pinned (OpenSpec.upto fnHoldsSafeSpec)

/-- 'laws.FnExactAdmitAll', WHERE WHAT IT READS IS OF BULK AT MOST 1048576: true; the input reads as it did. -/
def fnExactAdmitAllUptoRow : OpenClaim := { program := "ytnldiakjmhfodaa", sum := "826f89a1f3b780f98ffaae6a7bbbdd5255d57956ac5364f9a6f5cc482e692aba", func := "loop.example/dualmodes/laws.FnExactAdmitAll", spec := "fnExactAdmitAll", unfollowed := true, recurses := true, apart := false, narrowed := true }
def FnExactAdmitAllUptoSaid : Prop := fnExactAdmitAllUptoRow.holds Try.pinned (OpenSpec.upto fnExactAdmitAllSpec)

/-- 'laws.FnExactPackAny', WHERE WHAT IT READS IS OF BULK AT MOST 1048576: true; the input reads as it did. -/
def fnExactPackAnyUptoRow : OpenClaim := { program := "ytnldiakjmhfodaa", sum := "826f89a1f3b780f98ffaae6a7bbbdd5255d57956ac5364f9a6f5cc482e692aba", func := "loop.example/dualmodes/laws.FnExactPackAny", spec := "fnExactPackAny", unfollowed := true, recurses := true, apart := false, narrowed := true }
def FnExactPackAnyUptoSaid : Prop := fnExactPackAnyUptoRow.holds Try.pinned (OpenSpec.upto fnExactPackAnySpec)

/-- 'laws.FnPackFirst', WHERE WHAT IT READS IS OF BULK AT MOST 1048576: true; the input reads as it did. -/
def fnPackFirstUptoRow : OpenClaim := { program := "ytnldiakjmhfodaa", sum := "826f89a1f3b780f98ffaae6a7bbbdd5255d57956ac5364f9a6f5cc482e692aba", func := "loop.example/dualmodes/laws.FnPackFirst", spec := "fnPackFirst", unfollowed := true, recurses := true, apart := false, narrowed := true }
def FnPackFirstUptoSaid : Prop := fnPackFirstUptoRow.holds Try.pinned (OpenSpec.upto fnPackFirstSpec)

/-- 'laws.FnPackOne', WHERE WHAT IT READS IS OF BULK AT MOST 1048576: true; the input reads as it did. -/
def fnPackOneUptoRow : OpenClaim := { program := "ytnldiakjmhfodaa", sum := "826f89a1f3b780f98ffaae6a7bbbdd5255d57956ac5364f9a6f5cc482e692aba", func := "loop.example/dualmodes/laws.FnPackOne", spec := "fnPackOne", unfollowed := true, recurses := true, apart := false, narrowed := true }
def FnPackOneUptoSaid : Prop := fnPackOneUptoRow.holds Try.pinned (OpenSpec.upto fnPackOneSpec)

/-- 'laws.FnPackZero', WHERE WHAT IT READS IS OF BULK AT MOST 1048576: true; the input reads as it did. -/
def fnPackZeroUptoRow : OpenClaim := { program := "ytnldiakjmhfodaa", sum := "826f89a1f3b780f98ffaae6a7bbbdd5255d57956ac5364f9a6f5cc482e692aba", func := "loop.example/dualmodes/laws.FnPackZero", spec := "fnPackZero", unfollowed := true, recurses := true, apart := false, narrowed := true }
def FnPackZeroUptoSaid : Prop := fnPackZeroUptoRow.holds Try.pinned (OpenSpec.upto fnPackZeroSpec)

/-- 'laws.FnFewestFor', WHERE WHAT IT READS IS OF BULK AT MOST 1048576: true; the input reads as it did. -/
def fnFewestForUptoRow : OpenClaim := { program := "ytnldiakjmhfodaa", sum := "826f89a1f3b780f98ffaae6a7bbbdd5255d57956ac5364f9a6f5cc482e692aba", func := "loop.example/dualmodes/laws.FnFewestFor", spec := "fnFewestFor", unfollowed := true, recurses := true, apart := false, narrowed := true }
def FnFewestForUptoSaid : Prop := fnFewestForUptoRow.holds Try.pinned (OpenSpec.upto fnFewestForSpec)

/-- 'laws.FnFewestLess', WHERE WHAT IT READS IS OF BULK AT MOST 1048576: true; the input reads as it did. -/
def fnFewestLessUptoRow : OpenClaim := { program := "ytnldiakjmhfodaa", sum := "826f89a1f3b780f98ffaae6a7bbbdd5255d57956ac5364f9a6f5cc482e692aba", func := "loop.example/dualmodes/laws.FnFewestLess", spec := "fnFewestLess", unfollowed := true, recurses := true, apart := false, narrowed := true }
def FnFewestLessUptoSaid : Prop := fnFewestLessUptoRow.holds Try.pinned (OpenSpec.upto fnFewestLessSpec)

/-- 'laws.FnPackAny', WHERE WHAT IT READS IS OF BULK AT MOST 1048576: true; the input reads as it did. -/
def fnPackAnyUptoRow : OpenClaim := { program := "ytnldiakjmhfodaa", sum := "826f89a1f3b780f98ffaae6a7bbbdd5255d57956ac5364f9a6f5cc482e692aba", func := "loop.example/dualmodes/laws.FnPackAny", spec := "fnPackAny", unfollowed := true, recurses := true, apart := false, narrowed := true }
def FnPackAnyUptoSaid : Prop := fnPackAnyUptoRow.holds Try.pinned (OpenSpec.upto fnPackAnySpec)

/-- 'laws.FnFewestShare', WHERE WHAT IT READS IS OF BULK AT MOST 1048576: true; the input reads as it did. -/
def fnFewestShareUptoRow : OpenClaim := { program := "ytnldiakjmhfodaa", sum := "826f89a1f3b780f98ffaae6a7bbbdd5255d57956ac5364f9a6f5cc482e692aba", func := "loop.example/dualmodes/laws.FnFewestShare", spec := "fnFewestShare", unfollowed := true, recurses := true, apart := false, narrowed := true }
def FnFewestShareUptoSaid : Prop := fnFewestShareUptoRow.holds Try.pinned (OpenSpec.upto fnFewestShareSpec)

end Rows
end Go.Proofs.Ytnldiakjmhfodaa
