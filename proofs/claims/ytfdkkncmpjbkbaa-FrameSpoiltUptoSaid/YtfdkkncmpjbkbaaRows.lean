/-
  No cell of these rows narrows 'for every input' (looked for: loops, veiled, ifaces, maps, wideKeys, modest, calm, conditions, laid).
  DERIVED. THE GIVEN ROWS OF THIS SEAT. 38 by the template 'for every input the law returns true; each argument reads behind the call as it read before'; 0 by the template 'total and deterministic' (their statements: YtfdkkncmpjbkbaaTotals.lean).
  GIVEN WITH THE SEED: the statements are not yours to turn. If you find one false, say at which input.
  Laid BY PROGRAM, IN A SANDBOX (cutbox-rows.mjs): the forced cells as the released guide's own fill.sh prints them over the translation 18efa1b2e675638e… (all of the seat's roots in one cut). By AI agents, Wed Nov 11 2026. No macro, syntax, notation, axiom, sorry.
-/
import Derived.Test.YtfdkkncmpjbkbaaChecked
import GoSem.Claim
import GoSem.ClaimJoined
import GoSem.ClaimMapViews
import Derived.JoinedTies
import Derived.KernelRfl
namespace Go.Proofs.Ytfdkkncmpjbkbaa
/- THE CELL 'sum', in the pinned program and in every row, IS THE sha256 OF THE DUMP (.gsa) THAT YtfdkkncmpjbkbaaProg.lean LOADS. Nothing in Lean hashes anything: it is a label: what it is worth is what the hold of that sum in a sandbox is worth. -/
noncomputable def Try.pinned : Pinned := { name := "ytfdkkncmpjbkbaa", sum := "18efa1b2e675638e8d943d678fd84340de4e17093b0959e5c1ce02b41a45fb94", checked := Try.checked }
namespace Rows
def none {H : Type} : Left H := { results := [], args := [] }

/-- 'shlaw3.FlatTells': WHATEVER THE INPUT: true; the input reads as it did. -/
def flatTellsSpec : ChangeSpec := { name := "flatTells", fn := fun _ => fun
  | [d1, d2, d3, d4] => { results := [.lit (.bool true)], args := [d1, d2, d3, d4] }
  | _ => none }
def flatTellsRow : OpenClaim := { program := "ytfdkkncmpjbkbaa", sum := "18efa1b2e675638e8d943d678fd84340de4e17093b0959e5c1ce02b41a45fb94", func := "sharedhearth/shlaw3.FlatTells", spec := "flatTells", apart := false }
def FlatTellsSaid : Prop := flatTellsRow.holds Try.pinned (OpenSpec.ofChange flatTellsSpec)

/-- ITS FALSE NEIGHBOUR: 'it returns false'. Refute it at one input. -/
def flatTellsWrong : ChangeSpec := { name := "flatTells", fn := fun _ => fun
  | [d1, d2, d3, d4] => { results := [.lit (.bool false)], args := [d1, d2, d3, d4] }
  | _ => none }
def FlatTellsWrongFalsely : Prop := flatTellsRow.holds Try.pinned (OpenSpec.ofChange flatTellsWrong)

/-- 'shlaw3.FlatReads': WHATEVER THE INPUT: true; the input reads as it did. -/
def flatReadsSpec : ChangeSpec := { name := "flatReads", fn := fun _ => fun
  | [d1, d2, d3, d4] => { results := [.lit (.bool true)], args := [d1, d2, d3, d4] }
  | _ => none }
def flatReadsRow : OpenClaim := { program := "ytfdkkncmpjbkbaa", sum := "18efa1b2e675638e8d943d678fd84340de4e17093b0959e5c1ce02b41a45fb94", func := "sharedhearth/shlaw3.FlatReads", spec := "flatReads", apart := false }
def FlatReadsSaid : Prop := flatReadsRow.holds Try.pinned (OpenSpec.ofChange flatReadsSpec)

/-- ITS FALSE NEIGHBOUR: 'it returns false'. Refute it at one input. -/
def flatReadsWrong : ChangeSpec := { name := "flatReads", fn := fun _ => fun
  | [d1, d2, d3, d4] => { results := [.lit (.bool false)], args := [d1, d2, d3, d4] }
  | _ => none }
def FlatReadsWrongFalsely : Prop := flatReadsRow.holds Try.pinned (OpenSpec.ofChange flatReadsWrong)

/-- 'shlaw1.FrameTells': WHATEVER THE INPUT: true; the input reads as it did. -/
def frameTellsSpec : ChangeSpec := { name := "frameTells", fn := fun _ => fun
  | [d1, d2, d3, d4] => { results := [.lit (.bool true)], args := [d1, d2, d3, d4] }
  | _ => none }
def frameTellsRow : OpenClaim := { program := "ytfdkkncmpjbkbaa", sum := "18efa1b2e675638e8d943d678fd84340de4e17093b0959e5c1ce02b41a45fb94", func := "sharedhearth/shlaw1.FrameTells", spec := "frameTells", unfollowed := true, recurses := true, apart := false }
def FrameTellsSaid : Prop := frameTellsRow.holds Try.pinned (OpenSpec.ofChange frameTellsSpec)

/-- ITS FALSE NEIGHBOUR: 'it returns false'. Refute it at one input. -/
def frameTellsWrong : ChangeSpec := { name := "frameTells", fn := fun _ => fun
  | [d1, d2, d3, d4] => { results := [.lit (.bool false)], args := [d1, d2, d3, d4] }
  | _ => none }
def FrameTellsWrongFalsely : Prop := frameTellsRow.holds Try.pinned (OpenSpec.ofChange frameTellsWrong)

/-- 'shlaw1.FrameTurns': WHATEVER THE INPUT: true; the input reads as it did. -/
def frameTurnsSpec : ChangeSpec := { name := "frameTurns", fn := fun _ => fun
  | [d1, d2, d3] => { results := [.lit (.bool true)], args := [d1, d2, d3] }
  | _ => none }
def frameTurnsRow : OpenClaim := { program := "ytfdkkncmpjbkbaa", sum := "18efa1b2e675638e8d943d678fd84340de4e17093b0959e5c1ce02b41a45fb94", func := "sharedhearth/shlaw1.FrameTurns", spec := "frameTurns", unfollowed := true, recurses := true, apart := false }
def FrameTurnsSaid : Prop := frameTurnsRow.holds Try.pinned (OpenSpec.ofChange frameTurnsSpec)

/-- ITS FALSE NEIGHBOUR: 'it returns false'. Refute it at one input. -/
def frameTurnsWrong : ChangeSpec := { name := "frameTurns", fn := fun _ => fun
  | [d1, d2, d3] => { results := [.lit (.bool false)], args := [d1, d2, d3] }
  | _ => none }
def FrameTurnsWrongFalsely : Prop := frameTurnsRow.holds Try.pinned (OpenSpec.ofChange frameTurnsWrong)

/-- 'shlaw1.FrameSpoilt': WHATEVER THE INPUT: true; the input reads as it did. -/
def frameSpoiltSpec : ChangeSpec := { name := "frameSpoilt", fn := fun _ => fun
  | [d1, d2, d3] => { results := [.lit (.bool true)], args := [d1, d2, d3] }
  | _ => none }
def frameSpoiltRow : OpenClaim := { program := "ytfdkkncmpjbkbaa", sum := "18efa1b2e675638e8d943d678fd84340de4e17093b0959e5c1ce02b41a45fb94", func := "sharedhearth/shlaw1.FrameSpoilt", spec := "frameSpoilt", unfollowed := true, recurses := true, apart := false }
def FrameSpoiltSaid : Prop := frameSpoiltRow.holds Try.pinned (OpenSpec.ofChange frameSpoiltSpec)

/-- ITS FALSE NEIGHBOUR: 'it returns false'. Refute it at one input. -/
def frameSpoiltWrong : ChangeSpec := { name := "frameSpoilt", fn := fun _ => fun
  | [d1, d2, d3] => { results := [.lit (.bool false)], args := [d1, d2, d3] }
  | _ => none }
def FrameSpoiltWrongFalsely : Prop := frameSpoiltRow.holds Try.pinned (OpenSpec.ofChange frameSpoiltWrong)

/-- 'shlaw2.NetTells': WHATEVER THE INPUT: true; the input reads as it did. -/
def netTellsSpec : ChangeSpec := { name := "netTells", fn := fun _ => fun
  | [d1, d2, d3, d4] => { results := [.lit (.bool true)], args := [d1, d2, d3, d4] }
  | _ => none }
def netTellsRow : OpenClaim := { program := "ytfdkkncmpjbkbaa", sum := "18efa1b2e675638e8d943d678fd84340de4e17093b0959e5c1ce02b41a45fb94", func := "sharedhearth/shlaw2.NetTells", spec := "netTells", apart := false }
def NetTellsSaid : Prop := netTellsRow.holds Try.pinned (OpenSpec.ofChange netTellsSpec)

/-- ITS FALSE NEIGHBOUR: 'it returns false'. Refute it at one input. -/
def netTellsWrong : ChangeSpec := { name := "netTells", fn := fun _ => fun
  | [d1, d2, d3, d4] => { results := [.lit (.bool false)], args := [d1, d2, d3, d4] }
  | _ => none }
def NetTellsWrongFalsely : Prop := netTellsRow.holds Try.pinned (OpenSpec.ofChange netTellsWrong)

/-- 'shlaw2.NetTakes': WHATEVER THE INPUT: true; the input reads as it did. -/
def netTakesSpec : ChangeSpec := { name := "netTakes", fn := fun _ => fun
  | [d1, d2] => { results := [.lit (.bool true)], args := [d1, d2] }
  | _ => none }
def netTakesRow : OpenClaim := { program := "ytfdkkncmpjbkbaa", sum := "18efa1b2e675638e8d943d678fd84340de4e17093b0959e5c1ce02b41a45fb94", func := "sharedhearth/shlaw2.NetTakes", spec := "netTakes", apart := false }
def NetTakesSaid : Prop := netTakesRow.holds Try.pinned (OpenSpec.ofChange netTakesSpec)

/-- ITS FALSE NEIGHBOUR: 'it returns false'. Refute it at one input. -/
def netTakesWrong : ChangeSpec := { name := "netTakes", fn := fun _ => fun
  | [d1, d2] => { results := [.lit (.bool false)], args := [d1, d2] }
  | _ => none }
def NetTakesWrongFalsely : Prop := netTakesRow.holds Try.pinned (OpenSpec.ofChange netTakesWrong)

/-- 'shlaw2.NetSpoils': WHATEVER THE INPUT: true; the input reads as it did. -/
def netSpoilsSpec : ChangeSpec := { name := "netSpoils", fn := fun _ => fun
  | [d1, d2, d3] => { results := [.lit (.bool true)], args := [d1, d2, d3] }
  | _ => none }
def netSpoilsRow : OpenClaim := { program := "ytfdkkncmpjbkbaa", sum := "18efa1b2e675638e8d943d678fd84340de4e17093b0959e5c1ce02b41a45fb94", func := "sharedhearth/shlaw2.NetSpoils", spec := "netSpoils", apart := false }
def NetSpoilsSaid : Prop := netSpoilsRow.holds Try.pinned (OpenSpec.ofChange netSpoilsSpec)

/-- ITS FALSE NEIGHBOUR: 'it returns false'. Refute it at one input. -/
def netSpoilsWrong : ChangeSpec := { name := "netSpoils", fn := fun _ => fun
  | [d1, d2, d3] => { results := [.lit (.bool false)], args := [d1, d2, d3] }
  | _ => none }
def NetSpoilsWrongFalsely : Prop := netSpoilsRow.holds Try.pinned (OpenSpec.ofChange netSpoilsWrong)

/-- 'shlaw5.HomeTells': WHATEVER THE INPUT: true; the input reads as it did. -/
def homeTellsSpec : ChangeSpec := { name := "homeTells", fn := fun _ => fun
  | [d1, d2, d3] => { results := [.lit (.bool true)], args := [d1, d2, d3] }
  | _ => none }
def homeTellsRow : OpenClaim := { program := "ytfdkkncmpjbkbaa", sum := "18efa1b2e675638e8d943d678fd84340de4e17093b0959e5c1ce02b41a45fb94", func := "sharedhearth/shlaw5.HomeTells", spec := "homeTells", unfollowed := true, recurses := true, apart := false }
def HomeTellsSaid : Prop := homeTellsRow.holds Try.pinned (OpenSpec.ofChange homeTellsSpec)

/-- ITS FALSE NEIGHBOUR: 'it returns false'. Refute it at one input. -/
def homeTellsWrong : ChangeSpec := { name := "homeTells", fn := fun _ => fun
  | [d1, d2, d3] => { results := [.lit (.bool false)], args := [d1, d2, d3] }
  | _ => none }
def HomeTellsWrongFalsely : Prop := homeTellsRow.holds Try.pinned (OpenSpec.ofChange homeTellsWrong)

/-- 'shlaw5.HomeTwice': WHATEVER THE INPUT: true; the input reads as it did. -/
def homeTwiceSpec : ChangeSpec := { name := "homeTwice", fn := fun _ => fun
  | [d1, d2, d3] => { results := [.lit (.bool true)], args := [d1, d2, d3] }
  | _ => none }
def homeTwiceRow : OpenClaim := { program := "ytfdkkncmpjbkbaa", sum := "18efa1b2e675638e8d943d678fd84340de4e17093b0959e5c1ce02b41a45fb94", func := "sharedhearth/shlaw5.HomeTwice", spec := "homeTwice", unfollowed := true, recurses := true, apart := false }
def HomeTwiceSaid : Prop := homeTwiceRow.holds Try.pinned (OpenSpec.ofChange homeTwiceSpec)

/-- ITS FALSE NEIGHBOUR: 'it returns false'. Refute it at one input. -/
def homeTwiceWrong : ChangeSpec := { name := "homeTwice", fn := fun _ => fun
  | [d1, d2, d3] => { results := [.lit (.bool false)], args := [d1, d2, d3] }
  | _ => none }
def HomeTwiceWrongFalsely : Prop := homeTwiceRow.holds Try.pinned (OpenSpec.ofChange homeTwiceWrong)

/-- 'shlaw5.HomeOne': WHATEVER THE INPUT: true; the input reads as it did. -/
def homeOneSpec : ChangeSpec := { name := "homeOne", fn := fun _ => fun
  | [d1, d2, d3] => { results := [.lit (.bool true)], args := [d1, d2, d3] }
  | _ => none }
def homeOneRow : OpenClaim := { program := "ytfdkkncmpjbkbaa", sum := "18efa1b2e675638e8d943d678fd84340de4e17093b0959e5c1ce02b41a45fb94", func := "sharedhearth/shlaw5.HomeOne", spec := "homeOne", unfollowed := true, recurses := true, apart := false }
def HomeOneSaid : Prop := homeOneRow.holds Try.pinned (OpenSpec.ofChange homeOneSpec)

/-- ITS FALSE NEIGHBOUR: 'it returns false'. Refute it at one input. -/
def homeOneWrong : ChangeSpec := { name := "homeOne", fn := fun _ => fun
  | [d1, d2, d3] => { results := [.lit (.bool false)], args := [d1, d2, d3] }
  | _ => none }
def HomeOneWrongFalsely : Prop := homeOneRow.holds Try.pinned (OpenSpec.ofChange homeOneWrong)

/-- 'shlaw4.CoreTells': WHATEVER THE INPUT: true; the input reads as it did. -/
def coreTellsSpec : ChangeSpec := { name := "coreTells", fn := fun _ => fun
  | [d1, d2, d3, d4, d5] => { results := [.lit (.bool true)], args := [d1, d2, d3, d4, d5] }
  | _ => none }
def coreTellsRow : OpenClaim := { program := "ytfdkkncmpjbkbaa", sum := "18efa1b2e675638e8d943d678fd84340de4e17093b0959e5c1ce02b41a45fb94", func := "sharedhearth/shlaw4.CoreTells", spec := "coreTells", unfollowed := true, recurses := true, apart := false }
def CoreTellsSaid : Prop := coreTellsRow.holds Try.pinned (OpenSpec.ofChange coreTellsSpec)

/-- ITS FALSE NEIGHBOUR: 'it returns false'. Refute it at one input. -/
def coreTellsWrong : ChangeSpec := { name := "coreTells", fn := fun _ => fun
  | [d1, d2, d3, d4, d5] => { results := [.lit (.bool false)], args := [d1, d2, d3, d4, d5] }
  | _ => none }
def CoreTellsWrongFalsely : Prop := coreTellsRow.holds Try.pinned (OpenSpec.ofChange coreTellsWrong)

/-- 'shlaw4.CoreTwice': WHATEVER THE INPUT: true; the input reads as it did. -/
def coreTwiceSpec : ChangeSpec := { name := "coreTwice", fn := fun _ => fun
  | [d1, d2, d3, d4] => { results := [.lit (.bool true)], args := [d1, d2, d3, d4] }
  | _ => none }
def coreTwiceRow : OpenClaim := { program := "ytfdkkncmpjbkbaa", sum := "18efa1b2e675638e8d943d678fd84340de4e17093b0959e5c1ce02b41a45fb94", func := "sharedhearth/shlaw4.CoreTwice", spec := "coreTwice", unfollowed := true, recurses := true, apart := false }
def CoreTwiceSaid : Prop := coreTwiceRow.holds Try.pinned (OpenSpec.ofChange coreTwiceSpec)

/-- ITS FALSE NEIGHBOUR: 'it returns false'. Refute it at one input. -/
def coreTwiceWrong : ChangeSpec := { name := "coreTwice", fn := fun _ => fun
  | [d1, d2, d3, d4] => { results := [.lit (.bool false)], args := [d1, d2, d3, d4] }
  | _ => none }
def CoreTwiceWrongFalsely : Prop := coreTwiceRow.holds Try.pinned (OpenSpec.ofChange coreTwiceWrong)

/-- 'shlaw4.CoreOld': WHATEVER THE INPUT: true; the input reads as it did. -/
def coreOldSpec : ChangeSpec := { name := "coreOld", fn := fun _ => fun
  | [d1, d2, d3, d4] => { results := [.lit (.bool true)], args := [d1, d2, d3, d4] }
  | _ => none }
def coreOldRow : OpenClaim := { program := "ytfdkkncmpjbkbaa", sum := "18efa1b2e675638e8d943d678fd84340de4e17093b0959e5c1ce02b41a45fb94", func := "sharedhearth/shlaw4.CoreOld", spec := "coreOld", unfollowed := true, recurses := true, apart := false }
def CoreOldSaid : Prop := coreOldRow.holds Try.pinned (OpenSpec.ofChange coreOldSpec)

/-- ITS FALSE NEIGHBOUR: 'it returns false'. Refute it at one input. -/
def coreOldWrong : ChangeSpec := { name := "coreOld", fn := fun _ => fun
  | [d1, d2, d3, d4] => { results := [.lit (.bool false)], args := [d1, d2, d3, d4] }
  | _ => none }
def CoreOldWrongFalsely : Prop := coreOldRow.holds Try.pinned (OpenSpec.ofChange coreOldWrong)

/-- 'shlaw4.CoreBusy': WHATEVER THE INPUT: true; the input reads as it did. -/
def coreBusySpec : ChangeSpec := { name := "coreBusy", fn := fun _ => fun
  | [d1, d2, d3, d4] => { results := [.lit (.bool true)], args := [d1, d2, d3, d4] }
  | _ => none }
def coreBusyRow : OpenClaim := { program := "ytfdkkncmpjbkbaa", sum := "18efa1b2e675638e8d943d678fd84340de4e17093b0959e5c1ce02b41a45fb94", func := "sharedhearth/shlaw4.CoreBusy", spec := "coreBusy", unfollowed := true, recurses := true, apart := false }
def CoreBusySaid : Prop := coreBusyRow.holds Try.pinned (OpenSpec.ofChange coreBusySpec)

/-- ITS FALSE NEIGHBOUR: 'it returns false'. Refute it at one input. -/
def coreBusyWrong : ChangeSpec := { name := "coreBusy", fn := fun _ => fun
  | [d1, d2, d3, d4] => { results := [.lit (.bool false)], args := [d1, d2, d3, d4] }
  | _ => none }
def CoreBusyWrongFalsely : Prop := coreBusyRow.holds Try.pinned (OpenSpec.ofChange coreBusyWrong)

/-- 'shtop.TopHand': WHATEVER THE INPUT: true; the input reads as it did. -/
def topHandSpec : ChangeSpec := { name := "topHand", fn := fun _ => fun
  | [d1, d2, d3] => { results := [.lit (.bool true)], args := [d1, d2, d3] }
  | _ => none }
def topHandRow : OpenClaim := { program := "ytfdkkncmpjbkbaa", sum := "18efa1b2e675638e8d943d678fd84340de4e17093b0959e5c1ce02b41a45fb94", func := "sharedhearth/shtop.TopHand", spec := "topHand", unfollowed := true, recurses := true, apart := false }
def TopHandSaid : Prop := topHandRow.holds Try.pinned (OpenSpec.ofChange topHandSpec)

/-- ITS FALSE NEIGHBOUR: 'it returns false'. Refute it at one input. -/
def topHandWrong : ChangeSpec := { name := "topHand", fn := fun _ => fun
  | [d1, d2, d3] => { results := [.lit (.bool false)], args := [d1, d2, d3] }
  | _ => none }
def TopHandWrongFalsely : Prop := topHandRow.holds Try.pinned (OpenSpec.ofChange topHandWrong)

/-- 'shlaw7.CheckAlone': WHATEVER THE INPUT: true; the input reads as it did. -/
def checkAloneSpec : ChangeSpec := { name := "checkAlone", fn := fun _ => fun
  | [d1, d2] => { results := [.lit (.bool true)], args := [d1, d2] }
  | _ => none }
def checkAloneRow : OpenClaim := { program := "ytfdkkncmpjbkbaa", sum := "18efa1b2e675638e8d943d678fd84340de4e17093b0959e5c1ce02b41a45fb94", func := "sharedhearth/shlaw7.CheckAlone", spec := "checkAlone", unfollowed := true, recurses := true, apart := false }
def CheckAloneSaid : Prop := checkAloneRow.holds Try.pinned (OpenSpec.ofChange checkAloneSpec)

/-- ITS FALSE NEIGHBOUR: 'it returns false'. Refute it at one input. -/
def checkAloneWrong : ChangeSpec := { name := "checkAlone", fn := fun _ => fun
  | [d1, d2] => { results := [.lit (.bool false)], args := [d1, d2] }
  | _ => none }
def CheckAloneWrongFalsely : Prop := checkAloneRow.holds Try.pinned (OpenSpec.ofChange checkAloneWrong)

/-- 'shlaw7.CheckSame': WHATEVER THE INPUT: true; the input reads as it did. -/
def checkSameSpec : ChangeSpec := { name := "checkSame", fn := fun _ => fun
  | [d1, d2] => { results := [.lit (.bool true)], args := [d1, d2] }
  | _ => none }
def checkSameRow : OpenClaim := { program := "ytfdkkncmpjbkbaa", sum := "18efa1b2e675638e8d943d678fd84340de4e17093b0959e5c1ce02b41a45fb94", func := "sharedhearth/shlaw7.CheckSame", spec := "checkSame", unfollowed := true, recurses := true, apart := false }
def CheckSameSaid : Prop := checkSameRow.holds Try.pinned (OpenSpec.ofChange checkSameSpec)

/-- ITS FALSE NEIGHBOUR: 'it returns false'. Refute it at one input. -/
def checkSameWrong : ChangeSpec := { name := "checkSame", fn := fun _ => fun
  | [d1, d2] => { results := [.lit (.bool false)], args := [d1, d2] }
  | _ => none }
def CheckSameWrongFalsely : Prop := checkSameRow.holds Try.pinned (OpenSpec.ofChange checkSameWrong)

/-- 'shlaw7.CheckKnown': WHATEVER THE INPUT: true; the input reads as it did. -/
def checkKnownSpec : ChangeSpec := { name := "checkKnown", fn := fun _ => fun
  | [d1, d2] => { results := [.lit (.bool true)], args := [d1, d2] }
  | _ => none }
def checkKnownRow : OpenClaim := { program := "ytfdkkncmpjbkbaa", sum := "18efa1b2e675638e8d943d678fd84340de4e17093b0959e5c1ce02b41a45fb94", func := "sharedhearth/shlaw7.CheckKnown", spec := "checkKnown", unfollowed := true, recurses := true, apart := false }
def CheckKnownSaid : Prop := checkKnownRow.holds Try.pinned (OpenSpec.ofChange checkKnownSpec)

/-- ITS FALSE NEIGHBOUR: 'it returns false'. Refute it at one input. -/
def checkKnownWrong : ChangeSpec := { name := "checkKnown", fn := fun _ => fun
  | [d1, d2] => { results := [.lit (.bool false)], args := [d1, d2] }
  | _ => none }
def CheckKnownWrongFalsely : Prop := checkKnownRow.holds Try.pinned (OpenSpec.ofChange checkKnownWrong)

/-- 'shlaw7.CheckValue': WHATEVER THE INPUT: true; the input reads as it did. -/
def checkValueSpec : ChangeSpec := { name := "checkValue", fn := fun _ => fun
  | [d1, d2] => { results := [.lit (.bool true)], args := [d1, d2] }
  | _ => none }
def checkValueRow : OpenClaim := { program := "ytfdkkncmpjbkbaa", sum := "18efa1b2e675638e8d943d678fd84340de4e17093b0959e5c1ce02b41a45fb94", func := "sharedhearth/shlaw7.CheckValue", spec := "checkValue", unfollowed := true, recurses := true, apart := false }
def CheckValueSaid : Prop := checkValueRow.holds Try.pinned (OpenSpec.ofChange checkValueSpec)

/-- ITS FALSE NEIGHBOUR: 'it returns false'. Refute it at one input. -/
def checkValueWrong : ChangeSpec := { name := "checkValue", fn := fun _ => fun
  | [d1, d2] => { results := [.lit (.bool false)], args := [d1, d2] }
  | _ => none }
def CheckValueWrongFalsely : Prop := checkValueRow.holds Try.pinned (OpenSpec.ofChange checkValueWrong)

/-- 'shlaw7.CheckSpoilt': WHATEVER THE INPUT: true; the input reads as it did. -/
def checkSpoiltSpec : ChangeSpec := { name := "checkSpoilt", fn := fun _ => fun
  | [d1, d2] => { results := [.lit (.bool true)], args := [d1, d2] }
  | _ => none }
def checkSpoiltRow : OpenClaim := { program := "ytfdkkncmpjbkbaa", sum := "18efa1b2e675638e8d943d678fd84340de4e17093b0959e5c1ce02b41a45fb94", func := "sharedhearth/shlaw7.CheckSpoilt", spec := "checkSpoilt", unfollowed := true, recurses := true, apart := false }
def CheckSpoiltSaid : Prop := checkSpoiltRow.holds Try.pinned (OpenSpec.ofChange checkSpoiltSpec)

/-- ITS FALSE NEIGHBOUR: 'it returns false'. Refute it at one input. -/
def checkSpoiltWrong : ChangeSpec := { name := "checkSpoilt", fn := fun _ => fun
  | [d1, d2] => { results := [.lit (.bool false)], args := [d1, d2] }
  | _ => none }
def CheckSpoiltWrongFalsely : Prop := checkSpoiltRow.holds Try.pinned (OpenSpec.ofChange checkSpoiltWrong)

/-- 'shtop.TopFlag': WHATEVER THE INPUT: true; the input reads as it did. -/
def topFlagSpec : ChangeSpec := { name := "topFlag", fn := fun _ => fun
  | [d1, d2] => { results := [.lit (.bool true)], args := [d1, d2] }
  | _ => none }
def topFlagRow : OpenClaim := { program := "ytfdkkncmpjbkbaa", sum := "18efa1b2e675638e8d943d678fd84340de4e17093b0959e5c1ce02b41a45fb94", func := "sharedhearth/shtop.TopFlag", spec := "topFlag", unfollowed := true, recurses := true, apart := false }
def TopFlagSaid : Prop := topFlagRow.holds Try.pinned (OpenSpec.ofChange topFlagSpec)

/-- ITS FALSE NEIGHBOUR: 'it returns false'. Refute it at one input. -/
def topFlagWrong : ChangeSpec := { name := "topFlag", fn := fun _ => fun
  | [d1, d2] => { results := [.lit (.bool false)], args := [d1, d2] }
  | _ => none }
def TopFlagWrongFalsely : Prop := topFlagRow.holds Try.pinned (OpenSpec.ofChange topFlagWrong)

/-- 'shlaw6.ChipTells': WHATEVER THE INPUT: true; the input reads as it did. -/
def chipTellsSpec : ChangeSpec := { name := "chipTells", fn := fun _ => fun
  | [d1, d2, d3] => { results := [.lit (.bool true)], args := [d1, d2, d3] }
  | _ => none }
def chipTellsRow : OpenClaim := { program := "ytfdkkncmpjbkbaa", sum := "18efa1b2e675638e8d943d678fd84340de4e17093b0959e5c1ce02b41a45fb94", func := "sharedhearth/shlaw6.ChipTells", spec := "chipTells", unfollowed := true, recurses := true, apart := false }
def ChipTellsSaid : Prop := chipTellsRow.holds Try.pinned (OpenSpec.ofChange chipTellsSpec)

/-- ITS FALSE NEIGHBOUR: 'it returns false'. Refute it at one input. -/
def chipTellsWrong : ChangeSpec := { name := "chipTells", fn := fun _ => fun
  | [d1, d2, d3] => { results := [.lit (.bool false)], args := [d1, d2, d3] }
  | _ => none }
def ChipTellsWrongFalsely : Prop := chipTellsRow.holds Try.pinned (OpenSpec.ofChange chipTellsWrong)

/-- 'shlaw6.ChipSpoilt': WHATEVER THE INPUT: true; the input reads as it did. -/
def chipSpoiltSpec : ChangeSpec := { name := "chipSpoilt", fn := fun _ => fun
  | [d1, d2, d3, d4] => { results := [.lit (.bool true)], args := [d1, d2, d3, d4] }
  | _ => none }
def chipSpoiltRow : OpenClaim := { program := "ytfdkkncmpjbkbaa", sum := "18efa1b2e675638e8d943d678fd84340de4e17093b0959e5c1ce02b41a45fb94", func := "sharedhearth/shlaw6.ChipSpoilt", spec := "chipSpoilt", unfollowed := true, recurses := true, apart := false }
def ChipSpoiltSaid : Prop := chipSpoiltRow.holds Try.pinned (OpenSpec.ofChange chipSpoiltSpec)

/-- ITS FALSE NEIGHBOUR: 'it returns false'. Refute it at one input. -/
def chipSpoiltWrong : ChangeSpec := { name := "chipSpoilt", fn := fun _ => fun
  | [d1, d2, d3, d4] => { results := [.lit (.bool false)], args := [d1, d2, d3, d4] }
  | _ => none }
def ChipSpoiltWrongFalsely : Prop := chipSpoiltRow.holds Try.pinned (OpenSpec.ofChange chipSpoiltWrong)

/-- 'shlaw6.ChipTwice': WHATEVER THE INPUT: true; the input reads as it did. -/
def chipTwiceSpec : ChangeSpec := { name := "chipTwice", fn := fun _ => fun
  | [d1, d2, d3] => { results := [.lit (.bool true)], args := [d1, d2, d3] }
  | _ => none }
def chipTwiceRow : OpenClaim := { program := "ytfdkkncmpjbkbaa", sum := "18efa1b2e675638e8d943d678fd84340de4e17093b0959e5c1ce02b41a45fb94", func := "sharedhearth/shlaw6.ChipTwice", spec := "chipTwice", unfollowed := true, recurses := true, apart := false }
def ChipTwiceSaid : Prop := chipTwiceRow.holds Try.pinned (OpenSpec.ofChange chipTwiceSpec)

/-- ITS FALSE NEIGHBOUR: 'it returns false'. Refute it at one input. -/
def chipTwiceWrong : ChangeSpec := { name := "chipTwice", fn := fun _ => fun
  | [d1, d2, d3] => { results := [.lit (.bool false)], args := [d1, d2, d3] }
  | _ => none }
def ChipTwiceWrongFalsely : Prop := chipTwiceRow.holds Try.pinned (OpenSpec.ofChange chipTwiceWrong)

/-- 'shlaw6.ChipRefused': WHATEVER THE INPUT: true; the input reads as it did. -/
def chipRefusedSpec : ChangeSpec := { name := "chipRefused", fn := fun _ => fun
  | [d1, d2, d3] => { results := [.lit (.bool true)], args := [d1, d2, d3] }
  | _ => none }
def chipRefusedRow : OpenClaim := { program := "ytfdkkncmpjbkbaa", sum := "18efa1b2e675638e8d943d678fd84340de4e17093b0959e5c1ce02b41a45fb94", func := "sharedhearth/shlaw6.ChipRefused", spec := "chipRefused", unfollowed := true, recurses := true, apart := false }
def ChipRefusedSaid : Prop := chipRefusedRow.holds Try.pinned (OpenSpec.ofChange chipRefusedSpec)

/-- ITS FALSE NEIGHBOUR: 'it returns false'. Refute it at one input. -/
def chipRefusedWrong : ChangeSpec := { name := "chipRefused", fn := fun _ => fun
  | [d1, d2, d3] => { results := [.lit (.bool false)], args := [d1, d2, d3] }
  | _ => none }
def ChipRefusedWrongFalsely : Prop := chipRefusedRow.holds Try.pinned (OpenSpec.ofChange chipRefusedWrong)

/-- 'shlaw9.PlayTells': WHATEVER THE INPUT: true; the input reads as it did. -/
def playTellsSpec : ChangeSpec := { name := "playTells", fn := fun _ => fun
  | [d1, d2, d3] => { results := [.lit (.bool true)], args := [d1, d2, d3] }
  | _ => none }
def playTellsRow : OpenClaim := { program := "ytfdkkncmpjbkbaa", sum := "18efa1b2e675638e8d943d678fd84340de4e17093b0959e5c1ce02b41a45fb94", func := "sharedhearth/shlaw9.PlayTells", spec := "playTells", unfollowed := true, recurses := true, apart := false }
def PlayTellsSaid : Prop := playTellsRow.holds Try.pinned (OpenSpec.ofChange playTellsSpec)

/-- ITS FALSE NEIGHBOUR: 'it returns false'. Refute it at one input. -/
def playTellsWrong : ChangeSpec := { name := "playTells", fn := fun _ => fun
  | [d1, d2, d3] => { results := [.lit (.bool false)], args := [d1, d2, d3] }
  | _ => none }
def PlayTellsWrongFalsely : Prop := playTellsRow.holds Try.pinned (OpenSpec.ofChange playTellsWrong)

/-- 'shlaw9.PlayOne': WHATEVER THE INPUT: true; the input reads as it did. -/
def playOneSpec : ChangeSpec := { name := "playOne", fn := fun _ => fun
  | [d1, d2] => { results := [.lit (.bool true)], args := [d1, d2] }
  | _ => none }
def playOneRow : OpenClaim := { program := "ytfdkkncmpjbkbaa", sum := "18efa1b2e675638e8d943d678fd84340de4e17093b0959e5c1ce02b41a45fb94", func := "sharedhearth/shlaw9.PlayOne", spec := "playOne", unfollowed := true, recurses := true, apart := false }
def PlayOneSaid : Prop := playOneRow.holds Try.pinned (OpenSpec.ofChange playOneSpec)

/-- ITS FALSE NEIGHBOUR: 'it returns false'. Refute it at one input. -/
def playOneWrong : ChangeSpec := { name := "playOne", fn := fun _ => fun
  | [d1, d2] => { results := [.lit (.bool false)], args := [d1, d2] }
  | _ => none }
def PlayOneWrongFalsely : Prop := playOneRow.holds Try.pinned (OpenSpec.ofChange playOneWrong)

/-- 'shlaw9.PlayOrder': WHATEVER THE INPUT: true; the input reads as it did. -/
def playOrderSpec : ChangeSpec := { name := "playOrder", fn := fun _ => fun
  | [d1, d2, d3] => { results := [.lit (.bool true)], args := [d1, d2, d3] }
  | _ => none }
def playOrderRow : OpenClaim := { program := "ytfdkkncmpjbkbaa", sum := "18efa1b2e675638e8d943d678fd84340de4e17093b0959e5c1ce02b41a45fb94", func := "sharedhearth/shlaw9.PlayOrder", spec := "playOrder", unfollowed := true, recurses := true, apart := false }
def PlayOrderSaid : Prop := playOrderRow.holds Try.pinned (OpenSpec.ofChange playOrderSpec)

/-- ITS FALSE NEIGHBOUR: 'it returns false'. Refute it at one input. -/
def playOrderWrong : ChangeSpec := { name := "playOrder", fn := fun _ => fun
  | [d1, d2, d3] => { results := [.lit (.bool false)], args := [d1, d2, d3] }
  | _ => none }
def PlayOrderWrongFalsely : Prop := playOrderRow.holds Try.pinned (OpenSpec.ofChange playOrderWrong)

/-- 'shlaw9.PlayParts': WHATEVER THE INPUT: true; the input reads as it did. -/
def playPartsSpec : ChangeSpec := { name := "playParts", fn := fun _ => fun
  | [d1, d2, d3] => { results := [.lit (.bool true)], args := [d1, d2, d3] }
  | _ => none }
def playPartsRow : OpenClaim := { program := "ytfdkkncmpjbkbaa", sum := "18efa1b2e675638e8d943d678fd84340de4e17093b0959e5c1ce02b41a45fb94", func := "sharedhearth/shlaw9.PlayParts", spec := "playParts", unfollowed := true, recurses := true, apart := false }
def PlayPartsSaid : Prop := playPartsRow.holds Try.pinned (OpenSpec.ofChange playPartsSpec)

/-- ITS FALSE NEIGHBOUR: 'it returns false'. Refute it at one input. -/
def playPartsWrong : ChangeSpec := { name := "playParts", fn := fun _ => fun
  | [d1, d2, d3] => { results := [.lit (.bool false)], args := [d1, d2, d3] }
  | _ => none }
def PlayPartsWrongFalsely : Prop := playPartsRow.holds Try.pinned (OpenSpec.ofChange playPartsWrong)

/-- 'shlaw8.RoundTells': WHATEVER THE INPUT: true; the input reads as it did. -/
def roundTellsSpec : ChangeSpec := { name := "roundTells", fn := fun _ => fun
  | [d1, d2] => { results := [.lit (.bool true)], args := [d1, d2] }
  | _ => none }
def roundTellsRow : OpenClaim := { program := "ytfdkkncmpjbkbaa", sum := "18efa1b2e675638e8d943d678fd84340de4e17093b0959e5c1ce02b41a45fb94", func := "sharedhearth/shlaw8.RoundTells", spec := "roundTells", unfollowed := true, recurses := true, apart := false }
def RoundTellsSaid : Prop := roundTellsRow.holds Try.pinned (OpenSpec.ofChange roundTellsSpec)

/-- ITS FALSE NEIGHBOUR: 'it returns false'. Refute it at one input. -/
def roundTellsWrong : ChangeSpec := { name := "roundTells", fn := fun _ => fun
  | [d1, d2] => { results := [.lit (.bool false)], args := [d1, d2] }
  | _ => none }
def RoundTellsWrongFalsely : Prop := roundTellsRow.holds Try.pinned (OpenSpec.ofChange roundTellsWrong)

/-- 'shlaw8.RoundEnds': WHATEVER THE INPUT: true; the input reads as it did. -/
def roundEndsSpec : ChangeSpec := { name := "roundEnds", fn := fun _ => fun
  | [d1, d2] => { results := [.lit (.bool true)], args := [d1, d2] }
  | _ => none }
def roundEndsRow : OpenClaim := { program := "ytfdkkncmpjbkbaa", sum := "18efa1b2e675638e8d943d678fd84340de4e17093b0959e5c1ce02b41a45fb94", func := "sharedhearth/shlaw8.RoundEnds", spec := "roundEnds", unfollowed := true, recurses := true, apart := false }
def RoundEndsSaid : Prop := roundEndsRow.holds Try.pinned (OpenSpec.ofChange roundEndsSpec)

/-- ITS FALSE NEIGHBOUR: 'it returns false'. Refute it at one input. -/
def roundEndsWrong : ChangeSpec := { name := "roundEnds", fn := fun _ => fun
  | [d1, d2] => { results := [.lit (.bool false)], args := [d1, d2] }
  | _ => none }
def RoundEndsWrongFalsely : Prop := roundEndsRow.holds Try.pinned (OpenSpec.ofChange roundEndsWrong)

/-- 'shlaw8.RoundHome': WHATEVER THE INPUT: true; the input reads as it did. -/
def roundHomeSpec : ChangeSpec := { name := "roundHome", fn := fun _ => fun
  | [d1, d2] => { results := [.lit (.bool true)], args := [d1, d2] }
  | _ => none }
def roundHomeRow : OpenClaim := { program := "ytfdkkncmpjbkbaa", sum := "18efa1b2e675638e8d943d678fd84340de4e17093b0959e5c1ce02b41a45fb94", func := "sharedhearth/shlaw8.RoundHome", spec := "roundHome", unfollowed := true, recurses := true, apart := false }
def RoundHomeSaid : Prop := roundHomeRow.holds Try.pinned (OpenSpec.ofChange roundHomeSpec)

/-- ITS FALSE NEIGHBOUR: 'it returns false'. Refute it at one input. -/
def roundHomeWrong : ChangeSpec := { name := "roundHome", fn := fun _ => fun
  | [d1, d2] => { results := [.lit (.bool false)], args := [d1, d2] }
  | _ => none }
def RoundHomeWrongFalsely : Prop := roundHomeRow.holds Try.pinned (OpenSpec.ofChange roundHomeWrong)

/-- 'shlaw11.LitmusAll': WHATEVER THE INPUT: true; the input reads as it did. -/
def litmusAllSpec : ChangeSpec := { name := "litmusAll", fn := fun _ => fun
  | [d1, d2, d3] => { results := [.lit (.bool true)], args := [d1, d2, d3] }
  | _ => none }
def litmusAllRow : OpenClaim := { program := "ytfdkkncmpjbkbaa", sum := "18efa1b2e675638e8d943d678fd84340de4e17093b0959e5c1ce02b41a45fb94", func := "sharedhearth/shlaw11.LitmusAll", spec := "litmusAll", unfollowed := true, recurses := true, apart := false }
def LitmusAllSaid : Prop := litmusAllRow.holds Try.pinned (OpenSpec.ofChange litmusAllSpec)

/-- ITS FALSE NEIGHBOUR: 'it returns false'. Refute it at one input. -/
def litmusAllWrong : ChangeSpec := { name := "litmusAll", fn := fun _ => fun
  | [d1, d2, d3] => { results := [.lit (.bool false)], args := [d1, d2, d3] }
  | _ => none }
def LitmusAllWrongFalsely : Prop := litmusAllRow.holds Try.pinned (OpenSpec.ofChange litmusAllWrong)

/-- 'shlaw11.LitmusOne': WHATEVER THE INPUT: true; the input reads as it did. -/
def litmusOneSpec : ChangeSpec := { name := "litmusOne", fn := fun _ => fun
  | [d1, d2, d3] => { results := [.lit (.bool true)], args := [d1, d2, d3] }
  | _ => none }
def litmusOneRow : OpenClaim := { program := "ytfdkkncmpjbkbaa", sum := "18efa1b2e675638e8d943d678fd84340de4e17093b0959e5c1ce02b41a45fb94", func := "sharedhearth/shlaw11.LitmusOne", spec := "litmusOne", unfollowed := true, recurses := true, apart := false }
def LitmusOneSaid : Prop := litmusOneRow.holds Try.pinned (OpenSpec.ofChange litmusOneSpec)

/-- ITS FALSE NEIGHBOUR: 'it returns false'. Refute it at one input. -/
def litmusOneWrong : ChangeSpec := { name := "litmusOne", fn := fun _ => fun
  | [d1, d2, d3] => { results := [.lit (.bool false)], args := [d1, d2, d3] }
  | _ => none }
def LitmusOneWrongFalsely : Prop := litmusOneRow.holds Try.pinned (OpenSpec.ofChange litmusOneWrong)

/-- 'shlaw11.LitmusAdds': WHATEVER THE INPUT: true; the input reads as it did. -/
def litmusAddsSpec : ChangeSpec := { name := "litmusAdds", fn := fun _ => fun
  | [d1, d2, d3] => { results := [.lit (.bool true)], args := [d1, d2, d3] }
  | _ => none }
def litmusAddsRow : OpenClaim := { program := "ytfdkkncmpjbkbaa", sum := "18efa1b2e675638e8d943d678fd84340de4e17093b0959e5c1ce02b41a45fb94", func := "sharedhearth/shlaw11.LitmusAdds", spec := "litmusAdds", unfollowed := true, recurses := true, apart := false }
def LitmusAddsSaid : Prop := litmusAddsRow.holds Try.pinned (OpenSpec.ofChange litmusAddsSpec)

/-- ITS FALSE NEIGHBOUR: 'it returns false'. Refute it at one input. -/
def litmusAddsWrong : ChangeSpec := { name := "litmusAdds", fn := fun _ => fun
  | [d1, d2, d3] => { results := [.lit (.bool false)], args := [d1, d2, d3] }
  | _ => none }
def LitmusAddsWrongFalsely : Prop := litmusAddsRow.holds Try.pinned (OpenSpec.ofChange litmusAddsWrong)

/-- 'shlaw12.ExploreGood': WHATEVER THE INPUT: true; the input reads as it did. -/
def exploreGoodSpec : ChangeSpec := { name := "exploreGood", fn := fun _ => fun
  | [d1, d2, d3, d4] => { results := [.lit (.bool true)], args := [d1, d2, d3, d4] }
  | _ => none }
def exploreGoodRow : OpenClaim := { program := "ytfdkkncmpjbkbaa", sum := "18efa1b2e675638e8d943d678fd84340de4e17093b0959e5c1ce02b41a45fb94", func := "sharedhearth/shlaw12.ExploreGood", spec := "exploreGood", inPlace := ["internal/abi.NoEscape"], unfollowed := true, recurses := true, apart := false }
def ExploreGoodSaid : Prop := exploreGoodRow.holds Try.pinned (OpenSpec.ofChange exploreGoodSpec)

/-- ITS FALSE NEIGHBOUR: 'it returns false'. Refute it at one input. -/
def exploreGoodWrong : ChangeSpec := { name := "exploreGood", fn := fun _ => fun
  | [d1, d2, d3, d4] => { results := [.lit (.bool false)], args := [d1, d2, d3, d4] }
  | _ => none }
def ExploreGoodWrongFalsely : Prop := exploreGoodRow.holds Try.pinned (OpenSpec.ofChange exploreGoodWrong)

/-- 'shtop.TopBoth': WHATEVER THE INPUT: true; the input reads as it did. -/
def topBothSpec : ChangeSpec := { name := "topBoth", fn := fun _ => fun
  | [d] => { results := [.lit (.bool true)], args := [d] }
  | _ => none }
def topBothRow : OpenClaim := { program := "ytfdkkncmpjbkbaa", sum := "18efa1b2e675638e8d943d678fd84340de4e17093b0959e5c1ce02b41a45fb94", func := "sharedhearth/shtop.TopBoth", spec := "topBoth", unfollowed := true, recurses := true, apart := false }
def TopBothSaid : Prop := topBothRow.holds Try.pinned (OpenSpec.ofChange topBothSpec)

/-- ITS FALSE NEIGHBOUR: 'it returns false'. Refute it at one input. -/
def topBothWrong : ChangeSpec := { name := "topBoth", fn := fun _ => fun
  | [d] => { results := [.lit (.bool false)], args := [d] }
  | _ => none }
def TopBothWrongFalsely : Prop := topBothRow.holds Try.pinned (OpenSpec.ofChange topBothWrong)

/- THE SECOND FORM. 'bulk': how many values and letters a reading holds, each counted each time it is reached (what is shared counts as often as it is met; a slice's spare places count too). A statement '..UptoSaid' is the law's where the arguments, and the package variables that the reading takes, are together of bulk at most 1048576: NARROWER than '..Said'. Prove '..Said' where nothing that the law and all that it calls make is longer than what came in: it says more and counts as full. Else prove '..UptoSaid'. A law counts once. -/
mutual
def uptoBulk {H : Type} : DataW H → Nat
  | .lit (.string bytes) => bytes.length + 1
  | .lit _ => 1
  | .nil => 1
  | .ptr d => uptoBulk d + 1
  | .slice elems spare => uptoBulkAll elems + uptoBulkAll spare + 1
  | .agg parts => uptoBulkAll parts + 1
  | .iface _ d => uptoBulk d + 1
  | .map entries => uptoBulkEntries entries + 1
  | .held _ => 1
def uptoBulkAll {H : Type} : List (DataW H) → Nat
  | [] => 0
  | d :: r => uptoBulk d + uptoBulkAll r
def uptoBulkEntries {H : Type} : List (Lit × DataW H) → Nat
  | [] => 0
  | x :: r => uptoBulkEntry x + uptoBulkEntries r
def uptoBulkEntry {H : Type} : Lit × DataW H → Nat
  | (.string bytes, d) => bytes.length + uptoBulk d + 1
  | (_, d) => uptoBulk d + 1
 end
def uptoSmall : (H : Type) → List (DataW H) → Bool := fun _ ds => decide (uptoBulkAll ds ≤ 1048576)
def OpenSpec.upto (s : _root_.Go.ChangeSpec) : _root_.Go.OpenSpec := { _root_.Go.OpenSpec.ofChange s with cond := some uptoSmall }

/-- 'shlaw3.FlatTells', WHERE WHAT IT READS IS OF BULK AT MOST 1048576: true; the input reads as it did. -/
def flatTellsUptoRow : OpenClaim := { program := "ytfdkkncmpjbkbaa", sum := "18efa1b2e675638e8d943d678fd84340de4e17093b0959e5c1ce02b41a45fb94", func := "sharedhearth/shlaw3.FlatTells", spec := "flatTells", apart := false, narrowed := true }
def FlatTellsUptoSaid : Prop := flatTellsUptoRow.holds Try.pinned (OpenSpec.upto flatTellsSpec)

/-- 'shlaw3.FlatReads', WHERE WHAT IT READS IS OF BULK AT MOST 1048576: true; the input reads as it did. -/
def flatReadsUptoRow : OpenClaim := { program := "ytfdkkncmpjbkbaa", sum := "18efa1b2e675638e8d943d678fd84340de4e17093b0959e5c1ce02b41a45fb94", func := "sharedhearth/shlaw3.FlatReads", spec := "flatReads", apart := false, narrowed := true }
def FlatReadsUptoSaid : Prop := flatReadsUptoRow.holds Try.pinned (OpenSpec.upto flatReadsSpec)

/-- 'shlaw1.FrameTells', WHERE WHAT IT READS IS OF BULK AT MOST 1048576: true; the input reads as it did. -/
def frameTellsUptoRow : OpenClaim := { program := "ytfdkkncmpjbkbaa", sum := "18efa1b2e675638e8d943d678fd84340de4e17093b0959e5c1ce02b41a45fb94", func := "sharedhearth/shlaw1.FrameTells", spec := "frameTells", unfollowed := true, recurses := true, apart := false, narrowed := true }
def FrameTellsUptoSaid : Prop := frameTellsUptoRow.holds Try.pinned (OpenSpec.upto frameTellsSpec)

/-- 'shlaw1.FrameTurns', WHERE WHAT IT READS IS OF BULK AT MOST 1048576: true; the input reads as it did. -/
def frameTurnsUptoRow : OpenClaim := { program := "ytfdkkncmpjbkbaa", sum := "18efa1b2e675638e8d943d678fd84340de4e17093b0959e5c1ce02b41a45fb94", func := "sharedhearth/shlaw1.FrameTurns", spec := "frameTurns", unfollowed := true, recurses := true, apart := false, narrowed := true }
def FrameTurnsUptoSaid : Prop := frameTurnsUptoRow.holds Try.pinned (OpenSpec.upto frameTurnsSpec)

/-- 'shlaw1.FrameSpoilt', WHERE WHAT IT READS IS OF BULK AT MOST 1048576: true; the input reads as it did. -/
def frameSpoiltUptoRow : OpenClaim := { program := "ytfdkkncmpjbkbaa", sum := "18efa1b2e675638e8d943d678fd84340de4e17093b0959e5c1ce02b41a45fb94", func := "sharedhearth/shlaw1.FrameSpoilt", spec := "frameSpoilt", unfollowed := true, recurses := true, apart := false, narrowed := true }
def FrameSpoiltUptoSaid : Prop := frameSpoiltUptoRow.holds Try.pinned (OpenSpec.upto frameSpoiltSpec)

/-- 'shlaw2.NetTells', WHERE WHAT IT READS IS OF BULK AT MOST 1048576: true; the input reads as it did. -/
def netTellsUptoRow : OpenClaim := { program := "ytfdkkncmpjbkbaa", sum := "18efa1b2e675638e8d943d678fd84340de4e17093b0959e5c1ce02b41a45fb94", func := "sharedhearth/shlaw2.NetTells", spec := "netTells", apart := false, narrowed := true }
def NetTellsUptoSaid : Prop := netTellsUptoRow.holds Try.pinned (OpenSpec.upto netTellsSpec)

/-- 'shlaw2.NetTakes', WHERE WHAT IT READS IS OF BULK AT MOST 1048576: true; the input reads as it did. -/
def netTakesUptoRow : OpenClaim := { program := "ytfdkkncmpjbkbaa", sum := "18efa1b2e675638e8d943d678fd84340de4e17093b0959e5c1ce02b41a45fb94", func := "sharedhearth/shlaw2.NetTakes", spec := "netTakes", apart := false, narrowed := true }
def NetTakesUptoSaid : Prop := netTakesUptoRow.holds Try.pinned (OpenSpec.upto netTakesSpec)

/-- 'shlaw2.NetSpoils', WHERE WHAT IT READS IS OF BULK AT MOST 1048576: true; the input reads as it did. -/
def netSpoilsUptoRow : OpenClaim := { program := "ytfdkkncmpjbkbaa", sum := "18efa1b2e675638e8d943d678fd84340de4e17093b0959e5c1ce02b41a45fb94", func := "sharedhearth/shlaw2.NetSpoils", spec := "netSpoils", apart := false, narrowed := true }
def NetSpoilsUptoSaid : Prop := netSpoilsUptoRow.holds Try.pinned (OpenSpec.upto netSpoilsSpec)

/-- 'shlaw5.HomeTells', WHERE WHAT IT READS IS OF BULK AT MOST 1048576: true; the input reads as it did. -/
def homeTellsUptoRow : OpenClaim := { program := "ytfdkkncmpjbkbaa", sum := "18efa1b2e675638e8d943d678fd84340de4e17093b0959e5c1ce02b41a45fb94", func := "sharedhearth/shlaw5.HomeTells", spec := "homeTells", unfollowed := true, recurses := true, apart := false, narrowed := true }
def HomeTellsUptoSaid : Prop := homeTellsUptoRow.holds Try.pinned (OpenSpec.upto homeTellsSpec)

/-- 'shlaw5.HomeTwice', WHERE WHAT IT READS IS OF BULK AT MOST 1048576: true; the input reads as it did. -/
def homeTwiceUptoRow : OpenClaim := { program := "ytfdkkncmpjbkbaa", sum := "18efa1b2e675638e8d943d678fd84340de4e17093b0959e5c1ce02b41a45fb94", func := "sharedhearth/shlaw5.HomeTwice", spec := "homeTwice", unfollowed := true, recurses := true, apart := false, narrowed := true }
def HomeTwiceUptoSaid : Prop := homeTwiceUptoRow.holds Try.pinned (OpenSpec.upto homeTwiceSpec)

/-- 'shlaw5.HomeOne', WHERE WHAT IT READS IS OF BULK AT MOST 1048576: true; the input reads as it did. -/
def homeOneUptoRow : OpenClaim := { program := "ytfdkkncmpjbkbaa", sum := "18efa1b2e675638e8d943d678fd84340de4e17093b0959e5c1ce02b41a45fb94", func := "sharedhearth/shlaw5.HomeOne", spec := "homeOne", unfollowed := true, recurses := true, apart := false, narrowed := true }
def HomeOneUptoSaid : Prop := homeOneUptoRow.holds Try.pinned (OpenSpec.upto homeOneSpec)

/-- 'shlaw4.CoreTells', WHERE WHAT IT READS IS OF BULK AT MOST 1048576: true; the input reads as it did. -/
def coreTellsUptoRow : OpenClaim := { program := "ytfdkkncmpjbkbaa", sum := "18efa1b2e675638e8d943d678fd84340de4e17093b0959e5c1ce02b41a45fb94", func := "sharedhearth/shlaw4.CoreTells", spec := "coreTells", unfollowed := true, recurses := true, apart := false, narrowed := true }
def CoreTellsUptoSaid : Prop := coreTellsUptoRow.holds Try.pinned (OpenSpec.upto coreTellsSpec)

/-- 'shlaw4.CoreTwice', WHERE WHAT IT READS IS OF BULK AT MOST 1048576: true; the input reads as it did. -/
def coreTwiceUptoRow : OpenClaim := { program := "ytfdkkncmpjbkbaa", sum := "18efa1b2e675638e8d943d678fd84340de4e17093b0959e5c1ce02b41a45fb94", func := "sharedhearth/shlaw4.CoreTwice", spec := "coreTwice", unfollowed := true, recurses := true, apart := false, narrowed := true }
def CoreTwiceUptoSaid : Prop := coreTwiceUptoRow.holds Try.pinned (OpenSpec.upto coreTwiceSpec)

/-- 'shlaw4.CoreOld', WHERE WHAT IT READS IS OF BULK AT MOST 1048576: true; the input reads as it did. -/
def coreOldUptoRow : OpenClaim := { program := "ytfdkkncmpjbkbaa", sum := "18efa1b2e675638e8d943d678fd84340de4e17093b0959e5c1ce02b41a45fb94", func := "sharedhearth/shlaw4.CoreOld", spec := "coreOld", unfollowed := true, recurses := true, apart := false, narrowed := true }
def CoreOldUptoSaid : Prop := coreOldUptoRow.holds Try.pinned (OpenSpec.upto coreOldSpec)

/-- 'shlaw4.CoreBusy', WHERE WHAT IT READS IS OF BULK AT MOST 1048576: true; the input reads as it did. -/
def coreBusyUptoRow : OpenClaim := { program := "ytfdkkncmpjbkbaa", sum := "18efa1b2e675638e8d943d678fd84340de4e17093b0959e5c1ce02b41a45fb94", func := "sharedhearth/shlaw4.CoreBusy", spec := "coreBusy", unfollowed := true, recurses := true, apart := false, narrowed := true }
def CoreBusyUptoSaid : Prop := coreBusyUptoRow.holds Try.pinned (OpenSpec.upto coreBusySpec)

/-- 'shtop.TopHand', WHERE WHAT IT READS IS OF BULK AT MOST 1048576: true; the input reads as it did. -/
def topHandUptoRow : OpenClaim := { program := "ytfdkkncmpjbkbaa", sum := "18efa1b2e675638e8d943d678fd84340de4e17093b0959e5c1ce02b41a45fb94", func := "sharedhearth/shtop.TopHand", spec := "topHand", unfollowed := true, recurses := true, apart := false, narrowed := true }
def TopHandUptoSaid : Prop := topHandUptoRow.holds Try.pinned (OpenSpec.upto topHandSpec)

/-- 'shlaw7.CheckAlone', WHERE WHAT IT READS IS OF BULK AT MOST 1048576: true; the input reads as it did. -/
def checkAloneUptoRow : OpenClaim := { program := "ytfdkkncmpjbkbaa", sum := "18efa1b2e675638e8d943d678fd84340de4e17093b0959e5c1ce02b41a45fb94", func := "sharedhearth/shlaw7.CheckAlone", spec := "checkAlone", unfollowed := true, recurses := true, apart := false, narrowed := true }
def CheckAloneUptoSaid : Prop := checkAloneUptoRow.holds Try.pinned (OpenSpec.upto checkAloneSpec)

/-- 'shlaw7.CheckSame', WHERE WHAT IT READS IS OF BULK AT MOST 1048576: true; the input reads as it did. -/
def checkSameUptoRow : OpenClaim := { program := "ytfdkkncmpjbkbaa", sum := "18efa1b2e675638e8d943d678fd84340de4e17093b0959e5c1ce02b41a45fb94", func := "sharedhearth/shlaw7.CheckSame", spec := "checkSame", unfollowed := true, recurses := true, apart := false, narrowed := true }
def CheckSameUptoSaid : Prop := checkSameUptoRow.holds Try.pinned (OpenSpec.upto checkSameSpec)

/-- 'shlaw7.CheckKnown', WHERE WHAT IT READS IS OF BULK AT MOST 1048576: true; the input reads as it did. -/
def checkKnownUptoRow : OpenClaim := { program := "ytfdkkncmpjbkbaa", sum := "18efa1b2e675638e8d943d678fd84340de4e17093b0959e5c1ce02b41a45fb94", func := "sharedhearth/shlaw7.CheckKnown", spec := "checkKnown", unfollowed := true, recurses := true, apart := false, narrowed := true }
def CheckKnownUptoSaid : Prop := checkKnownUptoRow.holds Try.pinned (OpenSpec.upto checkKnownSpec)

/-- 'shlaw7.CheckValue', WHERE WHAT IT READS IS OF BULK AT MOST 1048576: true; the input reads as it did. -/
def checkValueUptoRow : OpenClaim := { program := "ytfdkkncmpjbkbaa", sum := "18efa1b2e675638e8d943d678fd84340de4e17093b0959e5c1ce02b41a45fb94", func := "sharedhearth/shlaw7.CheckValue", spec := "checkValue", unfollowed := true, recurses := true, apart := false, narrowed := true }
def CheckValueUptoSaid : Prop := checkValueUptoRow.holds Try.pinned (OpenSpec.upto checkValueSpec)

/-- 'shlaw7.CheckSpoilt', WHERE WHAT IT READS IS OF BULK AT MOST 1048576: true; the input reads as it did. -/
def checkSpoiltUptoRow : OpenClaim := { program := "ytfdkkncmpjbkbaa", sum := "18efa1b2e675638e8d943d678fd84340de4e17093b0959e5c1ce02b41a45fb94", func := "sharedhearth/shlaw7.CheckSpoilt", spec := "checkSpoilt", unfollowed := true, recurses := true, apart := false, narrowed := true }
def CheckSpoiltUptoSaid : Prop := checkSpoiltUptoRow.holds Try.pinned (OpenSpec.upto checkSpoiltSpec)

/-- 'shtop.TopFlag', WHERE WHAT IT READS IS OF BULK AT MOST 1048576: true; the input reads as it did. -/
def topFlagUptoRow : OpenClaim := { program := "ytfdkkncmpjbkbaa", sum := "18efa1b2e675638e8d943d678fd84340de4e17093b0959e5c1ce02b41a45fb94", func := "sharedhearth/shtop.TopFlag", spec := "topFlag", unfollowed := true, recurses := true, apart := false, narrowed := true }
def TopFlagUptoSaid : Prop := topFlagUptoRow.holds Try.pinned (OpenSpec.upto topFlagSpec)

/-- 'shlaw6.ChipTells', WHERE WHAT IT READS IS OF BULK AT MOST 1048576: true; the input reads as it did. -/
def chipTellsUptoRow : OpenClaim := { program := "ytfdkkncmpjbkbaa", sum := "18efa1b2e675638e8d943d678fd84340de4e17093b0959e5c1ce02b41a45fb94", func := "sharedhearth/shlaw6.ChipTells", spec := "chipTells", unfollowed := true, recurses := true, apart := false, narrowed := true }
def ChipTellsUptoSaid : Prop := chipTellsUptoRow.holds Try.pinned (OpenSpec.upto chipTellsSpec)

/-- 'shlaw6.ChipSpoilt', WHERE WHAT IT READS IS OF BULK AT MOST 1048576: true; the input reads as it did. -/
def chipSpoiltUptoRow : OpenClaim := { program := "ytfdkkncmpjbkbaa", sum := "18efa1b2e675638e8d943d678fd84340de4e17093b0959e5c1ce02b41a45fb94", func := "sharedhearth/shlaw6.ChipSpoilt", spec := "chipSpoilt", unfollowed := true, recurses := true, apart := false, narrowed := true }
def ChipSpoiltUptoSaid : Prop := chipSpoiltUptoRow.holds Try.pinned (OpenSpec.upto chipSpoiltSpec)

/-- 'shlaw6.ChipTwice', WHERE WHAT IT READS IS OF BULK AT MOST 1048576: true; the input reads as it did. -/
def chipTwiceUptoRow : OpenClaim := { program := "ytfdkkncmpjbkbaa", sum := "18efa1b2e675638e8d943d678fd84340de4e17093b0959e5c1ce02b41a45fb94", func := "sharedhearth/shlaw6.ChipTwice", spec := "chipTwice", unfollowed := true, recurses := true, apart := false, narrowed := true }
def ChipTwiceUptoSaid : Prop := chipTwiceUptoRow.holds Try.pinned (OpenSpec.upto chipTwiceSpec)

/-- 'shlaw6.ChipRefused', WHERE WHAT IT READS IS OF BULK AT MOST 1048576: true; the input reads as it did. -/
def chipRefusedUptoRow : OpenClaim := { program := "ytfdkkncmpjbkbaa", sum := "18efa1b2e675638e8d943d678fd84340de4e17093b0959e5c1ce02b41a45fb94", func := "sharedhearth/shlaw6.ChipRefused", spec := "chipRefused", unfollowed := true, recurses := true, apart := false, narrowed := true }
def ChipRefusedUptoSaid : Prop := chipRefusedUptoRow.holds Try.pinned (OpenSpec.upto chipRefusedSpec)

/-- 'shlaw9.PlayTells', WHERE WHAT IT READS IS OF BULK AT MOST 1048576: true; the input reads as it did. -/
def playTellsUptoRow : OpenClaim := { program := "ytfdkkncmpjbkbaa", sum := "18efa1b2e675638e8d943d678fd84340de4e17093b0959e5c1ce02b41a45fb94", func := "sharedhearth/shlaw9.PlayTells", spec := "playTells", unfollowed := true, recurses := true, apart := false, narrowed := true }
def PlayTellsUptoSaid : Prop := playTellsUptoRow.holds Try.pinned (OpenSpec.upto playTellsSpec)

/-- 'shlaw9.PlayOne', WHERE WHAT IT READS IS OF BULK AT MOST 1048576: true; the input reads as it did. -/
def playOneUptoRow : OpenClaim := { program := "ytfdkkncmpjbkbaa", sum := "18efa1b2e675638e8d943d678fd84340de4e17093b0959e5c1ce02b41a45fb94", func := "sharedhearth/shlaw9.PlayOne", spec := "playOne", unfollowed := true, recurses := true, apart := false, narrowed := true }
def PlayOneUptoSaid : Prop := playOneUptoRow.holds Try.pinned (OpenSpec.upto playOneSpec)

/-- 'shlaw9.PlayOrder', WHERE WHAT IT READS IS OF BULK AT MOST 1048576: true; the input reads as it did. -/
def playOrderUptoRow : OpenClaim := { program := "ytfdkkncmpjbkbaa", sum := "18efa1b2e675638e8d943d678fd84340de4e17093b0959e5c1ce02b41a45fb94", func := "sharedhearth/shlaw9.PlayOrder", spec := "playOrder", unfollowed := true, recurses := true, apart := false, narrowed := true }
def PlayOrderUptoSaid : Prop := playOrderUptoRow.holds Try.pinned (OpenSpec.upto playOrderSpec)

/-- 'shlaw9.PlayParts', WHERE WHAT IT READS IS OF BULK AT MOST 1048576: true; the input reads as it did. -/
def playPartsUptoRow : OpenClaim := { program := "ytfdkkncmpjbkbaa", sum := "18efa1b2e675638e8d943d678fd84340de4e17093b0959e5c1ce02b41a45fb94", func := "sharedhearth/shlaw9.PlayParts", spec := "playParts", unfollowed := true, recurses := true, apart := false, narrowed := true }
def PlayPartsUptoSaid : Prop := playPartsUptoRow.holds Try.pinned (OpenSpec.upto playPartsSpec)

/-- 'shlaw8.RoundTells', WHERE WHAT IT READS IS OF BULK AT MOST 1048576: true; the input reads as it did. -/
def roundTellsUptoRow : OpenClaim := { program := "ytfdkkncmpjbkbaa", sum := "18efa1b2e675638e8d943d678fd84340de4e17093b0959e5c1ce02b41a45fb94", func := "sharedhearth/shlaw8.RoundTells", spec := "roundTells", unfollowed := true, recurses := true, apart := false, narrowed := true }
def RoundTellsUptoSaid : Prop := roundTellsUptoRow.holds Try.pinned (OpenSpec.upto roundTellsSpec)

/-- 'shlaw8.RoundEnds', WHERE WHAT IT READS IS OF BULK AT MOST 1048576: true; the input reads as it did. -/
def roundEndsUptoRow : OpenClaim := { program := "ytfdkkncmpjbkbaa", sum := "18efa1b2e675638e8d943d678fd84340de4e17093b0959e5c1ce02b41a45fb94", func := "sharedhearth/shlaw8.RoundEnds", spec := "roundEnds", unfollowed := true, recurses := true, apart := false, narrowed := true }
def RoundEndsUptoSaid : Prop := roundEndsUptoRow.holds Try.pinned (OpenSpec.upto roundEndsSpec)

/-- 'shlaw8.RoundHome', WHERE WHAT IT READS IS OF BULK AT MOST 1048576: true; the input reads as it did. -/
def roundHomeUptoRow : OpenClaim := { program := "ytfdkkncmpjbkbaa", sum := "18efa1b2e675638e8d943d678fd84340de4e17093b0959e5c1ce02b41a45fb94", func := "sharedhearth/shlaw8.RoundHome", spec := "roundHome", unfollowed := true, recurses := true, apart := false, narrowed := true }
def RoundHomeUptoSaid : Prop := roundHomeUptoRow.holds Try.pinned (OpenSpec.upto roundHomeSpec)

/-- 'shlaw11.LitmusAll', WHERE WHAT IT READS IS OF BULK AT MOST 1048576: true; the input reads as it did. -/
def litmusAllUptoRow : OpenClaim := { program := "ytfdkkncmpjbkbaa", sum := "18efa1b2e675638e8d943d678fd84340de4e17093b0959e5c1ce02b41a45fb94", func := "sharedhearth/shlaw11.LitmusAll", spec := "litmusAll", unfollowed := true, recurses := true, apart := false, narrowed := true }
def LitmusAllUptoSaid : Prop := litmusAllUptoRow.holds Try.pinned (OpenSpec.upto litmusAllSpec)

/-- 'shlaw11.LitmusOne', WHERE WHAT IT READS IS OF BULK AT MOST 1048576: true; the input reads as it did. -/
def litmusOneUptoRow : OpenClaim := { program := "ytfdkkncmpjbkbaa", sum := "18efa1b2e675638e8d943d678fd84340de4e17093b0959e5c1ce02b41a45fb94", func := "sharedhearth/shlaw11.LitmusOne", spec := "litmusOne", unfollowed := true, recurses := true, apart := false, narrowed := true }
def LitmusOneUptoSaid : Prop := litmusOneUptoRow.holds Try.pinned (OpenSpec.upto litmusOneSpec)

/-- 'shlaw11.LitmusAdds', WHERE WHAT IT READS IS OF BULK AT MOST 1048576: true; the input reads as it did. -/
def litmusAddsUptoRow : OpenClaim := { program := "ytfdkkncmpjbkbaa", sum := "18efa1b2e675638e8d943d678fd84340de4e17093b0959e5c1ce02b41a45fb94", func := "sharedhearth/shlaw11.LitmusAdds", spec := "litmusAdds", unfollowed := true, recurses := true, apart := false, narrowed := true }
def LitmusAddsUptoSaid : Prop := litmusAddsUptoRow.holds Try.pinned (OpenSpec.upto litmusAddsSpec)

/-- 'shlaw12.ExploreGood', WHERE WHAT IT READS IS OF BULK AT MOST 1048576: true; the input reads as it did. -/
def exploreGoodUptoRow : OpenClaim := { program := "ytfdkkncmpjbkbaa", sum := "18efa1b2e675638e8d943d678fd84340de4e17093b0959e5c1ce02b41a45fb94", func := "sharedhearth/shlaw12.ExploreGood", spec := "exploreGood", inPlace := ["internal/abi.NoEscape"], unfollowed := true, recurses := true, apart := false, narrowed := true }
def ExploreGoodUptoSaid : Prop := exploreGoodUptoRow.holds Try.pinned (OpenSpec.upto exploreGoodSpec)

/-- 'shtop.TopBoth', WHERE WHAT IT READS IS OF BULK AT MOST 1048576: true; the input reads as it did. -/
def topBothUptoRow : OpenClaim := { program := "ytfdkkncmpjbkbaa", sum := "18efa1b2e675638e8d943d678fd84340de4e17093b0959e5c1ce02b41a45fb94", func := "sharedhearth/shtop.TopBoth", spec := "topBoth", unfollowed := true, recurses := true, apart := false, narrowed := true }
def TopBothUptoSaid : Prop := topBothUptoRow.holds Try.pinned (OpenSpec.upto topBothSpec)

end Rows
end Go.Proofs.Ytfdkkncmpjbkbaa
