/-
  No cell of these rows narrows 'for every input' (looked for: loops, veiled, ifaces, maps, wideKeys, modest, calm, conditions, laid).
  DERIVED. THE GIVEN ROWS OF THIS SEAT. 15 by the template 'for every input the law returns true; each argument reads behind the call as it read before'; 0 by the template 'total and deterministic' (their statements: YtofgpimoekhfaaaTotals.lean).
  GIVEN WITH THE SEED: the statements are not yours to turn. If you find one false, say at which input.
  Laid BY PROGRAM, IN A SANDBOX (cutbox-rows.mjs): the forced cells as the released guide's own fill.sh prints them over the translation f9d67702eb4da69d… (all of the seat's roots in one cut). By AI agents, Wed Nov 11 2026. No macro, syntax, notation, axiom, sorry.
-/
import Derived.Test.YtofgpimoekhfaaaChecked
import GoSem.Claim
import GoSem.ClaimJoined
import GoSem.ClaimMapViews
import Derived.JoinedTies
import Derived.KernelRfl
namespace Go.Proofs.Ytofgpimoekhfaaa
/- THE CELL 'sum', in the pinned program and in every row, IS THE sha256 OF THE DUMP (.gsa) THAT YtofgpimoekhfaaaProg.lean LOADS. Nothing in Lean hashes anything: it is a label: what it is worth is what the hold of that sum in a sandbox is worth. -/
noncomputable def Try.pinned : Pinned := { name := "ytofgpimoekhfaaa", sum := "f9d67702eb4da69d79471f9e48fe9569bfda9d8856befd43260739a5f7027ab6", checked := Try.checked }
namespace Rows
def none {H : Type} : Left H := { results := [], args := [] }

/-- 'shlaw2.NetTells': WHATEVER THE INPUT: true; the input reads as it did. -/
def netTellsSpec : ChangeSpec := { name := "netTells", fn := fun _ => fun
  | [d1, d2, d3, d4] => { results := [.lit (.bool true)], args := [d1, d2, d3, d4] }
  | _ => none }
def netTellsRow : OpenClaim := { program := "ytofgpimoekhfaaa", sum := "f9d67702eb4da69d79471f9e48fe9569bfda9d8856befd43260739a5f7027ab6", func := "sharedhearth/shlaw2.NetTells", spec := "netTells", apart := false }
def NetTellsSaid : Prop := netTellsRow.holds Try.pinned (OpenSpec.ofChange netTellsSpec)

/-- ITS FALSE NEIGHBOUR: 'it returns false'. Refute it at one input. -/
def netTellsWrong : ChangeSpec := { name := "netTells", fn := fun _ => fun
  | [d1, d2, d3, d4] => { results := [.lit (.bool false)], args := [d1, d2, d3, d4] }
  | _ => none }
def NetTellsWrongFalsely : Prop := netTellsRow.holds Try.pinned (OpenSpec.ofChange netTellsWrong)

/-- 'shlaw2.NetTakes': WHATEVER THE INPUT: true; the input reads as it did. -/
def netTakesSpec : ChangeSpec := { name := "netTakes", fn := fun _ => fun
  | [d1, d2] => { results := [.lit (.bool true)], args := [d1, d2] }
  | _ => none }
def netTakesRow : OpenClaim := { program := "ytofgpimoekhfaaa", sum := "f9d67702eb4da69d79471f9e48fe9569bfda9d8856befd43260739a5f7027ab6", func := "sharedhearth/shlaw2.NetTakes", spec := "netTakes", apart := false }
def NetTakesSaid : Prop := netTakesRow.holds Try.pinned (OpenSpec.ofChange netTakesSpec)

/-- ITS FALSE NEIGHBOUR: 'it returns false'. Refute it at one input. -/
def netTakesWrong : ChangeSpec := { name := "netTakes", fn := fun _ => fun
  | [d1, d2] => { results := [.lit (.bool false)], args := [d1, d2] }
  | _ => none }
def NetTakesWrongFalsely : Prop := netTakesRow.holds Try.pinned (OpenSpec.ofChange netTakesWrong)

/-- 'shlaw2.NetSpoils': WHATEVER THE INPUT: true; the input reads as it did. -/
def netSpoilsSpec : ChangeSpec := { name := "netSpoils", fn := fun _ => fun
  | [d1, d2, d3] => { results := [.lit (.bool true)], args := [d1, d2, d3] }
  | _ => none }
def netSpoilsRow : OpenClaim := { program := "ytofgpimoekhfaaa", sum := "f9d67702eb4da69d79471f9e48fe9569bfda9d8856befd43260739a5f7027ab6", func := "sharedhearth/shlaw2.NetSpoils", spec := "netSpoils", apart := false }
def NetSpoilsSaid : Prop := netSpoilsRow.holds Try.pinned (OpenSpec.ofChange netSpoilsSpec)

/-- ITS FALSE NEIGHBOUR: 'it returns false'. Refute it at one input. -/
def netSpoilsWrong : ChangeSpec := { name := "netSpoils", fn := fun _ => fun
  | [d1, d2, d3] => { results := [.lit (.bool false)], args := [d1, d2, d3] }
  | _ => none }
def NetSpoilsWrongFalsely : Prop := netSpoilsRow.holds Try.pinned (OpenSpec.ofChange netSpoilsWrong)

/-- 'shlaw5.HomeTells': WHATEVER THE INPUT: true; the input reads as it did. -/
def homeTellsSpec : ChangeSpec := { name := "homeTells", fn := fun _ => fun
  | [d1, d2, d3] => { results := [.lit (.bool true)], args := [d1, d2, d3] }
  | _ => none }
def homeTellsRow : OpenClaim := { program := "ytofgpimoekhfaaa", sum := "f9d67702eb4da69d79471f9e48fe9569bfda9d8856befd43260739a5f7027ab6", func := "sharedhearth/shlaw5.HomeTells", spec := "homeTells", unfollowed := true, recurses := true, apart := false }
def HomeTellsSaid : Prop := homeTellsRow.holds Try.pinned (OpenSpec.ofChange homeTellsSpec)

/-- ITS FALSE NEIGHBOUR: 'it returns false'. Refute it at one input. -/
def homeTellsWrong : ChangeSpec := { name := "homeTells", fn := fun _ => fun
  | [d1, d2, d3] => { results := [.lit (.bool false)], args := [d1, d2, d3] }
  | _ => none }
def HomeTellsWrongFalsely : Prop := homeTellsRow.holds Try.pinned (OpenSpec.ofChange homeTellsWrong)

/-- 'shlaw5.HomeTwice': WHATEVER THE INPUT: true; the input reads as it did. -/
def homeTwiceSpec : ChangeSpec := { name := "homeTwice", fn := fun _ => fun
  | [d1, d2, d3] => { results := [.lit (.bool true)], args := [d1, d2, d3] }
  | _ => none }
def homeTwiceRow : OpenClaim := { program := "ytofgpimoekhfaaa", sum := "f9d67702eb4da69d79471f9e48fe9569bfda9d8856befd43260739a5f7027ab6", func := "sharedhearth/shlaw5.HomeTwice", spec := "homeTwice", unfollowed := true, recurses := true, apart := false }
def HomeTwiceSaid : Prop := homeTwiceRow.holds Try.pinned (OpenSpec.ofChange homeTwiceSpec)

/-- ITS FALSE NEIGHBOUR: 'it returns false'. Refute it at one input. -/
def homeTwiceWrong : ChangeSpec := { name := "homeTwice", fn := fun _ => fun
  | [d1, d2, d3] => { results := [.lit (.bool false)], args := [d1, d2, d3] }
  | _ => none }
def HomeTwiceWrongFalsely : Prop := homeTwiceRow.holds Try.pinned (OpenSpec.ofChange homeTwiceWrong)

/-- 'shlaw5.HomeOne': WHATEVER THE INPUT: true; the input reads as it did. -/
def homeOneSpec : ChangeSpec := { name := "homeOne", fn := fun _ => fun
  | [d1, d2, d3] => { results := [.lit (.bool true)], args := [d1, d2, d3] }
  | _ => none }
def homeOneRow : OpenClaim := { program := "ytofgpimoekhfaaa", sum := "f9d67702eb4da69d79471f9e48fe9569bfda9d8856befd43260739a5f7027ab6", func := "sharedhearth/shlaw5.HomeOne", spec := "homeOne", unfollowed := true, recurses := true, apart := false }
def HomeOneSaid : Prop := homeOneRow.holds Try.pinned (OpenSpec.ofChange homeOneSpec)

/-- ITS FALSE NEIGHBOUR: 'it returns false'. Refute it at one input. -/
def homeOneWrong : ChangeSpec := { name := "homeOne", fn := fun _ => fun
  | [d1, d2, d3] => { results := [.lit (.bool false)], args := [d1, d2, d3] }
  | _ => none }
def HomeOneWrongFalsely : Prop := homeOneRow.holds Try.pinned (OpenSpec.ofChange homeOneWrong)

/-- 'shlaw4.CoreTells': WHATEVER THE INPUT: true; the input reads as it did. -/
def coreTellsSpec : ChangeSpec := { name := "coreTells", fn := fun _ => fun
  | [d1, d2, d3, d4, d5] => { results := [.lit (.bool true)], args := [d1, d2, d3, d4, d5] }
  | _ => none }
def coreTellsRow : OpenClaim := { program := "ytofgpimoekhfaaa", sum := "f9d67702eb4da69d79471f9e48fe9569bfda9d8856befd43260739a5f7027ab6", func := "sharedhearth/shlaw4.CoreTells", spec := "coreTells", unfollowed := true, recurses := true, apart := false }
def CoreTellsSaid : Prop := coreTellsRow.holds Try.pinned (OpenSpec.ofChange coreTellsSpec)

/-- ITS FALSE NEIGHBOUR: 'it returns false'. Refute it at one input. -/
def coreTellsWrong : ChangeSpec := { name := "coreTells", fn := fun _ => fun
  | [d1, d2, d3, d4, d5] => { results := [.lit (.bool false)], args := [d1, d2, d3, d4, d5] }
  | _ => none }
def CoreTellsWrongFalsely : Prop := coreTellsRow.holds Try.pinned (OpenSpec.ofChange coreTellsWrong)

/-- 'shlaw4.CoreTwice': WHATEVER THE INPUT: true; the input reads as it did. -/
def coreTwiceSpec : ChangeSpec := { name := "coreTwice", fn := fun _ => fun
  | [d1, d2, d3, d4] => { results := [.lit (.bool true)], args := [d1, d2, d3, d4] }
  | _ => none }
def coreTwiceRow : OpenClaim := { program := "ytofgpimoekhfaaa", sum := "f9d67702eb4da69d79471f9e48fe9569bfda9d8856befd43260739a5f7027ab6", func := "sharedhearth/shlaw4.CoreTwice", spec := "coreTwice", unfollowed := true, recurses := true, apart := false }
def CoreTwiceSaid : Prop := coreTwiceRow.holds Try.pinned (OpenSpec.ofChange coreTwiceSpec)

/-- ITS FALSE NEIGHBOUR: 'it returns false'. Refute it at one input. -/
def coreTwiceWrong : ChangeSpec := { name := "coreTwice", fn := fun _ => fun
  | [d1, d2, d3, d4] => { results := [.lit (.bool false)], args := [d1, d2, d3, d4] }
  | _ => none }
def CoreTwiceWrongFalsely : Prop := coreTwiceRow.holds Try.pinned (OpenSpec.ofChange coreTwiceWrong)

/-- 'shlaw4.CoreOld': WHATEVER THE INPUT: true; the input reads as it did. -/
def coreOldSpec : ChangeSpec := { name := "coreOld", fn := fun _ => fun
  | [d1, d2, d3, d4] => { results := [.lit (.bool true)], args := [d1, d2, d3, d4] }
  | _ => none }
def coreOldRow : OpenClaim := { program := "ytofgpimoekhfaaa", sum := "f9d67702eb4da69d79471f9e48fe9569bfda9d8856befd43260739a5f7027ab6", func := "sharedhearth/shlaw4.CoreOld", spec := "coreOld", unfollowed := true, recurses := true, apart := false }
def CoreOldSaid : Prop := coreOldRow.holds Try.pinned (OpenSpec.ofChange coreOldSpec)

/-- ITS FALSE NEIGHBOUR: 'it returns false'. Refute it at one input. -/
def coreOldWrong : ChangeSpec := { name := "coreOld", fn := fun _ => fun
  | [d1, d2, d3, d4] => { results := [.lit (.bool false)], args := [d1, d2, d3, d4] }
  | _ => none }
def CoreOldWrongFalsely : Prop := coreOldRow.holds Try.pinned (OpenSpec.ofChange coreOldWrong)

/-- 'shlaw4.CoreBusy': WHATEVER THE INPUT: true; the input reads as it did. -/
def coreBusySpec : ChangeSpec := { name := "coreBusy", fn := fun _ => fun
  | [d1, d2, d3, d4] => { results := [.lit (.bool true)], args := [d1, d2, d3, d4] }
  | _ => none }
def coreBusyRow : OpenClaim := { program := "ytofgpimoekhfaaa", sum := "f9d67702eb4da69d79471f9e48fe9569bfda9d8856befd43260739a5f7027ab6", func := "sharedhearth/shlaw4.CoreBusy", spec := "coreBusy", unfollowed := true, recurses := true, apart := false }
def CoreBusySaid : Prop := coreBusyRow.holds Try.pinned (OpenSpec.ofChange coreBusySpec)

/-- ITS FALSE NEIGHBOUR: 'it returns false'. Refute it at one input. -/
def coreBusyWrong : ChangeSpec := { name := "coreBusy", fn := fun _ => fun
  | [d1, d2, d3, d4] => { results := [.lit (.bool false)], args := [d1, d2, d3, d4] }
  | _ => none }
def CoreBusyWrongFalsely : Prop := coreBusyRow.holds Try.pinned (OpenSpec.ofChange coreBusyWrong)

/-- 'shlaw7.CheckAlone': WHATEVER THE INPUT: true; the input reads as it did. -/
def checkAloneSpec : ChangeSpec := { name := "checkAlone", fn := fun _ => fun
  | [d1, d2] => { results := [.lit (.bool true)], args := [d1, d2] }
  | _ => none }
def checkAloneRow : OpenClaim := { program := "ytofgpimoekhfaaa", sum := "f9d67702eb4da69d79471f9e48fe9569bfda9d8856befd43260739a5f7027ab6", func := "sharedhearth/shlaw7.CheckAlone", spec := "checkAlone", unfollowed := true, recurses := true, apart := false }
def CheckAloneSaid : Prop := checkAloneRow.holds Try.pinned (OpenSpec.ofChange checkAloneSpec)

/-- ITS FALSE NEIGHBOUR: 'it returns false'. Refute it at one input. -/
def checkAloneWrong : ChangeSpec := { name := "checkAlone", fn := fun _ => fun
  | [d1, d2] => { results := [.lit (.bool false)], args := [d1, d2] }
  | _ => none }
def CheckAloneWrongFalsely : Prop := checkAloneRow.holds Try.pinned (OpenSpec.ofChange checkAloneWrong)

/-- 'shlaw7.CheckSame': WHATEVER THE INPUT: true; the input reads as it did. -/
def checkSameSpec : ChangeSpec := { name := "checkSame", fn := fun _ => fun
  | [d1, d2] => { results := [.lit (.bool true)], args := [d1, d2] }
  | _ => none }
def checkSameRow : OpenClaim := { program := "ytofgpimoekhfaaa", sum := "f9d67702eb4da69d79471f9e48fe9569bfda9d8856befd43260739a5f7027ab6", func := "sharedhearth/shlaw7.CheckSame", spec := "checkSame", unfollowed := true, recurses := true, apart := false }
def CheckSameSaid : Prop := checkSameRow.holds Try.pinned (OpenSpec.ofChange checkSameSpec)

/-- ITS FALSE NEIGHBOUR: 'it returns false'. Refute it at one input. -/
def checkSameWrong : ChangeSpec := { name := "checkSame", fn := fun _ => fun
  | [d1, d2] => { results := [.lit (.bool false)], args := [d1, d2] }
  | _ => none }
def CheckSameWrongFalsely : Prop := checkSameRow.holds Try.pinned (OpenSpec.ofChange checkSameWrong)

/-- 'shlaw7.CheckKnown': WHATEVER THE INPUT: true; the input reads as it did. -/
def checkKnownSpec : ChangeSpec := { name := "checkKnown", fn := fun _ => fun
  | [d1, d2] => { results := [.lit (.bool true)], args := [d1, d2] }
  | _ => none }
def checkKnownRow : OpenClaim := { program := "ytofgpimoekhfaaa", sum := "f9d67702eb4da69d79471f9e48fe9569bfda9d8856befd43260739a5f7027ab6", func := "sharedhearth/shlaw7.CheckKnown", spec := "checkKnown", unfollowed := true, recurses := true, apart := false }
def CheckKnownSaid : Prop := checkKnownRow.holds Try.pinned (OpenSpec.ofChange checkKnownSpec)

/-- ITS FALSE NEIGHBOUR: 'it returns false'. Refute it at one input. -/
def checkKnownWrong : ChangeSpec := { name := "checkKnown", fn := fun _ => fun
  | [d1, d2] => { results := [.lit (.bool false)], args := [d1, d2] }
  | _ => none }
def CheckKnownWrongFalsely : Prop := checkKnownRow.holds Try.pinned (OpenSpec.ofChange checkKnownWrong)

/-- 'shlaw7.CheckValue': WHATEVER THE INPUT: true; the input reads as it did. -/
def checkValueSpec : ChangeSpec := { name := "checkValue", fn := fun _ => fun
  | [d1, d2] => { results := [.lit (.bool true)], args := [d1, d2] }
  | _ => none }
def checkValueRow : OpenClaim := { program := "ytofgpimoekhfaaa", sum := "f9d67702eb4da69d79471f9e48fe9569bfda9d8856befd43260739a5f7027ab6", func := "sharedhearth/shlaw7.CheckValue", spec := "checkValue", unfollowed := true, recurses := true, apart := false }
def CheckValueSaid : Prop := checkValueRow.holds Try.pinned (OpenSpec.ofChange checkValueSpec)

/-- ITS FALSE NEIGHBOUR: 'it returns false'. Refute it at one input. -/
def checkValueWrong : ChangeSpec := { name := "checkValue", fn := fun _ => fun
  | [d1, d2] => { results := [.lit (.bool false)], args := [d1, d2] }
  | _ => none }
def CheckValueWrongFalsely : Prop := checkValueRow.holds Try.pinned (OpenSpec.ofChange checkValueWrong)

/-- 'shlaw7.CheckSpoilt': WHATEVER THE INPUT: true; the input reads as it did. -/
def checkSpoiltSpec : ChangeSpec := { name := "checkSpoilt", fn := fun _ => fun
  | [d1, d2] => { results := [.lit (.bool true)], args := [d1, d2] }
  | _ => none }
def checkSpoiltRow : OpenClaim := { program := "ytofgpimoekhfaaa", sum := "f9d67702eb4da69d79471f9e48fe9569bfda9d8856befd43260739a5f7027ab6", func := "sharedhearth/shlaw7.CheckSpoilt", spec := "checkSpoilt", unfollowed := true, recurses := true, apart := false }
def CheckSpoiltSaid : Prop := checkSpoiltRow.holds Try.pinned (OpenSpec.ofChange checkSpoiltSpec)

/-- ITS FALSE NEIGHBOUR: 'it returns false'. Refute it at one input. -/
def checkSpoiltWrong : ChangeSpec := { name := "checkSpoilt", fn := fun _ => fun
  | [d1, d2] => { results := [.lit (.bool false)], args := [d1, d2] }
  | _ => none }
def CheckSpoiltWrongFalsely : Prop := checkSpoiltRow.holds Try.pinned (OpenSpec.ofChange checkSpoiltWrong)

/- THE SECOND FORM. 'bulk': how many values and letters a reading holds, each counted each time it is reached (what is shared counts as often as it is met; a slice's spare places count too). A statement '..UptoSaid' is the law's where the arguments, and the package variables that the reading takes, are together of bulk at most 1048576: NARROWER than '..Said'. Prove '..Said' where nothing that the law and all that it calls make is longer than what came in: it says more and counts as full. Else prove '..UptoSaid'. A law counts once. -/
mutual
def uptoBulk {H : Type} : DataW H → Nat
  | .lit (.string bytes) => bytes.length + 1
  | .lit _ => 1
  | .nil => 1
  | .ptr d => uptoBulk d + 1
  | .slice elems spare => uptoBulkAll elems + uptoBulkAll spare + 1
  | .agg parts => uptoBulkAll parts + 1
  | .iface _ d => uptoBulk d + 1
  | .map entries => uptoBulkEntries entries + 1
  | .held _ => 1
def uptoBulkAll {H : Type} : List (DataW H) → Nat
  | [] => 0
  | d :: r => uptoBulk d + uptoBulkAll r
def uptoBulkEntries {H : Type} : List (Lit × DataW H) → Nat
  | [] => 0
  | x :: r => uptoBulkEntry x + uptoBulkEntries r
def uptoBulkEntry {H : Type} : Lit × DataW H → Nat
  | (.string bytes, d) => bytes.length + uptoBulk d + 1
  | (_, d) => uptoBulk d + 1
 end
def uptoSmall : (H : Type) → List (DataW H) → Bool := fun _ ds => decide (uptoBulkAll ds ≤ 1048576)
def OpenSpec.upto (s : _root_.Go.ChangeSpec) : _root_.Go.OpenSpec := { _root_.Go.OpenSpec.ofChange s with cond := some uptoSmall }

/-- 'shlaw2.NetTells', WHERE WHAT IT READS IS OF BULK AT MOST 1048576: true; the input reads as it did. -/
def netTellsUptoRow : OpenClaim := { program := "ytofgpimoekhfaaa", sum := "f9d67702eb4da69d79471f9e48fe9569bfda9d8856befd43260739a5f7027ab6", func := "sharedhearth/shlaw2.NetTells", spec := "netTells", apart := false, narrowed := true }
def NetTellsUptoSaid : Prop := netTellsUptoRow.holds Try.pinned (OpenSpec.upto netTellsSpec)

/-- 'shlaw2.NetTakes', WHERE WHAT IT READS IS OF BULK AT MOST 1048576: true; the input reads as it did. -/
def netTakesUptoRow : OpenClaim := { program := "ytofgpimoekhfaaa", sum := "f9d67702eb4da69d79471f9e48fe9569bfda9d8856befd43260739a5f7027ab6", func := "sharedhearth/shlaw2.NetTakes", spec := "netTakes", apart := false, narrowed := true }
def NetTakesUptoSaid : Prop := netTakesUptoRow.holds Try.pinned (OpenSpec.upto netTakesSpec)

/-- 'shlaw2.NetSpoils', WHERE WHAT IT READS IS OF BULK AT MOST 1048576: true; the input reads as it did. -/
def netSpoilsUptoRow : OpenClaim := { program := "ytofgpimoekhfaaa", sum := "f9d67702eb4da69d79471f9e48fe9569bfda9d8856befd43260739a5f7027ab6", func := "sharedhearth/shlaw2.NetSpoils", spec := "netSpoils", apart := false, narrowed := true }
def NetSpoilsUptoSaid : Prop := netSpoilsUptoRow.holds Try.pinned (OpenSpec.upto netSpoilsSpec)

/-- 'shlaw5.HomeTells', WHERE WHAT IT READS IS OF BULK AT MOST 1048576: true; the input reads as it did. -/
def homeTellsUptoRow : OpenClaim := { program := "ytofgpimoekhfaaa", sum := "f9d67702eb4da69d79471f9e48fe9569bfda9d8856befd43260739a5f7027ab6", func := "sharedhearth/shlaw5.HomeTells", spec := "homeTells", unfollowed := true, recurses := true, apart := false, narrowed := true }
def HomeTellsUptoSaid : Prop := homeTellsUptoRow.holds Try.pinned (OpenSpec.upto homeTellsSpec)

/-- 'shlaw5.HomeTwice', WHERE WHAT IT READS IS OF BULK AT MOST 1048576: true; the input reads as it did. -/
def homeTwiceUptoRow : OpenClaim := { program := "ytofgpimoekhfaaa", sum := "f9d67702eb4da69d79471f9e48fe9569bfda9d8856befd43260739a5f7027ab6", func := "sharedhearth/shlaw5.HomeTwice", spec := "homeTwice", unfollowed := true, recurses := true, apart := false, narrowed := true }
def HomeTwiceUptoSaid : Prop := homeTwiceUptoRow.holds Try.pinned (OpenSpec.upto homeTwiceSpec)

/-- 'shlaw5.HomeOne', WHERE WHAT IT READS IS OF BULK AT MOST 1048576: true; the input reads as it did. -/
def homeOneUptoRow : OpenClaim := { program := "ytofgpimoekhfaaa", sum := "f9d67702eb4da69d79471f9e48fe9569bfda9d8856befd43260739a5f7027ab6", func := "sharedhearth/shlaw5.HomeOne", spec := "homeOne", unfollowed := true, recurses := true, apart := false, narrowed := true }
def HomeOneUptoSaid : Prop := homeOneUptoRow.holds Try.pinned (OpenSpec.upto homeOneSpec)

/-- 'shlaw4.CoreTells', WHERE WHAT IT READS IS OF BULK AT MOST 1048576: true; the input reads as it did. -/
def coreTellsUptoRow : OpenClaim := { program := "ytofgpimoekhfaaa", sum := "f9d67702eb4da69d79471f9e48fe9569bfda9d8856befd43260739a5f7027ab6", func := "sharedhearth/shlaw4.CoreTells", spec := "coreTells", unfollowed := true, recurses := true, apart := false, narrowed := true }
def CoreTellsUptoSaid : Prop := coreTellsUptoRow.holds Try.pinned (OpenSpec.upto coreTellsSpec)

/-- 'shlaw4.CoreTwice', WHERE WHAT IT READS IS OF BULK AT MOST 1048576: true; the input reads as it did. -/
def coreTwiceUptoRow : OpenClaim := { program := "ytofgpimoekhfaaa", sum := "f9d67702eb4da69d79471f9e48fe9569bfda9d8856befd43260739a5f7027ab6", func := "sharedhearth/shlaw4.CoreTwice", spec := "coreTwice", unfollowed := true, recurses := true, apart := false, narrowed := true }
def CoreTwiceUptoSaid : Prop := coreTwiceUptoRow.holds Try.pinned (OpenSpec.upto coreTwiceSpec)

/-- 'shlaw4.CoreOld', WHERE WHAT IT READS IS OF BULK AT MOST 1048576: true; the input reads as it did. -/
def coreOldUptoRow : OpenClaim := { program := "ytofgpimoekhfaaa", sum := "f9d67702eb4da69d79471f9e48fe9569bfda9d8856befd43260739a5f7027ab6", func := "sharedhearth/shlaw4.CoreOld", spec := "coreOld", unfollowed := true, recurses := true, apart := false, narrowed := true }
def CoreOldUptoSaid : Prop := coreOldUptoRow.holds Try.pinned (OpenSpec.upto coreOldSpec)

/-- 'shlaw4.CoreBusy', WHERE WHAT IT READS IS OF BULK AT MOST 1048576: true; the input reads as it did. -/
def coreBusyUptoRow : OpenClaim := { program := "ytofgpimoekhfaaa", sum := "f9d67702eb4da69d79471f9e48fe9569bfda9d8856befd43260739a5f7027ab6", func := "sharedhearth/shlaw4.CoreBusy", spec := "coreBusy", unfollowed := true, recurses := true, apart := false, narrowed := true }
def CoreBusyUptoSaid : Prop := coreBusyUptoRow.holds Try.pinned (OpenSpec.upto coreBusySpec)

/-- 'shlaw7.CheckAlone', WHERE WHAT IT READS IS OF BULK AT MOST 1048576: true; the input reads as it did. -/
def checkAloneUptoRow : OpenClaim := { program := "ytofgpimoekhfaaa", sum := "f9d67702eb4da69d79471f9e48fe9569bfda9d8856befd43260739a5f7027ab6", func := "sharedhearth/shlaw7.CheckAlone", spec := "checkAlone", unfollowed := true, recurses := true, apart := false, narrowed := true }
def CheckAloneUptoSaid : Prop := checkAloneUptoRow.holds Try.pinned (OpenSpec.upto checkAloneSpec)

/-- 'shlaw7.CheckSame', WHERE WHAT IT READS IS OF BULK AT MOST 1048576: true; the input reads as it did. -/
def checkSameUptoRow : OpenClaim := { program := "ytofgpimoekhfaaa", sum := "f9d67702eb4da69d79471f9e48fe9569bfda9d8856befd43260739a5f7027ab6", func := "sharedhearth/shlaw7.CheckSame", spec := "checkSame", unfollowed := true, recurses := true, apart := false, narrowed := true }
def CheckSameUptoSaid : Prop := checkSameUptoRow.holds Try.pinned (OpenSpec.upto checkSameSpec)

/-- 'shlaw7.CheckKnown', WHERE WHAT IT READS IS OF BULK AT MOST 1048576: true; the input reads as it did. -/
def checkKnownUptoRow : OpenClaim := { program := "ytofgpimoekhfaaa", sum := "f9d67702eb4da69d79471f9e48fe9569bfda9d8856befd43260739a5f7027ab6", func := "sharedhearth/shlaw7.CheckKnown", spec := "checkKnown", unfollowed := true, recurses := true, apart := false, narrowed := true }
def CheckKnownUptoSaid : Prop := checkKnownUptoRow.holds Try.pinned (OpenSpec.upto checkKnownSpec)

/-- 'shlaw7.CheckValue', WHERE WHAT IT READS IS OF BULK AT MOST 1048576: true; the input reads as it did. -/
def checkValueUptoRow : OpenClaim := { program := "ytofgpimoekhfaaa", sum := "f9d67702eb4da69d79471f9e48fe9569bfda9d8856befd43260739a5f7027ab6", func := "sharedhearth/shlaw7.CheckValue", spec := "checkValue", unfollowed := true, recurses := true, apart := false, narrowed := true }
def CheckValueUptoSaid : Prop := checkValueUptoRow.holds Try.pinned (OpenSpec.upto checkValueSpec)

/-- 'shlaw7.CheckSpoilt', WHERE WHAT IT READS IS OF BULK AT MOST 1048576: true; the input reads as it did. -/
def checkSpoiltUptoRow : OpenClaim := { program := "ytofgpimoekhfaaa", sum := "f9d67702eb4da69d79471f9e48fe9569bfda9d8856befd43260739a5f7027ab6", func := "sharedhearth/shlaw7.CheckSpoilt", spec := "checkSpoilt", unfollowed := true, recurses := true, apart := false, narrowed := true }
def CheckSpoiltUptoSaid : Prop := checkSpoiltUptoRow.holds Try.pinned (OpenSpec.upto checkSpoiltSpec)

end Rows
end Go.Proofs.Ytofgpimoekhfaaa
