/-
  No cell of these rows narrows 'for every input' (looked for: loops, veiled, ifaces, maps, wideKeys, modest, calm, conditions, laid).
  DERIVED. THE GIVEN ROWS OF THIS SEAT. 6 by the template 'for every input the law returns true; each argument reads behind the call as it read before'; 0 by the template 'total and deterministic' (their statements: YtkgijpngobgfjaaTotals.lean).
  GIVEN WITH THE SEED: the statements are not yours to turn. If you find one false, say at which input.
  Laid BY PROGRAM, IN A SANDBOX (cutbox-rows.mjs): the forced cells as the released guide's own fill.sh prints them over the translation e418d20b81f34e34… (all of the seat's roots in one cut). By AI agents, Wed Nov 11 2026. No macro, syntax, notation, axiom, sorry.
-/
import Derived.Test.YtkgijpngobgfjaaChecked
import GoSem.Claim
import GoSem.ClaimJoined
import GoSem.ClaimMapViews
import Derived.JoinedTies
import Derived.KernelRfl
namespace Go.Proofs.Ytkgijpngobgfjaa
/- THE CELL 'sum', in the pinned program and in every row, IS THE sha256 OF THE DUMP (.gsa) THAT YtkgijpngobgfjaaProg.lean LOADS. Nothing in Lean hashes anything: it is a label: what it is worth is what the hold of that sum in a sandbox is worth. -/
noncomputable def Try.pinned : Pinned := { name := "ytkgijpngobgfjaa", sum := "e418d20b81f34e34b82832e224ff796556773477804dc316fe392ff7a3242c58", checked := Try.checked }
namespace Rows
def none {H : Type} : Left H := { results := [], args := [] }

/-- 'shtop.TopHand': WHATEVER THE INPUT: true; the input reads as it did. -/
def topHandSpec : ChangeSpec := { name := "topHand", fn := fun _ => fun
  | [d1, d2, d3] => { results := [.lit (.bool true)], args := [d1, d2, d3] }
  | _ => none }
def topHandRow : OpenClaim := { program := "ytkgijpngobgfjaa", sum := "e418d20b81f34e34b82832e224ff796556773477804dc316fe392ff7a3242c58", func := "sharedhearth/shtop.TopHand", spec := "topHand", unfollowed := true, recurses := true, apart := false }
def TopHandSaid : Prop := topHandRow.holds Try.pinned (OpenSpec.ofChange topHandSpec)

/-- ITS FALSE NEIGHBOUR: 'it returns false'. Refute it at one input. -/
def topHandWrong : ChangeSpec := { name := "topHand", fn := fun _ => fun
  | [d1, d2, d3] => { results := [.lit (.bool false)], args := [d1, d2, d3] }
  | _ => none }
def TopHandWrongFalsely : Prop := topHandRow.holds Try.pinned (OpenSpec.ofChange topHandWrong)

/-- 'shtop.TopFlag': WHATEVER THE INPUT: true; the input reads as it did. -/
def topFlagSpec : ChangeSpec := { name := "topFlag", fn := fun _ => fun
  | [d1, d2] => { results := [.lit (.bool true)], args := [d1, d2] }
  | _ => none }
def topFlagRow : OpenClaim := { program := "ytkgijpngobgfjaa", sum := "e418d20b81f34e34b82832e224ff796556773477804dc316fe392ff7a3242c58", func := "sharedhearth/shtop.TopFlag", spec := "topFlag", unfollowed := true, recurses := true, apart := false }
def TopFlagSaid : Prop := topFlagRow.holds Try.pinned (OpenSpec.ofChange topFlagSpec)

/-- ITS FALSE NEIGHBOUR: 'it returns false'. Refute it at one input. -/
def topFlagWrong : ChangeSpec := { name := "topFlag", fn := fun _ => fun
  | [d1, d2] => { results := [.lit (.bool false)], args := [d1, d2] }
  | _ => none }
def TopFlagWrongFalsely : Prop := topFlagRow.holds Try.pinned (OpenSpec.ofChange topFlagWrong)

/-- 'shlaw11.LitmusAll': WHATEVER THE INPUT: true; the input reads as it did. -/
def litmusAllSpec : ChangeSpec := { name := "litmusAll", fn := fun _ => fun
  | [d1, d2, d3] => { results := [.lit (.bool true)], args := [d1, d2, d3] }
  | _ => none }
def litmusAllRow : OpenClaim := { program := "ytkgijpngobgfjaa", sum := "e418d20b81f34e34b82832e224ff796556773477804dc316fe392ff7a3242c58", func := "sharedhearth/shlaw11.LitmusAll", spec := "litmusAll", unfollowed := true, recurses := true, apart := false }
def LitmusAllSaid : Prop := litmusAllRow.holds Try.pinned (OpenSpec.ofChange litmusAllSpec)

/-- ITS FALSE NEIGHBOUR: 'it returns false'. Refute it at one input. -/
def litmusAllWrong : ChangeSpec := { name := "litmusAll", fn := fun _ => fun
  | [d1, d2, d3] => { results := [.lit (.bool false)], args := [d1, d2, d3] }
  | _ => none }
def LitmusAllWrongFalsely : Prop := litmusAllRow.holds Try.pinned (OpenSpec.ofChange litmusAllWrong)

/-- 'shlaw11.LitmusOne': WHATEVER THE INPUT: true; the input reads as it did. -/
def litmusOneSpec : ChangeSpec := { name := "litmusOne", fn := fun _ => fun
  | [d1, d2, d3] => { results := [.lit (.bool true)], args := [d1, d2, d3] }
  | _ => none }
def litmusOneRow : OpenClaim := { program := "ytkgijpngobgfjaa", sum := "e418d20b81f34e34b82832e224ff796556773477804dc316fe392ff7a3242c58", func := "sharedhearth/shlaw11.LitmusOne", spec := "litmusOne", unfollowed := true, recurses := true, apart := false }
def LitmusOneSaid : Prop := litmusOneRow.holds Try.pinned (OpenSpec.ofChange litmusOneSpec)

/-- ITS FALSE NEIGHBOUR: 'it returns false'. Refute it at one input. -/
def litmusOneWrong : ChangeSpec := { name := "litmusOne", fn := fun _ => fun
  | [d1, d2, d3] => { results := [.lit (.bool false)], args := [d1, d2, d3] }
  | _ => none }
def LitmusOneWrongFalsely : Prop := litmusOneRow.holds Try.pinned (OpenSpec.ofChange litmusOneWrong)

/-- 'shlaw11.LitmusAdds': WHATEVER THE INPUT: true; the input reads as it did. -/
def litmusAddsSpec : ChangeSpec := { name := "litmusAdds", fn := fun _ => fun
  | [d1, d2, d3] => { results := [.lit (.bool true)], args := [d1, d2, d3] }
  | _ => none }
def litmusAddsRow : OpenClaim := { program := "ytkgijpngobgfjaa", sum := "e418d20b81f34e34b82832e224ff796556773477804dc316fe392ff7a3242c58", func := "sharedhearth/shlaw11.LitmusAdds", spec := "litmusAdds", unfollowed := true, recurses := true, apart := false }
def LitmusAddsSaid : Prop := litmusAddsRow.holds Try.pinned (OpenSpec.ofChange litmusAddsSpec)

/-- ITS FALSE NEIGHBOUR: 'it returns false'. Refute it at one input. -/
def litmusAddsWrong : ChangeSpec := { name := "litmusAdds", fn := fun _ => fun
  | [d1, d2, d3] => { results := [.lit (.bool false)], args := [d1, d2, d3] }
  | _ => none }
def LitmusAddsWrongFalsely : Prop := litmusAddsRow.holds Try.pinned (OpenSpec.ofChange litmusAddsWrong)

/-- 'shtop.TopBoth': WHATEVER THE INPUT: true; the input reads as it did. -/
def topBothSpec : ChangeSpec := { name := "topBoth", fn := fun _ => fun
  | [d] => { results := [.lit (.bool true)], args := [d] }
  | _ => none }
def topBothRow : OpenClaim := { program := "ytkgijpngobgfjaa", sum := "e418d20b81f34e34b82832e224ff796556773477804dc316fe392ff7a3242c58", func := "sharedhearth/shtop.TopBoth", spec := "topBoth", unfollowed := true, recurses := true, apart := false }
def TopBothSaid : Prop := topBothRow.holds Try.pinned (OpenSpec.ofChange topBothSpec)

/-- ITS FALSE NEIGHBOUR: 'it returns false'. Refute it at one input. -/
def topBothWrong : ChangeSpec := { name := "topBoth", fn := fun _ => fun
  | [d] => { results := [.lit (.bool false)], args := [d] }
  | _ => none }
def TopBothWrongFalsely : Prop := topBothRow.holds Try.pinned (OpenSpec.ofChange topBothWrong)

/- THE SECOND FORM. 'bulk': how many values and letters a reading holds, each counted each time it is reached (what is shared counts as often as it is met; a slice's spare places count too). A statement '..UptoSaid' is the law's where the arguments, and the package variables that the reading takes, are together of bulk at most 1048576: NARROWER than '..Said'. Prove '..Said' where nothing that the law and all that it calls make is longer than what came in: it says more and counts as full. Else prove '..UptoSaid'. A law counts once. -/
mutual
def uptoBulk {H : Type} : DataW H → Nat
  | .lit (.string bytes) => bytes.length + 1
  | .lit _ => 1
  | .nil => 1
  | .ptr d => uptoBulk d + 1
  | .slice elems spare => uptoBulkAll elems + uptoBulkAll spare + 1
  | .agg parts => uptoBulkAll parts + 1
  | .iface _ d => uptoBulk d + 1
  | .map entries => uptoBulkEntries entries + 1
  | .held _ => 1
def uptoBulkAll {H : Type} : List (DataW H) → Nat
  | [] => 0
  | d :: r => uptoBulk d + uptoBulkAll r
def uptoBulkEntries {H : Type} : List (Lit × DataW H) → Nat
  | [] => 0
  | x :: r => uptoBulkEntry x + uptoBulkEntries r
def uptoBulkEntry {H : Type} : Lit × DataW H → Nat
  | (.string bytes, d) => bytes.length + uptoBulk d + 1
  | (_, d) => uptoBulk d + 1
 end
def uptoSmall : (H : Type) → List (DataW H) → Bool := fun _ ds => decide (uptoBulkAll ds ≤ 1048576)
def OpenSpec.upto (s : _root_.Go.ChangeSpec) : _root_.Go.OpenSpec := { _root_.Go.OpenSpec.ofChange s with cond := some uptoSmall }

/-- 'shtop.TopHand', WHERE WHAT IT READS IS OF BULK AT MOST 1048576: true; the input reads as it did. -/
def topHandUptoRow : OpenClaim := { program := "ytkgijpngobgfjaa", sum := "e418d20b81f34e34b82832e224ff796556773477804dc316fe392ff7a3242c58", func := "sharedhearth/shtop.TopHand", spec := "topHand", unfollowed := true, recurses := true, apart := false, narrowed := true }
def TopHandUptoSaid : Prop := topHandUptoRow.holds Try.pinned (OpenSpec.upto topHandSpec)

/-- 'shtop.TopFlag', WHERE WHAT IT READS IS OF BULK AT MOST 1048576: true; the input reads as it did. -/
def topFlagUptoRow : OpenClaim := { program := "ytkgijpngobgfjaa", sum := "e418d20b81f34e34b82832e224ff796556773477804dc316fe392ff7a3242c58", func := "sharedhearth/shtop.TopFlag", spec := "topFlag", unfollowed := true, recurses := true, apart := false, narrowed := true }
def TopFlagUptoSaid : Prop := topFlagUptoRow.holds Try.pinned (OpenSpec.upto topFlagSpec)

/-- 'shlaw11.LitmusAll', WHERE WHAT IT READS IS OF BULK AT MOST 1048576: true; the input reads as it did. -/
def litmusAllUptoRow : OpenClaim := { program := "ytkgijpngobgfjaa", sum := "e418d20b81f34e34b82832e224ff796556773477804dc316fe392ff7a3242c58", func := "sharedhearth/shlaw11.LitmusAll", spec := "litmusAll", unfollowed := true, recurses := true, apart := false, narrowed := true }
def LitmusAllUptoSaid : Prop := litmusAllUptoRow.holds Try.pinned (OpenSpec.upto litmusAllSpec)

/-- 'shlaw11.LitmusOne', WHERE WHAT IT READS IS OF BULK AT MOST 1048576: true; the input reads as it did. -/
def litmusOneUptoRow : OpenClaim := { program := "ytkgijpngobgfjaa", sum := "e418d20b81f34e34b82832e224ff796556773477804dc316fe392ff7a3242c58", func := "sharedhearth/shlaw11.LitmusOne", spec := "litmusOne", unfollowed := true, recurses := true, apart := false, narrowed := true }
def LitmusOneUptoSaid : Prop := litmusOneUptoRow.holds Try.pinned (OpenSpec.upto litmusOneSpec)

/-- 'shlaw11.LitmusAdds', WHERE WHAT IT READS IS OF BULK AT MOST 1048576: true; the input reads as it did. -/
def litmusAddsUptoRow : OpenClaim := { program := "ytkgijpngobgfjaa", sum := "e418d20b81f34e34b82832e224ff796556773477804dc316fe392ff7a3242c58", func := "sharedhearth/shlaw11.LitmusAdds", spec := "litmusAdds", unfollowed := true, recurses := true, apart := false, narrowed := true }
def LitmusAddsUptoSaid : Prop := litmusAddsUptoRow.holds Try.pinned (OpenSpec.upto litmusAddsSpec)

/-- 'shtop.TopBoth', WHERE WHAT IT READS IS OF BULK AT MOST 1048576: true; the input reads as it did. -/
def topBothUptoRow : OpenClaim := { program := "ytkgijpngobgfjaa", sum := "e418d20b81f34e34b82832e224ff796556773477804dc316fe392ff7a3242c58", func := "sharedhearth/shtop.TopBoth", spec := "topBoth", unfollowed := true, recurses := true, apart := false, narrowed := true }
def TopBothUptoSaid : Prop := topBothUptoRow.holds Try.pinned (OpenSpec.upto topBothSpec)

end Rows
end Go.Proofs.Ytkgijpngobgfjaa
