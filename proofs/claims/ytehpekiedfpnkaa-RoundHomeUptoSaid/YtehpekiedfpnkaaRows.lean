/-
  No cell of these rows narrows 'for every input' (looked for: loops, veiled, ifaces, maps, wideKeys, modest, calm, conditions, laid).
  DERIVED. THE GIVEN ROWS OF THIS SEAT. 11 by the template 'for every input the law returns true; each argument reads behind the call as it read before'; 0 by the template 'total and deterministic' (their statements: YtehpekiedfpnkaaTotals.lean).
  GIVEN WITH THE SEED: the statements are not yours to turn. If you find one false, say at which input.
  Laid BY PROGRAM, IN A SANDBOX (cutbox-rows.mjs): the forced cells as the released guide's own fill.sh prints them over the translation 8f5a31ac1a5d55ee… (all of the seat's roots in one cut). By AI agents, Wed Nov 11 2026. No macro, syntax, notation, axiom, sorry.
-/
import Derived.Test.YtehpekiedfpnkaaChecked
import GoSem.Claim
import GoSem.ClaimJoined
import GoSem.ClaimMapViews
import Derived.JoinedTies
import Derived.KernelRfl
namespace Go.Proofs.Ytehpekiedfpnkaa
/- THE CELL 'sum', in the pinned program and in every row, IS THE sha256 OF THE DUMP (.gsa) THAT YtehpekiedfpnkaaProg.lean LOADS. Nothing in Lean hashes anything: it is a label: what it is worth is what the hold of that sum in a sandbox is worth. -/
noncomputable def Try.pinned : Pinned := { name := "ytehpekiedfpnkaa", sum := "8f5a31ac1a5d55eeb79efebbed2b2592c76857d9677cd4fbbeac31cbc445d715", checked := Try.checked }
namespace Rows
def none {H : Type} : Left H := { results := [], args := [] }

/-- 'shlaw6.ChipTells': WHATEVER THE INPUT: true; the input reads as it did. -/
def chipTellsSpec : ChangeSpec := { name := "chipTells", fn := fun _ => fun
  | [d1, d2, d3] => { results := [.lit (.bool true)], args := [d1, d2, d3] }
  | _ => none }
def chipTellsRow : OpenClaim := { program := "ytehpekiedfpnkaa", sum := "8f5a31ac1a5d55eeb79efebbed2b2592c76857d9677cd4fbbeac31cbc445d715", func := "sharedhearth/shlaw6.ChipTells", spec := "chipTells", unfollowed := true, recurses := true, apart := false }
def ChipTellsSaid : Prop := chipTellsRow.holds Try.pinned (OpenSpec.ofChange chipTellsSpec)

/-- ITS FALSE NEIGHBOUR: 'it returns false'. Refute it at one input. -/
def chipTellsWrong : ChangeSpec := { name := "chipTells", fn := fun _ => fun
  | [d1, d2, d3] => { results := [.lit (.bool false)], args := [d1, d2, d3] }
  | _ => none }
def ChipTellsWrongFalsely : Prop := chipTellsRow.holds Try.pinned (OpenSpec.ofChange chipTellsWrong)

/-- 'shlaw6.ChipSpoilt': WHATEVER THE INPUT: true; the input reads as it did. -/
def chipSpoiltSpec : ChangeSpec := { name := "chipSpoilt", fn := fun _ => fun
  | [d1, d2, d3, d4] => { results := [.lit (.bool true)], args := [d1, d2, d3, d4] }
  | _ => none }
def chipSpoiltRow : OpenClaim := { program := "ytehpekiedfpnkaa", sum := "8f5a31ac1a5d55eeb79efebbed2b2592c76857d9677cd4fbbeac31cbc445d715", func := "sharedhearth/shlaw6.ChipSpoilt", spec := "chipSpoilt", unfollowed := true, recurses := true, apart := false }
def ChipSpoiltSaid : Prop := chipSpoiltRow.holds Try.pinned (OpenSpec.ofChange chipSpoiltSpec)

/-- ITS FALSE NEIGHBOUR: 'it returns false'. Refute it at one input. -/
def chipSpoiltWrong : ChangeSpec := { name := "chipSpoilt", fn := fun _ => fun
  | [d1, d2, d3, d4] => { results := [.lit (.bool false)], args := [d1, d2, d3, d4] }
  | _ => none }
def ChipSpoiltWrongFalsely : Prop := chipSpoiltRow.holds Try.pinned (OpenSpec.ofChange chipSpoiltWrong)

/-- 'shlaw6.ChipTwice': WHATEVER THE INPUT: true; the input reads as it did. -/
def chipTwiceSpec : ChangeSpec := { name := "chipTwice", fn := fun _ => fun
  | [d1, d2, d3] => { results := [.lit (.bool true)], args := [d1, d2, d3] }
  | _ => none }
def chipTwiceRow : OpenClaim := { program := "ytehpekiedfpnkaa", sum := "8f5a31ac1a5d55eeb79efebbed2b2592c76857d9677cd4fbbeac31cbc445d715", func := "sharedhearth/shlaw6.ChipTwice", spec := "chipTwice", unfollowed := true, recurses := true, apart := false }
def ChipTwiceSaid : Prop := chipTwiceRow.holds Try.pinned (OpenSpec.ofChange chipTwiceSpec)

/-- ITS FALSE NEIGHBOUR: 'it returns false'. Refute it at one input. -/
def chipTwiceWrong : ChangeSpec := { name := "chipTwice", fn := fun _ => fun
  | [d1, d2, d3] => { results := [.lit (.bool false)], args := [d1, d2, d3] }
  | _ => none }
def ChipTwiceWrongFalsely : Prop := chipTwiceRow.holds Try.pinned (OpenSpec.ofChange chipTwiceWrong)

/-- 'shlaw6.ChipRefused': WHATEVER THE INPUT: true; the input reads as it did. -/
def chipRefusedSpec : ChangeSpec := { name := "chipRefused", fn := fun _ => fun
  | [d1, d2, d3] => { results := [.lit (.bool true)], args := [d1, d2, d3] }
  | _ => none }
def chipRefusedRow : OpenClaim := { program := "ytehpekiedfpnkaa", sum := "8f5a31ac1a5d55eeb79efebbed2b2592c76857d9677cd4fbbeac31cbc445d715", func := "sharedhearth/shlaw6.ChipRefused", spec := "chipRefused", unfollowed := true, recurses := true, apart := false }
def ChipRefusedSaid : Prop := chipRefusedRow.holds Try.pinned (OpenSpec.ofChange chipRefusedSpec)

/-- ITS FALSE NEIGHBOUR: 'it returns false'. Refute it at one input. -/
def chipRefusedWrong : ChangeSpec := { name := "chipRefused", fn := fun _ => fun
  | [d1, d2, d3] => { results := [.lit (.bool false)], args := [d1, d2, d3] }
  | _ => none }
def ChipRefusedWrongFalsely : Prop := chipRefusedRow.holds Try.pinned (OpenSpec.ofChange chipRefusedWrong)

/-- 'shlaw9.PlayTells': WHATEVER THE INPUT: true; the input reads as it did. -/
def playTellsSpec : ChangeSpec := { name := "playTells", fn := fun _ => fun
  | [d1, d2, d3] => { results := [.lit (.bool true)], args := [d1, d2, d3] }
  | _ => none }
def playTellsRow : OpenClaim := { program := "ytehpekiedfpnkaa", sum := "8f5a31ac1a5d55eeb79efebbed2b2592c76857d9677cd4fbbeac31cbc445d715", func := "sharedhearth/shlaw9.PlayTells", spec := "playTells", unfollowed := true, recurses := true, apart := false }
def PlayTellsSaid : Prop := playTellsRow.holds Try.pinned (OpenSpec.ofChange playTellsSpec)

/-- ITS FALSE NEIGHBOUR: 'it returns false'. Refute it at one input. -/
def playTellsWrong : ChangeSpec := { name := "playTells", fn := fun _ => fun
  | [d1, d2, d3] => { results := [.lit (.bool false)], args := [d1, d2, d3] }
  | _ => none }
def PlayTellsWrongFalsely : Prop := playTellsRow.holds Try.pinned (OpenSpec.ofChange playTellsWrong)

/-- 'shlaw9.PlayOne': WHATEVER THE INPUT: true; the input reads as it did. -/
def playOneSpec : ChangeSpec := { name := "playOne", fn := fun _ => fun
  | [d1, d2] => { results := [.lit (.bool true)], args := [d1, d2] }
  | _ => none }
def playOneRow : OpenClaim := { program := "ytehpekiedfpnkaa", sum := "8f5a31ac1a5d55eeb79efebbed2b2592c76857d9677cd4fbbeac31cbc445d715", func := "sharedhearth/shlaw9.PlayOne", spec := "playOne", unfollowed := true, recurses := true, apart := false }
def PlayOneSaid : Prop := playOneRow.holds Try.pinned (OpenSpec.ofChange playOneSpec)

/-- ITS FALSE NEIGHBOUR: 'it returns false'. Refute it at one input. -/
def playOneWrong : ChangeSpec := { name := "playOne", fn := fun _ => fun
  | [d1, d2] => { results := [.lit (.bool false)], args := [d1, d2] }
  | _ => none }
def PlayOneWrongFalsely : Prop := playOneRow.holds Try.pinned (OpenSpec.ofChange playOneWrong)

/-- 'shlaw9.PlayOrder': WHATEVER THE INPUT: true; the input reads as it did. -/
def playOrderSpec : ChangeSpec := { name := "playOrder", fn := fun _ => fun
  | [d1, d2, d3] => { results := [.lit (.bool true)], args := [d1, d2, d3] }
  | _ => none }
def playOrderRow : OpenClaim := { program := "ytehpekiedfpnkaa", sum := "8f5a31ac1a5d55eeb79efebbed2b2592c76857d9677cd4fbbeac31cbc445d715", func := "sharedhearth/shlaw9.PlayOrder", spec := "playOrder", unfollowed := true, recurses := true, apart := false }
def PlayOrderSaid : Prop := playOrderRow.holds Try.pinned (OpenSpec.ofChange playOrderSpec)

/-- ITS FALSE NEIGHBOUR: 'it returns false'. Refute it at one input. -/
def playOrderWrong : ChangeSpec := { name := "playOrder", fn := fun _ => fun
  | [d1, d2, d3] => { results := [.lit (.bool false)], args := [d1, d2, d3] }
  | _ => none }
def PlayOrderWrongFalsely : Prop := playOrderRow.holds Try.pinned (OpenSpec.ofChange playOrderWrong)

/-- 'shlaw9.PlayParts': WHATEVER THE INPUT: true; the input reads as it did. -/
def playPartsSpec : ChangeSpec := { name := "playParts", fn := fun _ => fun
  | [d1, d2, d3] => { results := [.lit (.bool true)], args := [d1, d2, d3] }
  | _ => none }
def playPartsRow : OpenClaim := { program := "ytehpekiedfpnkaa", sum := "8f5a31ac1a5d55eeb79efebbed2b2592c76857d9677cd4fbbeac31cbc445d715", func := "sharedhearth/shlaw9.PlayParts", spec := "playParts", unfollowed := true, recurses := true, apart := false }
def PlayPartsSaid : Prop := playPartsRow.holds Try.pinned (OpenSpec.ofChange playPartsSpec)

/-- ITS FALSE NEIGHBOUR: 'it returns false'. Refute it at one input. -/
def playPartsWrong : ChangeSpec := { name := "playParts", fn := fun _ => fun
  | [d1, d2, d3] => { results := [.lit (.bool false)], args := [d1, d2, d3] }
  | _ => none }
def PlayPartsWrongFalsely : Prop := playPartsRow.holds Try.pinned (OpenSpec.ofChange playPartsWrong)

/-- 'shlaw8.RoundTells': WHATEVER THE INPUT: true; the input reads as it did. -/
def roundTellsSpec : ChangeSpec := { name := "roundTells", fn := fun _ => fun
  | [d1, d2] => { results := [.lit (.bool true)], args := [d1, d2] }
  | _ => none }
def roundTellsRow : OpenClaim := { program := "ytehpekiedfpnkaa", sum := "8f5a31ac1a5d55eeb79efebbed2b2592c76857d9677cd4fbbeac31cbc445d715", func := "sharedhearth/shlaw8.RoundTells", spec := "roundTells", unfollowed := true, recurses := true, apart := false }
def RoundTellsSaid : Prop := roundTellsRow.holds Try.pinned (OpenSpec.ofChange roundTellsSpec)

/-- ITS FALSE NEIGHBOUR: 'it returns false'. Refute it at one input. -/
def roundTellsWrong : ChangeSpec := { name := "roundTells", fn := fun _ => fun
  | [d1, d2] => { results := [.lit (.bool false)], args := [d1, d2] }
  | _ => none }
def RoundTellsWrongFalsely : Prop := roundTellsRow.holds Try.pinned (OpenSpec.ofChange roundTellsWrong)

/-- 'shlaw8.RoundEnds': WHATEVER THE INPUT: true; the input reads as it did. -/
def roundEndsSpec : ChangeSpec := { name := "roundEnds", fn := fun _ => fun
  | [d1, d2] => { results := [.lit (.bool true)], args := [d1, d2] }
  | _ => none }
def roundEndsRow : OpenClaim := { program := "ytehpekiedfpnkaa", sum := "8f5a31ac1a5d55eeb79efebbed2b2592c76857d9677cd4fbbeac31cbc445d715", func := "sharedhearth/shlaw8.RoundEnds", spec := "roundEnds", unfollowed := true, recurses := true, apart := false }
def RoundEndsSaid : Prop := roundEndsRow.holds Try.pinned (OpenSpec.ofChange roundEndsSpec)

/-- ITS FALSE NEIGHBOUR: 'it returns false'. Refute it at one input. -/
def roundEndsWrong : ChangeSpec := { name := "roundEnds", fn := fun _ => fun
  | [d1, d2] => { results := [.lit (.bool false)], args := [d1, d2] }
  | _ => none }
def RoundEndsWrongFalsely : Prop := roundEndsRow.holds Try.pinned (OpenSpec.ofChange roundEndsWrong)

/-- 'shlaw8.RoundHome': WHATEVER THE INPUT: true; the input reads as it did. -/
def roundHomeSpec : ChangeSpec := { name := "roundHome", fn := fun _ => fun
  | [d1, d2] => { results := [.lit (.bool true)], args := [d1, d2] }
  | _ => none }
def roundHomeRow : OpenClaim := { program := "ytehpekiedfpnkaa", sum := "8f5a31ac1a5d55eeb79efebbed2b2592c76857d9677cd4fbbeac31cbc445d715", func := "sharedhearth/shlaw8.RoundHome", spec := "roundHome", unfollowed := true, recurses := true, apart := false }
def RoundHomeSaid : Prop := roundHomeRow.holds Try.pinned (OpenSpec.ofChange roundHomeSpec)

/-- ITS FALSE NEIGHBOUR: 'it returns false'. Refute it at one input. -/
def roundHomeWrong : ChangeSpec := { name := "roundHome", fn := fun _ => fun
  | [d1, d2] => { results := [.lit (.bool false)], args := [d1, d2] }
  | _ => none }
def RoundHomeWrongFalsely : Prop := roundHomeRow.holds Try.pinned (OpenSpec.ofChange roundHomeWrong)

/- THE SECOND FORM. 'bulk': how many values and letters a reading holds, each counted each time it is reached (what is shared counts as often as it is met; a slice's spare places count too). A statement '..UptoSaid' is the law's where the arguments, and the package variables that the reading takes, are together of bulk at most 1048576: NARROWER than '..Said'. Prove '..Said' where nothing that the law and all that it calls make is longer than what came in: it says more and counts as full. Else prove '..UptoSaid'. A law counts once. -/
mutual
def uptoBulk {H : Type} : DataW H → Nat
  | .lit (.string bytes) => bytes.length + 1
  | .lit _ => 1
  | .nil => 1
  | .ptr d => uptoBulk d + 1
  | .slice elems spare => uptoBulkAll elems + uptoBulkAll spare + 1
  | .agg parts => uptoBulkAll parts + 1
  | .iface _ d => uptoBulk d + 1
  | .map entries => uptoBulkEntries entries + 1
  | .held _ => 1
def uptoBulkAll {H : Type} : List (DataW H) → Nat
  | [] => 0
  | d :: r => uptoBulk d + uptoBulkAll r
def uptoBulkEntries {H : Type} : List (Lit × DataW H) → Nat
  | [] => 0
  | x :: r => uptoBulkEntry x + uptoBulkEntries r
def uptoBulkEntry {H : Type} : Lit × DataW H → Nat
  | (.string bytes, d) => bytes.length + uptoBulk d + 1
  | (_, d) => uptoBulk d + 1
 end
def uptoSmall : (H : Type) → List (DataW H) → Bool := fun _ ds => decide (uptoBulkAll ds ≤ 1048576)
def OpenSpec.upto (s : _root_.Go.ChangeSpec) : _root_.Go.OpenSpec := { _root_.Go.OpenSpec.ofChange s with cond := some uptoSmall }

/-- 'shlaw6.ChipTells', WHERE WHAT IT READS IS OF BULK AT MOST 1048576: true; the input reads as it did. -/
def chipTellsUptoRow : OpenClaim := { program := "ytehpekiedfpnkaa", sum := "8f5a31ac1a5d55eeb79efebbed2b2592c76857d9677cd4fbbeac31cbc445d715", func := "sharedhearth/shlaw6.ChipTells", spec := "chipTells", unfollowed := true, recurses := true, apart := false, narrowed := true }
def ChipTellsUptoSaid : Prop := chipTellsUptoRow.holds Try.pinned (OpenSpec.upto chipTellsSpec)

/-- 'shlaw6.ChipSpoilt', WHERE WHAT IT READS IS OF BULK AT MOST 1048576: true; the input reads as it did. -/
def chipSpoiltUptoRow : OpenClaim := { program := "ytehpekiedfpnkaa", sum := "8f5a31ac1a5d55eeb79efebbed2b2592c76857d9677cd4fbbeac31cbc445d715", func := "sharedhearth/shlaw6.ChipSpoilt", spec := "chipSpoilt", unfollowed := true, recurses := true, apart := false, narrowed := true }
def ChipSpoiltUptoSaid : Prop := chipSpoiltUptoRow.holds Try.pinned (OpenSpec.upto chipSpoiltSpec)

/-- 'shlaw6.ChipTwice', WHERE WHAT IT READS IS OF BULK AT MOST 1048576: true; the input reads as it did. -/
def chipTwiceUptoRow : OpenClaim := { program := "ytehpekiedfpnkaa", sum := "8f5a31ac1a5d55eeb79efebbed2b2592c76857d9677cd4fbbeac31cbc445d715", func := "sharedhearth/shlaw6.ChipTwice", spec := "chipTwice", unfollowed := true, recurses := true, apart := false, narrowed := true }
def ChipTwiceUptoSaid : Prop := chipTwiceUptoRow.holds Try.pinned (OpenSpec.upto chipTwiceSpec)

/-- 'shlaw6.ChipRefused', WHERE WHAT IT READS IS OF BULK AT MOST 1048576: true; the input reads as it did. -/
def chipRefusedUptoRow : OpenClaim := { program := "ytehpekiedfpnkaa", sum := "8f5a31ac1a5d55eeb79efebbed2b2592c76857d9677cd4fbbeac31cbc445d715", func := "sharedhearth/shlaw6.ChipRefused", spec := "chipRefused", unfollowed := true, recurses := true, apart := false, narrowed := true }
def ChipRefusedUptoSaid : Prop := chipRefusedUptoRow.holds Try.pinned (OpenSpec.upto chipRefusedSpec)

/-- 'shlaw9.PlayTells', WHERE WHAT IT READS IS OF BULK AT MOST 1048576: true; the input reads as it did. -/
def playTellsUptoRow : OpenClaim := { program := "ytehpekiedfpnkaa", sum := "8f5a31ac1a5d55eeb79efebbed2b2592c76857d9677cd4fbbeac31cbc445d715", func := "sharedhearth/shlaw9.PlayTells", spec := "playTells", unfollowed := true, recurses := true, apart := false, narrowed := true }
def PlayTellsUptoSaid : Prop := playTellsUptoRow.holds Try.pinned (OpenSpec.upto playTellsSpec)

/-- 'shlaw9.PlayOne', WHERE WHAT IT READS IS OF BULK AT MOST 1048576: true; the input reads as it did. -/
def playOneUptoRow : OpenClaim := { program := "ytehpekiedfpnkaa", sum := "8f5a31ac1a5d55eeb79efebbed2b2592c76857d9677cd4fbbeac31cbc445d715", func := "sharedhearth/shlaw9.PlayOne", spec := "playOne", unfollowed := true, recurses := true, apart := false, narrowed := true }
def PlayOneUptoSaid : Prop := playOneUptoRow.holds Try.pinned (OpenSpec.upto playOneSpec)

/-- 'shlaw9.PlayOrder', WHERE WHAT IT READS IS OF BULK AT MOST 1048576: true; the input reads as it did. -/
def playOrderUptoRow : OpenClaim := { program := "ytehpekiedfpnkaa", sum := "8f5a31ac1a5d55eeb79efebbed2b2592c76857d9677cd4fbbeac31cbc445d715", func := "sharedhearth/shlaw9.PlayOrder", spec := "playOrder", unfollowed := true, recurses := true, apart := false, narrowed := true }
def PlayOrderUptoSaid : Prop := playOrderUptoRow.holds Try.pinned (OpenSpec.upto playOrderSpec)

/-- 'shlaw9.PlayParts', WHERE WHAT IT READS IS OF BULK AT MOST 1048576: true; the input reads as it did. -/
def playPartsUptoRow : OpenClaim := { program := "ytehpekiedfpnkaa", sum := "8f5a31ac1a5d55eeb79efebbed2b2592c76857d9677cd4fbbeac31cbc445d715", func := "sharedhearth/shlaw9.PlayParts", spec := "playParts", unfollowed := true, recurses := true, apart := false, narrowed := true }
def PlayPartsUptoSaid : Prop := playPartsUptoRow.holds Try.pinned (OpenSpec.upto playPartsSpec)

/-- 'shlaw8.RoundTells', WHERE WHAT IT READS IS OF BULK AT MOST 1048576: true; the input reads as it did. -/
def roundTellsUptoRow : OpenClaim := { program := "ytehpekiedfpnkaa", sum := "8f5a31ac1a5d55eeb79efebbed2b2592c76857d9677cd4fbbeac31cbc445d715", func := "sharedhearth/shlaw8.RoundTells", spec := "roundTells", unfollowed := true, recurses := true, apart := false, narrowed := true }
def RoundTellsUptoSaid : Prop := roundTellsUptoRow.holds Try.pinned (OpenSpec.upto roundTellsSpec)

/-- 'shlaw8.RoundEnds', WHERE WHAT IT READS IS OF BULK AT MOST 1048576: true; the input reads as it did. -/
def roundEndsUptoRow : OpenClaim := { program := "ytehpekiedfpnkaa", sum := "8f5a31ac1a5d55eeb79efebbed2b2592c76857d9677cd4fbbeac31cbc445d715", func := "sharedhearth/shlaw8.RoundEnds", spec := "roundEnds", unfollowed := true, recurses := true, apart := false, narrowed := true }
def RoundEndsUptoSaid : Prop := roundEndsUptoRow.holds Try.pinned (OpenSpec.upto roundEndsSpec)

/-- 'shlaw8.RoundHome', WHERE WHAT IT READS IS OF BULK AT MOST 1048576: true; the input reads as it did. -/
def roundHomeUptoRow : OpenClaim := { program := "ytehpekiedfpnkaa", sum := "8f5a31ac1a5d55eeb79efebbed2b2592c76857d9677cd4fbbeac31cbc445d715", func := "sharedhearth/shlaw8.RoundHome", spec := "roundHome", unfollowed := true, recurses := true, apart := false, narrowed := true }
def RoundHomeUptoSaid : Prop := roundHomeUptoRow.holds Try.pinned (OpenSpec.upto roundHomeSpec)

end Rows
end Go.Proofs.Ytehpekiedfpnkaa
