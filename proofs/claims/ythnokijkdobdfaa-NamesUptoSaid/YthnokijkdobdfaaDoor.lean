/- This file proves what the words in front of the program say. No conditions. -/
import Derived.WalkKit
import Derived.JoinedCond
import Derived.Test.YthnokijkdobdfaaTop2
set_option linter.unusedVariables false
set_option linter.unusedSimpArgs false
set_option maxRecDepth 100000
set_option maxHeartbeats 1000000
namespace Go.Proofs.Ythnokijkdobdfaa
open Go
abbrev c32 : Char := Char.ofNat 32
abbrev c46 : Char := Char.ofNat 46
abbrev c47 : Char := Char.ofNat 47
abbrev c48 : Char := Char.ofNat 48
abbrev c49 : Char := Char.ofNat 49
abbrev c50 : Char := Char.ofNat 50
abbrev c51 : Char := Char.ofNat 51
abbrev c52 : Char := Char.ofNat 52
abbrev c53 : Char := Char.ofNat 53
abbrev c54 : Char := Char.ofNat 54
abbrev c55 : Char := Char.ofNat 55
abbrev c56 : Char := Char.ofNat 56
abbrev c57 : Char := Char.ofNat 57
abbrev c78 : Char := Char.ofNat 78
abbrev c97 : Char := Char.ofNat 97
abbrev c98 : Char := Char.ofNat 98
abbrev c99 : Char := Char.ofNat 99
abbrev c100 : Char := Char.ofNat 100
abbrev c101 : Char := Char.ofNat 101
abbrev c102 : Char := Char.ofNat 102
abbrev c104 : Char := Char.ofNat 104
abbrev c109 : Char := Char.ofNat 109
abbrev c110 : Char := Char.ofNat 110
abbrev c111 : Char := Char.ofNat 111
abbrev c112 : Char := Char.ofNat 112
abbrev c114 : Char := Char.ofNat 114
abbrev c115 : Char := Char.ofNat 115
abbrev c116 : Char := Char.ofNat 116
abbrev c117 : Char := Char.ofNat 117
theorem maps_rowed : mapsRowed Try.prog = true := by kernel_rfl
theorem stops_none : (Try.prog.stops == []) = true := by kernel_rfl
theorem knobs_none : (Try.prog.stopKnobs == []) = true := by kernel_rfl
theorem plain_keys : Try.prog.plainKeys = true := by kernel_rfl
theorem stops_heard : Try.prog.stopsHeard = true := by kernel_rfl
theorem first_list : Try.prog.initOrder.toList = [c104, c97, c114, c110, c101, c115, c115, c32, c99, c48, c54, c52, c57, c53, c56, c101, c101, c49, c49, c52, c55, c48, c97, c50, c99, c49, c50, c57, c49, c53, c97, c56, c100, c48, c48, c98, c49, c52, c57, c101, c53, c56, c57, c57, c98, c102, c55, c57, c101, c100, c102, c97, c99, c99, c97, c52, c98, c52, c99, c50, c101, c102, c51, c102, c56, c97, c55, c52, c100, c49, c102, c53, c32, c99, c117, c116, c32, c97, c116, c32, c115, c104, c97, c114, c101, c100, c104, c101, c97, c114, c116, c104, c47, c115, c104, c116, c111, c112, c46, c78, c97, c109, c101, c115] := by
  have h : Try.prog.initOrder = String.ofList [c104, c97, c114, c110, c101, c115, c115, c32, c99, c48, c54, c52, c57, c53, c56, c101, c101, c49, c49, c52, c55, c48, c97, c50, c99, c49, c50, c57, c49, c53, c97, c56, c100, c48, c48, c98, c49, c52, c57, c101, c53, c56, c57, c57, c98, c102, c55, c57, c101, c100, c102, c97, c99, c99, c97, c52, c98, c52, c99, c50, c101, c102, c51, c102, c56, c97, c55, c52, c100, c49, c102, c53, c32, c99, c117, c116, c32, c97, c116, c32, c115, c104, c97, c114, c101, c100, c104, c101, c97, c114, c116, c104, c47, c115, c104, c116, c111, c112, c46, c78, c97, c109, c101, c115] := by kernel_rfl
  rw [h, String.toList_ofList]
theorem first_words : behindMainWord (wordsSigns Try.prog.initOrder.toList) = [[c99, c117, c116], [c97, c116], [c115, c104, c97, c114, c101, c100, c104, c101, c97, c114, c116, c104, c47, c115, c104, c116, c111, c112, c46, c78, c97, c109, c101, c115]] := by
  rw [first_list]; kernel_rfl
theorem lays_not : Try.prog.laysLater = false := by kernel_rfl
theorem no_reflect : Try.prog.bearsReflect = false := by kernel_rfl
theorem no_door : Try.prog.doorRows = [] := by kernel_rfl
theorem strip_none : stripLifts liftWords (behindMainWord (wordsSigns Try.prog.initOrder.toList)) = ([], behindMainWord (wordsSigns Try.prog.initOrder.toList)) := by
  rw [first_words]; kernel_rfl
theorem first_word : (behindMainWord (wordsSigns Try.prog.initOrder.toList)).head? = some [c99, c117, c116] := by
  rw [first_words]; kernel_rfl
theorem head_split {α : Type} {l : List α} {x : α} (h : l.head? = some x) : ∃ r, l = x :: r := by
  cases l with
  | nil => cases h
  | cons y r => cases h; exact ⟨r, rfl⟩
theorem enter_of {P : Program} {r : List (List Char)} (hr : behindMainWord (wordsSigns P.initOrder.toList) = [c99, c117, c116] :: r) (hs : stripLifts liftWords ([c99, c117, c116] :: r) = ([], [c99, c117, c116] :: r)) (h1 : P.doorRows = []) (h2 : P.laysLater = false) (h3 : P.bearsReflect = false) : P.mayEnter = true := by
  unfold Program.mayEnter Program.doorFits
  rw [hr, h1, h2, h3]
  simp only [hs]
  simp [show ([c99, c117, c116] == "gc".toList) = false from by kernel_rfl, show ([c99, c117, c116] == "spec".toList) = false from by kernel_rfl, show ([c99, c117, c116] == "carried".toList) = false from by kernel_rfl, show (some [c99, c117, c116] == some "cut".toList) = true from by kernel_rfl]
theorem make_of {P : Program} {r : List (List Char)} (hr : behindMainWord (wordsSigns P.initOrder.toList) = [c99, c117, c116] :: r) : P.make = some .cut := by
  unfold Program.make; rw [hr]
  rfl
theorem lift_of {P : Program} {r : List (List Char)} (hr : behindMainWord (wordsSigns P.initOrder.toList) = [c99, c117, c116] :: r) (hs : stripLifts liftWords ([c99, c117, c116] :: r) = ([], [c99, c117, c116] :: r)) : P.liftsFinal = false := by
  unfold Program.liftsFinal Program.headLifts; rw [hr, hs]
  simp only
  rw [if_pos (by rfl)]
  rfl
theorem may_enter : Try.prog.mayEnter = true := by
  have hs := strip_none
  obtain ⟨r, hr⟩ := head_split first_word
  rw [hr] at hs
  exact enter_of hr hs no_door lays_not no_reflect
theorem no_lift : Try.prog.liftsFinal = false := by
  have hs := strip_none
  obtain ⟨r, hr⟩ := head_split first_word
  rw [hr] at hs
  exact lift_of hr hs
theorem make_is : Try.prog.make = some .cut := by
  obtain ⟨r, hr⟩ := head_split first_word
  exact make_of hr
end Go.Proofs.Ythnokijkdobdfaa
