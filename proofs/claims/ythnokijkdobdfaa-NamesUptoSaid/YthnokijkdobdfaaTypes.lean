/- This file tells the kinds of this program's data. No conditions. -/
set_option linter.unusedVariables false
namespace Go.Proofs.Ythnokijkdobdfaa
structure Config where
  cores : Int
  lines : Int
deriving DecidableEq, Inhabited
structure Msg where
  kind : Int
  src : Int
  dst : Int
  line : Int
  serial : Int
  turn : Int
  value : Int
  alone : Bool
deriving DecidableEq, Inhabited
structure Line where
  state : Int
  value : Int
  want : Int
  serial : Int
  seen : Int
  gave : Int
  given : Int
deriving DecidableEq, Inhabited
structure Op where
  kind : Int
  line : Int
  value : Int
deriving DecidableEq, Inhabited
structure Core where
  lines : List Line
  wait : Op
deriving DecidableEq, Inhabited
structure Entry where
  value : Int
  owner : Int
  sharers : Int
  phase : Int
  who : Int
  serial : Int
  alone : Bool
  turn : Int
  need : Int
  last : List Int
deriving DecidableEq, Inhabited
structure Chip where
  cores : List Core
  home : List Entry
  frames : List (List UInt8)
deriving DecidableEq, Inhabited
structure Done where
  core : Int
  op : Op
  value : Int
deriving DecidableEq, Inhabited
structure Step where
  kind : Int
  node : Int
  n : Int
  bit : Int
  op : Op
deriving DecidableEq, Inhabited
structure Answer where
  err : Int
  done : Int
deriving DecidableEq, Inhabited
structure Seen where
  states : Int
  bad : Int
  full : Bool
deriving DecidableEq, Inhabited
end Go.Proofs.Ythnokijkdobdfaa
