/- This file proves parts of what its law needs: each part is told ahead of it. No conditions. -/
import Derived.Test.YtiofgjolhbgkiaaDoorHM1
import Derived.KernelRfl
import Derived.Shelf.Strings.OnBuilder
import Derived.Shelf.Strconv.Itoa3
import Derived.Shelf.Strconv.ErrVarAll
import Derived.Shelf.Strings.Cut
import Derived.Shelf.Strings.Split
import Derived.Test.YtiofgjolhbgkiaaDoorProg
import Derived.Laws.BytesString
import Derived.Lib.AppendStr
import Derived.Laws.Strings3
import Derived.Below
import Derived.Sort.Grow
import Derived.Deep.Draws
import Derived.Lib.AtoiErrMem
import Derived.Lib.AtoiAll
import Derived.Lib.ItoaNum
set_option linter.unusedVariables false
set_option linter.unusedSimpArgs false
set_option linter.unusedSectionVars false
section
/- This file tells, as plain functions on lists and numbers, what this program reckons: frames, what is on the way, cores, their home, and chips. No program in sight. No conditions. -/
namespace Go.Proofs.YtiofgjolhbgkiaaDoor

def u8 (x : Int) : UInt8 := UInt8.ofNat (x % 256).toNat
def zMsg : Msg := ⟨0, 0, 0, 0, 0, 0, 0, false⟩
def zOp : Op := ⟨0, 0, 0⟩
def zLine : Line := ⟨0, 0, 0, 0, 0, 0, 0⟩
def zCore : Core := ⟨[], zOp⟩
def zChip : Chip := ⟨[], [], []⟩
def zEntry : Entry := ⟨0, -1, 0, 0, 0, 0, false, 0, 0, []⟩
/-- What is wrong with a message. -/
def msgWrong (c : Config) (m : Msg) : Int :=
  if m.kind < 1 ∨ 11 < m.kind then 1
  else if m.src < 0 ∨ c.cores < m.src ∨ m.dst < 0 ∨ c.cores < m.dst ∨ m.line < 0 ∨ c.lines ≤ m.line ∨ m.serial < 0 ∨ 65535 < m.serial ∨ m.turn < 0 ∨ 65535 < m.turn ∨ m.value < 0 ∨ 255 < m.value then 3
  else if (m.src = c.cores) ↔ (m.dst = c.cores) then 6 else 0
def sumI (b : List UInt8) : Int := ((sumOf b).toNat : Int)
def msgHead (m : Msg) : List UInt8 :=
  [u8 m.kind, u8 (16 * m.src + m.dst), u8 m.line, u8 (m.serial / 256), u8 m.serial, u8 (m.turn / 256), u8 m.turn, u8 m.value, if m.alone then 1 else 0, 0]
def msgBytes (m : Msg) : List UInt8 := msgHead m ++ [u8 (sumI (msgHead m) / 256), u8 (sumI (msgHead m))]
def at8 (b : List UInt8) (i : Nat) : Int := ((b.getD i 0).toNat : Int)
def msgOf (b : List UInt8) : Msg :=
  ⟨at8 b 0, at8 b 1 / 16, at8 b 1 % 16, at8 b 2, 256 * at8 b 3 + at8 b 4, 256 * at8 b 5 + at8 b 6, at8 b 7, at8 b 8 == 1⟩
def msgParse (c : Config) (b : List UInt8) : Msg × Int :=
  if b.length ≠ 12 then (zMsg, 2)
  else if sumI (b.take 10) ≠ 256 * at8 b 10 + at8 b 11 then (zMsg, 7)
  else if 1 < at8 b 8 ∨ at8 b 9 ≠ 0 then (zMsg, 2)
  else if msgWrong c (msgOf b) ≠ 0 then (zMsg, msgWrong c (msgOf b))
  else (msgOf b, 0)
def bitTurn (b : List UInt8) (bit : Int) : List UInt8 :=
  if 0 ≤ bit ∧ bit < 8 * (b.length : Int) then b.set (bit / 8).toNat (b.getD (bit / 8).toNat 0 ^^^ (1 <<< UInt8.ofNat (bit % 8).toNat)) else b

/-! ### What is on the way -/
abbrev Frames := List (List UInt8)
def netSend (l : Frames) (b : List UInt8) : Frames := if l.length < 40 then l ++ [b] else l
def netAt (l : Frames) (n : Int) : List UInt8 := l.getD n.toNat []
def netTake (l : Frames) (n : Int) : Frames × List UInt8 × Int :=
  if n < 0 ∨ (l.length : Int) ≤ n then ([], [], 5) else (l.eraseIdx n.toNat, netAt l n, 0)
def netTwice (l : Frames) (n : Int) : Frames × Int :=
  if n < 0 ∨ (l.length : Int) ≤ n then ([], 5) else (netSend l (netAt l n), 0)
def netSpoil (l : Frames) (n bit : Int) : Frames × Int :=
  if n < 0 ∨ (l.length : Int) ≤ n then ([], 5)
  else if bit < 0 ∨ 8 * ((netAt l n).length : Int) ≤ bit then ([], 3)
  else (l.set n.toNat (bitTurn (netAt l n) bit), 0)
def way : Frames → List Msg → Frames
  | l, [] => l
  | l, m :: r => way (netSend l (msgBytes m)) r

/-! ### A core -/
/-- An operation on a value: the value then, and what is told. -/
def opVal (v : Int) (o : Op) : Int × Int :=
  if o.kind = 1 then (v, v) else if o.kind = 2 then (o.value, 0) else if o.kind = 3 then ((v + o.value) % 256, v) else (v, 0)
def lineAt (c : Core) (i : Int) : Line := c.lines.getD i.toNat zLine
def withLine (c : Core) (i : Int) (l : Line) (w : Op) : Core := ⟨c.lines.set i.toNat l, w⟩
def askMsg (l : Line) (id home i : Int) : Msg := ⟨l.want, id, home, i, l.serial, 0, if l.want = 3 then l.value else 0, false⟩
def toldMsg (kind id home i turn value : Int) : Msg := ⟨kind, id, home, i, 0, turn, value, false⟩
def beginLine (l : Line) (o : Op) : Line :=
  if o.kind = 4 then (if l.state = 2 then { l with state := 3, want := 3, serial := l.serial + 1 } else { l with state := 0, value := 0 })
  else if l.state = 2 ∨ l.state = 1 ∧ o.kind = 1 then { l with value := (opVal l.value o).1 }
  else { l with want := if o.kind = 1 then 1 else 2, serial := l.serial + 1 }
/-- Whether it is done at once. -/
def beginDone (l : Line) (o : Op) : Bool := if o.kind = 4 then l.state != 2 else (l.state == 2 || l.state == 1 && o.kind == 1)
def beginTold (l : Line) (o : Op) : Int := if o.kind = 4 then 0 else (opVal l.value o).2
def coreBegin (c : Core) (id home : Int) (o : Op) : Core × List Msg × List Done × Int :=
  if o.kind < 1 ∨ 4 < o.kind then (zCore, [], [], 1)
  else if o.line < 0 ∨ (c.lines.length : Int) ≤ o.line ∨ o.value < 0 ∨ 255 < o.value then (zCore, [], [], 3)
  else if c.wait.kind ≠ 0 ∨ 65535 ≤ (lineAt c o.line).serial then (zCore, [], [], 8)
  else if beginDone (lineAt c o.line) o then (withLine c o.line (beginLine (lineAt c o.line) o) zOp, [], [⟨id, o, beginTold (lineAt c o.line) o⟩], 0)
  else (withLine c o.line (beginLine (lineAt c o.line) o) o, [askMsg (beginLine (lineAt c o.line) o) id home o.line], [], 0)
def hearInv (l : Line) (t : Int) : Line :=
  if l.seen < t then (if l.state = 1 then { l with seen := t, state := 0, value := 0 } else { l with seen := t }) else l
def fetches (l : Line) (t : Int) : Prop := ¬ (t = l.gave ∧ 0 < t) ∧ l.seen < t ∧ (l.state = 2 ∨ l.state = 3)
instance (l : Line) (t : Int) : Decidable (fetches l t) := by unfold fetches; exact inferInstance
def fetched (l : Line) (kind t : Int) : Line :=
  if l.want = 3 then { l with state := 0, value := 0, want := 0, seen := t, gave := t, given := l.value }
  else if kind = 6 then { l with state := 0, value := 0, seen := t, gave := t, given := l.value }
  else { l with state := 1, seen := t, gave := t, given := l.value }
def asked (l : Line) (m : Msg) : Prop := m.serial = l.serial ∧ (l.want = 1 ∧ m.alone = false ∨ l.want = 2 ∧ m.alone = true)
instance (l : Line) (m : Msg) : Decidable (asked l m) := by unfold asked; exact inferInstance
def granted (l : Line) (m : Msg) (o : Op) : Line :=
  { l with state := if m.alone then 2 else 1, value := (opVal m.value o).1, want := 0, seen := m.turn }
def coreHear (c : Core) (id home : Int) (m : Msg) : Core × List Msg × List Done :=
  if m.line < 0 ∨ (c.lines.length : Int) ≤ m.line then (c, [], [])
  else if m.kind = 4 then (withLine c m.line (hearInv (lineAt c m.line) m.turn) c.wait, [toldMsg 8 id home m.line m.turn 0], [])
  else if m.kind = 5 ∨ m.kind = 6 then
    (if fetches (lineAt c m.line) m.turn then
      (withLine c m.line (fetched (lineAt c m.line) m.kind m.turn) (if (lineAt c m.line).want = 3 then zOp else c.wait),
       [toldMsg 9 id home m.line m.turn (lineAt c m.line).value], if (lineAt c m.line).want = 3 then [⟨id, c.wait, 0⟩] else [])
     else if m.turn = (lineAt c m.line).gave ∧ 0 < m.turn then (c, [toldMsg 9 id home m.line (lineAt c m.line).gave (lineAt c m.line).given], [])
     else (c, [], []))
  else if m.kind = 7 then
    (if (lineAt c m.line).serial < m.serial then (c, [], [])
     else if asked (lineAt c m.line) m then
      (withLine c m.line (granted (lineAt c m.line) m c.wait) zOp, [toldMsg 10 id home m.line m.turn 0], [⟨id, c.wait, (opVal m.value c.wait).2⟩])
     else (c, [toldMsg 10 id home m.line m.turn 0], []))
  else if m.kind = 11 ∧ (lineAt c m.line).want = 3 ∧ m.serial = (lineAt c m.line).serial then
    (withLine c m.line { lineAt c m.line with state := 0, value := 0, want := 0 } zOp, [], [⟨id, c.wait, 0⟩])
  else (c, [], [])
def timerFrom (id home : Int) : Int → List Line → List Msg
  | _, [] => []
  | i, l :: r => if l.want ≠ 0 then askMsg l id home i :: timerFrom id home (i + 1) r else timerFrom id home (i + 1) r
def coreTimer (c : Core) (id home : Int) : List Msg := timerFrom id home 0 c.lines

/-! ### The home -/
def hasB (s k : Int) : Bool := s.toNat.testBit k.toNat
def setB (s k : Int) : Int := ((s.toNat ||| (2 ^ k.toNat) : Nat) : Int)
def clrB (s k : Int) : Int := if hasB s k then s - (2 ^ k.toNat : Nat) else s
def says (e : Entry) (line id : Int) : List Msg :=
  if e.phase = 1 then [⟨if e.alone then 6 else 5, id, e.owner, line, 0, e.turn, 0, false⟩]
  else if e.phase = 2 then ([0, 1, 2, 3].filter (fun p => hasB e.need p)).map fun p => ⟨4, id, p, line, 0, e.turn, 0, false⟩
  else if e.phase = 3 then [⟨7, id, e.who, line, e.serial, e.turn, e.value, e.alone⟩]
  else []
def nextE (e : Entry) : Entry :=
  if 0 ≤ e.owner then { e with need := 0, phase := 1 }
  else if e.alone = true ∧ clrB e.sharers e.who ≠ 0 then { e with need := clrB e.sharers e.who, phase := 2 }
  else { e with need := 0, phase := 3 }
def entAt (l : List Entry) (i : Int) : Entry := l.getD i.toNat zEntry
def lastAt (e : Entry) (p : Int) : Int := e.last.getD p.toNat 0
def entGet (e : Entry) (m : Msg) : Entry :=
  nextE { e with last := e.last.set m.src.toNat m.serial, who := m.src, serial := m.serial, alone := m.kind == 2, turn := e.turn + 1 }
def entPut (e : Entry) (m : Msg) : Entry :=
  if lastAt e m.src < m.serial then
    (if e.owner = m.src then { e with last := e.last.set m.src.toNat m.serial, value := m.value, owner := -1 } else { e with last := e.last.set m.src.toNat m.serial })
  else e
def entData (e : Entry) (m : Msg) : Entry :=
  nextE { e with value := m.value, sharers := if e.alone then e.sharers else setB e.sharers e.owner, owner := -1 }
def entGone (e : Entry) (m : Msg) : Entry := { e with need := clrB e.need m.src, sharers := clrB e.sharers m.src }
def entThanks (e : Entry) : Entry :=
  if e.alone then { e with owner := e.who, sharers := 0, phase := 0, who := 0, serial := 0, alone := false }
  else { e with sharers := setB e.sharers e.who, phase := 0, who := 0, serial := 0, alone := false }
/-- What the home's line is behind a message, and what is said. -/
def entHear (e : Entry) (id : Int) (m : Msg) : Entry × List Msg :=
  if m.kind = 1 ∨ m.kind = 2 then
    (if e.phase ≠ 0 ∨ m.serial ≤ lastAt e m.src ∨ 65535 ≤ e.turn then (e, []) else (entGet e m, says (entGet e m) m.line id))
  else if m.kind = 3 then
    (if e.phase ≠ 0 then (e, []) else (entPut e m, [⟨11, id, m.src, m.line, m.serial, 0, 0, false⟩]))
  else if m.kind = 9 ∧ m.turn = e.turn ∧ e.phase = 1 ∧ m.src = e.owner then (entData e m, says (entData e m) m.line id)
  else if m.kind = 8 ∧ m.turn = e.turn ∧ e.phase = 2 ∧ hasB e.need m.src = true then
    (if (entGone e m).need = 0 then (nextE (entGone e m), says (nextE (entGone e m)) m.line id) else (entGone e m, []))
  else if m.kind = 10 ∧ m.turn = e.turn ∧ e.phase = 3 ∧ m.src = e.who then (entThanks e, [])
  else (e, [])
def homeHear (l : List Entry) (id : Int) (m : Msg) : List Entry × List Msg :=
  if m.line < 0 ∨ (l.length : Int) ≤ m.line ∨ m.src < 0 ∨ ((entAt l m.line).last.length : Int) ≤ m.src then (l, [])
  else (l.set m.line.toNat (entHear (entAt l m.line) id m).1, (entHear (entAt l m.line) id m).2)
def saysFrom (id : Int) : Int → List Entry → List Msg
  | _, [] => []
  | i, e :: r => says e i id ++ saysFrom id (i + 1) r
def homeTimer (l : List Entry) (id : Int) : List Msg := saysFrom id 0 l
def homeNew (cores lines : Int) : List Entry := List.replicate lines.toNat { zEntry with last := List.replicate cores.toNat 0 }

/-! ### A chip -/
def cfgWrong (c : Config) : Int := if c.cores < 1 ∨ 4 < c.cores ∨ c.lines < 1 ∨ 4 < c.lines then 3 else 0
def coreNew (lines : Int) : Core := ⟨List.replicate lines.toNat zLine, zOp⟩
def chipNew (c : Config) : Chip × Int :=
  if cfgWrong c ≠ 0 then (zChip, 3) else (⟨List.replicate c.cores.toNat (coreNew c.lines), homeNew c.cores c.lines, []⟩, 0)
def nCores (x : Chip) : Int := (x.cores.length : Int)
def cfgOf (x : Chip) : Config := ⟨nCores x, (x.home.length : Int)⟩
def coreAt (x : Chip) (p : Int) : Core := x.cores.getD p.toNat zCore
def withCore (x : Chip) (p : Int) (c : Core) (l : List Msg) : Chip := ⟨x.cores.set p.toNat c, x.home, way x.frames l⟩
/-- A frame comes: the chip without it hears it. -/
def chipHear (x : Chip) (b : List UInt8) : Chip × List Done :=
  if (msgParse (cfgOf x) b).2 ≠ 0 then (x, [])
  else if (msgParse (cfgOf x) b).1.dst = nCores x then
    (⟨x.cores, (homeHear x.home (nCores x) (msgParse (cfgOf x) b).1).1, way x.frames (homeHear x.home (nCores x) (msgParse (cfgOf x) b).1).2⟩, [])
  else
    (withCore x (msgParse (cfgOf x) b).1.dst (coreHear (coreAt x (msgParse (cfgOf x) b).1.dst) (msgParse (cfgOf x) b).1.dst (nCores x) (msgParse (cfgOf x) b).1).1
      (coreHear (coreAt x (msgParse (cfgOf x) b).1.dst) (msgParse (cfgOf x) b).1.dst (nCores x) (msgParse (cfgOf x) b).1).2.1,
     (coreHear (coreAt x (msgParse (cfgOf x) b).1.dst) (msgParse (cfgOf x) b).1.dst (nCores x) (msgParse (cfgOf x) b).1).2.2)
def noFrame (x : Chip) (n : Int) : Prop := n < 0 ∨ (x.frames.length : Int) ≤ n
instance (x : Chip) (n : Int) : Decidable (noFrame x n) := by unfold noFrame; exact inferInstance
def chipDo (x : Chip) (s : Step) : Chip × List Done × Int :=
  if s.kind = 1 then
    (if s.node < 0 ∨ nCores x ≤ s.node then (zChip, [], 5)
     else if (coreBegin (coreAt x s.node) s.node (nCores x) s.op).2.2.2 ≠ 0 then (zChip, [], (coreBegin (coreAt x s.node) s.node (nCores x) s.op).2.2.2)
     else (withCore x s.node (coreBegin (coreAt x s.node) s.node (nCores x) s.op).1 (coreBegin (coreAt x s.node) s.node (nCores x) s.op).2.1, (coreBegin (coreAt x s.node) s.node (nCores x) s.op).2.2.1, 0))
  else if s.kind = 2 then
    (if noFrame x s.n then (zChip, [], 5)
     else ((chipHear ⟨x.cores, x.home, x.frames.eraseIdx s.n.toNat⟩ (netAt x.frames s.n)).1, (chipHear ⟨x.cores, x.home, x.frames.eraseIdx s.n.toNat⟩ (netAt x.frames s.n)).2, 0))
  else if s.kind = 3 then
    (if noFrame x s.n then (zChip, [], 5) else (⟨x.cores, x.home, x.frames.eraseIdx s.n.toNat⟩, [], 0))
  else if s.kind = 4 then
    (if noFrame x s.n then (zChip, [], 5) else (⟨x.cores, x.home, netSend x.frames (netAt x.frames s.n)⟩, [], 0))
  else if s.kind = 5 then
    (if noFrame x s.n then (zChip, [], 5)
     else if (msgParse (cfgOf x) (netAt x.frames s.n)).2 ≠ 0 then (zChip, [], 6)
     else if (netSpoil x.frames s.n s.bit).2 ≠ 0 then (zChip, [], (netSpoil x.frames s.n s.bit).2)
     else (⟨x.cores, x.home, (netSpoil x.frames s.n s.bit).1⟩, [], 0))
  else if s.kind = 6 then
    (if s.node < 0 ∨ nCores x < s.node then (zChip, [], 5)
     else if s.node = nCores x then (⟨x.cores, x.home, way x.frames (homeTimer x.home s.node)⟩, [], 0)
     else (⟨x.cores, x.home, way x.frames (coreTimer (coreAt x s.node) s.node (nCores x))⟩, [], 0))
  else (zChip, [], 1)
/-- What steps come to; those that don't go are left out. -/
def doAll : Chip → List Step → Chip × List Done
  | x, [] => (x, [])
  | x, s :: r =>
    if (chipDo x s).2.2 = 0 then ((doAll (chipDo x s).1 r).1, (chipDo x s).2.1 ++ (doAll (chipDo x s).1 r).2) else doAll x r
def build (c : Config) (l : List Step) : Chip × List Done :=
  if (chipNew c).2 ≠ 0 then (zChip, []) else doAll (chipNew c).1 (l.take 300)
end Go.Proofs.YtiofgjolhbgkiaaDoor
end
section
/- This file proves plain laws of memory that is one: what an operation does to a list of numbers, and what it tells. No program in sight. No conditions. -/
namespace Go.Proofs.YtiofgjolhbgkiaaDoor
open Go

def flatDo (m : List Int) (o : Op) : List Int × Int × Int :=
  if o.kind < 1 ∨ 4 < o.kind then ([], 0, 1)
  else if o.line < 0 ∨ (m.length : Int) ≤ o.line ∨ o.value < 0 ∨ 255 < o.value then ([], 0, 3)
  else (m.set o.line.toNat (opVal (m.getD o.line.toNat 0) o).1, (opVal (m.getD o.line.toNat 0) o).2, 0)
def playFrom (m : List Int) (i : Int) : List Done → List Int × Int
  | [] => (m, -1)
  | d :: r => if (flatDo m d.op).2.2 ≠ 0 ∨ (flatDo m d.op).2.1 ≠ d.value then (m, i) else playFrom (flatDo m d.op).1 (i + 1) r
def zeros (lines : Int) : List Int := List.replicate lines.toNat 0
def flatPlay (lines : Int) (l : List Done) : List Int × Int := playFrom (zeros lines) 0 l

theorem flatDo_kind {m : List Int} {o : Op} (h : o.kind < 1 ∨ 4 < o.kind) : flatDo m o = ([], 0, 1) := by unfold flatDo; rw [if_pos h]
theorem flatDo_range {m : List Int} {o : Op} (h1 : ¬ (o.kind < 1 ∨ 4 < o.kind)) (h : o.line < 0 ∨ (m.length : Int) ≤ o.line ∨ o.value < 0 ∨ 255 < o.value) : flatDo m o = ([], 0, 3) := by unfold flatDo; rw [if_neg h1, if_pos h]
theorem flatDo_ok {m : List Int} {o : Op} {e : Int} (h1 : ¬ (o.kind < 1 ∨ 4 < o.kind)) (h : ¬ (o.line < 0 ∨ (m.length : Int) ≤ o.line ∨ o.value < 0 ∨ 255 < o.value)) (he : m[o.line.toNat]? = some e) : flatDo m o = (m.set o.line.toNat (opVal e o).1, (opVal e o).2, 0) := by
  unfold flatDo; rw [if_neg h1, if_neg h]; simp [List.getD, he]
theorem set_same {m : List Int} {i : Nat} {e : Int} (h : m[i]? = some e) : m.set i e = m := by
  apply List.ext_getElem?
  intro j
  by_cases hij : i = j
  · subst hij; rw [List.getElem?_set_self (by exact (List.getElem?_eq_some_iff.1 h).1), h]
  · rw [List.getElem?_set_ne hij]
theorem opVal_in {v : Int} {o : Op} (hv : In64 v) (h1 : 0 ≤ o.value) (h2 : o.value ≤ 255) : In64 (opVal v o).1 := by
  unfold opVal In64 at *
  split
  · exact hv
  · split
    · simp only; omega
    · split
      · simp only; omega
      · exact hv
theorem flatDo_len {m : List Int} {o : Op} : (flatDo m o).1.length ≤ m.length := by
  unfold flatDo; split
  · simp
  · split <;> simp
theorem drop_at {α : Type} {l : List α} {k : Nat} {d : α} (h : l[k]? = some d) : l.drop k = d :: l.drop (k + 1) := by
  obtain ⟨hk, he⟩ := List.getElem?_eq_some_iff.1 h
  rw [List.drop_eq_getElem_cons hk, he]
theorem playFrom_stop {m : List Int} {i : Int} {d : Done} {r : List Done} (h : (flatDo m d.op).2.2 ≠ 0 ∨ (flatDo m d.op).2.1 ≠ d.value) : playFrom m i (d :: r) = (m, i) := by simp only [playFrom]; rw [if_pos h]
theorem playFrom_go {m : List Int} {i : Int} {d : Done} {r : List Done} (h : ¬ ((flatDo m d.op).2.2 ≠ 0 ∨ (flatDo m d.op).2.1 ≠ d.value)) : playFrom m i (d :: r) = playFrom (flatDo m d.op).1 (i + 1) r := by simp only [playFrom]; rw [if_neg h]

theorem flatDo_err {m : List Int} {o : Op} (h : (flatDo m o).2.2 ≠ 0) : (flatDo m o).1 = [] := by
  unfold flatDo at h ⊢
  split
  · rfl
  · split
    · rfl
    · rw [if_neg (by assumption), if_neg (by assumption)] at h; exact absurd rfl h
/-- A store that is no error. -/
theorem flatDo_stored {m : List Int} {line v : Int} (h : (flatDo m ⟨2, line, v⟩).2.2 = 0) : 0 ≤ line ∧ line < m.length ∧ (flatDo m ⟨2, line, v⟩).1 = m.set line.toNat v := by
  unfold flatDo at h ⊢
  rw [if_neg (by simp only; omega)] at h ⊢
  split at h
  · exact absurd h (by decide)
  · rename_i hn
    rw [if_neg hn]
    simp only [not_or, Int.not_lt, Int.not_le] at hn
    exact ⟨hn.1, hn.2.1, by simp [opVal]⟩
theorem flatDo_load {m : List Int} {line : Int} : flatDo m ⟨1, line, 0⟩ = if line < 0 ∨ (m.length : Int) ≤ line then ([], 0, 3) else (m.set line.toNat (m.getD line.toNat 0), m.getD line.toNat 0, 0) := by
  unfold flatDo
  rw [if_neg (by simp only; omega)]
  by_cases h : line < 0 ∨ (m.length : Int) ≤ line
  · rw [if_pos h, if_pos (by simp only; omega)]
  · rw [if_neg h, if_neg (by simp only; omega)]; simp [opVal]
theorem flatReads_same {m : List Int} {line v : Int} (h : (flatDo m ⟨2, line, v⟩).2.2 = 0) : (flatDo (flatDo m ⟨2, line, v⟩).1 ⟨1, line, 0⟩).2.1 = v ∧ (flatDo (flatDo m ⟨2, line, v⟩).1 ⟨1, line, 0⟩).2.2 = 0 := by
  obtain ⟨h0, h1, h2⟩ := flatDo_stored h
  rw [h2, flatDo_load, if_neg (by rw [List.length_set]; omega)]
  refine ⟨?_, rfl⟩
  simp only [List.getD]
  rw [List.getElem?_set_self (by omega)]; rfl
theorem flatReads_err {m : List Int} {line v other : Int} (h : (flatDo m ⟨2, line, v⟩).2.2 = 0) : (flatDo m ⟨1, other, 0⟩).2.2 = (flatDo (flatDo m ⟨2, line, v⟩).1 ⟨1, other, 0⟩).2.2 := by
  obtain ⟨h0, h1, h2⟩ := flatDo_stored h
  rw [h2, flatDo_load, flatDo_load, List.length_set]
  split <;> rfl
theorem flatReads_other {m : List Int} {line v other : Int} (h : (flatDo m ⟨2, line, v⟩).2.2 = 0) (hne : other ≠ line) : (flatDo m ⟨1, other, 0⟩).2.1 = (flatDo (flatDo m ⟨2, line, v⟩).1 ⟨1, other, 0⟩).2.1 := by
  obtain ⟨h0, h1, h2⟩ := flatDo_stored h
  rw [h2, flatDo_load, flatDo_load, List.length_set]
  split
  · rfl
  · rename_i hn
    simp only [List.getD]
    rw [List.getElem?_set_ne (by omega)]
end Go.Proofs.YtiofgjolhbgkiaaDoor
end
section
/- This file proves how the arguments of this program read as its lists and structs. No conditions. -/
set_option maxHeartbeats 1000000
set_option maxRecDepth 8000
namespace Go.Proofs.YtiofgjolhbgkiaaDoor
open Go Go.ChangeShapes Go.WideShapes Go.ChangeAt Go.RowKit
theorem laid_out : laidOutB Tryd.prog = true := by kernel_rfl
theorem kids : Kids Tryd.prog (· < Tryd.prog.types.size) := kids_rows laid_out (by kernel_rfl)
theorem full : ∀ t e, t < Tryd.prog.types.size → Tryd.prog.underlying t = some (.slice e) → 0 < Tryd.prog.cellsOf e := slices_full_of Tryd.prog (by kernel_rfl)
theorem own : ownKnob Tryd.prog.godebug = none := by kernel_rfl
theorem co_3 : Tryd.prog.cellsOf 3 = 1 := by kernel_rfl
theorem co_4 : Tryd.prog.cellsOf 4 = 1 := by kernel_rfl
theorem co_5 : Tryd.prog.cellsOf 5 = 1 := by kernel_rfl
theorem reads_3 : Reads Tryd.prog Int 3 := reads_int Tryd.underlying3
theorem reads_4 : Reads Tryd.prog Bool 4 := reads_bool Tryd.underlying4
theorem reads_5 : Reads Tryd.prog UInt8 5 := reads_byte Tryd.underlying5
theorem co_25 : Tryd.prog.cellsOf 25 = 3 := by kernel_rfl
theorem reads_25 : Reads Tryd.prog Op 25 := by
  intro H enc W sp held fuel cs d ps h hb
  obtain ⟨hl, hf⟩ := fields_of Tryd.underlying25 co_25 h hb
  obtain ⟨x0, h0, w0⟩ := (hf 0 _ rfl).int Tryd.underlying3 co_3
  obtain ⟨x1, h1, w1⟩ := (hf 1 _ rfl).int Tryd.underlying3 co_3
  obtain ⟨x2, h2, w2⟩ := (hf 2 _ rfl).int Tryd.underlying3 co_3
  exact ⟨⟨x0, x1, x2⟩, len3 hl h0 h1 h2, w0, w1, w2⟩
theorem co_27 : Tryd.prog.cellsOf 27 = 7 := by kernel_rfl
theorem reads_27 : Reads Tryd.prog Step 27 := by
  intro H enc W sp held fuel cs d ps h hb
  obtain ⟨hl, hf⟩ := fields_of Tryd.underlying27 co_27 h hb
  obtain ⟨x0, h0, w0⟩ := (hf 0 _ rfl).int Tryd.underlying3 co_3
  obtain ⟨x1, h1, w1⟩ := (hf 1 _ rfl).int Tryd.underlying3 co_3
  obtain ⟨x2, h2, w2⟩ := (hf 2 _ rfl).int Tryd.underlying3 co_3
  obtain ⟨x3, h3, w3⟩ := (hf 3 _ rfl).int Tryd.underlying3 co_3
  obtain ⟨x4, m4, g4, w4⟩ := FT.sub (α := Op) reads_25 co_25 (hf 4 _ rfl)
  obtain ⟨h4a, h4b, h4c⟩ := op_mid g4
  exact ⟨⟨x0, x1, x2, x3, x4⟩, len7 hl h0 h1 h2 h3 h4a h4b h4c, w0, w1, w2, w3, w4.1, w4.2.1, w4.2.2⟩
theorem reads_64 : Reads Tryd.prog (List (Int)) 64 := reads_slice Tryd.underlying64 co_3 (by decide) reads_3
theorem co_64 : Tryd.prog.cellsOf 64 = 1 := by kernel_rfl
theorem reads_43 : Reads Tryd.prog (List (UInt8)) 43 := reads_slice Tryd.underlying43 co_5 (by decide) reads_5
theorem co_43 : Tryd.prog.cellsOf 43 = 1 := by kernel_rfl
theorem reads_22 : Reads Tryd.prog (List (Step)) 22 := reads_slice Tryd.underlying22 co_27 (by decide) reads_27
theorem co_22 : Tryd.prog.cellsOf 22 = 1 := by kernel_rfl
end Go.Proofs.YtiofgjolhbgkiaaDoor
end
section
/- This file lays the contracts of five functions of the library at this program: each is one application of what the library proves of any program. No conditions. -/
namespace Go.Proofs
open Go.Shelf
def Tryd.lays156_ren : Go.Shelf.Ren := ⟨fun | 156 => 17 | 165 => 28 | 166 => 21 | 169 => 23 | 240 => 29 | 241 => 39 | 276 => 40 | 277 => 49 | n => n, fun | 31 => 37 | 9 => 9 | 3 => 3 | 4 => 4 | 0 => 0 | 20 => 20 | 72 => 45 | 76 => 48 | 70 => 42 | 37 => 43 | 75 => 47 | 127 => 56 | 164 => 66 | 5 => 5 | 80 => 51 | n => n, fun | n => n⟩
theorem Tryd.lays156 : Go.Proofs.Lays.n156 Tryd.prog Tryd.lays156_ren := {
  mixed := by kernel_rfl
  f156 := Tryd.func17.trans (congrArg some (by kernel_rfl))
  f165 := Tryd.func28.trans (congrArg some (by kernel_rfl))
  f166 := Tryd.func21.trans (congrArg some (by kernel_rfl))
  f169 := Tryd.func23.trans (congrArg some (by kernel_rfl))
  f240 := Tryd.func29.trans (congrArg some (by kernel_rfl))
  f241 := Tryd.func39.trans (congrArg some (by kernel_rfl))
  f276 := Tryd.func40.trans (congrArg some (by kernel_rfl))
  f277 := Tryd.func49.trans (congrArg some (by kernel_rfl))
  t0 := Tryd.underlying0
  a0 := Tryd.isAgg0
  z0 := Tryd.sizeOf0
  v0 := Tryd.zeroValue0
  t3 := Tryd.underlying3
  a3 := Tryd.isAgg3
  z3 := Tryd.sizeOf3
  v3 := Tryd.zeroValue3
  t4 := Tryd.underlying4
  a4 := Tryd.isAgg4
  z4 := Tryd.sizeOf4
  v4 := Tryd.zeroValue4
  t9 := Tryd.underlying9
  a9 := Tryd.isAgg9
  z9 := Tryd.sizeOf9
  v9 := Tryd.zeroValue9
  t20 := Tryd.underlying20
  a20 := Tryd.isAgg20
  z20 := Tryd.sizeOf20
  v20 := Tryd.zeroValue20
  t31 := Tryd.underlying37
  a31 := Tryd.isAgg37
  z31 := Tryd.sizeOf37
  v31 := Tryd.zeroValue37
  t37 := Tryd.underlying43
  a37 := Tryd.isAgg43
  z37 := Tryd.sizeOf43
  v37 := Tryd.zeroValue43
  t70 := Tryd.underlying42
  a70 := Tryd.isAgg42
  z70 := Tryd.sizeOf42
  v70 := Tryd.zeroValue42
  t72 := Tryd.underlying45
  a72 := Tryd.isAgg45
  z72 := Tryd.sizeOf45
  v72 := Tryd.zeroValue45
  t75 := Tryd.underlying47
  a75 := Tryd.isAgg47
  z75 := Tryd.sizeOf47
  v75 := Tryd.zeroValue47
  t76 := Tryd.underlying48
  a76 := Tryd.isAgg48
  z76 := Tryd.sizeOf48
  v76 := Tryd.zeroValue48
  t127 := Tryd.underlying56
  a127 := Tryd.isAgg56
  z127 := Tryd.sizeOf56
  v127 := Tryd.zeroValue56
  t164 := Tryd.underlying66
  a164 := Tryd.isAgg66
  z164 := Tryd.sizeOf66
  v164 := Tryd.zeroValue66 }
theorem Tryd.Builder_Extra_156 : Builder.Extra Tryd.prog Tryd.lays156_ren := {
  sizeBuilder := by kernel_rfl
  liesBuilder := by kernel_rfl
  t5 := Tryd.underlying5
  a5 := Tryd.isAgg5
  z5 := Tryd.sizeOf5
  v5 := Tryd.zeroValue5
  infoByte := by kernel_rfl
  cellsByte := by kernel_rfl
  sizeByte := by kernel_rfl
  neB5 := by decide }
open Go.RowKit in
/-- strings.Join: "Join concatenates the elements of its first argument to create a single string. The separator string sep is placed between elements in the resulting string.": HOWEVER MANY ELEMENTS. Below the heap's end the world is as it was. (LAID: no walk: one application.) -/
theorem Tryd.strings_Join (bk o c : Nat) (xs : List ByteArray) (sep : ByteArray) (w : World) (hcells : ∀ (j : Nat) x, xs[j]? = some x → w.cell? ⟨bk, o + j, none⟩ = some (.string x)) (hbk : bk < w.heap.size) (hN : xs.length ≤ 140737488355328) (hcap : xs.length ≤ c) (hlen : (Lib.join (xs.map (·.data.toList)) sep.data.toList).length ≤ 140737488355328) :
    Calls Tryd.prog 17 #[.slice (some ⟨bk, o, none⟩) xs.length c, .string sep] w fun e w' => e = .returned (.string ⟨(Lib.join (xs.map (·.data.toList)) sep.data.toList).toArray⟩) ∧ Below w.heap.size w w' := Any.strings_Join Tryd.lays156 Tryd.Builder_Extra_156 bk o c xs sep w hcells hbk hN hcap hlen
def Tryd.laysM171_ren : Go.Shelf.Ren := ⟨fun | 171 => 15 | 243 => 27 | 246 => 38 | 283 => 45 | 284 => 46 | 285 => 47 | 286 => 48 | 129 => 63 | 317 => 62 | 318 => 64 | 319 => 65 | 320 => 66 | 337 => 75 | 338 => 76 | n => n, fun | 3 => 3 | 9 => 9 | 2 => 2 | 4 => 4 | 171 => 71 | 0 => 0 | 53 => 72 | 37 => 43 | 5 => 5 | 173 => 75 | 212 => 89 | 51 => 90 | 20 => 20 | 213 => 91 | 46 => 80 | 232 => 111 | 233 => 112 | n => n, fun | 17 => 1 | 18 => 4 | 19 => 5 | n => n⟩
theorem Tryd.laysM171 : Go.Proofs.LaysM.n171 Tryd.prog Tryd.laysM171_ren := {
  mixed := by kernel_rfl
  f129 := Tryd.func63.trans (congrArg some (by kernel_rfl))
  f171 := Tryd.func15.trans (congrArg some (by kernel_rfl))
  f243 := Tryd.func27.trans (congrArg some (by kernel_rfl))
  f246 := Tryd.func38.trans (congrArg some (by kernel_rfl))
  f283 := Tryd.func45.trans (congrArg some (by kernel_rfl))
  f284 := Tryd.func46.trans (congrArg some (by kernel_rfl))
  f285 := Tryd.func47.trans (congrArg some (by kernel_rfl))
  f286 := Tryd.func48.trans (congrArg some (by kernel_rfl))
  f317 := Tryd.func62.trans (congrArg some (by kernel_rfl))
  f318 := Tryd.func64.trans (congrArg some (by kernel_rfl))
  f319 := Tryd.func65.trans (congrArg some (by kernel_rfl))
  f320 := Tryd.func66.trans (congrArg some (by kernel_rfl))
  f337 := Tryd.func75.trans (congrArg some (by kernel_rfl))
  f338 := Tryd.func76.trans (congrArg some (by kernel_rfl))
  t0 := Tryd.underlying0
  a0 := Tryd.isAgg0
  z0 := Tryd.sizeOf0
  v0 := Tryd.zeroValue0
  t2 := Tryd.underlying2
  a2 := Tryd.isAgg2
  z2 := Tryd.sizeOf2
  v2 := Tryd.zeroValue2
  t3 := Tryd.underlying3
  a3 := Tryd.isAgg3
  z3 := Tryd.sizeOf3
  v3 := Tryd.zeroValue3
  t4 := Tryd.underlying4
  a4 := Tryd.isAgg4
  z4 := Tryd.sizeOf4
  v4 := Tryd.zeroValue4
  t5 := Tryd.underlying5
  a5 := Tryd.isAgg5
  z5 := Tryd.sizeOf5
  v5 := Tryd.zeroValue5
  t9 := Tryd.underlying9
  a9 := Tryd.isAgg9
  z9 := Tryd.sizeOf9
  v9 := Tryd.zeroValue9
  t20 := Tryd.underlying20
  a20 := Tryd.isAgg20
  z20 := Tryd.sizeOf20
  v20 := Tryd.zeroValue20
  t37 := Tryd.underlying43
  a37 := Tryd.isAgg43
  z37 := Tryd.sizeOf43
  v37 := Tryd.zeroValue43
  t46 := Tryd.underlying80
  a46 := Tryd.isAgg80
  z46 := Tryd.sizeOf80
  v46 := Tryd.zeroValue80
  t51 := Tryd.underlying90
  a51 := Tryd.isAgg90
  z51 := Tryd.sizeOf90
  v51 := Tryd.zeroValue90
  t53 := Tryd.underlying72
  a53 := Tryd.isAgg72
  z53 := Tryd.sizeOf72
  v53 := Tryd.zeroValue72
  t171 := Tryd.underlying71
  a171 := Tryd.isAgg71
  z171 := Tryd.sizeOf71
  v171 := Tryd.zeroValue71
  t173 := Tryd.underlying75
  a173 := Tryd.isAgg75
  z173 := Tryd.sizeOf75
  v173 := Tryd.zeroValue75
  t212 := Tryd.underlying89
  a212 := Tryd.isAgg89
  z212 := Tryd.sizeOf89
  v212 := Tryd.zeroValue89
  t213 := Tryd.underlying91
  a213 := Tryd.isAgg91
  z213 := Tryd.sizeOf91
  t232 := Tryd.underlying111
  a232 := Tryd.isAgg111
  z232 := Tryd.sizeOf111
  v232 := Tryd.zeroValue111
  t233 := Tryd.underlying112
  a233 := Tryd.isAgg112
  z233 := Tryd.sizeOf112
  v233 := Tryd.zeroValue112
  g17 := by kernel_rfl
  g18 := by kernel_rfl
  g19 := by kernel_rfl
  i0 := by kernel_rfl
  i2 := by kernel_rfl
  i3 := by kernel_rfl
  i4 := by kernel_rfl
  i5 := by kernel_rfl
  i9 := by kernel_rfl
  i20 := by kernel_rfl
  i37 := by kernel_rfl
  i46 := by kernel_rfl
  i51 := by kernel_rfl
  i53 := by kernel_rfl
  i171 := by kernel_rfl
  i173 := by kernel_rfl
  i212 := by kernel_rfl
  i232 := by kernel_rfl
  i233 := by kernel_rfl
  m17 := by kernel_rfl
  m18 := by kernel_rfl
  m19 := by kernel_rfl }
open Go.RowKit Go.Sort Go.Lib in
/-- strconv.Itoa: "Itoa is equivalent to FormatInt(int64(i), 10).": i's DECIMAL NUMERAL ('Lib.itoa': a '-' where i is negative, then the digits), FOR EVERY int. The world behind the call: the world before it, new blocks behind the heap (the library's 'var a [24]byte'), draws. (LAID: no walk: one application.) -/
theorem Tryd.strconv_Itoa (n : Int) (h0 : -9223372036854775808 ≤ n) (h1 : n ≤ 9223372036854775807) (w : World) (htab : Lib.TabIs Tryd.prog w "internal/strconv.uint64pow10" .u64 Lib.pow10Tab) :
    Calls Tryd.prog 15 #[.int .i64 n] w fun e w' => e = .returned (.string ⟨(Lib.itoa n).toArray⟩) ∧ ∃ k os, w' = grow (w.drewN k) os := Any.strconv_Itoa Tryd.laysM171 n h0 h1 w htab
def Tryd.laysC172_ren : Go.Shelf.Ren := ⟨fun | 172 => 37 | 244 => 43 | 245 => 44 | 247 => 57 | 279 => 58 | 280 => 59 | 281 => 60 | 282 => 61 | 287 => 72 | 316 => 73 | 171 => 15 | 205 => 74 | 321 => 78 | 322 => 79 | 243 => 27 | 246 => 38 | 283 => 45 | 284 => 46 | 285 => 47 | 286 => 48 | 129 => 63 | 317 => 62 | 318 => 64 | 319 => 65 | 320 => 66 | 337 => 75 | 338 => 76 | n => n, fun | 9 => 9 | 3 => 3 | 75 => 47 | 76 => 48 | 4 => 4 | 5 => 5 | 167 => 82 | 37 => 43 | 0 => 0 | 85 => 83 | 2 => 2 | 168 => 85 | 53 => 72 | 175 => 99 | 46 => 80 | 210 => 103 | 127 => 56 | 145 => 110 | 143 => 108 | 21 => 21 | 171 => 71 | 173 => 75 | 212 => 89 | 51 => 90 | 20 => 20 | 213 => 91 | 232 => 111 | 233 => 112 | 80 => 51 | n => n, fun | 15 => 2 | 16 => 3 | 17 => 1 | 18 => 4 | 19 => 5 | n => n⟩
theorem Tryd.laysC172 : Go.Proofs.LaysC.n172 Tryd.prog Tryd.laysC172_ren := {
  mixed := by kernel_rfl
  f129 := Tryd.func63.trans (congrArg some (by kernel_rfl))
  f171 := Tryd.func15.trans (congrArg some (by kernel_rfl))
  f172 := Tryd.func37.trans (congrArg some (by kernel_rfl))
  f205 := Tryd.func74.trans (congrArg some (by kernel_rfl))
  f243 := Tryd.func27.trans (congrArg some (by kernel_rfl))
  f244 := Tryd.func43.trans (congrArg some (by kernel_rfl))
  f245 := Tryd.func44.trans (congrArg some (by kernel_rfl))
  f246 := Tryd.func38.trans (congrArg some (by kernel_rfl))
  f247 := Tryd.func57.trans (congrArg some (by kernel_rfl))
  f279 := Tryd.func58.trans (congrArg some (by kernel_rfl))
  f280 := Tryd.func59.trans (congrArg some (by kernel_rfl))
  f281 := Tryd.func60.trans (congrArg some (by kernel_rfl))
  f282 := Tryd.func61.trans (congrArg some (by kernel_rfl))
  f283 := Tryd.func45.trans (congrArg some (by kernel_rfl))
  f284 := Tryd.func46.trans (congrArg some (by kernel_rfl))
  f285 := Tryd.func47.trans (congrArg some (by kernel_rfl))
  f286 := Tryd.func48.trans (congrArg some (by kernel_rfl))
  f287 := Tryd.func72.trans (congrArg some (by kernel_rfl))
  f316 := Tryd.func73.trans (congrArg some (by kernel_rfl))
  f317 := Tryd.func62.trans (congrArg some (by kernel_rfl))
  f318 := Tryd.func64.trans (congrArg some (by kernel_rfl))
  f319 := Tryd.func65.trans (congrArg some (by kernel_rfl))
  f320 := Tryd.func66.trans (congrArg some (by kernel_rfl))
  f321 := Tryd.func78.trans (congrArg some (by kernel_rfl))
  f322 := Tryd.func79.trans (congrArg some (by kernel_rfl))
  f337 := Tryd.func75.trans (congrArg some (by kernel_rfl))
  f338 := Tryd.func76.trans (congrArg some (by kernel_rfl))
  t0 := Tryd.underlying0
  a0 := Tryd.isAgg0
  z0 := Tryd.sizeOf0
  v0 := Tryd.zeroValue0
  t2 := Tryd.underlying2
  a2 := Tryd.isAgg2
  z2 := Tryd.sizeOf2
  v2 := Tryd.zeroValue2
  t3 := Tryd.underlying3
  a3 := Tryd.isAgg3
  z3 := Tryd.sizeOf3
  v3 := Tryd.zeroValue3
  t4 := Tryd.underlying4
  a4 := Tryd.isAgg4
  z4 := Tryd.sizeOf4
  v4 := Tryd.zeroValue4
  t5 := Tryd.underlying5
  a5 := Tryd.isAgg5
  z5 := Tryd.sizeOf5
  v5 := Tryd.zeroValue5
  t9 := Tryd.underlying9
  a9 := Tryd.isAgg9
  z9 := Tryd.sizeOf9
  v9 := Tryd.zeroValue9
  t20 := Tryd.underlying20
  a20 := Tryd.isAgg20
  z20 := Tryd.sizeOf20
  v20 := Tryd.zeroValue20
  t21 := Tryd.underlying21
  a21 := Tryd.isAgg21
  z21 := Tryd.sizeOf21
  v21 := Tryd.zeroValue21
  t37 := Tryd.underlying43
  a37 := Tryd.isAgg43
  z37 := Tryd.sizeOf43
  v37 := Tryd.zeroValue43
  t46 := Tryd.underlying80
  a46 := Tryd.isAgg80
  z46 := Tryd.sizeOf80
  v46 := Tryd.zeroValue80
  t51 := Tryd.underlying90
  a51 := Tryd.isAgg90
  z51 := Tryd.sizeOf90
  v51 := Tryd.zeroValue90
  t53 := Tryd.underlying72
  a53 := Tryd.isAgg72
  z53 := Tryd.sizeOf72
  v53 := Tryd.zeroValue72
  t75 := Tryd.underlying47
  a75 := Tryd.isAgg47
  z75 := Tryd.sizeOf47
  v75 := Tryd.zeroValue47
  t76 := Tryd.underlying48
  a76 := Tryd.isAgg48
  z76 := Tryd.sizeOf48
  v76 := Tryd.zeroValue48
  t85 := Tryd.underlying83
  a85 := Tryd.isAgg83
  z85 := Tryd.sizeOf83
  v85 := Tryd.zeroValue83
  t127 := Tryd.underlying56
  a127 := Tryd.isAgg56
  z127 := Tryd.sizeOf56
  v127 := Tryd.zeroValue56
  t143 := Tryd.underlying108
  a143 := Tryd.isAgg108
  z143 := Tryd.sizeOf108
  v143 := Tryd.zeroValue108
  t145 := Tryd.underlying110
  a145 := Tryd.isAgg110
  z145 := Tryd.sizeOf110
  v145 := Tryd.zeroValue110
  t167 := Tryd.underlying82
  a167 := Tryd.isAgg82
  z167 := Tryd.sizeOf82
  v167 := Tryd.zeroValue82
  t168 := Tryd.underlying85
  a168 := Tryd.isAgg85
  z168 := Tryd.sizeOf85
  v168 := Tryd.zeroValue85
  t171 := Tryd.underlying71
  a171 := Tryd.isAgg71
  z171 := Tryd.sizeOf71
  v171 := Tryd.zeroValue71
  t173 := Tryd.underlying75
  a173 := Tryd.isAgg75
  z173 := Tryd.sizeOf75
  v173 := Tryd.zeroValue75
  t175 := Tryd.underlying99
  a175 := Tryd.isAgg99
  z175 := Tryd.sizeOf99
  v175 := Tryd.zeroValue99
  t210 := Tryd.underlying103
  a210 := Tryd.isAgg103
  z210 := Tryd.sizeOf103
  v210 := Tryd.zeroValue103
  t212 := Tryd.underlying89
  a212 := Tryd.isAgg89
  z212 := Tryd.sizeOf89
  v212 := Tryd.zeroValue89
  t213 := Tryd.underlying91
  a213 := Tryd.isAgg91
  z213 := Tryd.sizeOf91
  t232 := Tryd.underlying111
  a232 := Tryd.isAgg111
  z232 := Tryd.sizeOf111
  v232 := Tryd.zeroValue111
  t233 := Tryd.underlying112
  a233 := Tryd.isAgg112
  z233 := Tryd.sizeOf112
  v233 := Tryd.zeroValue112
  g15 := by kernel_rfl
  g16 := by kernel_rfl
  g17 := by kernel_rfl
  g18 := by kernel_rfl
  g19 := by kernel_rfl
  t80 := Tryd.underlying51
  a80 := Tryd.isAgg51
  z80 := Tryd.sizeOf51
  v80 := Tryd.zeroValue51
  i0 := by kernel_rfl
  i2 := by kernel_rfl
  i3 := by kernel_rfl
  i4 := by kernel_rfl
  i5 := by kernel_rfl
  i9 := by kernel_rfl
  i20 := by kernel_rfl
  i21 := by kernel_rfl
  i37 := by kernel_rfl
  i46 := by kernel_rfl
  i51 := by kernel_rfl
  i53 := by kernel_rfl
  i75 := by kernel_rfl
  i76 := by kernel_rfl
  i80 := by kernel_rfl
  i85 := by kernel_rfl
  i127 := by kernel_rfl
  i143 := by kernel_rfl
  i145 := by kernel_rfl
  i167 := by kernel_rfl
  i168 := by kernel_rfl
  i171 := by kernel_rfl
  i173 := by kernel_rfl
  i175 := by kernel_rfl
  i210 := by kernel_rfl
  i212 := by kernel_rfl
  i232 := by kernel_rfl
  i233 := by kernel_rfl
  m15 := by kernel_rfl
  m16 := by kernel_rfl
  m17 := by kernel_rfl
  m18 := by kernel_rfl
  m19 := by kernel_rfl
  c0 := by kernel_rfl
  c2 := by kernel_rfl
  c3 := by kernel_rfl
  c4 := by kernel_rfl
  c5 := by kernel_rfl
  c9 := by kernel_rfl
  c20 := by kernel_rfl
  c21 := by kernel_rfl
  c37 := by kernel_rfl
  c46 := by kernel_rfl
  c51 := by kernel_rfl
  c53 := by kernel_rfl
  c75 := by kernel_rfl
  c76 := by kernel_rfl
  c80 := by kernel_rfl
  c85 := by kernel_rfl
  c127 := by kernel_rfl
  c143 := by kernel_rfl
  c145 := by kernel_rfl
  c167 := by kernel_rfl
  c168 := by kernel_rfl
  c171 := by kernel_rfl
  c173 := by kernel_rfl
  c175 := by kernel_rfl
  c210 := by kernel_rfl
  c212 := by kernel_rfl
  c213 := by kernel_rfl
  c232 := by kernel_rfl
  c233 := by kernel_rfl }
def Tryd.lays145_ren : Go.Shelf.Ren := ⟨fun | 145 => 24 | 220 => 30 | 219 => 41 | 217 => 50 | 225 => 51 | 224 => 52 | 267 => 53 | 266 => 67 | 314 => 68 | n => n, fun | 9 => 9 | 4 => 4 | 59 => 52 | 3 => 3 | 5 => 5 | 46 => 80 | 146 => 94 | 51 => 90 | n => n, fun | 1 => 0 | n => n⟩
theorem Tryd.lays145 : Go.Proofs.Lays.n145 Tryd.prog Tryd.lays145_ren := {
  mixed := by kernel_rfl
  f145 := Tryd.func24.trans (congrArg some (by kernel_rfl))
  f217 := Tryd.func50.trans (congrArg some (by kernel_rfl))
  f219 := Tryd.func41.trans (congrArg some (by kernel_rfl))
  f220 := Tryd.func30.trans (congrArg some (by kernel_rfl))
  f224 := Tryd.func52.trans (congrArg some (by kernel_rfl))
  f225 := Tryd.func51.trans (congrArg some (by kernel_rfl))
  f266 := Tryd.func67.trans (congrArg some (by kernel_rfl))
  f267 := Tryd.func53.trans (congrArg some (by kernel_rfl))
  f314 := Tryd.func68.trans (congrArg some (by kernel_rfl))
  t3 := Tryd.underlying3
  a3 := Tryd.isAgg3
  z3 := Tryd.sizeOf3
  v3 := Tryd.zeroValue3
  t4 := Tryd.underlying4
  a4 := Tryd.isAgg4
  z4 := Tryd.sizeOf4
  v4 := Tryd.zeroValue4
  t5 := Tryd.underlying5
  a5 := Tryd.isAgg5
  z5 := Tryd.sizeOf5
  v5 := Tryd.zeroValue5
  t9 := Tryd.underlying9
  a9 := Tryd.isAgg9
  z9 := Tryd.sizeOf9
  v9 := Tryd.zeroValue9
  t46 := Tryd.underlying80
  a46 := Tryd.isAgg80
  z46 := Tryd.sizeOf80
  v46 := Tryd.zeroValue80
  t51 := Tryd.underlying90
  a51 := Tryd.isAgg90
  z51 := Tryd.sizeOf90
  v51 := Tryd.zeroValue90
  t59 := Tryd.underlying52
  a59 := Tryd.isAgg52
  z59 := Tryd.sizeOf52
  v59 := Tryd.zeroValue52
  t146 := Tryd.underlying94
  a146 := Tryd.isAgg94
  z146 := Tryd.sizeOf94
  v146 := Tryd.zeroValue94
  g1 := by kernel_rfl }
open Go.RowKit Go.Lib in
/-- strings.Cut: "Cut slices s around the first instance of sep, returning the text before and after sep. The found result reports whether sep appears in s. If sep does not appear in s, cut returns s, "", false.": IT RETURNS 'Lib.cut s sep'; the world is as it was but for the count of draws. (LAID: no walk: one application.) -/
theorem Tryd.strings_Cut (s sep : ByteArray) (m : Int) (w : World) (hs : s.size < 4294967281) (hm : w.cell? ⟨0, 0, none⟩ = some (.int .i64 m)) :
    Calls Tryd.prog 24 #[.string s, .string sep] w fun e w' => e = .returned (.tuple #[.string ⟨(Lib.cut s.data.toList sep.data.toList).1.toArray⟩, .string ⟨(Lib.cut s.data.toList sep.data.toList).2.1.toArray⟩, .bool (Lib.cut s.data.toList sep.data.toList).2.2]) ∧ ∃ n, w' = w.drewN n := Any.strings_Cut Tryd.lays145 s sep m w hs hm
def Tryd.lays146_ren : Go.Shelf.Ren := ⟨fun | 146 => 31 | 221 => 42 | 268 => 54 | 138 => 55 | 143 => 56 | 195 => 69 | 197 => 70 | 218 => 71 | 219 => 41 | 260 => 77 | 217 => 50 | 225 => 51 | 224 => 52 | 267 => 53 | 266 => 67 | 314 => 68 | n => n, fun | 9 => 9 | 31 => 37 | 3 => 3 | 4 => 4 | 0 => 0 | 105 => 97 | 21 => 21 | 5 => 5 | 46 => 80 | 119 => 113 | 139 => 116 | 138 => 115 | 146 => 94 | 51 => 90 | n => n, fun | 1 => 0 | 3 => 6 | 4 => 7 | n => n⟩
theorem Tryd.lays146 : Go.Proofs.Lays.n146 Tryd.prog Tryd.lays146_ren := {
  mixed := by kernel_rfl
  f138 := Tryd.func55.trans (congrArg some (by kernel_rfl))
  f143 := Tryd.func56.trans (congrArg some (by kernel_rfl))
  f146 := Tryd.func31.trans (congrArg some (by kernel_rfl))
  f195 := Tryd.func69.trans (congrArg some (by kernel_rfl))
  f197 := Tryd.func70.trans (congrArg some (by kernel_rfl))
  f217 := Tryd.func50.trans (congrArg some (by kernel_rfl))
  f218 := Tryd.func71.trans (congrArg some (by kernel_rfl))
  f219 := Tryd.func41.trans (congrArg some (by kernel_rfl))
  f221 := Tryd.func42.trans (congrArg some (by kernel_rfl))
  f224 := Tryd.func52.trans (congrArg some (by kernel_rfl))
  f225 := Tryd.func51.trans (congrArg some (by kernel_rfl))
  f260 := Tryd.func77.trans (congrArg some (by kernel_rfl))
  f266 := Tryd.func67.trans (congrArg some (by kernel_rfl))
  f267 := Tryd.func53.trans (congrArg some (by kernel_rfl))
  f268 := Tryd.func54.trans (congrArg some (by kernel_rfl))
  f314 := Tryd.func68.trans (congrArg some (by kernel_rfl))
  t0 := Tryd.underlying0
  a0 := Tryd.isAgg0
  z0 := Tryd.sizeOf0
  v0 := Tryd.zeroValue0
  t3 := Tryd.underlying3
  a3 := Tryd.isAgg3
  z3 := Tryd.sizeOf3
  v3 := Tryd.zeroValue3
  t4 := Tryd.underlying4
  a4 := Tryd.isAgg4
  z4 := Tryd.sizeOf4
  v4 := Tryd.zeroValue4
  t5 := Tryd.underlying5
  a5 := Tryd.isAgg5
  z5 := Tryd.sizeOf5
  v5 := Tryd.zeroValue5
  t9 := Tryd.underlying9
  a9 := Tryd.isAgg9
  z9 := Tryd.sizeOf9
  v9 := Tryd.zeroValue9
  t21 := Tryd.underlying21
  a21 := Tryd.isAgg21
  z21 := Tryd.sizeOf21
  v21 := Tryd.zeroValue21
  t31 := Tryd.underlying37
  a31 := Tryd.isAgg37
  z31 := Tryd.sizeOf37
  v31 := Tryd.zeroValue37
  t46 := Tryd.underlying80
  a46 := Tryd.isAgg80
  z46 := Tryd.sizeOf80
  v46 := Tryd.zeroValue80
  t51 := Tryd.underlying90
  a51 := Tryd.isAgg90
  z51 := Tryd.sizeOf90
  v51 := Tryd.zeroValue90
  t105 := Tryd.underlying97
  a105 := Tryd.isAgg97
  z105 := Tryd.sizeOf97
  v105 := Tryd.zeroValue97
  t119 := Tryd.underlying113
  a119 := Tryd.isAgg113
  z119 := Tryd.sizeOf113
  t138 := Tryd.underlying115
  a138 := Tryd.isAgg115
  z138 := Tryd.sizeOf115
  v138 := Tryd.zeroValue115
  t139 := Tryd.underlying116
  a139 := Tryd.isAgg116
  z139 := Tryd.sizeOf116
  v139 := Tryd.zeroValue116
  t146 := Tryd.underlying94
  a146 := Tryd.isAgg94
  z146 := Tryd.sizeOf94
  v146 := Tryd.zeroValue94
  g1 := by kernel_rfl
  g3 := by kernel_rfl
  g4 := by kernel_rfl }
open Go.RowKit Go.Lib in
/-- strings.Split. (LAID: no walk: one application.) -/
theorem Tryd.strings_Split (s sep : ByteArray) (m : Int) (w : World) (hs : s.size < 4294967281) (hm : w.cell? ⟨0, 0, none⟩ = some (.int .i64 m)) (h1 : 1 ≤ sep.size) :
    Calls Tryd.prog 31 #[.string s, .string sep] w fun e w' =>
      e = .returned (.slice (some ⟨w.heap.size, 0, none⟩) (Lib.countB s sep + 1) (Lib.countB s sep + 1)) ∧ w' = w.alloc (.cells ((Lib.splitB sep 0 (Lib.countB s sep) s).map Value.string).toArray 9) := Any.strings_Split Tryd.lays146 (by kernel_rfl) s sep m w hs hm h1
end Go.Proofs
end
section
/- This file proves plain laws of frames: what is sent is read, what is read was so sent, and one bit turned is found. No program in sight. No conditions. -/
namespace Go.Proofs.YtiofgjolhbgkiaaDoor

theorem getD_set {α : Type} (l : List α) (i j : Nat) (a d : α) (h : i < l.length) : (l.set i a).getD j d = if j = i then a else l.getD j d := by
  rw [List.getD_eq_getElem?_getD, List.getD_eq_getElem?_getD]
  by_cases hj : j = i
  · subst hj; rw [List.getElem?_set_self h, if_pos rfl]; rfl
  · rw [List.getElem?_set_ne (Ne.symm hj), if_neg hj]

theorem u8_in {x : Int} (h0 : 0 ≤ x) (h1 : x ≤ 255) : ((u8 x).toNat : Int) = x := by
  unfold u8
  rw [UInt8.toNat_ofNat']
  omega
theorem u8_mod (x : Int) : ((u8 x).toNat : Int) = x % 256 := by
  unfold u8
  rw [UInt8.toNat_ofNat']
  omega
theorem u8_back (b : UInt8) : u8 (b.toNat : Int) = b := by
  apply UInt8.toNat.inj
  have := u8_mod (b.toNat : Int)
  have h := b.toNat_lt
  omega
theorem u8_eq {x : Int} {b : UInt8} (h : x = (b.toNat : Int)) : u8 x = b := by rw [h]; exact u8_back b
theorem byte_lt (b : UInt8) : (b.toNat : Int) ≤ 255 ∧ 0 ≤ (b.toNat : Int) := by have := b.toNat_lt; omega
theorem sum_in (l : List UInt8) : 0 ≤ sumI l ∧ sumI l ≤ 65535 := by
  unfold sumI
  have := (sumOf l).isLt
  omega
theorem len_head (m : Msg) : (msgHead m).length = 10 := rfl
theorem len_bytes (m : Msg) : (msgBytes m).length = 12 := rfl
theorem take_bytes (m : Msg) : (msgBytes m).take 10 = msgHead m := rfl
/-- What a message that is not wrong is. -/
theorem wrong_ok {c : Config} {m : Msg} (h : msgWrong c m = 0) : (1 ≤ m.kind ∧ m.kind ≤ 11) ∧ (0 ≤ m.src ∧ m.src ≤ c.cores ∧ 0 ≤ m.dst ∧ m.dst ≤ c.cores) ∧ (0 ≤ m.line ∧ m.line < c.lines) ∧ (0 ≤ m.serial ∧ m.serial ≤ 65535) ∧ (0 ≤ m.turn ∧ m.turn ≤ 65535) ∧ (0 ≤ m.value ∧ m.value ≤ 255) ∧ ¬ (m.src = c.cores ↔ m.dst = c.cores) := by
  unfold msgWrong at h
  split at h
  · omega
  · split at h
    · omega
    · split at h
      · omega
      · refine ⟨by omega, by omega, by omega, by omega, by omega, by omega, by assumption⟩
theorem wrong_of {c : Config} {m : Msg} (h1 : 1 ≤ m.kind ∧ m.kind ≤ 11) (h2 : 0 ≤ m.src ∧ m.src ≤ c.cores ∧ 0 ≤ m.dst ∧ m.dst ≤ c.cores) (h3 : 0 ≤ m.line ∧ m.line < c.lines) (h4 : 0 ≤ m.serial ∧ m.serial ≤ 65535) (h5 : 0 ≤ m.turn ∧ m.turn ≤ 65535) (h6 : 0 ≤ m.value ∧ m.value ≤ 255) (h7 : ¬ (m.src = c.cores ↔ m.dst = c.cores)) : msgWrong c m = 0 := by
  unfold msgWrong
  rw [if_neg (by omega), if_neg (by omega), if_neg h7]
theorem msg_back {m : Msg} (h1 : 0 ≤ m.kind ∧ m.kind ≤ 255) (h2 : 0 ≤ m.src ∧ m.src ≤ 15 ∧ 0 ≤ m.dst ∧ m.dst ≤ 15) (h3 : 0 ≤ m.line ∧ m.line ≤ 255) (h4 : 0 ≤ m.serial ∧ m.serial ≤ 65535) (h5 : 0 ≤ m.turn ∧ m.turn ≤ 65535) (h6 : 0 ≤ m.value ∧ m.value ≤ 255) : msgOf (msgBytes m) = m := by
  obtain ⟨kind, src, dst, line, serial, turn, value, alone⟩ := m
  simp only at h1 h2 h3 h4 h5 h6
  have e0 : at8 (msgBytes ⟨kind, src, dst, line, serial, turn, value, alone⟩) 0 = kind := u8_in h1.1 h1.2
  have e1 : at8 (msgBytes ⟨kind, src, dst, line, serial, turn, value, alone⟩) 1 = 16 * src + dst := u8_in (by simp only; omega) (by simp only; omega)
  have e2 : at8 (msgBytes ⟨kind, src, dst, line, serial, turn, value, alone⟩) 2 = line := u8_in h3.1 h3.2
  have e3 : at8 (msgBytes ⟨kind, src, dst, line, serial, turn, value, alone⟩) 3 = serial / 256 := u8_in (by simp only; omega) (by simp only; omega)
  have e4 : at8 (msgBytes ⟨kind, src, dst, line, serial, turn, value, alone⟩) 4 = serial % 256 := u8_mod _
  have e5 : at8 (msgBytes ⟨kind, src, dst, line, serial, turn, value, alone⟩) 5 = turn / 256 := u8_in (by simp only; omega) (by simp only; omega)
  have e6 : at8 (msgBytes ⟨kind, src, dst, line, serial, turn, value, alone⟩) 6 = turn % 256 := u8_mod _
  have e7 : at8 (msgBytes ⟨kind, src, dst, line, serial, turn, value, alone⟩) 7 = value := u8_in h6.1 h6.2
  have e8 : (at8 (msgBytes ⟨kind, src, dst, line, serial, turn, value, alone⟩) 8 == 1) = alone := by cases alone <;> rfl
  unfold msgOf
  rw [e0, e1, e2, e3, e4, e5, e6, e7, e8]
  congr 1 <;> omega
theorem sum_back (x : Int) (h0 : 0 ≤ x) (h1 : x ≤ 65535) : 256 * ((u8 (x / 256)).toNat : Int) + ((u8 x).toNat : Int) = x := by
  rw [u8_in (by omega) (by omega), u8_mod]; omega
/-- What is sent is read. -/
theorem parse_bytes {c : Config} {m : Msg} (h : msgWrong c m = 0) (hc : c.cores ≤ 15) (hl : c.lines ≤ 256) : msgParse c (msgBytes m) = (m, 0) := by
  obtain ⟨h1, h2, h3, h4, h5, h6, h7⟩ := wrong_ok h
  have hb : msgOf (msgBytes m) = m := msg_back (by omega) (by omega) (by omega) h4 h5 h6
  unfold msgParse
  rw [if_neg (by rw [len_bytes]; omega), take_bytes]
  have e10 : at8 (msgBytes m) 10 = ((u8 (sumI (msgHead m) / 256)).toNat : Int) := rfl
  have e11 : at8 (msgBytes m) 11 = ((u8 (sumI (msgHead m))).toNat : Int) := rfl
  have e8 : at8 (msgBytes m) 8 = if m.alone then 1 else 0 := by cases m with | mk a b c d e f g al => cases al <;> rfl
  have e9 : at8 (msgBytes m) 9 = 0 := rfl
  rw [e10, e11, sum_back _ (sum_in _).1 (sum_in _).2, if_neg (by simp), e8, e9, hb, if_neg (by split <;> omega), if_neg (by omega)]
theorem list12 {b : List UInt8} (h : b.length = 12) : ∃ b0 b1 b2 b3 b4 b5 b6 b7 b8 b9 b10 b11, b = [b0, b1, b2, b3, b4, b5, b6, b7, b8, b9, b10, b11] := by
  match b, h with
  | [b0, b1, b2, b3, b4, b5, b6, b7, b8, b9, b10, b11], _ => exact ⟨_, _, _, _, _, _, _, _, _, _, _, _, rfl⟩
theorem parse_ok {c : Config} {b : List UInt8} {m : Msg} (h : msgParse c b = (m, 0)) : b.length = 12 ∧ sumI (b.take 10) = 256 * at8 b 10 + at8 b 11 ∧ at8 b 8 ≤ 1 ∧ at8 b 9 = 0 ∧ msgWrong c m = 0 ∧ m = msgOf b := by
  unfold msgParse at h
  split at h
  · cases h
  · split at h
    · cases h
    · split at h
      · cases h
      · split at h
        · rename_i hw
          have := congrArg Prod.snd h
          exact absurd this hw
        · have e : msgOf b = m := congrArg Prod.fst h
          subst e
          refine ⟨by omega, by omega, by omega, by omega, by omega, rfl⟩
theorem parse_err {c : Config} {b : List UInt8} (h : (msgParse c b).2 ≠ 0) : (msgParse c b).1 = zMsg := by
  unfold msgParse at h ⊢
  split
  · rfl
  · split
    · rfl
    · split
      · rfl
      · split
        · rfl
        · rename_i h1 h2 h3 h4; rw [if_neg h1, if_neg h2, if_neg h3, if_neg h4] at h; exact absurd rfl h
/-- What is read was so sent. -/
theorem bytes_parse {c : Config} {b : List UInt8} {m : Msg} (h : msgParse c b = (m, 0)) : msgBytes m = b := by
  obtain ⟨h1, h2, h3, h4, h5, h6⟩ := parse_ok h
  obtain ⟨b0, b1, b2, b3, b4, b5, b6, b7, b8, b9, b10, b11, rfl⟩ := list12 h1
  have l0 := byte_lt b0; have l1 := byte_lt b1; have l2 := byte_lt b2; have l3 := byte_lt b3; have l4 := byte_lt b4; have l5 := byte_lt b5
  have l6 := byte_lt b6; have l7 := byte_lt b7; have l8 := byte_lt b8; have l9 := byte_lt b9; have l10 := byte_lt b10; have l11 := byte_lt b11
  have e8 : (b8.toNat : Int) ≤ 1 := h3
  have e9 : (b9.toNat : Int) = 0 := h4
  have hm : msgHead m = [b0, b1, b2, b3, b4, b5, b6, b7, b8, b9] := by
    rw [h6]
    unfold msgHead
    have g0 : u8 (msgOf [b0, b1, b2, b3, b4, b5, b6, b7, b8, b9, b10, b11]).kind = b0 := u8_back b0
    have g1 : u8 (16 * (msgOf [b0, b1, b2, b3, b4, b5, b6, b7, b8, b9, b10, b11]).src + (msgOf [b0, b1, b2, b3, b4, b5, b6, b7, b8, b9, b10, b11]).dst) = b1 := u8_eq (by show 16 * ((b1.toNat : Int) / 16) + (b1.toNat : Int) % 16 = _; omega)
    have g2 : u8 (msgOf [b0, b1, b2, b3, b4, b5, b6, b7, b8, b9, b10, b11]).line = b2 := u8_back b2
    have g3 : u8 ((msgOf [b0, b1, b2, b3, b4, b5, b6, b7, b8, b9, b10, b11]).serial / 256) = b3 := u8_eq (by show (256 * (b3.toNat : Int) + (b4.toNat : Int)) / 256 = _; omega)
    have g4 : u8 (msgOf [b0, b1, b2, b3, b4, b5, b6, b7, b8, b9, b10, b11]).serial = b4 := by
      apply UInt8.toNat.inj
      have : ((u8 (256 * (b3.toNat : Int) + (b4.toNat : Int))).toNat : Int) = (256 * (b3.toNat : Int) + (b4.toNat : Int)) % 256 := u8_mod _
      have e : (u8 (256 * (b3.toNat : Int) + (b4.toNat : Int))).toNat = b4.toNat := by omega
      exact e
    have g5 : u8 ((msgOf [b0, b1, b2, b3, b4, b5, b6, b7, b8, b9, b10, b11]).turn / 256) = b5 := u8_eq (by show (256 * (b5.toNat : Int) + (b6.toNat : Int)) / 256 = _; omega)
    have g6 : u8 (msgOf [b0, b1, b2, b3, b4, b5, b6, b7, b8, b9, b10, b11]).turn = b6 := by
      apply UInt8.toNat.inj
      have : ((u8 (256 * (b5.toNat : Int) + (b6.toNat : Int))).toNat : Int) = (256 * (b5.toNat : Int) + (b6.toNat : Int)) % 256 := u8_mod _
      have e : (u8 (256 * (b5.toNat : Int) + (b6.toNat : Int))).toNat = b6.toNat := by omega
      exact e
    have g7 : u8 (msgOf [b0, b1, b2, b3, b4, b5, b6, b7, b8, b9, b10, b11]).value = b7 := u8_back b7
    have g8 : (if (msgOf [b0, b1, b2, b3, b4, b5, b6, b7, b8, b9, b10, b11]).alone then (1 : UInt8) else 0) = b8 := by
      show (if ((b8.toNat : Int) == 1) = true then (1 : UInt8) else 0) = b8
      by_cases h : (b8.toNat : Int) = 1
      · rw [if_pos (by simp [h])]; apply UInt8.toNat.inj; show 1 = b8.toNat; omega
      · rw [if_neg (by simp [h])]; apply UInt8.toNat.inj; show 0 = b8.toNat; omega
    have g9 : (0 : UInt8) = b9 := by apply UInt8.toNat.inj; show 0 = b9.toNat; omega
    rw [g0, g1, g2, g3, g4, g5, g6, g7, g8, ← g9]
  have hs : sumI (msgHead m) = 256 * (b10.toNat : Int) + (b11.toNat : Int) := by rw [hm]; exact h2
  unfold msgBytes
  rw [hs, hm]
  have k10 : u8 ((256 * (b10.toNat : Int) + (b11.toNat : Int)) / 256) = b10 := u8_eq (by omega)
  have k11 : u8 (256 * (b10.toNat : Int) + (b11.toNat : Int)) = b11 := by
    apply UInt8.toNat.inj
    have := u8_mod (256 * (b10.toNat : Int) + (b11.toNat : Int))
    omega
  rw [k10, k11]; rfl

/-! ### One bit turned -/
theorem turn_len (b : List UInt8) (bit : Int) : (bitTurn b bit).length = b.length := by unfold bitTurn; split <;> simp
theorem mask_ne (c : UInt8) (k : Nat) (hk : k < 8) : c ^^^ (1 <<< UInt8.ofNat k) ≠ c := by
  have : ∀ (k : Fin 8), (1 : UInt8) <<< UInt8.ofNat k.val ≠ 0 := by decide
  intro h
  have h2 : c ^^^ (c ^^^ (1 <<< UInt8.ofNat k)) = c ^^^ c := by rw [h]
  rw [← UInt8.xor_assoc, UInt8.xor_self, UInt8.zero_xor] at h2
  exact this ⟨k, hk⟩ h2
theorem turn_twice (b : List UInt8) (bit : Int) : bitTurn (bitTurn b bit) bit = b := by
  by_cases h : 0 ≤ bit ∧ bit < 8 * (b.length : Int)
  · have e : bitTurn b bit = b.set (bit / 8).toNat (b.getD (bit / 8).toNat 0 ^^^ (1 <<< UInt8.ofNat (bit % 8).toNat)) := by unfold bitTurn; rw [if_pos h]
    have hl := turn_len b bit
    rw [e] at hl ⊢
    unfold bitTurn
    rw [hl, if_pos h, List.set_set]
    have hi : (bit / 8).toNat < b.length := by omega
    rw [List.getD_eq_getElem?_getD, List.getElem?_set_self hi]
    simp only [Option.getD_some]
    rw [UInt8.xor_assoc, UInt8.xor_self, UInt8.xor_zero]
    rw [List.getD_eq_getElem?_getD, List.getElem?_eq_getElem hi]
    simp
  · have e : bitTurn b bit = b := by unfold bitTurn; rw [if_neg h]
    rw [e, e]
/-- One bit turned is found. -/
theorem turn_found {c c' : Config} {b : List UInt8} {m : Msg} {bit : Int} (h : msgParse c b = (m, 0)) (h0 : 0 ≤ bit) (h1 : bit < 96) : msgParse c' (bitTurn b bit) = (zMsg, 7) := by
  obtain ⟨g1, g2, g3, g4, g5, g6⟩ := parse_ok h
  have hl := turn_len b bit
  unfold msgParse
  rw [hl, if_neg (by omega), if_pos]
  intro hs
  have e : bitTurn b bit = b.set (bit / 8).toNat (b.getD (bit / 8).toNat 0 ^^^ (1 <<< UInt8.ofNat (bit % 8).toNat)) := by unfold bitTurn; rw [if_pos (by omega)]
  have hi : (bit / 8).toNat < 12 := by omega
  have hk : (bit % 8).toNat < 8 := by omega
  generalize (bit / 8).toNat = i at e hi
  have hne := mask_ne (b.getD i 0) _ hk
  generalize b.getD i 0 ^^^ (1 <<< UInt8.ofNat (bit % 8).toNat) = d at e hne
  rw [e] at hs
  by_cases h10 : i < 10
  · have a10 : at8 (b.set i d) 10 = at8 b 10 := by unfold at8; rw [List.getD_eq_getElem?_getD, List.getElem?_set_ne (by omega), ← List.getD_eq_getElem?_getD]
    have a11 : at8 (b.set i d) 11 = at8 b 11 := by unfold at8; rw [List.getD_eq_getElem?_getD, List.getElem?_set_ne (by omega), ← List.getD_eq_getElem?_getD]
    rw [a10, a11, ← g2] at hs
    have hs' : sumOf ((b.set i d).take 10) = sumOf (b.take 10) := by
      apply BitVec.eq_of_toNat_eq
      have : ((sumOf ((b.set i d).take 10)).toNat : Int) = ((sumOf (b.take 10)).toNat : Int) := hs
      omega
    rw [List.take_set] at hs'
    have hib : i < (b.take 10).length := by rw [List.length_take]; omega
    have hsp : b.take 10 = (b.take 10).take i ++ (b.take 10)[i] :: (b.take 10).drop (i + 1) := by
      rw [List.getElem_cons_drop, List.take_append_drop]
    rw [List.set_eq_take_append_cons_drop, if_pos hib] at hs'
    have hs2 : sumOf ((b.take 10).take i ++ d :: (b.take 10).drop (i + 1)) = sumOf ((b.take 10).take i ++ (b.take 10)[i] :: (b.take 10).drop (i + 1)) := by rw [← hsp]; exact hs'
    have := sum_unlike hs2
    apply hne
    rw [this, List.getElem_take, List.getD_eq_getElem?_getD, List.getElem?_eq_getElem (by omega)]
    simp
  · have ht : (b.set i d).take 10 = b.take 10 := by
      rw [List.take_set, List.set_eq_of_length_le (by rw [List.length_take]; omega)]
    rw [ht, g2] at hs
    apply hne
    have l1 := byte_lt d
    have hget : b.getD i 0 = b.getD i 0 := rfl
    have hi2 : i = 10 ∨ i = 11 := by omega
    rcases hi2 with rfl | rfl
    · have a10 : at8 (b.set 10 d) 10 = (d.toNat : Int) := by unfold at8; rw [List.getD_eq_getElem?_getD, List.getElem?_set_self (by omega)]; rfl
      have a11 : at8 (b.set 10 d) 11 = at8 b 11 := by unfold at8; rw [List.getD_eq_getElem?_getD, List.getElem?_set_ne (by omega), ← List.getD_eq_getElem?_getD]
      rw [a10, a11] at hs
      apply UInt8.toNat.inj
      have : at8 b 10 = ((b.getD 10 0).toNat : Int) := rfl
      omega
    · have a11 : at8 (b.set 11 d) 11 = (d.toNat : Int) := by unfold at8; rw [List.getD_eq_getElem?_getD, List.getElem?_set_self (by omega)]; rfl
      have a10 : at8 (b.set 11 d) 10 = at8 b 10 := by unfold at8; rw [List.getD_eq_getElem?_getD, List.getElem?_set_ne (by omega), ← List.getD_eq_getElem?_getD]
      rw [a10, a11] at hs
      apply UInt8.toNat.inj
      have : at8 b 11 = ((b.getD 11 0).toNat : Int) := rfl
      omega
end Go.Proofs.YtiofgjolhbgkiaaDoor
end
section
/- This file proves the rules for bits, conversions, texts of bytes, closures, and parts of slices. No conditions. -/
namespace Go.Proofs.YtiofgjolhbgkiaaDoor
open Go

/-! ### Bits of numbers -/
theorem wrap64_nat {a : Nat} (h : a < 9223372036854775808) : IntKind.i64.wrap (a : Int) = (a : Int) := by rw [IntKind.wrap_i64]; omega
theorem ofInt_nat (a : Nat) (h : a < 18446744073709551616) : (BitVec.ofInt 64 (a : Int)).toNat = a := by
  rw [BitVec.toNat_ofInt]; omega
section
variable {P : Program} {T : TypeId} {a b : Nat}
theorem and_lt64 (ha : a < 9223372036854775808) : a &&& b < 9223372036854775808 := Nat.lt_of_le_of_lt Nat.and_le_left ha
theorem or_lt64 (ha : a < 9223372036854775808) (hb : b < 9223372036854775808) : a ||| b < 9223372036854775808 := Nat.or_lt_two_pow (n := 63) ha hb
theorem xor_lt64 (ha : a < 9223372036854775808) (hb : b < 9223372036854775808) : a ^^^ b < 9223372036854775808 := Nat.xor_lt_two_pow (n := 63) ha hb
theorem b_andN (ha : a < 9223372036854775808) (hb : b < 9223372036854775808) (w : World) : (binOp .and T (vi (a : Int)) (vi (b : Int))).run P w = .ok (vi ((a &&& b : Nat) : Int)) w := by
  show Result.ok (Value.int .i64 (IntKind.i64.wrap ((BitVec.ofInt 64 (a : Int) &&& BitVec.ofInt 64 (b : Int)).toNat : Int))) w = _
  rw [BitVec.toNat_and, ofInt_nat a (by omega), ofInt_nat b (by omega), wrap64_nat (and_lt64 ha)]
theorem b_orN (ha : a < 9223372036854775808) (hb : b < 9223372036854775808) (w : World) : (binOp .or T (vi (a : Int)) (vi (b : Int))).run P w = .ok (vi ((a ||| b : Nat) : Int)) w := by
  show Result.ok (Value.int .i64 (IntKind.i64.wrap ((BitVec.ofInt 64 (a : Int) ||| BitVec.ofInt 64 (b : Int)).toNat : Int))) w = _
  rw [BitVec.toNat_or, ofInt_nat a (by omega), ofInt_nat b (by omega), wrap64_nat (or_lt64 ha hb)]
theorem b_xorN (ha : a < 9223372036854775808) (hb : b < 9223372036854775808) (w : World) : (binOp .xor T (vi (a : Int)) (vi (b : Int))).run P w = .ok (vi ((a ^^^ b : Nat) : Int)) w := by
  show Result.ok (Value.int .i64 (IntKind.i64.wrap ((BitVec.ofInt 64 (a : Int) ^^^ BitVec.ofInt 64 (b : Int)).toNat : Int))) w = _
  rw [BitVec.toNat_xor, ofInt_nat a (by omega), ofInt_nat b (by omega), wrap64_nat (xor_lt64 ha hb)]
theorem b_xor8 {a b : UInt8} (w : World) : (binOp .xor T (vb a) (vb b)).run P w = .ok (vb (a ^^^ b)) w := by
  show Result.ok (Value.int .u8 (IntKind.u8.wrap ((BitVec.ofInt 8 (a.toNat : Int) ^^^ BitVec.ofInt 8 (b.toNat : Int)).toNat : Int))) w = _
  have h1 : (BitVec.ofInt 8 (a.toNat : Int)).toNat = a.toNat := by rw [BitVec.toNat_ofInt]; have := a.toNat_lt; omega
  have h2 : (BitVec.ofInt 8 (b.toNat : Int)).toNat = b.toNat := by rw [BitVec.toNat_ofInt]; have := b.toNat_lt; omega
  have : a.toNat ^^^ b.toNat < 256 := Nat.xor_lt_two_pow (n := 8) a.toNat_lt b.toNat_lt
  rw [BitVec.toNat_xor, h1, h2, IntKind.wrap_u8]
  simp only [vb, UInt8.toNat_xor]
  congr 2; omega
/-- Shifts. -/
theorem b_shl {k : IntKind} {x s : Int} (h0 : 0 ≤ s) (h1 : s ≤ 63) (w : World) : (binOp .shl T (vi x) (.int k s)).run P w = .ok (vi (IntKind.i64.wrap (x * 2 ^ s.toNat))) w := by
  have : ¬ s < 0 := by omega
  have h2 : min s.toNat IntKind.i64.bits = s.toNat := by show min s.toNat 64 = _; omega
  simp [binOp, Op.shift, this, h2]
theorem b_shr {k : IntKind} {x s : Int} (h0 : 0 ≤ s) (h1 : s ≤ 63) (w : World) : (binOp .shr T (vi x) (.int k s)).run P w = .ok (vi (x / 2 ^ s.toNat)) w := by
  have : ¬ s < 0 := by omega
  have h2 : min s.toNat IntKind.i64.bits = s.toNat := by show min s.toNat 64 = _; omega
  simp [binOp, Op.shift, this, h2]
theorem b_shr8 {k : IntKind} {x : UInt8} {s : Int} (h0 : 0 ≤ s) (h1 : s ≤ 7) (w : World) : (binOp .shr T (vb x) (.int k s)).run P w = .ok (vb (u8 ((x.toNat : Int) / 2 ^ s.toNat))) w := by
  have : ¬ s < 0 := by omega
  have h2 : min s.toNat IntKind.u8.bits = s.toNat := by show min s.toNat 8 = _; omega
  have hx := x.toNat_lt
  have h4 : ((x.toNat : Int)).fdiv (2 ^ s.toNat) = (x.toNat : Int) / 2 ^ s.toNat := Int.fdiv_eq_ediv_of_nonneg _ (Int.pow_nonneg (by omega))
  have h3 : ((u8 ((x.toNat : Int) / 2 ^ s.toNat)).toNat : Int) = (x.toNat : Int) / 2 ^ s.toNat := by
    apply u8_in
    · exact Int.ediv_nonneg (by omega) (Int.pow_nonneg (by omega))
    · exact Int.le_trans (Int.ediv_le_self _ (by omega)) (by omega)
  simp only [binOp, Op.shift, this, h2, if_false]
  rw [h4, vb, h3]; rfl
theorem b_shl8 {k : IntKind} {x : UInt8} {s : Int} (h0 : 0 ≤ s) (h1 : s ≤ 7) (w : World) : (binOp .shl T (vb x) (.int k s)).run P w = .ok (vb (u8 ((x.toNat : Int) * 2 ^ s.toNat))) w := by
  have : ¬ s < 0 := by omega
  have h2 : min s.toNat IntKind.u8.bits = s.toNat := by show min s.toNat 8 = _; omega
  simp only [binOp, Op.shift, this, h2, if_false]
  rw [vb, u8_mod, IntKind.wrap_u8]; rfl
theorem b_and8 {a b : UInt8} (w : World) : (binOp .and T (vb a) (vb b)).run P w = .ok (vb (a &&& b)) w := by
  show Result.ok (Value.int .u8 (IntKind.u8.wrap ((BitVec.ofInt 8 (a.toNat : Int) &&& BitVec.ofInt 8 (b.toNat : Int)).toNat : Int))) w = _
  have h1 : (BitVec.ofInt 8 (a.toNat : Int)).toNat = a.toNat := by rw [BitVec.toNat_ofInt]; have := a.toNat_lt; omega
  have h2 : (BitVec.ofInt 8 (b.toNat : Int)).toNat = b.toNat := by rw [BitVec.toNat_ofInt]; have := b.toNat_lt; omega
  have : a.toNat &&& b.toNat < 256 := Nat.lt_of_le_of_lt Nat.and_le_left a.toNat_lt
  rw [BitVec.toNat_and, h1, h2, IntKind.wrap_u8]
  simp only [vb, UInt8.toNat_and]
  congr 2; omega
end

/-! ### Texts of bytes -/
def bstr (l : List UInt8) : ByteArray := ⟨l.toArray⟩
theorem bstr_toList (l : List UInt8) : (bstr l).toList = l := by
  have key : ∀ (k i : Nat) (r : List UInt8), k = l.length - i → ByteArray.toList.loop (bstr l) i r = r.reverse ++ l.drop i := by
    intro k
    induction k with
    | zero =>
      intro i r hk
      unfold ByteArray.toList.loop
      have : ¬ i < (bstr l).size := by show ¬ i < l.toArray.size; simp; omega
      rw [if_neg this, List.drop_of_length_le (by omega)]; simp
    | succ k ih =>
      intro i r hk
      unfold ByteArray.toList.loop
      have : i < (bstr l).size := by show i < l.toArray.size; simp; omega
      rw [if_pos this, ih (i + 1) _ (by omega)]
      have hi : i < l.length := by omega
      have hg : (bstr l).get! i = l[i] := by show (bstr l).data.get!Internal i = _; simp [bstr, Array.get!Internal, hi]
      rw [hg, List.reverse_cons, List.append_assoc, List.singleton_append, List.drop_eq_getElem_cons hi]
  have := key l.length 0 [] rfl
  simpa [ByteArray.toList] using this
theorem b_streq {P : Program} {T : TypeId} {a b : List UInt8} (w : World) : (binOp .eql T (.string (bstr a)) (.string (bstr b))).run P w = .ok (.bool (decide (a = b))) w := by
  have : (a == b) = decide (a = b) := by cases h : decide (a = b) <;> simp_all
  simp [binOp, Op.stringOp, bstr_toList, this]
theorem b_strne {P : Program} {T : TypeId} {a b : List UInt8} (w : World) : (binOp .neq T (.string (bstr a)) (.string (bstr b))).run P w = .ok (.bool (!decide (a = b))) w := by
  have : (a == b) = decide (a = b) := by cases h : decide (a = b) <;> simp_all
  simp [binOp, Op.stringOp, bstr_toList, this]
theorem push_all : ∀ (l : List UInt8) (s : ByteArray), (l.map (fun b => (b.toNat : Int))).foldl (fun r n => r.push (UInt8.ofNat n.toNat)) s = ⟨s.data ++ l.toArray⟩
  | [], s => by cases s; simp
  | b :: l, s => by
    rw [List.map_cons, List.foldl_cons, push_all l]
    have : UInt8.ofNat ((b.toNat : Int)).toNat = b := by simp
    rw [this]
    simp [ByteArray.push]

section
variable {P : Program} {n : Nat} {ops : Array Oper} {Q : Exit → Act → World → Prop} {rest : List Oper} {L L' : List Chunk} {R : List Fact} {al : List (Nat × Value)} {d : Nat} {x y : Operand} {T ty : TypeId} {pos : String} {aft : Array Edge}

theorem RdL.bytes {m : Mem} : ∀ {bs : List UInt8} {cs : List Value}, RdL bs cs m → cs = bs.map vb
  | [], _, h => h
  | b :: bs, _, ⟨c1, c2, h1, h2, h3⟩ => by rw [h1, RdL.bytes h3, show c1 = [vb b] from h2]; rfl
/-- A binary operation on any values. -/
theorem r_binG {op : BinOp} {v1 v2 v : Value} {U : TypeId} (hx : ev n al x = some v1) (hy : ev n al y = some v2)
    (hg : ∀ w : World, (eqGuard op T x y v1 v2).run P w = .ok () w) (hv : ∀ w : World, (binOp op T v1 v2).run P w = .ok v w)
    (h : J P n ops Q rest L R ((d, v) :: al)) : J P n ops Q (⟨some d, .binOp op T x y U, ty, pos, aft, none⟩ :: rest) L R al :=
  J.pure rfl rfl (fun B w _ => by
    have e : (execOp (mkA n al B).eval ⟨some d, .binOp op T x y U, ty, pos, aft, none⟩) = (do let v ← (do eqGuard op T x y v1 v2; binOp op T v1 v2); pure (Next.value v)) := by
      simp only [execOp, ev_eval hx, ev_eval hy]
    rw [e]
    simp [hg w, hv w]) h
theorem guard_int {op : BinOp} {k k' : IntKind} {a b : Int} (w : World) : (eqGuard op T x y (.int k a) (.int k' b)).run P w = .ok () w := by unfold eqGuard; cases op <;> rfl
theorem guard_str {op : BinOp} {a b : ByteArray} (w : World) : (eqGuard op T x y (.string a) (.string b)).run P w = .ok () w := by unfold eqGuard; cases op <;> rfl
theorem guard_bool {op : BinOp} {a b : Bool} (w : World) : (eqGuard op T x y (.bool a) (.bool b)).run P w = .ok () w := by unfold eqGuard; cases op <;> rfl
theorem r_shift {op : BinOp} {k k' : IntKind} {a b : Int} {v : Value} {U : TypeId} (hx : ev n al x = some (.int k a)) (hy : ev n al y = some (.int k' b)) (hv : ∀ w : World, (binOp op T (.int k a) (.int k' b)).run P w = .ok v w)
    (h : J P n ops Q rest L R ((d, v) :: al)) : J P n ops Q (⟨some d, .binOp op T x y U, ty, pos, aft, none⟩ :: rest) L R al := r_binG hx hy guard_int hv h
theorem r_strop {op : BinOp} {a b : ByteArray} {v : Value} {U : TypeId} (hx : ev n al x = some (.string a)) (hy : ev n al y = some (.string b)) (hv : ∀ w : World, (binOp op T (.string a) (.string b)).run P w = .ok v w)
    (h : J P n ops Q rest L R ((d, v) :: al)) : J P n ops Q (⟨some d, .binOp op T x y U, ty, pos, aft, none⟩ :: rest) L R al := r_binG hx hy guard_str hv h
theorem run_booleq {t : TypeId} {a b : Bool} (ht : P.underlying t = some .bool) (w : World) : (Op.equal t (.bool a) (.bool b)).run P w = .ok (a == b) w := by
  show (Op.equalIn (9999 + 1) t (.bool a) (.bool b)).run P w = _
  unfold Op.equalIn
  simp [run_und ht]
theorem b_booleq {t : TypeId} {a b : Bool} (ht : P.underlying t = some .bool) (w : World) : (binOp .eql t (.bool a) (.bool b)).run P w = .ok (.bool (a == b)) w := by
  show (Op.equal t (.bool a) (.bool b) >>= fun r => Pure.pure (Value.bool r)).run P w = _
  rw [Sem.run_bind, run_booleq ht]; rfl
theorem b_boolne {t : TypeId} {a b : Bool} (ht : P.underlying t = some .bool) (w : World) : (binOp .neq t (.bool a) (.bool b)).run P w = .ok (.bool (!(a == b))) w := by
  show (Op.equal t (.bool a) (.bool b) >>= fun r => Pure.pure (Value.bool (!r))).run P w = _
  rw [Sem.run_bind, run_booleq ht]; rfl
theorem r_boolop {op : BinOp} {a b : Bool} {v : Value} {U : TypeId} (hx : ev n al x = some (.bool a)) (hy : ev n al y = some (.bool b)) (hv : ∀ w : World, (binOp op T (.bool a) (.bool b)).run P w = .ok v w)
    (h : J P n ops Q rest L R ((d, v) :: al)) : J P n ops Q (⟨some d, .binOp op T x y U, ty, pos, aft, none⟩ :: rest) L R al := r_binG hx hy guard_bool hv h

/-! ### Conversions -/
theorem r_convInt {src dst : TypeId} {k k' : IntKind} {a : Int} {v : Value} (hs : P.underlying src = some (.int k')) (hd : P.underlying dst = some (.int k)) (hx : ev n al x = some (.int k' a)) (hv : Value.int k (k.wrap a) = v)
    (h : J P n ops Q rest L R ((d, v) :: al)) : J P n ops Q (⟨some d, .convert src dst x, ty, pos, aft, none⟩ :: rest) L R al :=
  J.pure rfl rfl (fun B w _ => by
    show (convert src dst ((mkA n al B).eval x) >>= fun v => Pure.pure (Next.value v)).run P w = _
    have e : (convert src dst (.int k' a)).run P w = .ok v w := by
      unfold convert
      rw [Sem.run_bind, run_und hs]; simp only [Result.andThen]
      rw [Sem.run_bind, run_und hd]; simp only [Result.andThen]
      rw [← hv]; rfl
    rw [ev_eval hx, Sem.run_bind, e]; rfl) h
theorem wrap_byte (b : UInt8) : Value.int .i64 (IntKind.i64.wrap (b.toNat : Int)) = vi (b.toNat : Int) := by
  have := b.toNat_lt
  have e : ((b.toNat : Int) + 9223372036854775808) % 18446744073709551616 - 9223372036854775808 = (b.toNat : Int) := by omega
  rw [IntKind.wrap_i64, e]
theorem wrap_u8' (x : Int) : Value.int .u8 (IntKind.u8.wrap x) = vb (u8 x) := by rw [vb, u8_mod, IntKind.wrap_u8]
theorem conv_bytes {w : World} {v : Value} {bs : List UInt8} {m : Mem} (hm : Mem.le m (memOf w)) (h : isSlice v bs m) : (Conv.bytesToString v).run P w = .ok (.string (bstr bs)) w := by
  by_cases hne : bs = []
  · subst hne
    obtain ⟨base, cap, hv, _, _⟩ := h
    subst hv
    cases base with
    | none => rfl
    | some a =>
      exact run_bytesToString (P := P) w a 0 cap [] (by simp [loadCells, loadCellsFrom])
  · obtain ⟨a, cap, cs, hv, hl, hrd, hget⟩ := sl_list hm h hne
    subst hv
    have hcs := hrd.bytes
    have hld : (loadCells a bs.length).run P w = .ok ((bs.map (fun b => (b.toNat : Int))).map (Value.int .u8)).toArray w := by
      have h1 : cs = (bs.map (fun b => (b.toNat : Int))).map (Value.int .u8) := by rw [hcs]; simp [vb]
      have h2 := run_loadCells_list (P := P) (w := w) a cs hget
      rw [h1] at h2
      simpa using h2
    have := run_bytesToString (P := P) w a bs.length cap _ hld
    rw [push_all] at this
    simpa [bstr] using this
theorem r_convStr {src dst e : TypeId} {bs : List UInt8} {v : Value} (hs : P.underlying src = some (.slice e)) (he : P.underlying e = some (.int .u8)) (hd : P.underlying dst = some .string) (hx : ev n al x = some v) (hm : sl v bs ∈ R)
    (h : J P n ops Q rest L R ((d, .string (bstr bs)) :: al)) : J P n ops Q (⟨some d, .convert src dst x, ty, pos, aft, none⟩ :: rest) L R al :=
  J.pure rfl rfl (fun B w hst => by
    show (convert src dst ((mkA n al B).eval x) >>= fun v => Pure.pure (Next.value v)).run P w = _
    obtain ⟨i, hi, hr⟩ := hst.ex
    have hsl := hr _ hm
    have hc := conv_bytes (P := P) hi hsl
    obtain ⟨base, cap, rfl, _, _⟩ := hsl
    rw [ev_eval hx, Sem.run_bind]
    simp [convert, run_und hs, run_und hd, run_und he, hc]) h

/-! ### Closures -/
theorem r_makeFunc {f : FuncId} {caps : List Operand} {vs : List Value} (hc : evL n al caps = some vs)
    (h : J P n ops Q rest L R ((d, .func (.func f) #[] vs.toArray) :: al)) : J P n ops Q (⟨some d, .makeFunc (.func f) #[] caps.toArray, ty, pos, aft, none⟩ :: rest) L R al :=
  J.pure rfl rfl (fun B w _ => by
    show (Instr.makeFunc (.func f) (#[].map (mkA n al B).eval) (caps.toArray.map (mkA n al B).eval) >>= fun v => Pure.pure (Next.value v)).run P w = _
    have e : caps.toArray.map (mkA n al B).eval = vs.toArray := by rw [List.map_toArray, evL_map hc]
    rw [e]; simp [Instr.makeFunc]) h
theorem exec_callv {ρ : Operand → Value} {g : Option (Nat × Bool)} {dst : Option Tmp} {w : World} {f : FuncId} {args : Array Operand} {ts : Array TypeId} {caps : Array Value} (hf : ∀ args w, (callFunc f args).run P w = .ok (.enter f args) w) (hρ : ρ x = .func (.func f) #[] caps) :
    (execOp ρ ⟨dst, .call { callee := .value x, args, argTypes := ts }, ty, pos, aft, g⟩).run P w = .ok (.enter f (args.map ρ ++ caps)) w := by
  simp [execOp, resolve, hρ, Deferred.ofValue, invoke, hf]
theorem r_callv {γ : Type} {val : γ → Value} {Lf : γ → List Chunk} {Rf : γ → List Fact} {f : FuncId} {args : List Operand} {ts : Array TypeId} {vs caps : List Value} (hx : ev n al x = some (.func (.func f) #[] caps.toArray)) (hf : ∀ args w, (callFunc f args).run P w = .ok (.enter f args) w)
    (ha : evL n al args = some vs) (hc : ∀ w, St L R w → Calls P f (vs ++ caps).toArray w (Post val Lf Rf))
    (k : ∀ g, J P n ops Q rest (Lf g) (Rf g) ((d, val g) :: al)) : J P n ops Q (⟨some d, .call { callee := .value x, args := args.toArray, argTypes := ts }, ty, pos, aft, none⟩ :: rest) L R al :=
  J.step rfl fun B w hs => .inl <| by
    unfold Oper.wp
    rw [exec_callv hf (ev_eval hx), Oper.upon_enter, List.map_toArray, evL_map ha, List.append_toArray]
    refine (hc w hs).mono ?_
    rintro e w' ⟨g, rfl, hs'⟩
    show wpList P ops Q rest ((mkA n al B).put (some d) (val g)) w'
    rw [mkA_put]
    exact k g B w' hs'

/-! ### Parts of slices -/
section
variable {α : Type} [Enc α] {v : Value} {xs : List α}
theorem part_sl {m : Mem} {base : Option Addr} {cap lo hi : Nat} (h : isSlice (.slice base xs.length cap) xs m) (h1 : lo ≤ hi) (h2 : hi ≤ xs.length) :
    isSlice (.slice (if cap = lo then base else base.map (·.add (lo * Enc.sz α))) (hi - lo) (cap - lo)) ((xs.take hi).drop lo) m := by
  obtain ⟨base', cap', hv, ⟨hn1, hn2⟩, hc⟩ := h
  cases hv
  have hlen : ((xs.take hi).drop lo).length = hi - lo := by rw [List.length_drop, List.length_take]; omega
  refine ⟨_, _, by rw [hlen], ⟨by rw [hlen]; omega, by rw [hlen]; omega⟩, fun hne => ?_⟩
  have hpos : lo < hi := by
    rcases Nat.lt_or_ge lo hi with h | h
    · exact h
    · exact absurd (List.length_eq_zero_iff.1 (by rw [hlen]; omega)) hne
  obtain ⟨a, cells, T, fz, cs, e1, e2, e3, e4, e5⟩ := hc (by intro h; rw [h] at h2; simp at h2; omega)
  rw [if_neg (by omega), e1]
  have hsp : xs = xs.take lo ++ ((xs.take hi).drop lo ++ xs.drop hi) := by
    have : xs = xs.take hi ++ xs.drop hi := (List.take_append_drop hi xs).symm
    have h3 : xs.take hi = (xs.take hi).take lo ++ (xs.take hi).drop lo := (List.take_append_drop lo _).symm
    rw [List.take_take, show min lo hi = lo by omega] at h3
    rw [← List.append_assoc, ← h3, ← this]
  rw [hsp] at e5
  obtain ⟨c1, c2, f1, f2, f3⟩ := e5.split
  obtain ⟨c3, c4, f4, f5, f6⟩ := f3.split
  have l1 : c1.length = lo * Enc.sz α := by rw [f2.len, List.length_take]; congr 1; omega
  have l3 : c3.length = (hi - lo) * Enc.sz α := by rw [f5.len, hlen]
  refine ⟨_, cells, T, fz, c3, rfl, ?_, ?_, ?_, f5⟩
  · show (a.add _).spot = none; rw [add_none e2]
  · show m ((a.add _).block + 1) = _; rw [add_none e2]; exact e3
  · show (cells.toList.drop (a.add _).off).take _ = _; rw [add_none e2, hlen]
    have e4' : (cells.toList.drop a.off).take (xs.length * Enc.sz α) = c1 ++ (c3 ++ c4) := by rw [e4, f1, f4]
    have g : ((cells.toList.drop a.off).take (xs.length * Enc.sz α)).drop (lo * Enc.sz α) = c3 ++ c4 := by rw [e4', ← l1, List.drop_left]
    rw [List.drop_take, List.drop_drop] at g
    have g2 := congrArg (List.take ((hi - lo) * Enc.sz α)) g
    rw [List.take_take, ← l3, List.take_left] at g2
    have hle : (hi - lo) * Enc.sz α ≤ xs.length * Enc.sz α - lo * Enc.sz α := by rw [← Nat.sub_mul]; exact Nat.mul_le_mul_right _ (by omega)
    rw [l3, Nat.min_eq_left hle] at g2
    rw [show a.off + lo * Enc.sz α = a.off + lo * Enc.sz α from rfl, ← l3] at g2 ⊢
    rw [l3] at g2 ⊢
    exact g2
theorem r_sliceP {t e : TypeId} {low high : Option Operand} {lo hi : Nat} (ht : SliceOf P t e (Enc.sz α)) (hx : ev n al x = some v) (hm : sl v xs ∈ R)
    (hlo : match low with | none => lo = 0 | some y => ev n al y = some (vi (lo : Int))) (hhi : match high with | none => hi = xs.length | some y => ev n al y = some (vi (hi : Int))) (h1 : lo ≤ hi) (h2 : hi ≤ xs.length)
    (k : ∀ u, J P n ops Q rest L (sl u ((xs.take hi).drop lo) :: R) ((d, u) :: al)) : J P n ops Q (⟨some d, .slice t x low high none, ty, pos, aft, none⟩ :: rest) L R al :=
  J.yieldEx (v := fun u => u) (L' := fun _ => L) (R' := fun u => sl u ((xs.take hi).drop lo) :: R) rfl rfl (fun B w hs => by
    obtain ⟨i, hi', hr⟩ := hs.ex
    have hsl := hr _ hm
    have hsl0 := hsl
    obtain ⟨base, cap, rfl, ⟨hn1, hn2⟩, hc⟩ := hsl0
    refine ⟨.slice (if cap = lo then base else base.map (·.add (lo * Enc.sz α))) (hi - lo) (cap - lo), w, ?_, hs.addFact fun i' h' => ?_⟩
    · show (Instr.sliceAt t ((mkA n al B).eval x) (low.map (mkA n al B).eval) (high.map (mkA n al B).eval) none >>= fun v => Pure.pure (Next.value v)).run P w = _
      rw [ev_eval hx, Sem.run_bind]
      have hlo' : (low.map (mkA n al B).eval = none ∧ lo = 0) ∨ low.map (mkA n al B).eval = some (vi (lo : Int)) := by
        cases low with
        | none => exact .inl ⟨rfl, hlo⟩
        | some y => right; simp only [Option.map_some]; rw [ev_eval hlo]
      have hhi' : (high.map (mkA n al B).eval = none ∧ hi = xs.length) ∨ high.map (mkA n al B).eval = some (vi (hi : Int)) := by
        cases high with
        | none => exact .inl ⟨rfl, hhi⟩
        | some y => right; simp only [Option.map_some]; rw [ev_eval hhi]
      have e1 : (0 : Int) ≤ (lo : Int) ∧ (lo : Int) ≤ (hi : Int) := by omega
      have e2 : (0 : Int) ≤ (hi : Int) ∧ (hi : Int) ≤ (cap : Int) := by omega
      have e3 : ((lo : Int)).toNat = lo := Int.toNat_natCast _
      have e4 : ((hi : Int)).toNat = hi := Int.toNat_natCast _
      rcases hlo' with ⟨a1, a2⟩ | a1 <;> rcases hhi' with ⟨b1, b2⟩ | b1 <;> rw [a1, b1] <;>
        simp [Instr.sliceAt, Instr.slice, Instr.sliceBounds, Instr.sliceBound, run_und ht.1, ht.2, asIntOf, e1, e2, h1, h2, hn2] <;> (try subst a2) <;> (try subst b2) <;> (try simp) <;> (try omega)
    · exact part_sl (h' _ hm) h1 h2) k
end
end
end Go.Proofs.YtiofgjolhbgkiaaDoor
end
section
/- This file proves how sums of bytes are reckoned with numbers, and where bytes and numbers of lists lie. No conditions. -/
namespace Go.Proofs.YtiofgjolhbgkiaaDoor
open Go

theorem lt63 (x : BitVec 16) : x.toNat < 9223372036854775808 := by have := x.isLt; omega
theorem top_bit (x : BitVec 16) : x.msb = true ↔ x.toNat &&& 32768 ≠ 0 := by
  have h : (x &&& BitVec.twoPow 16 15).toNat = x.toNat &&& 32768 := by rw [BitVec.toNat_and]; rfl
  rw [← h, BitVec.and_twoPow, BitVec.msb_eq_getLsbD_last]
  show x.getLsbD 15 = true ↔ _
  cases x.getLsbD 15 <;> simp
theorem shl1 (x : BitVec 16) : (x <<< 1).toNat = (x.toNat * 2 ^ 1) % 65536 := by rw [BitVec.toNat_shiftLeft, Nat.shiftLeft_eq]
theorem and_low (a : Nat) : a &&& 65535 = a % 65536 := Nat.and_two_pow_sub_one_eq_mod a 16
theorem crc_hi (x : BitVec 16) (h : x.toNat &&& 32768 ≠ 0) : ((x.toNat * 2 ^ 1) ^^^ 4129) &&& 65535 = (crcBit x).toNat := by
  unfold crcBit
  rw [if_pos ((top_bit x).2 h), BitVec.toNat_xor, shl1, and_low]
  have : (65536 : Nat) = 2 ^ 16 := rfl
  rw [this, Nat.xor_mod_two_pow]; rfl
theorem crc_lo (x : BitVec 16) (h : x.toNat &&& 32768 = 0) : (x.toNat * 2 ^ 1) &&& 65535 = (crcBit x).toNat := by
  unfold crcBit
  have : ¬ x.msb = true := fun hm => (top_bit x).1 hm h
  rw [if_neg this, BitVec.xor_zero, shl1, and_low]
theorem crc_in (x : BitVec 16) (c : UInt8) : x.toNat ^^^ (c.toNat * 2 ^ 8) = (x ^^^ (wideByte c <<< 8)).toNat := by
  rw [BitVec.toNat_xor, BitVec.toNat_shiftLeft, Nat.shiftLeft_eq]
  unfold wideByte
  rw [BitVec.toNat_setWidth]
  have := c.toNat_lt
  show _ = x.toNat ^^^ (c.toNat % 2 ^ 16 * 2 ^ 8 % 2 ^ 16)
  rw [Nat.mod_eq_of_lt (by omega), Nat.mod_eq_of_lt (by omega)]
theorem ref_top (x : BitVec 16) : (x.toNat : Int).tdiv 32768 = if x.msb then 1 else 0 := by
  rw [BitVec.msb_eq_decide]
  have := x.isLt
  have h : (x.toNat : Int).tdiv 32768 = (x.toNat : Int) / 32768 := Int.tdiv_eq_ediv_of_nonneg (by omega)
  rw [h]
  by_cases hx : 2 ^ (16 - 1) ≤ x.toNat
  · simp only [hx, decide_true, if_true]; have : (2 : Nat) ^ (16 - 1) = 32768 := rfl; omega
  · simp only [hx, decide_false, Bool.false_eq_true, if_false]; have : (2 : Nat) ^ (16 - 1) = 32768 := rfl; omega
theorem ref_dbl (x : BitVec 16) : (IntKind.i64.wrap ((x.toNat : Int) * 2)).tmod 65536 = ((x <<< 1).toNat : Int) := by
  rw [shl1, IntKind.wrap_i64]
  have := x.isLt
  have h : ((x.toNat : Int) * 2 + 9223372036854775808) % 18446744073709551616 - 9223372036854775808 = (x.toNat : Int) * 2 := by omega
  rw [h, Int.tmod_eq_emod_of_nonneg (by omega)]; omega
theorem ref_bitI (c : UInt8) (k : Nat) (hk : k ≤ 7) : (((c.toNat : Int) / 2 ^ k).toNat &&& 1 : Nat) = if c.toBitVec.getLsbD k then 1 else 0 := by
  have e : ((c.toNat : Int) / 2 ^ k).toNat = c.toNat / 2 ^ k := by
    have : ((2 : Int) ^ k) = ((2 ^ k : Nat) : Int) := by push_cast; rfl
    rw [this, ← Int.natCast_ediv, Int.toNat_natCast]
  rw [e, show (1 : Nat) = 2 ^ 1 - 1 from rfl, Nat.and_two_pow_sub_one_eq_mod]
  have h1 : c.toBitVec.getLsbD k = c.toNat.testBit k := rfl
  rw [h1, Nat.testBit_eq_decide_div_mod_eq]
  by_cases h : c.toNat / 2 ^ k % 2 = 1
  · simp [h]
  · have : c.toNat / 2 ^ k % 2 = 0 := by omega
    simp [this]
theorem ref_xor (x : BitVec 16) : (x <<< 1).toNat ^^^ 4129 = ((x <<< 1) ^^^ crcP).toNat := by rw [BitVec.toNat_xor]; rfl
theorem refBits_succ (c : UInt8) (j : Nat) (s : BitVec 16) : refBits c (j + 1) s = refBit (refBits c j s) (c.toBitVec.getLsbD (7 - j)) := rfl
def zConfig : Config := ⟨0, 0⟩
def zDone : Done := ⟨0, zOp, 0⟩
def zStep : Step := ⟨0, 0, 0, 0, zOp⟩
def zAnswer : Answer := ⟨0, 0⟩
def zSeen : Seen := ⟨0, 0, false⟩
/-- What the sum is behind the first ones. -/
def sumTo (b : List UInt8) (k : Nat) : BitVec 16 := (b.take k).foldl crcByte 65535#16
theorem sumTo_succ {b : List UInt8} {k : Nat} (h : k < b.length) : sumTo b (k + 1) = crcByte (sumTo b k) (b.getD k 0) := by
  unfold sumTo
  rw [List.take_add_one, List.getElem?_eq_getElem h, List.foldl_append, List.getD_eq_getElem?_getD, List.getElem?_eq_getElem h]; rfl
theorem sumTo_all (b : List UInt8) : sumTo b b.length = sumOf b := by unfold sumTo sumOf; rw [List.take_length]
theorem sum_vi (b : List UInt8) : vi (sumI b) = vi ((sumTo b b.length).toNat : Int) := by rw [sumTo_all]; rfl

theorem b_shlN {P : Program} {T : TypeId} {k : IntKind} {a s : Nat} (hs : s ≤ 62) (h : a * 2 ^ s < 9223372036854775808) (w : World) : (binOp .shl T (vi (a : Int)) (.int k (s : Int))).run P w = .ok (vi ((a * 2 ^ s : Nat) : Int)) w := by
  rw [b_shl (by omega) (by omega)]
  have : ((a : Int)) * 2 ^ ((s : Int)).toNat = ((a * 2 ^ s : Nat) : Int) := by rw [Int.toNat_natCast]; push_cast; rfl
  rw [this, wrap64_nat h]
section
variable {P : Program} {n : Nat} {ops : Array Oper} {Q : Exit → Act → World → Prop} {rest : List Oper} {L L' : List Chunk} {R : List Fact} {al : List (Nat × Value)} {d : Nat} {x y : Operand} {T ty : TypeId} {pos : String} {aft : Array Edge}
theorem r_indexAddrN {v : Value} {T e : TypeId} {sz len i : Nat} (ht : SliceOf P T e sz) (hx : ev n al x = some v) (hy : ev n al y = some (vi (i : Int))) (hl : SliceLen L R v len) (h1 : i < len)
    (k : J P n ops Q rest L R ((d, ep v sz i 0) :: al)) : J P n ops Q (⟨some d, .indexAddr T x y, ty, pos, aft, none⟩ :: rest) L R al := by
  refine r_indexAddr ht hx hy hl (by omega) (by omega) ?_
  rw [Int.toNat_natCast]; exact k
variable {v : Value} {i f : Nat} {c : Value}
theorem getD_some {α : Type} {xs : List α} {i : Nat} (d : α) (h : i < xs.length) : xs[i]? = some (xs.getD i d) := by
  rw [List.getD_eq_getElem?_getD, List.getElem?_eq_getElem h]; rfl
theorem at_intD {xs : List Int} (hm : sl v xs ∈ R) (hi : i < xs.length) : CellsAt L R (ep v 1 i 0) [vi (xs.getD i 0)] := at_int hm (getD_some 0 hi)
theorem at_byteD {xs : List UInt8} (hm : sl v xs ∈ R) (hi : i < xs.length) : CellsAt L R (ep v 1 i 0) [vb (xs.getD i 0)] := at_sl1 hm (getD_some 0 hi) (fun cs m hr => by rw [show cs = [vb _] from hr]; rfl)
theorem at_byterow {T : TypeId} {xs : List UInt8} (hp : Pick L (row T v xs) L') (hi : i < xs.length) : CellsAt L R (ep v 1 i 0) [vb (xs.getD i 0)] := at_row1 hp (getD_some 0 hi) (fun cs m hr => by rw [show cs = [vb _] from hr]; rfl)
theorem at_StepD {xs : List Step} (hm : sl v xs ∈ R) (hi : i < xs.length) : CellsAt L R (ep v 7 i 0) (xs.getD i default).cells := at_Step hm (getD_some default hi)
theorem at_LineD {xs : List Line} (hm : sl v xs ∈ R) (hi : i < xs.length) : CellsAt L R (ep v 7 i 0) (xs.getD i zLine).cells := at_Line hm (getD_some zLine hi)
theorem at_LineDf {xs : List Line} (hm : sl v xs ∈ R) (hi : i < xs.length) (hc : (xs.getD i zLine).cells[f]? = some c) : CellsAt L R (ep v 7 i f) [c] := at_Linef hm (getD_some zLine hi) hc
theorem at_LineDrow {T : TypeId} {xs : List Line} (hp : Pick L (row T v xs) L') (hi : i < xs.length) : CellsAt L R (ep v 7 i 0) (xs.getD i zLine).cells := at_Linerow hp (getD_some zLine hi)
theorem at_LineDfrow {T : TypeId} {xs : List Line} (hp : Pick L (row T v xs) L') (hi : i < xs.length) (hc : (xs.getD i zLine).cells[f]? = some c) : CellsAt L R (ep v 7 i f) [c] := at_Linefrow hp (getD_some zLine hi) hc
theorem at_MsgD {xs : List Msg} (hm : sl v xs ∈ R) (hi : i < xs.length) : CellsAt L R (ep v 8 i 0) (xs.getD i zMsg).cells := at_Msg hm (getD_some zMsg hi)
theorem at_DoneD {xs : List Done} (hm : sl v xs ∈ R) (hi : i < xs.length) : CellsAt L R (ep v 5 i 0) (xs.getD i default).cells := at_Done hm (getD_some default hi)
theorem at_OpD {xs : List Op} (hm : sl v xs ∈ R) (hi : i < xs.length) : CellsAt L R (ep v 3 i 0) (xs.getD i zOp).cells := at_Op hm (getD_some zOp hi)
end
end Go.Proofs.YtiofgjolhbgkiaaDoor
end
section
/- This file proves rules for operations that change nothing, for ordered statements and for those whose order is open alike. No conditions. -/
namespace Go.Proofs.YtiofgjolhbgkiaaDoor
open Go

/-! ### Parts put into their places, one behind the other -/
def putHead : List Value → List Value → Option (List Value)
  | cs, [] => some cs
  | _ :: cs, v :: seg => (putHead cs seg).map (v :: ·)
  | [], _ :: _ => none
def putSeg : List Value → Nat → List Value → Option (List Value)
  | cs, 0, seg => putHead cs seg
  | c :: cs, k + 1, seg => (putSeg cs k seg).map (c :: ·)
  | [], _ + 1, _ => none
theorem putHead_eq : ∀ {cs seg r : List Value}, putHead cs seg = some r → seg.length ≤ cs.length ∧ r = seg ++ cs.drop seg.length
  | cs, [], r, h => by cases cs <;> (simp only [putHead, Option.some.injEq] at h; subst h; simp)
  | c :: cs, v :: seg, r, h => by
    simp only [putHead, Option.map_eq_some_iff] at h
    obtain ⟨r', h1, rfl⟩ := h
    obtain ⟨h2, h3⟩ := putHead_eq h1
    exact ⟨by simp only [List.length_cons]; omega, by rw [h3]; simp⟩
  | [], _ :: _, r, h => by cases h
theorem putSeg_eq : ∀ {k : Nat} {cs seg r : List Value}, putSeg cs k seg = some r → k + seg.length ≤ cs.length ∧ r = cs.take k ++ seg ++ cs.drop (k + seg.length)
  | 0, cs, seg, r, h => by
    have h' : putHead cs seg = some r := by cases cs <;> exact h
    obtain ⟨h1, h2⟩ := putHead_eq h'
    exact ⟨by omega, by rw [h2]; simp⟩
  | k + 1, c :: cs, seg, r, h => by
    simp only [putSeg, Option.map_eq_some_iff] at h
    obtain ⟨r', h1, rfl⟩ := h
    obtain ⟨h2, h3⟩ := putSeg_eq h1
    refine ⟨by simp only [List.length_cons]; omega, ?_⟩
    rw [h3, show k + 1 + seg.length = (k + seg.length) + 1 by omega]; simp
  | k + 1, [], seg, r, h => by cases h
def fillQ (places : List (Nat × Nat)) : List Value → List (Nat × Value) → Option (List Value)
  | cells, [] => some cells
  | cells, (i, v) :: rest => match places[i]? with
    | none => none
    | some (off, size) => match Nat.beq v.cells.size size with
      | false => none
      | true => match putSeg cells off v.cells.toList with
        | none => none
        | some cells' => fillQ places cells' rest
theorem fillQ_eq (places : List (Nat × Nat)) : ∀ (parts : List (Nat × Value)) (cells cs : List Value), fillQ places cells parts = some cs → fillL places cells parts = some cs
  | [], cells, cs, h => h
  | (i, v) :: rest, cells, cs, h => by
    simp only [fillQ] at h
    simp only [fillL]
    cases hp : places[i]? with
    | none => rw [hp] at h; cases h
    | some q =>
      obtain ⟨off, size⟩ := q
      rw [hp] at h
      simp only at h ⊢
      cases hb : Nat.beq v.cells.size size with
      | false => rw [hb] at h; cases h
      | true =>
        rw [hb] at h
        simp only at h
        have hsz : v.cells.size = size := Nat.eq_of_beq_eq_true hb
        cases hq : putSeg cells off v.cells.toList with
        | none => rw [hq] at h; cases h
        | some c' =>
          rw [hq] at h
          simp only at h
          obtain ⟨h1, h2⟩ := putSeg_eq hq
          rw [Array.length_toList] at h1 h2
          rw [if_neg (by omega), ← h2]
          exact fillQ_eq places rest c' cs h
/-- An operation that yields a value, whatever reads its operands so. -/
def PureOp (P : Program) (n : Nat) (al : List (Nat × Value)) (L : List Chunk) (R : List Fact) (o : Oper) (v : Value) : Prop :=
  o.guard = none ∧ ∀ (ρ : Operand → Value) (w : World), (∀ x ∈ o.op.operands, ∀ u, ev n al x = some u → ρ x = u) → St L R w → (execOp ρ o).run P w = .ok (.value v) w
section
variable {P : Program} {n : Nat} {ops : Array Oper} {Q : Exit → Act → World → Prop} {rest : List Oper} {L L' : List Chunk} {R : List Fact} {al : List (Nat × Value)} {d : Nat} {x y : Operand} {T ty : TypeId} {pos : String} {aft : Array Edge}
theorem r_p {o : Oper} {v : Value} (hp : PureOp P n al L R o v) (hd : o.dst = some d) (k : J P n ops Q rest L R ((d, v) :: al)) : J P n ops Q (o :: rest) L R al :=
  J.pure hp.1 hd (fun B w hs => hp.2 _ w (fun x hx u hu => ev_eval hu) hs) k
theorem d_p {Sh : Rho → (Nat → Bool) → List Chunk} {R0 : List Fact} {al0 : List (Nat × Value)} {i : Nat} {its : List Item} {o : Oper} {v : Rho → Value} (hp : ∀ ρ S, PureOp P n (alOf its al0 ρ) (Sh ρ S) R0 o (v ρ)) (hd : o.dst = some d) (hi : Ind ops i v) (hSh : ∀ ρ g S, S i = false → Sh (Rho.set ρ i g) (upS S i) = Sh ρ S)
    (k : DJ P n ops Q Sh R0 al0 (i + 1) rest (⟨i, some d, v, fun _ => [], fun _ => []⟩ :: its)) : DN P n ops Q Sh R0 al0 i o rest its :=
  d_pure (hp (fun _ => ⟨undef, undef, undef, undef, 0⟩) (fun _ => false)).1 hd hSh hi (fun ρ S a L' R' w h => (hp ρ S).2 _ w (fun x hx u hu => agree_ev h.agree hx hu) (h.st.fewer h.base)) k

theorem d_pc {Sh : Rho → (Nat → Bool) → List Chunk} {R0 : List Fact} {al0 : List (Nat × Value)} {i : Nat} {its : List Item} {o : Oper} {v : Value} (hp : ∀ ρ S, PureOp P n (alOf its al0 ρ) (Sh ρ S) R0 o v) (hd : o.dst = some d) (hSh : ∀ ρ g S, S i = false → Sh (Rho.set ρ i g) (upS S i) = Sh ρ S)
    (k : DJ P n ops Q Sh R0 al0 (i + 1) rest (⟨i, some d, fun _ => v, fun _ => [], fun _ => []⟩ :: its)) : DN P n ops Q Sh R0 al0 i o rest its := d_p hp hd (Ind.const _) hSh k
theorem p_build {zc cs : List Value} {places : List (Nat × Nat)} {parts : List (Nat × Operand)} {vs : List Value} (hT : StructOf P T zc places) (ha : evL n al (parts.map (·.2)) = some vs) (h' : fillQ places zc ((parts.map (·.1)).zip vs) = some cs) : PureOp P n al L R ⟨some d, .build T parts.toArray, ty, pos, aft, none⟩ (.agg cs.toArray) :=
  ⟨rfl, fun ρ w hρ _ => by
    have h := fillQ_eq _ _ _ _ h'
    show (Instr.build T (parts.toArray.map fun (i, x) => (i, ρ x)) >>= fun v => Pure.pure (Next.value v)).run P w = _
    have key : ∀ (l : List (Nat × Operand)) (us : List Value), (∀ x ∈ l.map (·.2), ∀ u, ev n al x = some u → ρ x = u) → evL n al (l.map (·.2)) = some us → l.map (fun (i, x) => (i, ρ x)) = (l.map (·.1)).zip us := by
      intro l
      induction l with
      | nil => intro us _ he; simp only [List.map_nil, evL] at he; cases he; rfl
      | cons p l ih =>
        intro us hx he
        simp only [List.map_cons, evL] at he
        cases h1 : ev n al p.2 with
        | none => rw [h1] at he; cases he
        | some v =>
          cases h2 : evL n al (l.map (·.2)) with
          | none => rw [h1, h2] at he; cases he
          | some us' =>
            rw [h1, h2] at he
            cases he
            simp only [List.map_cons, List.zip_cons_cons]
            rw [hx p.2 (by simp) v h1, ih us' (fun x hm => hx x (by simp only [List.map_cons]; exact List.mem_cons_of_mem _ hm)) h2]
    have hp : (parts.toArray.map fun (i, x) => (i, ρ x)) = ((parts.map (·.1)).zip vs).toArray := by
      rw [List.map_toArray, key parts vs (fun x hx u hu => hρ x (by simpa [Op.operands] using hx) u hu) ha]
    rw [hp, Sem.run_bind, run_buildS hT h w]; rfl⟩
theorem p_binG {op : BinOp} {v1 v2 v : Value} {U : TypeId} (hx : ev n al x = some v1) (hy : ev n al y = some v2) (hg : ∀ w : World, (eqGuard op T x y v1 v2).run P w = .ok () w) (hv : ∀ w : World, (binOp op T v1 v2).run P w = .ok v w) : PureOp P n al L R ⟨some d, .binOp op T x y U, ty, pos, aft, none⟩ v :=
  ⟨rfl, fun ρ w h _ => by
    have e : (execOp ρ ⟨some d, .binOp op T x y U, ty, pos, aft, none⟩) = (do let v ← (do eqGuard op T x y v1 v2; binOp op T v1 v2); pure (Next.value v)) := by
      simp only [execOp, h x (by simp [Op.operands]) _ hx, h y (by simp [Op.operands]) _ hy]
    rw [e]
    simp [hg w, hv w]⟩
theorem p_int {op : BinOp} {k k' : IntKind} {a b : Int} {v : Value} {U : TypeId} (hx : ev n al x = some (.int k a)) (hy : ev n al y = some (.int k' b)) (hv : ∀ w : World, (binOp op T (.int k a) (.int k' b)).run P w = .ok v w) : PureOp P n al L R ⟨some d, .binOp op T x y U, ty, pos, aft, none⟩ v := p_binG hx hy guard_int hv
theorem p_str {op : BinOp} {a b : ByteArray} {v : Value} {U : TypeId} (hx : ev n al x = some (.string a)) (hy : ev n al y = some (.string b)) (hv : ∀ w : World, (binOp op T (.string a) (.string b)).run P w = .ok v w) : PureOp P n al L R ⟨some d, .binOp op T x y U, ty, pos, aft, none⟩ v := p_binG hx hy guard_str hv
theorem p_bool {op : BinOp} {a b : Bool} {v : Value} {U : TypeId} (hx : ev n al x = some (.bool a)) (hy : ev n al y = some (.bool b)) (hv : ∀ w : World, (binOp op T (.bool a) (.bool b)).run P w = .ok v w) : PureOp P n al L R ⟨some d, .binOp op T x y U, ty, pos, aft, none⟩ v := p_binG hx hy guard_bool hv
theorem p_convInt {src dst : TypeId} {k k' : IntKind} {a : Int} {v : Value} (hs : P.underlying src = some (.int k')) (hd : P.underlying dst = some (.int k)) (hx : ev n al x = some (.int k' a)) (hv : Value.int k (k.wrap a) = v) : PureOp P n al L R ⟨some d, .convert src dst x, ty, pos, aft, none⟩ v :=
  ⟨rfl, fun ρ w h _ => by
    show (convert src dst (ρ x) >>= fun v => Pure.pure (Next.value v)).run P w = _
    have e : (convert src dst (.int k' a)).run P w = .ok v w := by
      unfold convert
      rw [Sem.run_bind, run_und hs]; simp only [Result.andThen]
      rw [Sem.run_bind, run_und hd]; simp only [Result.andThen]
      rw [← hv]; rfl
    rw [h x (by simp [Op.operands]) _ hx, Sem.run_bind, e]; rfl⟩
theorem p_convStr {src dst e : TypeId} {bs : List UInt8} {v : Value} (hs : P.underlying src = some (.slice e)) (he : P.underlying e = some (.int .u8)) (hd : P.underlying dst = some .string) (hx : ev n al x = some v) (hm : sl v bs ∈ R) : PureOp P n al L R ⟨some d, .convert src dst x, ty, pos, aft, none⟩ (.string (bstr bs)) :=
  ⟨rfl, fun ρ w h hst => by
    show (convert src dst (ρ x) >>= fun v => Pure.pure (Next.value v)).run P w = _
    obtain ⟨i, hi, hr⟩ := hst.ex
    have hsl := hr _ hm
    have hc := conv_bytes (P := P) hi hsl
    obtain ⟨base, cap, rfl, _, _⟩ := hsl
    rw [h x (by simp [Op.operands]) _ hx, Sem.run_bind]
    simp [convert, run_und hs, run_und hd, run_und he, hc]⟩
theorem p_indexAddrN {v : Value} {T e : TypeId} {sz len i : Nat} (ht : SliceOf P T e sz) (hx : ev n al x = some v) (hy : ev n al y = some (vi (i : Int))) (hl : SliceLen L R v len) (h1 : i < len) : PureOp P n al L R ⟨some d, .indexAddr T x y, ty, pos, aft, none⟩ (ep v sz i 0) :=
  ⟨rfl, fun ρ w h hs => by
    obtain ⟨base, cap, rfl, hb⟩ := hl w hs
    obtain ⟨a, rfl⟩ := hb (by omega)
    show (Instr.indexAt T (ρ x) (ρ y) >>= fun v => Pure.pure (Next.value v)).run P w = _
    rw [h x (by simp [Op.operands]) _ hx, h y (by simp [Op.operands]) _ hy, Sem.run_bind]
    have : (Instr.indexAt T (.slice (some a) len cap) (vi (i : Int))).run P w = .ok (.pointer (some (a.add (i * sz)))) w := by
      simp [Instr.indexAt, asIntOf, run_und ht.1, ht.2, h1]
    rw [this]; rfl⟩
/-- A place in an array behind a pointer. -/
theorem p_indexAddrA {b f i len sz : Nat} {T e : TypeId} (ht : P.underlying T = some (.array len e)) (hsz : ∀ w, (sizeOf e).run P w = .ok sz w) (hx : ev n al x = some (bp b f)) (hy : ev n al y = some (vi (i : Int))) (h1 : Nat.blt i len = true) : PureOp P n al L R ⟨some d, .indexAddr T x y, ty, pos, aft, none⟩ (bp b (f + i * sz)) :=
  ⟨rfl, fun ρ w h hs => by
    have h1' := blt_iff.1 h1
    show (Instr.indexAt T (ρ x) (ρ y) >>= fun v => Pure.pure (Next.value v)).run P w = _
    rw [h x (by simp [Op.operands]) _ hx, h y (by simp [Op.operands]) _ hy, Sem.run_bind]
    have : (Instr.indexAt T (bp b f) (vi (i : Int))).run P w = .ok (bp b (f + i * sz)) w := by
      simp [Instr.indexAt, asIntOf, run_und ht, hsz, bp, Instr.sureAddr, h1', add_mk]
    rw [this]; rfl⟩
/-- A pair of numbers. -/
theorem p_buildP {T e : TypeId} {p q : Operand} {a b : Int} (ht : P.underlying T = some (.array 2 e)) (hsz : ∀ w, (sizeOf e).run P w = .ok 1 w) (hz : ∀ w, (zeroValue T).run P w = .ok (.agg #[vi 0, vi 0]) w) (ha : ev n al p = some (vi a)) (hb : ev n al q = some (vi b)) :
    PureOp P n al L R ⟨some d, .build T #[(0, p), (1, q)], ty, pos, aft, none⟩ (.agg [vi a, vi b].toArray) :=
  ⟨rfl, fun ρ w h hs => by
    show (Instr.build T (#[(0, p), (1, q)].map fun (i, x) => (i, ρ x)) >>= fun v => Pure.pure (Next.value v)).run P w = _
    have e1 := h p (by simp [Op.operands]) _ ha
    have e2 := h q (by simp [Op.operands]) _ hb
    rw [Sem.run_bind]
    have : (Instr.build T (#[(0, p), (1, q)].map fun (i, x) => (i, ρ x))).run P w = .ok (.agg [vi a, vi b].toArray) w := by
      simp [Instr.build, hz, run_und ht, hsz, Instr.fill, e1, e2, Value.cells]
    rw [this]; rfl⟩
theorem at_Pair {v : Value} {i : Nat} {e : Int × Int} {xs : List (Int × Int)} (hm : sl v xs ∈ R) (hi : xs[i]? = some e) : CellsAt L R (ep v 2 i 0) [vi e.1, vi e.2] := at_slN (α := Int × Int) (f := 0) hm hi (fun cs m hr k c hk => by rw [hr.1, Nat.zero_add]; exact hk)
theorem at_Pairrow {v : Value} {i : Nat} {e : Int × Int} {xs : List (Int × Int)} {T : TypeId} (hp : Pick L (row T v xs) L') (hi : xs[i]? = some e) : CellsAt L R (ep v 2 i 0) [vi e.1, vi e.2] := at_rowN (α := Int × Int) (f := 0) hp hi (fun cs m hr k c hk => by rw [hr.1, Nat.zero_add]; exact hk)
end

/-! ### Numbers put together -/
section
variable {P : Program} {T : TypeId} {k : IntKind}
theorem b_shl4 {x : Int} (h0 : 0 ≤ x) (h1 : x ≤ 1000000000) (w : World) : (binOp .shl T (vi x) (.int k 4)).run P w = .ok (vi (16 * x)) w := by
  rw [b_shl (by omega) (by omega)]
  have : x * 2 ^ (4 : Int).toNat = 16 * x := by show x * 16 = _; omega
  rw [this, IntKind.wrap_i64, show (16 * x + 9223372036854775808) % 18446744073709551616 - 9223372036854775808 = 16 * x by omega]
theorem b_shl256 {x : Int} (h0 : 0 ≤ x) (h1 : x ≤ 1000000000) (w : World) : (binOp .shl T (vi x) (.int k 8)).run P w = .ok (vi (256 * x)) w := by
  rw [b_shl (by omega) (by omega)]
  have : x * 2 ^ (8 : Int).toNat = 256 * x := by show x * 256 = _; omega
  rw [this, IntKind.wrap_i64, show (256 * x + 9223372036854775808) % 18446744073709551616 - 9223372036854775808 = 256 * x by omega]
theorem b_shr256 {x : Int} (w : World) : (binOp .shr T (vi x) (.int k 8)).run P w = .ok (vi (x / 256)) w := b_shr (by omega) (by omega) w
theorem b_shr16 {x : UInt8} (w : World) : (binOp .shr T (vb x) (.int k 4)).run P w = .ok (vb (u8 ((x.toNat : Int) / 16))) w := b_shr8 (by omega) (by omega) w
theorem b_and15 {a : Int} (w : World) : (binOp .and T (vi a) (vi 15)).run P w = .ok (vi (a % 16)) w := by
  show Result.ok (Value.int .i64 (IntKind.i64.wrap ((BitVec.ofInt 64 a &&& BitVec.ofInt 64 15).toNat : Int))) w = _
  have h : (BitVec.ofInt 64 a &&& BitVec.ofInt 64 15).toNat = (a % 16).toNat := by
    rw [BitVec.toNat_and]
    have h1 : (BitVec.ofInt 64 15).toNat = 2 ^ 4 - 1 := by rw [BitVec.toNat_ofInt]; rfl
    rw [h1, Nat.and_two_pow_sub_one_eq_mod, BitVec.toNat_ofInt]
    omega
  rw [h, IntKind.wrap_i64]
  have : ((((a % 16).toNat : Nat) : Int) + 9223372036854775808) % 18446744073709551616 - 9223372036854775808 = a % 16 := by omega
  rw [this]
theorem b_and15b {x : UInt8} (w : World) : (binOp .and T (vb x) (.int .u8 15)).run P w = .ok (vb (u8 ((x.toNat : Int) % 16))) w := by
  have h := b_and8 (P := P) (T := T) (a := x) (b := 15) w
  have e : x &&& 15 = u8 ((x.toNat : Int) % 16) := by
    apply UInt8.toNat.inj
    have h1 : ((u8 ((x.toNat : Int) % 16)).toNat : Int) = (x.toNat : Int) % 16 := u8_in (by omega) (by omega)
    have h2 : (x &&& 15).toNat = x.toNat % 16 := by rw [UInt8.toNat_and]; exact Nat.and_two_pow_sub_one_eq_mod x.toNat 4
    omega
  rw [e] at h; exact h
theorem or_add {a b i : Nat} (h : b < 2 ^ i) : (2 ^ i * a) ||| b = 2 ^ i * a + b := by
  rw [Nat.mul_comm, ← Nat.shiftLeft_eq]
  exact (Nat.shiftLeft_add_eq_or_of_lt h a).symm
theorem b_or16 {a b : Int} (h0 : 0 ≤ a) (h1 : a ≤ 1000000000) (h2 : 0 ≤ b) (h3 : b < 16) (w : World) : (binOp .or T (vi (16 * a)) (vi b)).run P w = .ok (vi (16 * a + b)) w := by
  obtain ⟨x, rfl⟩ := Int.eq_ofNat_of_zero_le h0
  obtain ⟨y, rfl⟩ := Int.eq_ofNat_of_zero_le h2
  have e : (16 : Int) * (x : Int) = ((16 * x : Nat) : Int) := by omega
  rw [e, b_orN (by omega) (by omega), show 16 * x = 2 ^ 4 * x from rfl, or_add (by omega)]
  rw [show ((2 ^ 4 * x + y : Nat) : Int) = ((16 * x : Nat) : Int) + (y : Int) by omega]
theorem b_or256 {a b : Int} (h0 : 0 ≤ a) (h1 : a ≤ 1000000000) (h2 : 0 ≤ b) (h3 : b < 256) (w : World) : (binOp .or T (vi (256 * a)) (vi b)).run P w = .ok (vi (256 * a + b)) w := by
  obtain ⟨x, rfl⟩ := Int.eq_ofNat_of_zero_le h0
  obtain ⟨y, rfl⟩ := Int.eq_ofNat_of_zero_le h2
  have e : (256 : Int) * (x : Int) = ((256 * x : Nat) : Int) := by omega
  rw [e, b_orN (by omega) (by omega), show 256 * x = 2 ^ 8 * x from rfl, or_add (by omega)]
  rw [show ((2 ^ 8 * x + y : Nat) : Int) = ((256 * x : Nat) : Int) + (y : Int) by omega]
end
/-! ### Blocks and parts of slices, where the order is open -/
section
variable {P : Program} {n : Nat} {Q : Exit → Act → World → Prop} {Sh : Rho → (Nat → Bool) → List Chunk} {R0 : List Fact} {al0 : List (Nat × Value)}
variable {ops : Array Oper} {i : Nat} {rest : List Oper} {its : List Item} {d : Nat} {x y : Operand} {T ty : TypeId} {pos : String} {aft : Array Edge}
theorem d_alloc {z : Value} {cs : List Value} (hz : ∀ w, (zeroValue T).run P w = .ok z w) (hv : z.cells = cs.toArray) (hSh : ∀ ρ g S, S i = false → Sh (Rho.set ρ i g) (upS S i) = Sh ρ S)
    (k : DJ P n ops Q Sh R0 al0 (i + 1) rest (⟨i, some d, fun ρ => bp (Gh.dec (γ := Nat) (ρ i)) 0, fun _ => [], fun ρ => [blk (Gh.dec (γ := Nat) (ρ i)) T cs]⟩ :: its)) : DN P n ops Q Sh R0 al0 i ⟨some d, .alloc T, ty, pos, aft, none⟩ rest its :=
  d_res (γ := Nat) (val := fun b => bp b 0) (F := fun _ => []) (C := fun b => [blk b T cs]) rfl rfl hSh (fun ρ S a L' R' w K h hK => by
    unfold Oper.wp
    have e : (execOp a.eval ⟨some d, .alloc T, ty, pos, aft, none⟩).run P w = .ok (.value (bp w.heap.size 0)) { w with heap := w.heap.push (.cells cs.toArray T (0, 0)) } := by
      show (Instr.alloc T true (.tuple #[]) >>= fun v => Pure.pure (Next.value v)).run P w = _
      simp [Instr.alloc, hz, hv, newVar, newRow, bp]
    rw [e, Oper.upon_value]
    exact hK w.heap.size _ (h.st.new (.cells cs.toArray T (0, 0)))) k
theorem sh_add {α : Type} {l : List α} {x : α} : (l ++ [x]).Perm (x :: (l ++ [])) := by rw [List.append_nil]; exact (List.perm_append_comm (l₁ := l) (l₂ := [x]))
/-- New memory that a later operation of the same statement writes. -/
theorem d_allocSh {z : Value} {cs : List Value} (hz : ∀ w, (zeroValue T).run P w = .ok z w) (hv : z.cells = cs.toArray) (hSh : ∀ ρ (b : Nat) S, S i = false → (∀ j, Bef ops i j → S j = false) → (Sh (Rho.set ρ i (Gh.enc b)) (upS S i)).Perm (blk b T cs :: Sh ρ S))
    (k : DJ P n ops Q Sh R0 al0 (i + 1) rest (⟨i, some d, fun ρ => bp (Gh.dec (γ := Nat) (ρ i)) 0, fun _ => [], fun _ => []⟩ :: its)) : DN P n ops Q Sh R0 al0 i ⟨some d, .alloc T, ty, pos, aft, none⟩ rest its := by
  refine ⟨⟨i, some d, fun ρ => bp (Gh.dec (γ := Nat) (ρ i)) 0, fun _ => [], fun _ => []⟩, rfl, rfl, Ind.self (h := fun g => bp (Gh.dec (γ := Nat) g) 0), Ind.const _, Ind.const _, ?_, k⟩
  intro ρ S a L' R' w K hS hbef haft hag hdep hbase hst hK
  rw [if_pos (by simp [Region.wanted])]
  left
  unfold Oper.wp
  have e : (execOp a.eval ⟨some d, .alloc T, ty, pos, aft, none⟩).run P w = .ok (.value (bp w.heap.size 0)) { w with heap := w.heap.push (.cells cs.toArray T (0, 0)) } := by
    show (Instr.alloc T true (.tuple #[]) >>= fun v => Pure.pure (Next.value v)).run P w = _
    simp [Instr.alloc, hz, hv, newVar, newRow, bp]
  rw [e, Oper.upon_value]
  have e2 : (Rho.set ρ i (Gh.enc w.heap.size)) i = Gh.enc w.heap.size := by simp [Rho.set]
  have := hK (Gh.enc w.heap.size) _ (((hst.new (.cells cs.toArray T (0, 0)))).perm ?_)
  · simp only [e2, Gh.ok] at this; exact this
  · refine List.Perm.trans ?_ ((hSh ρ w.heap.size S hS haft).symm.append_right _)
    exact List.Perm.refl _
/-- The whole of it is written. -/
theorem d_storeSh {b : Rho → Nat} {vs cs : Rho → List Value} {sz : Nat} {T0 : TypeId} (hsz : ∀ w, (sizeOf T).run P w = .ok sz w) (hx : ∀ ρ, ev n (alOf its al0 ρ) x = some (bp (b ρ) 0)) (hy : ∀ ρ, ev n (alOf its al0 ρ) y = some (.agg (cs ρ).toArray)) (hl : ∀ ρ, (cs ρ).length = sz) (h1 : ∀ ρ, ∀ u ∈ cs ρ, u.oneCell' = true) (hvl : ∀ ρ, (vs ρ).length = sz)
    (hSh : ∀ ρ g S, S i = false → (∀ j, Bef ops j i → S j = true) → ∃ L1, (Sh ρ S).Perm (blk (b ρ) T0 (vs ρ) :: L1) ∧ (Sh (Rho.set ρ i g) (upS S i)).Perm (blk (b ρ) T0 (cs ρ) :: L1))
    (k : DJ P n ops Q Sh R0 al0 (i + 1) rest (⟨i, none, fun _ => undef, fun _ => [], fun _ => []⟩ :: its)) : DN P n ops Q Sh R0 al0 i ⟨none, .store T x y, ty, pos, aft, none⟩ rest its := by
  refine ⟨⟨i, none, fun _ => undef, fun _ => [], fun _ => []⟩, rfl, rfl, Ind.const _, Ind.const _, Ind.const _, ?_, k⟩
  intro ρ S a L' R' w K hS hbef haft hag hdep hbase hst hK
  rw [if_pos (by simp [Region.wanted])]
  left
  unfold Oper.wp
  obtain ⟨L1, p1, p2⟩ := hSh ρ (ρ i) S hS hbef
  have hs' : St (blk (b ρ) T0 (vs ρ) :: (L1 ++ L')) R' w := hst.perm (p1.append_right L')
  have e : (execOp a.eval ⟨none, .store T x y, ty, pos, aft, none⟩).run P w = .ok .skip (w.setRow (b ρ) (cs ρ).toArray) := by
    refine exec_store ?_
    rw [agree_ev hag (by simp [Op.operands]) (hx ρ), agree_ev hag (by simp [Op.operands]) (hy ρ)]
    have := run_storeN (P := P) (T := T) (b := b ρ) (f := 0) (vs := vs ρ) (cs := cs ρ) (w := w) (by rw [hl]; exact hsz) (h1 ρ) hs'.blk_get (by rw [hl, hvl]; omega)
    rw [this, hl, ← hvl ρ]
    simp
  rw [e, Oper.upon_skip]
  refine hK (ρ i) _ ?_
  have hnew : St (blk (b ρ) T0 (cs ρ) :: (L1 ++ L')) R' (w.setRow (b ρ) (cs ρ).toArray) := hs'.blk_set (setRow_heap' hs'.blk_get).1 (setRow_heap' hs'.blk_get).2 rfl rfl
  exact hnew.perm (p2.symm.append_right L')
theorem d_convStr {src dst e : TypeId} {bs : List UInt8} {v : Rho → Value} (hs : P.underlying src = some (.slice e)) (he : P.underlying e = some (.int .u8)) (hd : P.underlying dst = some .string) (hx : ∀ ρ, ev n (alOf its al0 ρ) x = some (v ρ)) (hm : ∀ ρ R', Deps ops R0 its i ρ R' → sl (v ρ) bs ∈ R') (hSh : ∀ ρ g S, S i = false → Sh (Rho.set ρ i g) (upS S i) = Sh ρ S)
    (k : DJ P n ops Q Sh R0 al0 (i + 1) rest (⟨i, some d, fun _ => .string (bstr bs), fun _ => [], fun _ => []⟩ :: its)) : DN P n ops Q Sh R0 al0 i ⟨some d, .convert src dst x, ty, pos, aft, none⟩ rest its :=
  d_pure rfl rfl hSh (Ind.const _) (fun ρ S a L' R' w h => by
    show (convert src dst (a.eval x) >>= fun v => Pure.pure (Next.value v)).run P w = _
    obtain ⟨j, hj, hr⟩ := h.st.ex
    have hsl := hr _ (hm ρ R' ⟨h.base, h.deps⟩)
    have hc := conv_bytes (P := P) hj hsl
    obtain ⟨base, cap, hv, _, _⟩ := hsl
    have hev := agree_ev h.agree (by simp [Op.operands]) (hx ρ)
    rw [hev, Sem.run_bind]
    rw [hv] at hc ⊢
    simp [convert, run_und hs, run_und hd, run_und he, hc]) k
theorem d_sliceP {α : Type} [Enc α] {v : Value} {xs : List α} {t e : TypeId} {low high : Option Operand} {lo hi : Nat} (ht : SliceOf P t e (Enc.sz α)) (hx : ∀ ρ, ev n (alOf its al0 ρ) x = some v) (hm : sl v xs ∈ R0)
    (hlo : ∀ ρ, match low with | none => lo = 0 | some y => ev n (alOf its al0 ρ) y = some (vi (lo : Int))) (hhi : ∀ ρ, match high with | none => hi = xs.length | some y => ev n (alOf its al0 ρ) y = some (vi (hi : Int))) (h1 : lo ≤ hi) (h2 : hi ≤ xs.length) (hSh : ∀ ρ g S, S i = false → Sh (Rho.set ρ i g) (upS S i) = Sh ρ S)
    (k : DJ P n ops Q Sh R0 al0 (i + 1) rest (⟨i, some d, fun ρ => Gh.dec (γ := Value) (ρ i), fun ρ => [sl (Gh.dec (γ := Value) (ρ i)) ((xs.take hi).drop lo)], fun _ => []⟩ :: its)) : DN P n ops Q Sh R0 al0 i ⟨some d, .slice t x low high none, ty, pos, aft, none⟩ rest its :=
  d_res (γ := Value) (val := fun u => u) (F := fun u => [sl u ((xs.take hi).drop lo)]) (C := fun _ => []) rfl rfl hSh (fun ρ S a L' R' w K h hK => by
    obtain ⟨j, hj, hr⟩ := h.st.ex
    have hsl := hr _ (h.base _ hm)
    have hsl0 := hsl
    obtain ⟨base, cap, rfl, ⟨hn1, hn2⟩, hc⟩ := hsl0
    unfold Oper.wp
    have e : (execOp a.eval ⟨some d, .slice t x low high none, ty, pos, aft, none⟩).run P w = .ok (.value (.slice (if cap = lo then base else base.map (·.add (lo * Enc.sz α))) (hi - lo) (cap - lo))) w := by
      show (Instr.sliceAt t (a.eval x) (low.map a.eval) (high.map a.eval) none >>= fun v => Pure.pure (Next.value v)).run P w = _
      rw [agree_ev h.agree (by simp [Op.operands]) (hx ρ), Sem.run_bind]
      have hlo' : (low.map a.eval = none ∧ lo = 0) ∨ low.map a.eval = some (vi (lo : Int)) := by
        have hl := hlo ρ
        cases low with
        | none => exact .inl ⟨rfl, hl⟩
        | some y => right; simp only [Option.map_some]; rw [agree_ev h.agree (by simp [Op.operands]) hl]
      have hhi' : (high.map a.eval = none ∧ hi = xs.length) ∨ high.map a.eval = some (vi (hi : Int)) := by
        have hl := hhi ρ
        cases high with
        | none => exact .inl ⟨rfl, hl⟩
        | some y => right; simp only [Option.map_some]; rw [agree_ev h.agree (by simp [Op.operands]) hl]
      have e1 : (0 : Int) ≤ (lo : Int) ∧ (lo : Int) ≤ (hi : Int) := by omega
      have e2 : (0 : Int) ≤ (hi : Int) ∧ (hi : Int) ≤ (cap : Int) := by omega
      rcases hlo' with ⟨a1, a2⟩ | a1 <;> rcases hhi' with ⟨b1, b2⟩ | b1 <;> rw [a1, b1] <;>
        simp [Instr.sliceAt, Instr.slice, Instr.sliceBounds, Instr.sliceBound, run_und ht.1, ht.2, asIntOf, e1, e2, h1, h2, hn2] <;> (try subst a2) <;> (try subst b2) <;> (try simp) <;> (try omega)
    rw [e, Oper.upon_value]
    exact hK _ w (h.st.addFact fun i' h' => part_sl (h' _ (h.base _ hm)) h1 h2)) k
end
/-! ### What hangs on an operation that was left out -/
def gu (n : Nat) (al : List (Nat × Value)) (ops : List Oper) (i : Nat) : Bool := match nthO ops i with
  | some o => match o.dst with
    | some t => match ev n al (.tmp t) with
      | some (.tuple _) => true
      | _ => false
    | none => false
  | none => false
theorem gu_spec {n : Nat} {al : List (Nat × Value)} {l : List Oper} {i : Nat} (h : gu n al l i = true) : ∃ o t c, l.toArray[i]? = some o ∧ o.dst = some t ∧ ev n al (.tmp t) = some (.tuple c) := by
  unfold gu at h
  rw [nthO_eq] at h
  cases ho : l[i]? with
  | none => rw [ho] at h; cases h
  | some o =>
    rw [ho] at h
    simp only at h
    cases hd : o.dst with
    | none => rw [hd] at h; cases h
    | some t =>
      rw [hd] at h
      simp only at h
      split at h
      · rename_i c he; exact ⟨o, t, c, by simpa using ho, hd, he⟩
      · cases h
section
variable {P : Program} {n : Nat} {Q : Exit → Act → World → Prop} {rest : List Oper} {L : List Chunk} {R : List Fact} {al : List (Nat × Value)} {d : Nat} {ty : TypeId} {pos : String} {aft : Array Edge}
theorem J.guardUndef {l : List Oper} {op : Go.Op} {i : Nat} {b : Bool} (hv : gu n al l i = true)
    (k : J P n l.toArray Q rest L R ((d, undef) :: al)) : J P n l.toArray Q (⟨some d, op, ty, pos, aft, some (i, b)⟩ :: rest) L R al := by
  obtain ⟨oi, t, c, hi, ht, he⟩ := gu_spec hv
  intro B w hs
  unfold wpList
  have hw : Region.wanted ⟨some d, op, ty, pos, aft, some (i, b)⟩ (yielded l.toArray (mkA n al B).tmps) = false := by
    simp only [Region.wanted, yielded, hi, Option.bind_some, ht, look_tmps he]
    rfl
  rw [if_neg (by simp [hw]), mkA_put]
  exact k B w hs
end
section
variable {P : Program} {n : Nat} {Q : Exit → Act → World → Prop} {Sh : Rho → (Nat → Bool) → List Chunk} {R0 : List Fact} {al0 : List (Nat × Value)}
variable {i : Nat} {rest : List Oper} {its : List Item} {d : Nat} {ty : TypeId} {pos : String} {aft : Array Edge}
theorem d_guardUndef {l : List Oper} {op : Go.Op} {q : Nat} {b : Bool} (hv : ∀ ρ, gu n (alOf its al0 ρ) l q = true) (hSh : ∀ ρ g S, S i = false → Sh (Rho.set ρ i g) (upS S i) = Sh ρ S)
    (k : DJ P n l.toArray Q Sh R0 al0 (i + 1) rest (⟨i, some d, fun _ => undef, fun _ => [], fun _ => []⟩ :: its)) : DN P n l.toArray Q Sh R0 al0 i ⟨some d, op, ty, pos, aft, some (q, b)⟩ rest its := by
  refine ⟨⟨i, some d, fun _ => undef, fun _ => [], fun _ => []⟩, rfl, rfl, Ind.const _, Ind.const _, Ind.const _, ?_, k⟩
  intro ρ S a L' R' w K hS hbef haft hag hdep hbase hst hK
  obtain ⟨oi, t, c, hq, ht, he⟩ := gu_spec (hv ρ)
  have hl : a.tmps[t]? = some (.tuple c) := hag t _ (by unfold Oper.looksAt; refine List.mem_append_right _ ?_; simp only [hq, Option.bind_some, ht]; simp) he
  have hw : Region.wanted (⟨some d, op, ty, pos, aft, some (q, b)⟩ : Oper) (yielded l.toArray a.tmps) = false := by
    simp only [Region.wanted, yielded, hq, Option.bind_some, ht, hl]
    rfl
  rw [if_neg (by simp [hw])]
  have := hK (ρ i) w
  exact this (by rw [hSh _ _ _ hS]; exact hst)
end
theorem beq_iff2 {a b c d : Int} : ((a == b) = (c == d)) ↔ (a = b ↔ c = d) := by
  by_cases h1 : a = b
  · by_cases h2 : c = d
    · simp [h1, h2]
    · have : (c == d) = false := beq_eq_false_iff_ne.2 h2
      rw [this]; simp [h1, h2]
  · have e1 : (a == b) = false := beq_eq_false_iff_ne.2 h1
    by_cases h2 : c = d
    · rw [e1]; simp [h1, h2]
    · have : (c == d) = false := beq_eq_false_iff_ne.2 h2
      rw [e1, this]; simp [h1, h2]
/-! ### What is owned, lent to a call that leaves all as it was -/
def memC (m : Mem) : Chunk := ⟨fun m' _ => Mem.le m m', fun _ _ _ _ h => h⟩
def memF (m : Mem) : Fact := ⟨fun m' => Mem.le m m', fun _ _ h h' => Mem.le_trans h' h⟩
theorem borrow {P : Program} {γ : Type} {val : γ → Value} {f : FuncId} {args : Array Value} {c : Chunk} {F : Fact} {L : List Chunk} {R : List Fact} {w : World} (hcF : ∀ m i, Mem.disj m i → c.p m i → F.p (Mem.join m i))
    (hc : ∀ L' R' w, St L' R' w → F ∈ R' → (∀ f ∈ R, f ∈ R') → Calls P f args w (Post val (fun _ => L') (fun _ => R'))) (hs : St (c :: L) R w) : Calls P f args w (Post val (fun _ => c :: L) (fun _ => R)) := by
  obtain ⟨m, i, hd, hm, hi, ⟨m1, m2, hd', h1, h2, hcp, hst⟩, hr⟩ := hs
  have d1 : Mem.disj m1 i := Mem.disj_le hd h1 (Mem.le_refl _)
  have d2 : Mem.disj m2 i := Mem.disj_le hd h2 (Mem.le_refl _)
  have hs' : St [memC m2] (F :: memF m1 :: memF i :: R) w := by
    refine ⟨m2, Mem.join m1 i, Mem.disj_symm (Mem.disj_join hd' (Mem.disj_symm d2)), Mem.le_trans h2 hm, Mem.join_le (Mem.le_trans h1 hm) hi, ⟨m2, fun _ => none, fun _ => .inr rfl, Mem.le_refl _, (fun _ _ e => by cases e), Mem.le_refl _, trivial⟩, ?_⟩
    intro g hg
    rcases List.mem_cons.1 hg with e | hg
    · rw [e]; exact hcF m1 i d1 hcp
    rcases List.mem_cons.1 hg with e | hg
    · rw [e]; exact Mem.le_joinL _ _
    rcases List.mem_cons.1 hg with e | hg
    · rw [e]; exact Mem.le_joinR d1
    · exact g.mono _ _ (Mem.le_joinR d1) (hr g hg)
  refine (hc _ _ _ hs' (List.Mem.head _) (fun g hg => .tail _ (.tail _ (.tail _ hg)))).mono ?_
  rintro e w' ⟨g, rfl, n, j, k1, k2, k3, ⟨n1, n2, k4, k5, k6, k7, k8⟩, k9⟩
  refine ⟨g, rfl, Mem.join m1 m2, i, Mem.disj_join d1 d2, ?_, ?_, ⟨m1, m2, hd', Mem.le_joinL _ _, Mem.le_joinR hd', hcp, hst⟩, hr⟩
  · exact Mem.join_le (Mem.le_trans (k9 (memF m1) (.tail _ (.head _))) k3) (Mem.le_trans (Mem.le_trans k7 k5) k2)
  · exact Mem.le_trans (k9 (memF i) (.tail _ (.tail _ (.head _)))) k3
theorem lend {P : Program} {γ : Type} {val : γ → Value} {f : FuncId} {args : Array Value} {α : Type} [Enc α] {T : TypeId} {v : Value} {xs : List α} {L L' : List Chunk} {R : List Fact} {w : World} (hp : Pick L (row T v xs) L')
    (hc : ∀ L' R' w, St L' R' w → sl v xs ∈ R' → (∀ f ∈ R, f ∈ R') → Calls P f args w (Post val (fun _ => L') (fun _ => R'))) (hs : St L R w) : Calls P f args w (Post val (fun _ => row T v xs :: L') (fun _ => R)) :=
  borrow (F := sl v xs) (fun m i hd h => row_isSlice hd h) hc (hs.pick hp)
/-! ### More arithmetic -/
section
variable {P : Program} {T : TypeId} {k : IntKind}
theorem b_quoP {a b : Int} (h0 : 0 ≤ a) (h1 : a ≤ 9223372036854775807) (hb : 0 < b) (w : World) : (binOp .quo T (vi a) (vi b)).run P w = .ok (vi (a / b)) w := by
  have e : a.tdiv b = a / b := Int.tdiv_eq_ediv_of_nonneg h0
  have h2 : 0 ≤ a / b := Int.ediv_nonneg h0 (by omega)
  have h3 : a / b ≤ a := Int.ediv_le_self _ h0
  rw [← e]
  exact b_quo (by omega) (by rw [e]; omega) (by rw [e]; omega) w
theorem b_remP {a b : Int} (h0 : 0 ≤ a) (hb : 0 < b) (hb2 : b ≤ 9223372036854775807) (w : World) : (binOp .rem T (vi a) (vi b)).run P w = .ok (vi (a % b)) w := by
  have e : a.tmod b = a % b := Int.tmod_eq_emod_of_nonneg h0
  have h2 : 0 ≤ a % b := Int.emod_nonneg _ (by omega)
  have h3 : a % b < b := Int.emod_lt_of_pos _ hb
  rw [← e]
  exact b_rem (by omega) (by rw [e]; omega) (by rw [e]; omega) w
theorem b_quoN {a b : Nat} (h1 : a ≤ 9223372036854775807) (hb : 0 < b) (w : World) : (binOp .quo T (vi (a : Int)) (vi (b : Int))).run P w = .ok (vi ((a / b : Nat) : Int)) w := by
  rw [b_quoP (by omega) (by omega) (by omega), Int.natCast_ediv]
theorem b_remN {a b : Nat} (hb : 0 < b) (hb2 : b ≤ 9223372036854775807) (w : World) : (binOp .rem T (vi (a : Int)) (vi (b : Int))).run P w = .ok (vi ((a % b : Nat) : Int)) w := by
  rw [b_remP (by omega) (by omega) (by omega), Int.natCast_emod]
theorem b_addN {a b : Nat} (h : a + b ≤ 9223372036854775807) (w : World) : (binOp .add T (vi (a : Int)) (vi (b : Int))).run P w = .ok (vi ((a + b : Nat) : Int)) w := by
  rw [b_add (by omega) (by omega), Int.natCast_add]
theorem mask_eq : ∀ k : _root_.Fin 8, u8 (((1 : UInt8).toNat : Int) * 2 ^ k.val) = (1 : UInt8) <<< UInt8.ofNat k.val := by decide
theorem mask_pow : ∀ k : _root_.Fin 8, ((1 : UInt8) <<< UInt8.ofNat k.val).toNat = 2 ^ k.val := by decide
theorem xor_mask (c : UInt8) (k : Nat) (hk : k < 8) : u8 ((c.toNat ^^^ 2 ^ k : Nat) : Int) = c ^^^ ((1 : UInt8) <<< UInt8.ofNat k) := by
  apply UInt8.toNat.inj
  have h := u8_mod ((c.toNat ^^^ 2 ^ k : Nat) : Int)
  have h1 := mask_pow ⟨k, hk⟩
  simp only at h1
  have h2 : c.toNat ^^^ 2 ^ k < 256 := Nat.xor_lt_two_pow (n := 8) c.toNat_lt (Nat.pow_lt_pow_right (by omega) hk)
  rw [UInt8.toNat_xor, h1]
  omega
theorem conv_div16 (x : UInt8) : Value.int .i64 (IntKind.i64.wrap ((u8 ((x.toNat : Int) / 16)).toNat : Int)) = vi ((x.toNat : Int) / 16) := by
  have := x.toNat_lt
  rw [wrap_byte, u8_in (by omega) (by omega)]
theorem conv_mod16 (x : UInt8) : Value.int .i64 (IntKind.i64.wrap ((u8 ((x.toNat : Int) % 16)).toNat : Int)) = vi ((x.toNat : Int) % 16) := by
  rw [wrap_byte, u8_in (by omega) (by omega)]
end
/-- Fields that fit into a frame's bytes. -/
def MsgIn (m : Msg) : Prop := (0 ≤ m.kind ∧ m.kind ≤ 255) ∧ (0 ≤ m.src ∧ m.src ≤ 15) ∧ (0 ≤ m.dst ∧ m.dst ≤ 15) ∧ (0 ≤ m.line ∧ m.line ≤ 255) ∧ (0 ≤ m.serial ∧ m.serial ≤ 65535) ∧ (0 ≤ m.turn ∧ m.turn ≤ 65535) ∧ (0 ≤ m.value ∧ m.value ≤ 255)
theorem MsgIn.wf {m : Msg} (h : MsgIn m) : m.wf := by unfold MsgIn at h; unfold Msg.wf In64; omega
theorem msgIn_of {c : Config} {m : Msg} (h : msgWrong c m = 0) (h1 : c.cores ≤ 15) (h2 : c.lines ≤ 256) : MsgIn m := by
  obtain ⟨g1, g2, g3, g4, g5, g6, g7⟩ := wrong_ok h
  unfold MsgIn; omega
theorem at8_in (b : List UInt8) (i : Nat) : 0 ≤ at8 b i ∧ at8 b i ≤ 255 := by unfold at8; have := (b.getD i 0).toNat_lt; omega
theorem msgOf_wf (b : List UInt8) : (msgOf b).wf := by
  have h0 := at8_in b 0; have h1 := at8_in b 1; have h2 := at8_in b 2; have h3 := at8_in b 3; have h4 := at8_in b 4; have h5 := at8_in b 5; have h6 := at8_in b 6; have h7 := at8_in b 7
  unfold Msg.wf In64 msgOf; simp only; omega
theorem b_streq_T {P : Program} {T : TypeId} {a b : List UInt8} (h : a = b) (w : World) : (binOp .eql T (.string (bstr a)) (.string (bstr b))).run P w = .ok (.bool true) w := by rw [b_streq, decide_eq_true h]
theorem b_streq_F {P : Program} {T : TypeId} {a b : List UInt8} (h : a ≠ b) (w : World) : (binOp .eql T (.string (bstr a)) (.string (bstr b))).run P w = .ok (.bool false) w := by rw [b_streq, decide_eq_false h]
theorem b_strne_T {P : Program} {T : TypeId} {a b : List UInt8} (h : a ≠ b) (w : World) : (binOp .neq T (.string (bstr a)) (.string (bstr b))).run P w = .ok (.bool true) w := by rw [b_strne, decide_eq_false h]; rfl
theorem b_strne_F {P : Program} {T : TypeId} {a b : List UInt8} (h : a = b) (w : World) : (binOp .neq T (.string (bstr a)) (.string (bstr b))).run P w = .ok (.bool false) w := by rw [b_strne, decide_eq_true h]; rfl
end Go.Proofs.YtiofgjolhbgkiaaDoor
end
section
/- This file proves how one element of an array lies open: its cells, and slices that lie in them. No conditions. -/
namespace Go.Proofs.YtiofgjolhbgkiaaDoor
open Go

/-! ### Cells that are known for good -/
/-- The cells of an element, for good. -/
def cF (v : Value) (sz i : Nat) (cs : List Value) : Fact :=
  ⟨fun m => ∃ a cells T fz, ep v sz i 0 = .pointer (some a) ∧ (∀ f, ep v sz i f = .pointer (some (a.add f))) ∧ a.spot = none ∧ m (a.block + 1) = some (.ob (.cells cells T fz)) ∧ ∀ (k : Nat) c, cs[k]? = some c → cells[a.off + k]? = some c,
   fun m m' h ⟨a, cells, T, fz, h1, h2, h3, h4, h5⟩ => ⟨a, cells, T, fz, h1, h2, h3, h _ _ h4, h5⟩⟩
section
variable {P : Program} {n : Nat} {ops : Array Oper} {Q : Exit → Act → World → Prop} {rest : List Oper} {L L' : List Chunk} {R : List Fact} {al : List (Nat × Value)} {d : Nat} {x y : Operand} {T ty : TypeId} {pos : String} {aft : Array Edge}
theorem cF_at {v : Value} {sz i f : Nat} {cs ds : List Value} (hm : cF v sz i cs ∈ R) (hd : ∀ (k : Nat) c, ds[k]? = some c → cs[f + k]? = some c) : CellsAt L R (ep v sz i f) ds := by
  intro w hs
  obtain ⟨m, hle, hr⟩ := hs.ex
  obtain ⟨a, cells, T, fz, h1, h2, h3, h4, h5⟩ := hr _ hm
  refine ⟨a.add f, h2 f, fun k c hk => ?_⟩
  rw [add_add, add_none h3, cell_of (mem_ob (hle _ _ h4))]
  exact h5 _ _ (hd k c hk)
theorem at_c1 {v : Value} {sz i f : Nat} {cs : List Value} {c : Value} (hm : cF v sz i cs ∈ R) (hc : cs[f]? = some c) : CellsAt L R (ep v sz i f) [c] :=
  cF_at hm fun k c' hk => by
    match k, hk with
    | 0, hk => simp at hk; subst hk; exact hc
    | k + 1, hk => simp at hk
theorem at_cN {v : Value} {sz i f k : Nat} {cs : List Value} (hm : cF v sz i cs ∈ R) : CellsAt L R (ep v sz i f) ((cs.drop f).take k) :=
  cF_at hm fun j c hk => by
    rw [List.getElem?_take] at hk
    split at hk
    · rw [List.getElem?_drop] at hk; exact hk
    · cases hk
theorem at_cAll {v : Value} {sz i : Nat} {cs : List Value} (hm : cF v sz i cs ∈ R) : CellsAt L R (ep v sz i 0) cs := cF_at hm fun k c hk => by rw [Nat.zero_add]; exact hk

variable {α : Type} [Enc α] {v : Value} {xs : List α} {i : Nat} {e : α}
theorem sl_open {m : Mem} (h : isSlice v xs m) (hi : xs[i]? = some e) : ∃ cs, Enc.rd e cs m ∧ (cF v (Enc.sz α) i cs).p m := by
  obtain ⟨base, cap, hv, hn, hc⟩ := h
  have hne : xs ≠ [] := by intro h0; rw [h0] at hi; simp at hi
  obtain ⟨a, cells, T, fz, cs, h1, h2, h3, h4, h5⟩ := hc hne
  obtain ⟨p, c, q, e1, e2, e3, _⟩ := h5.get hi
  subst h1
  refine ⟨c, e3, a.add (i * Enc.sz α), cells, T, fz, by rw [hv, ep_eq, Nat.add_zero], fun f => by rw [hv, ep_eq, add_add], by rw [add_none h2], by rw [add_none h2]; exact h3, fun k u hk => ?_⟩
  rw [add_none h2]
  have hcs : cs[i * Enc.sz α + k]? = some u := by
    rw [e1, List.append_assoc, List.getElem?_append_right (by omega), show i * Enc.sz α + k - p.length = k by omega, List.getElem?_append_left]
    · exact hk
    · exact (List.getElem?_eq_some_iff.1 hk).1
  rw [← h4, List.getElem?_take] at hcs
  split at hcs
  · rw [List.getElem?_drop] at hcs
    rw [← Array.getElem?_toList, ← hcs, Nat.add_assoc]
  · cases hcs
end

/-- Kinds whose cells are plain. -/
class El0 (α : Type) [Enc α] where
  cs : α → List Value
  wf : α → Prop
  df : α
  ok : ∀ (x : α) ds m, Enc.rd x ds m → ds = cs x ∧ wf x
/-- Kinds in whose cells one slice lies. -/
class El1 (α : Type) (β : outParam Type) [Enc α] [Enc β] where
  cs : Value → α → List Value
  wf : α → Prop
  df : α
  sub : α → List β
  ok : ∀ (x : α) ds m, Enc.rd x ds m → ∃ u, ds = cs u x ∧ isSlice u (sub x) m ∧ wf x
instance e0Int : El0 Int := ⟨fun x => [vi x], In64, 0, fun _ _ _ h => h⟩
instance e0Byte : El0 UInt8 := ⟨fun x => [vb x], fun _ => True, 0, fun _ _ _ h => ⟨h, trivial⟩⟩
instance e0Config : El0 Config := ⟨Config.cells, Config.wf, zConfig, fun _ _ _ h => h⟩
instance e0Msg : El0 Msg := ⟨Msg.cells, Msg.wf, zMsg, fun _ _ _ h => h⟩
instance e0Line : El0 Line := ⟨Line.cells, Line.wf, zLine, fun _ _ _ h => h⟩
instance e0Op : El0 Op := ⟨Op.cells, Op.wf, zOp, fun _ _ _ h => h⟩
instance e0Done : El0 Done := ⟨Done.cells, Done.wf, zDone, fun _ _ _ h => h⟩
instance e0Step : El0 Step := ⟨Step.cells, Step.wf, zStep, fun _ _ _ h => h⟩
instance e0Answer : El0 Answer := ⟨Answer.cells, Answer.wf, zAnswer, fun _ _ _ h => h⟩
instance e0Seen : El0 Seen := ⟨Seen.cells, Seen.wf, zSeen, fun _ _ _ h => h⟩
instance e0Pair : El0 (Int × Int) := ⟨fun x => [vi x.1, vi x.2], fun x => In64 x.1 ∧ In64 x.2, (0, 0), fun _ _ _ h => h⟩
instance e1List {β : Type} [Enc β] : El1 (List β) β := ⟨fun u _ => [u], fun _ => True, [], fun x => x, fun _ _ _ h => by obtain ⟨u, h1, h2⟩ := h; exact ⟨u, h1, h2, trivial⟩⟩
instance e1Core : El1 Core Line := ⟨fun u x => x.cells u, fun x => x.wait.wf, zCore, fun x => x.lines, fun _ _ _ h => h⟩
instance e1Entry : El1 Entry Int := ⟨fun u x => x.cells u, fun x => x.wf, zEntry, fun x => x.last, fun _ _ _ h => h⟩

section
variable {P : Program} {n : Nat} {ops : Array Oper} {Q : Exit → Act → World → Prop} {L L' : List Chunk} {R : List Fact} {al : List (Nat × Value)}
variable {α β : Type} [Enc α] [Enc β] {v : Value} {xs : List α}
theorem St.open0 [El0 α] {w : World} (i : Nat) (hm : sl v xs ∈ R) (hi : i < xs.length) (hs : St L R w) : El0.wf (xs.getD i El0.df) ∧ St L (cF v (Enc.sz α) i (El0.cs (xs.getD i El0.df)) :: R) w := by
  obtain ⟨m, j, hd, hmw, hjw, hst, hr⟩ := hs
  obtain ⟨cs, h1, h2⟩ := sl_open (hr _ hm) (getD_some El0.df hi)
  obtain ⟨rfl, h4⟩ := El0.ok _ _ _ h1
  refine ⟨h4, m, j, hd, hmw, hjw, hst, fun g hg => ?_⟩
  cases List.mem_cons.1 hg with
  | inl e => rw [e]; exact h2
  | inr e => exact hr g e
theorem St.open1 [El1 α β] {w : World} (i : Nat) (hm : sl v xs ∈ R) (hi : i < xs.length) (hs : St L R w) : El1.wf (xs.getD i El1.df) ∧ ∃ u, St L (cF v (Enc.sz α) i (El1.cs u (xs.getD i El1.df)) :: sl u (El1.sub (xs.getD i El1.df)) :: R) w := by
  obtain ⟨m, j, hd, hmw, hjw, hst, hr⟩ := hs
  obtain ⟨cs, h1, h2⟩ := sl_open (hr _ hm) (getD_some El1.df hi)
  obtain ⟨u, rfl, h3, h4⟩ := El1.ok _ _ _ h1
  refine ⟨h4, u, m, j, hd, hmw, hjw, hst, fun g hg => ?_⟩
  cases List.mem_cons.1 hg with
  | inl e => rw [e]; exact h2
  | inr e => cases List.mem_cons.1 e with
    | inl e => rw [e]; exact h3
    | inr e => exact hr g e
theorem JC.open0 [El0 α] {c : Code} (i : Nat) (hm : sl v xs ∈ R) (hi : i < xs.length) (k : El0.wf (xs.getD i El0.df) → JC P n c Q L (cF v (Enc.sz α) i (El0.cs (xs.getD i El0.df)) :: R) al) : JC P n c Q L R al :=
  fun B w hs => let h := hs.open0 i hm hi; k h.1 B w h.2
theorem J.open0 [El0 α] {l : List Oper} (i : Nat) (hm : sl v xs ∈ R) (hi : i < xs.length) (k : El0.wf (xs.getD i El0.df) → J P n ops Q l L (cF v (Enc.sz α) i (El0.cs (xs.getD i El0.df)) :: R) al) : J P n ops Q l L R al :=
  fun B w hs => let h := hs.open0 i hm hi; k h.1 B w h.2
theorem JC.open1 [El1 α β] {c : Code} (i : Nat) (hm : sl v xs ∈ R) (hi : i < xs.length) (k : El1.wf (xs.getD i El1.df) → ∀ u, JC P n c Q L (cF v (Enc.sz α) i (El1.cs u (xs.getD i El1.df)) :: sl u (El1.sub (xs.getD i El1.df)) :: R) al) : JC P n c Q L R al :=
  fun B w hs => let ⟨h, u, h'⟩ := hs.open1 i hm hi; k h u B w h'
theorem J.open1 [El1 α β] {l : List Oper} (i : Nat) (hm : sl v xs ∈ R) (hi : i < xs.length) (k : El1.wf (xs.getD i El1.df) → ∀ u, J P n ops Q l L (cF v (Enc.sz α) i (El1.cs u (xs.getD i El1.df)) :: sl u (El1.sub (xs.getD i El1.df)) :: R) al) : J P n ops Q l L R al :=
  fun B w hs => let ⟨h, u, h'⟩ := hs.open1 i hm hi; k h u B w h'
end

/-! ### Cells as they are -/
/-- So many cells, whatever they are. -/
def Raw (k : Nat) : Type := { l : List Value // l.length = k ∧ ∀ u ∈ l, u.oneCell' = true }
instance instEncRaw {k : Nat} : Enc (Raw k) where
  sz := k
  rd x cs _ := cs = x.1
  mono _ _ _ _ _ h := h
  len x cs _ h := by rw [h]; exact x.2.1
  one x cs _ h := by rw [h]; exact x.2.2
/-- One element's cells, and those of all others as they are. -/
def foc {α : Type} [Enc α] (T : TypeId) (v : Value) (xs : List α) (i : Nat) (cs : List Value) : Chunk :=
  ⟨fun m j => ∃ rs : List (Raw (Enc.sz α)), (row T v rs).p m j ∧ rs.length = xs.length ∧ (∃ r, rs[i]? = some r ∧ r.1 = cs) ∧ ∀ (k : Nat) e r, k ≠ i → xs[k]? = some e → rs[k]? = some r → Enc.rd e r.1 j,
   fun m j j' h ⟨rs, h1, h2, h3, h4⟩ => ⟨rs, (row T v rs).mono _ _ _ h h1, h2, h3, fun k e r hk he hr => Enc.mono _ _ _ _ h (h4 k e r hk he hr)⟩⟩
section
variable {α : Type} [Enc α]
theorem RdL.raw {m : Mem} : ∀ {xs : List α} {cs : List Value}, RdL xs cs m → ∃ rs : List (Raw (Enc.sz α)), RdL rs cs m ∧ rs.length = xs.length ∧ ∀ (k : Nat) e r, xs[k]? = some e → rs[k]? = some r → Enc.rd e r.1 m
  | [], cs, h => ⟨[], h, rfl, fun k e r h' => by simp at h'⟩
  | x :: xs, cs, ⟨c1, c2, h1, h2, h3⟩ => by
    obtain ⟨rs, e1, e2, e3⟩ := RdL.raw h3
    obtain ⟨r0, hr0⟩ : ∃ r0 : Raw (Enc.sz α), r0.1 = c1 := ⟨⟨c1, Enc.len _ _ _ h2, Enc.one _ _ _ h2⟩, rfl⟩
    refine ⟨r0 :: rs, ⟨c1, c2, h1, hr0.symm, e1⟩, by simp [e2], fun k e r hx hr => ?_⟩
    cases k with
    | zero =>
      have ex : x = e := by simpa using hx
      have er : r0 = r := by simpa using hr
      rw [← ex, ← er, hr0]; exact h2
    | succ k => exact e3 k e r (by simpa using hx) (by simpa using hr)
theorem RdL.typed {m : Mem} : ∀ {xs : List α} {rs : List (Raw (Enc.sz α))} {cs : List Value}, RdL rs cs m → rs.length = xs.length → (∀ (k : Nat) e r, xs[k]? = some e → rs[k]? = some r → Enc.rd e r.1 m) → RdL xs cs m
  | [], [], cs, h, _, _ => h
  | [], _ :: _, _, _, hl, _ => by simp at hl
  | _ :: _, [], _, _, hl, _ => by simp at hl
  | x :: xs, r :: rs, cs, ⟨c1, c2, h1, h2, h3⟩, hl, hr => by
    refine ⟨c1, c2, h1, ?_, RdL.typed h3 (by simpa using hl) (fun k e r' hx hr' => hr (k + 1) e r' (by simpa using hx) (by simpa using hr'))⟩
    have := hr 0 x r rfl rfl
    rw [show c1 = r.1 from h2]; exact this
theorem row_raw {T : TypeId} {v : Value} {xs : List α} {m j : Mem} (h : (row T v xs).p m j) : ∃ rs : List (Raw (Enc.sz α)), (row T v rs).p m j ∧ rs.length = xs.length ∧ ∀ (k : Nat) e r, xs[k]? = some e → rs[k]? = some r → Enc.rd e r.1 j := by
  obtain ⟨h0, hv | ⟨g, cap, cur, cs, hv, hg, hcap, hml, hsz, htk, hrd⟩⟩ := h
  · exact ⟨[], ⟨Nat.zero_le _, .inl ⟨hv.1, rfl⟩⟩, by rw [hv.2]; rfl, fun k e r hx => by rw [hv.2] at hx; simp at hx⟩
  · obtain ⟨rs, e1, e2, e3⟩ := hrd.raw
    exact ⟨rs, ⟨by rw [e2]; exact h0, .inr ⟨g, cap, cur, cs, by rw [e2]; exact hv, hg, by rw [e2]; exact hcap, hml, hsz, by rw [e2]; exact htk, e1⟩⟩, e2, e3⟩
theorem raw_row {T : TypeId} {v : Value} {xs : List α} {rs : List (Raw (Enc.sz α))} {m j : Mem} (h : (row T v rs).p m j) (hl : rs.length = xs.length) (hr : ∀ (k : Nat) e r, xs[k]? = some e → rs[k]? = some r → Enc.rd e r.1 j) : (row T v xs).p m j := by
  obtain ⟨h0, hv | ⟨g, cap, cur, cs, hv, hg, hcap, hml, hsz, htk, hrd⟩⟩ := h
  · have : xs = [] := by rw [hv.2] at hl; exact List.length_eq_zero_iff.1 hl.symm
    exact ⟨by rw [← hl]; exact h0, .inl ⟨hv.1, this⟩⟩
  · exact ⟨by rw [← hl]; exact h0, .inr ⟨g, cap, cur, cs, by rw [← hl]; exact hv, hg, by rw [← hl]; exact hcap, hml, hsz, by rw [← hl]; exact htk, hrd.typed hl hr⟩⟩
end
section
variable {P : Program} {n : Nat} {ops : Array Oper} {Q : Exit → Act → World → Prop} {rest : List Oper} {L L' : List Chunk} {R : List Fact} {al : List (Nat × Value)} {d : Nat} {x y : Operand} {T ty : TypeId} {pos : String} {aft : Array Edge}
variable {α β : Type} [Enc α] [Enc β] {v : Value} {xs : List α} {i : Nat}
/-- An element is opened. -/
theorem St.focus {w : World} (hi : i < xs.length) (hs : St (row T v xs :: L) R w) : ∃ cs, St (foc T v xs i cs :: L) R w ∧ cs.length = Enc.sz α ∧ ∃ j e, xs[i]? = some e ∧ Enc.rd e cs j ∧ Mem.le j (memOf w) ∧ ∀ f ∈ R, f.p j := by
  obtain ⟨m, j, hd, hm, hj, ⟨m1, m2, hd', h1, h2, hc, hst⟩, hr⟩ := hs
  obtain ⟨rs, e1, e2, e3⟩ := row_raw hc
  have hi' : i < rs.length := by omega
  refine ⟨(rs[i]'hi').1, ⟨m, j, hd, hm, hj, ⟨m1, m2, hd', h1, h2, ⟨rs, e1, e2, ⟨_, List.getElem?_eq_getElem hi', rfl⟩, fun k e r _ => e3 k e r⟩, hst⟩, hr⟩, (rs[i]'hi').2.1, j, xs[i], List.getElem?_eq_getElem hi, e3 i _ _ (List.getElem?_eq_getElem hi) (List.getElem?_eq_getElem hi'), hj, hr⟩
theorem St.focus0 [El0 α] {w : World} (hi : i < xs.length) (hs : St (row T v xs :: L) R w) : El0.wf (xs.getD i El0.df) ∧ St (foc T v xs i (El0.cs (xs.getD i El0.df)) :: L) R w := by
  obtain ⟨cs, h1, h2, j, e, h3, h4, h5, h6⟩ := hs.focus hi
  have : xs.getD i El0.df = e := by simp [List.getD_eq_getElem?_getD, h3]
  rw [this]
  obtain ⟨rfl, hw⟩ := El0.ok _ _ _ h4
  exact ⟨hw, h1⟩
theorem St.focus1 [El1 α β] {w : World} (hi : i < xs.length) (hs : St (row T v xs :: L) R w) : El1.wf (xs.getD i El1.df) ∧ ∃ u, St (foc T v xs i (El1.cs u (xs.getD i El1.df)) :: L) (sl u (El1.sub (xs.getD i El1.df)) :: R) w := by
  obtain ⟨m, j, hd, hm, hj, ⟨m1, m2, hd', h1, h2, hc, hst⟩, hr⟩ := hs
  obtain ⟨rs, e1, e2, e3⟩ := row_raw hc
  have hi' : i < rs.length := by omega
  have hx : xs.getD i El1.df = xs[i] := by simp [List.getD_eq_getElem?_getD, hi]
  rw [hx]
  obtain ⟨u, g1, g2, g3⟩ := El1.ok _ _ _ (e3 i _ _ (List.getElem?_eq_getElem hi) (List.getElem?_eq_getElem hi'))
  refine ⟨g3, u, m, j, hd, hm, hj, ⟨m1, m2, hd', h1, h2, ⟨rs, e1, e2, ⟨_, List.getElem?_eq_getElem hi', g1⟩, fun k e r _ => e3 k e r⟩, hst⟩, fun f hf => ?_⟩
  cases List.mem_cons.1 hf with
  | inl e => rw [e]; exact g2
  | inr e => exact hr f e
/-- It is shut. -/
theorem St.unfocus {w : World} {cs : List Value} {e : α} (he : ∀ j, (∀ f ∈ R, f.p j) → Enc.rd e cs j) (hs : St (foc T v xs i cs :: L) R w) : St (row T v (xs.set i e) :: L) R w := by
  obtain ⟨m, j, hd, hm, hj, ⟨m1, m2, hd', h1, h2, ⟨rs, e1, e2, ⟨r0, e3, e4⟩, e5⟩, hst⟩, hr⟩ := hs
  refine ⟨m, j, hd, hm, hj, ⟨m1, m2, hd', h1, h2, raw_row e1 (by simpa using e2) (fun k e' r hx hk => ?_), hst⟩, hr⟩
  by_cases h : k = i
  · subst h
    have hlt : k < xs.length := by
      have := (List.getElem?_eq_some_iff.1 e3).1; omega
    rw [List.getElem?_set_self hlt] at hx
    cases hx
    rw [e3] at hk; cases hk
    rw [e4]; exact he j hr
  · rw [List.getElem?_set_ne (Ne.symm h)] at hx
    exact e5 k e' r h hx hk
theorem foc_raw {w : World} {cs : List Value} (hs : St (foc T v xs i cs :: L) R w) : ∃ rs : List (Raw (Enc.sz α)), St (row T v rs :: L) R w ∧ ∃ r, rs[i]? = some r ∧ r.1 = cs := by
  obtain ⟨m, j, hd, hm, hj, ⟨m1, m2, hd', h1, h2, ⟨rs, e1, e2, e3, e5⟩, hst⟩, hr⟩ := hs
  exact ⟨rs, ⟨m, j, hd, hm, hj, ⟨m1, m2, hd', h1, h2, e1, hst⟩, hr⟩, e3⟩
theorem foc_at {f sz : Nat} {cs ds : List Value} (hp : Pick L (foc T v xs i cs) L') (hsz : Enc.sz α = sz) (hd : ∀ (k : Nat) c, ds[k]? = some c → cs[f + k]? = some c) : CellsAt L R (ep v sz i f) ds := by
  subst hsz
  intro w hs
  obtain ⟨rs, h1, r, h2, h3⟩ := foc_raw (hs.pick hp)
  exact at_rowN (α := Raw (Enc.sz α)) (L := row T v rs :: L') (f := f) .hd h2 (fun cs' m hr k c hk => by rw [show cs' = r.1 from hr, h3]; exact hd k c hk) w h1
theorem at_f1 {f sz : Nat} {cs : List Value} {c : Value} (hp : Pick L (foc T v xs i cs) L') (hsz : Enc.sz α = sz) (hc : cs[f]? = some c) : CellsAt L R (ep v sz i f) [c] :=
  foc_at hp hsz fun k c' hk => by
    match k, hk with
    | 0, hk => simp at hk; subst hk; exact hc
    | k + 1, hk => simp at hk
theorem at_fN {f sz k : Nat} {cs : List Value} (hp : Pick L (foc T v xs i cs) L') (hsz : Enc.sz α = sz) : CellsAt L R (ep v sz i f) ((cs.drop f).take k) :=
  foc_at hp hsz fun j c hk => by
    rw [List.getElem?_take] at hk
    split at hk
    · rw [List.getElem?_drop] at hk; exact hk
    · cases hk
theorem at_fAll {sz : Nat} {cs : List Value} (hp : Pick L (foc T v xs i cs) L') (hsz : Enc.sz α = sz) : CellsAt L R (ep v sz i 0) cs := foc_at hp hsz fun k c hk => by rw [Nat.zero_add]; exact hk
theorem foc_write {w : World} {f : Nat} {cs us : List Value} (hs : St (foc T v xs i cs :: L) R w) (h1 : ∀ u ∈ us, u.oneCell' = true) (hf : f + us.length ≤ cs.length) :
    ∃ g cap cur, v = .slice (some ⟨g, 0, none⟩) xs.length cap ∧ w.heap[g]? = some (.cells cur T (0, 0)) ∧ i * Enc.sz α + f + us.length ≤ cur.size ∧
      St (foc T v xs i (cs.take f ++ us ++ cs.drop (f + us.length)) :: L) R (w.setRow g (cur.toList.take (i * Enc.sz α + f) ++ us ++ cur.toList.drop (i * Enc.sz α + f + us.length)).toArray) := by
  obtain ⟨m, j, hd, hm, hj, ⟨m1, m2, hd', g1, g2, ⟨rs, e1, e2, ⟨r0, e3, e4⟩, e5⟩, hst⟩, hr⟩ := hs
  have hlen : (cs.take f ++ us ++ cs.drop (f + us.length)).length = cs.length := by simp; omega
  have hcs : cs.length = Enc.sz α := by rw [← e4]; exact r0.2.1
  let r1 : Raw (Enc.sz α) := ⟨cs.take f ++ us ++ cs.drop (f + us.length), by rw [hlen]; exact hcs, fun u hu => by
    rcases List.mem_append.1 hu with h | h
    · rcases List.mem_append.1 h with h | h
      · exact r0.2.2 u (by rw [e4]; exact List.mem_of_mem_take h)
      · exact h1 u h
    · exact r0.2.2 u (by rw [e4]; exact List.mem_of_mem_drop h)⟩
  -- one piece for all others, with what is known of them
  have hK : St (row T v rs :: L) (⟨fun m => ∀ (k : Nat) e r, k ≠ i → xs[k]? = some e → rs[k]? = some r → Enc.rd e r.1 m, fun m m' h hp k e r hk he hr' => Enc.mono _ _ _ _ h (hp k e r hk he hr')⟩ :: R) w :=
    ⟨m, j, hd, hm, hj, ⟨m1, m2, hd', g1, g2, e1, hst⟩, fun q hq => by
      cases List.mem_cons.1 hq with
      | inl e => rw [e]; exact e5
      | inr e => exact hr q e⟩
  obtain ⟨g, cap, cur, hv, hg, hfit, hst'⟩ := row_write (w' := w) (e := r0) (e' := r1) (f := f) (cs := us) hK e3 (fun ds m hr => by rw [show ds = r0.1 from hr, e4]; exact hf) (fun j _ ds hr => by
    rw [show ds = r0.1 from hr, e4]; rfl)
  refine ⟨g, cap, cur, by rw [hv, e2], hg, hfit, ?_⟩
  obtain ⟨m', j', hd2, hm', hj', ⟨n1, n2, hd3, k1, k2, hc', hst2⟩, hr'⟩ := hst'
  have hilt : i < rs.length := (List.getElem?_eq_some_iff.1 e3).1
  refine ⟨m', j', hd2, hm', hj', ⟨n1, n2, hd3, k1, k2, ⟨rs.set i r1, hc', by simpa using e2, ⟨r1, List.getElem?_set_self hilt, rfl⟩, fun k e r hk he hrk => ?_⟩, hst2⟩, fun q hq => hr' q (List.mem_cons_of_mem _ hq)⟩
  rw [List.getElem?_set_ne (Ne.symm hk)] at hrk
  exact hr' _ (List.mem_cons_self ..) k e r hk he hrk
/-- A store into an element that lies open. -/
theorem r_storeF {f sz k : Nat} {c : Value} {cs us : List Value} {T' : TypeId} (hsz : ∀ w, (sizeOf T).run P w = .ok k w) (hx : ev n al x = some (ep v sz i f)) (hy : ev n al y = some c) (hc : c.cells = us.toArray) (hl : us.length = k) (h1 : ∀ u ∈ us, u.oneCell' = true)
    (hp : Pick L (foc T' v xs i cs) L') (hes : Enc.sz α = sz) (hf : Nat.ble (f + us.length) cs.length = true) {cs' : List Value} (hcs : cs.take f ++ us ++ cs.drop (f + us.length) = cs')
    (kk : J P n ops Q rest (foc T' v xs i cs' :: L') R al) : J P n ops Q (⟨none, .store T x y, ty, pos, aft, none⟩ :: rest) L R al :=
  J.skip rfl rfl (fun B w hs => by
    subst hes
    obtain ⟨g, cap, cur, hv, hg, hfit, hst⟩ := foc_write (hs.pick hp) h1 (Nat.le_of_ble_eq_true hf)
    refine ⟨_, exec_store ?_, by rw [← hcs]; exact hst⟩
    rw [ev_eval hx, ev_eval hy, hv, ep_eq, add_mk]
    have := run_storeCells_at P g (i * Enc.sz α + f) T' us 0 cur w hg (by simpa using hfit) h1
    simp only [Nat.add_zero, Nat.zero_add] at this ⊢
    subst hl
    simp [Instr.storeAt, Instr.sureAddr, storeVar, hsz, hc, this]) kk
theorem J.focus0 [El0 α] {l : List Oper} (i : Nat) (hp : Pick L (row T v xs) L') (hi : i < xs.length) (k : El0.wf (xs.getD i El0.df) → J P n ops Q l (foc T v xs i (El0.cs (xs.getD i El0.df)) :: L') R al) : J P n ops Q l L R al :=
  fun B w hs => let h := (hs.pick hp).focus0 hi; k h.1 B w h.2
theorem JC.focus0 [El0 α] {c : Code} (i : Nat) (hp : Pick L (row T v xs) L') (hi : i < xs.length) (k : El0.wf (xs.getD i El0.df) → JC P n c Q (foc T v xs i (El0.cs (xs.getD i El0.df)) :: L') R al) : JC P n c Q L R al :=
  fun B w hs => let h := (hs.pick hp).focus0 hi; k h.1 B w h.2
theorem JC.focus1 [El1 α β] {c : Code} (i : Nat) (hp : Pick L (row T v xs) L') (hi : i < xs.length) (k : El1.wf (xs.getD i El1.df) → ∀ u, JC P n c Q (foc T v xs i (El1.cs u (xs.getD i El1.df)) :: L') (sl u (El1.sub (xs.getD i El1.df)) :: R) al) : JC P n c Q L R al :=
  fun B w hs => let ⟨h, u, h'⟩ := (hs.pick hp).focus1 hi; k h u B w h'
theorem J.unfocus {l : List Oper} {cs : List Value} (e : α) (hp : Pick L (foc T v xs i cs) L') (he : ∀ j, (∀ f ∈ R, f.p j) → Enc.rd e cs j) (k : J P n ops Q l (row T v (xs.set i e) :: L') R al) : J P n ops Q l L R al :=
  fun B w hs => k B w ((hs.pick hp).unfocus he)
theorem JC.unfocus {c : Code} {cs : List Value} (e : α) (hp : Pick L (foc T v xs i cs) L') (he : ∀ j, (∀ f ∈ R, f.p j) → Enc.rd e cs j) (k : JC P n c Q (row T v (xs.set i e) :: L') R al) : JC P n c Q L R al :=
  fun B w hs => k B w ((hs.pick hp).unfocus he)
end
end Go.Proofs.YtiofgjolhbgkiaaDoor
end
section
/- This file proves the walk's rules once more, each with the plain parts of its proof found by a tactic of its own. No conditions. -/
namespace Go.Proofs.YtiofgjolhbgkiaaDoor
open Go
section
variable {P : Program} {n : Nat} {ops : Array Oper} {Q : Exit → Act → World → Prop} {rest : List Oper} {L L' : List Chunk} {R : List Fact} {al : List (Nat × Value)} {d : Nat} {x y : Operand} {T ty : TypeId} {pos : String} {aft : Array Edge}
theorem mm {f : Fact} (h : f ∈ R := by first | assumption | exact .head _ | (refine .tail _ ?_; first | assumption | exact .head _ | (refine .tail _ ?_; first | assumption | exact .head _ | (refine .tail _ ?_; first | assumption | exact .head _ | (refine .tail _ ?_; first | assumption | exact .head _ | (refine .tail _ ?_; first | assumption | exact .head _ | (refine .tail _ ?_; first | assumption | exact .head _ | (refine .tail _ ?_; first | assumption | exact .head _ | (refine .tail _ ?_; first | assumption | exact .head _ | (refine .tail _ ?_; first | assumption | exact .head _ | (refine .tail _ ?_; first | assumption | exact .head _ | (refine .tail _ ?_; first | assumption | exact .head _ | (refine .tail _ ?_; first | assumption | exact .head _ | (refine .tail _ ?_; first | assumption | exact .head _ | (refine .tail _ ?_; first | assumption | exact .head _ | (refine .tail _ ?_; first | assumption | exact .head _ | (refine .tail _ ?_; first | assumption | exact .head _ | (refine .tail _ ?_; first | assumption | exact .head _ | (refine .tail _ ?_; first | assumption | exact .head _ | (refine .tail _ ?_; first | assumption | exact .head _ | (refine .tail _ ?_; first | assumption | exact .head _ | (refine .tail _ ?_; first | assumption | exact .head _ | (refine .tail _ ?_; first | assumption | exact .head _ | (refine .tail _ ?_; first | assumption | exact .head _ | (refine .tail _ ?_; first | assumption | exact .head _ | (refine .tail _ ?_; first | assumption | exact .head _ | (refine .tail _ ?_; first | assumption | exact .head _))))))))))))))))))))))))))) : f ∈ R := h
theorem pkk {c : Chunk} (h : Pick L c L' := by first | exact .hd | (apply Pick.tl; first | exact .hd | (apply Pick.tl; first | exact .hd | (apply Pick.tl; first | exact .hd | (apply Pick.tl; first | exact .hd | (apply Pick.tl; first | exact .hd | (apply Pick.tl; first | exact .hd | (apply Pick.tl; first | exact .hd | (apply Pick.tl; first | exact .hd | (apply Pick.tl; first | exact .hd | (apply Pick.tl; first | exact .hd | (apply Pick.tl; first | exact .hd | (apply Pick.tl; exact .hd))))))))))))) : Pick L c L' := h
theorem st_cut {R' : List Fact} {w : World} (hs : St L R w) (hl : LSub L L' := by repeat (first | exact .refl | exact .nil | (apply LSub.cons; focus (exact pkk)) | apply LSub.drop)) (hf : FSub R R' := by repeat (first | exact FSub.refl | exact FSub.nil | (apply FSub.cons; focus (exact mm)) | apply FSub.drop)) : St L' R' w := hs.sub hl hf
theorem st_take {w : World} (hs : St L R w) (hl : LSub L L' := by repeat (first | exact .refl | (apply LSub.cons; focus (exact pkk)) | exact .nil)) : St L' R w := hs.sub hl (fun f h => h)
theorem one_nil : ∀ u ∈ ([] : List Value), u.oneCell' = true := fun _ h => by cases h
theorem one_cons {c : Value} {l : List Value} (hc : c.oneCell' = true) (hl : ∀ u ∈ l, u.oneCell' = true) : ∀ u ∈ c :: l, u.oneCell' = true := fun u h => by
  cases List.mem_cons.1 h with
  | inl e => rw [e]; exact hc
  | inr e => exact hl u e
/-! ### Operations that change nothing -/
theorem q_mv {v : Value} (hx : ev n al x = some v := by exact rfl) : PureOp P n al L R ⟨some d, .move x, ty, pos, aft, none⟩ v :=
  ⟨rfl, fun ρ w h _ => by show Result.ok (Next.value _) w = _; rw [h x (by simp [Op.operands]) _ hx]⟩
theorem q_as {v : Value} (hx : ev n al x = some v := by exact rfl) : PureOp P n al L R ⟨some d, .assign x, ty, pos, aft, none⟩ v :=
  ⟨rfl, fun ρ w h _ => by show Result.ok (Next.value _) w = _; rw [h x (by simp [Op.operands]) _ hx]⟩
theorem q_pT {c : Operand} {v : Value} (hc : ev n al c = some (.bool true) := by exact rfl) (hx : ev n al x = some v := by exact rfl) : PureOp P n al L R ⟨some d, .pick c x y, ty, pos, aft, none⟩ v :=
  ⟨rfl, fun ρ w h _ => by simp [execOp, h c (by simp [Op.operands]) _ hc, h x (by simp [Op.operands]) _ hx, asBool, bind, pure, Sem.bind, Sem.run]⟩
theorem q_pF {c : Operand} {v : Value} (hc : ev n al c = some (.bool false) := by exact rfl) (hy : ev n al y = some v := by exact rfl) : PureOp P n al L R ⟨some d, .pick c x y, ty, pos, aft, none⟩ v :=
  ⟨rfl, fun ρ w h _ => by simp [execOp, h c (by simp [Op.operands]) _ hc, h y (by simp [Op.operands]) _ hy, asBool, bind, pure, Sem.bind, Sem.run]⟩
theorem q_not {b : Bool} (hx : ev n al x = some (.bool b) := by exact rfl) : PureOp P n al L R ⟨some d, .unOp .not T x, ty, pos, aft, none⟩ (.bool (!b)) :=
  ⟨rfl, fun ρ w h _ => by simp [execOp, h x (by simp [Op.operands]) _ hx, Op.unary]⟩
theorem q_notD {p : Prop} {hd : Decidable p} (hx : ev n al x = some (.bool (decide p)) := by exact rfl) : PureOp P n al L R ⟨some d, .unOp .not T x, ty, pos, aft, none⟩ (.bool (decide (¬ p))) := by
  have := q_not (P := P) (L := L) (R := R) (T := T) (d := d) (ty := ty) (pos := pos) (aft := aft) hx
  rw [decide_not]; exact this
theorem q_notT {b : Bool} (hx : ev n al x = some (.bool b)) (hb : b = true) : PureOp P n al L R ⟨some d, .unOp .not T x, ty, pos, aft, none⟩ (.bool false) := by
  have := q_not (P := P) (L := L) (R := R) (T := T) (d := d) (ty := ty) (pos := pos) (aft := aft) hx
  rw [hb] at this; exact this
theorem q_notF {b : Bool} (hx : ev n al x = some (.bool b)) (hb : b = false) : PureOp P n al L R ⟨some d, .unOp .not T x, ty, pos, aft, none⟩ (.bool true) := by
  have := q_not (P := P) (L := L) (R := R) (T := T) (d := d) (ty := ty) (pos := pos) (aft := aft) hx
  rw [hb] at this; exact this
/-! ### Comparing -/
theorem b_eqD {k : IntKind} {a b : Int} (w : World) : (binOp .eql T (.int k a) (.int k b)).run P w = .ok (.bool (decide (a = b))) w := by rw [b_eql]; by_cases h : a = b <;> simp [h]
theorem b_neD {k : IntKind} {a b : Int} (w : World) : (binOp .neq T (.int k a) (.int k b)).run P w = .ok (.bool (decide (a ≠ b))) w := by rw [b_neq]; by_cases h : a = b <;> simp [h]
theorem b_seD {a b : List UInt8} (w : World) : (binOp .eql T (.string (bstr a)) (.string (bstr b))).run P w = .ok (.bool (decide (a = b))) w := b_streq w
theorem b_snD {a b : List UInt8} (w : World) : (binOp .neq T (.string (bstr a)) (.string (bstr b))).run P w = .ok (.bool (decide (a ≠ b))) w := by rw [b_strne, decide_not]
theorem q_in {op : BinOp} {k k' : IntKind} {a b : Int} {v : Value} {U : TypeId} (hv : ∀ w : World, (binOp op T (.int k a) (.int k' b)).run P w = .ok v w) (hx : ev n al x = some (.int k a) := by exact rfl) (hy : ev n al y = some (.int k' b) := by exact rfl) : PureOp P n al L R ⟨some d, .binOp op T x y U, ty, pos, aft, none⟩ v := p_int hx hy hv
theorem q_s {op : BinOp} {a b : ByteArray} {v : Value} {U : TypeId} (hv : ∀ w : World, (binOp op T (.string a) (.string b)).run P w = .ok v w) (hx : ev n al x = some (.string a) := by exact rfl) (hy : ev n al y = some (.string b) := by exact rfl) : PureOp P n al L R ⟨some d, .binOp op T x y U, ty, pos, aft, none⟩ v := p_str hx hy hv
theorem q_add {a b : Int} {U : TypeId} (hx : ev n al x = some (vi a) := by exact rfl) (hy : ev n al y = some (vi b) := by exact rfl) (h1 : -9223372036854775808 ≤ a + b := by omega) (h2 : a + b ≤ 9223372036854775807 := by omega) : PureOp P n al L R ⟨some d, .binOp .add T x y U, ty, pos, aft, none⟩ (vi (a + b)) := p_int hx hy (b_add h1 h2)
theorem q_addN {a b : Nat} {U : TypeId} (hx : ev n al x = some (vi (a : Int)) := by exact rfl) (hy : ev n al y = some (vi (b : Int)) := by exact rfl) (h2 : a + b ≤ 9223372036854775807 := by omega) : PureOp P n al L R ⟨some d, .binOp .add T x y U, ty, pos, aft, none⟩ (vi ((a + b : Nat) : Int)) := p_int hx hy (b_addN h2)
theorem q_sub {a b : Int} {U : TypeId} (hx : ev n al x = some (vi a) := by exact rfl) (hy : ev n al y = some (vi b) := by exact rfl) (h1 : -9223372036854775808 ≤ a - b := by omega) (h2 : a - b ≤ 9223372036854775807 := by omega) : PureOp P n al L R ⟨some d, .binOp .sub T x y U, ty, pos, aft, none⟩ (vi (a - b)) := p_int hx hy (b_sub h1 h2)
theorem q_mul {a b : Int} {U : TypeId} (hx : ev n al x = some (vi a) := by exact rfl) (hy : ev n al y = some (vi b) := by exact rfl) (h1 : -9223372036854775808 ≤ a * b := by omega) (h2 : a * b ≤ 9223372036854775807 := by omega) : PureOp P n al L R ⟨some d, .binOp .mul T x y U, ty, pos, aft, none⟩ (vi (a * b)) := p_int hx hy (b_mul h1 h2)
/-! ### Places -/
def EpOk (L : List Chunk) (R : List Fact) (v : Value) (sz i : Nat) : Prop := ∀ w, St L R w → ∃ a : Addr, ∀ f, ep v sz i f = .pointer (some (a.add f))
theorem ok_c {v : Value} {sz i : Nat} {cs : List Value} (hm : cF v sz i cs ∈ R) : EpOk L R v sz i := fun w hs => by
  obtain ⟨m, hle, hr⟩ := hs.ex
  obtain ⟨a, cells, T, fz, h1, h2, h3, h4, h5⟩ := hr _ hm
  exact ⟨a, h2⟩
theorem ok_l {v : Value} {sz i len : Nat} (hl : SliceLen L R v len) (h0 : 0 < len) : EpOk L R v sz i := fun w hs => by
  obtain ⟨base, cap, rfl, hb⟩ := hl w hs
  obtain ⟨a, rfl⟩ := hb h0
  exact ⟨a.add (i * sz), fun f => by rw [ep_eq, add_add]⟩
theorem ok_f {α : Type} [Enc α] {v : Value} {sz i : Nat} {xs : List α} {cs : List Value} (hp : Pick L (foc T v xs i cs) L') : EpOk L R v sz i := fun w hs => by
  obtain ⟨rs, h1, r, h2, h3⟩ := foc_raw (hs.pick hp)
  have hlt : i < rs.length := (List.getElem?_eq_some_iff.1 h2).1
  exact ok_l (len_row .hd) (by omega) w h1
def EpAll (v : Value) (sz i : Nat) : Prop := ∃ a : Addr, ∀ f, ep v sz i f = .pointer (some (a.add f))
theorem ok_a {v : Value} {sz i : Nat} (h : EpAll v sz i) : EpOk L R v sz i := fun _ _ => h
theorem EpAll.one {v : Value} {sz i f : Nat} (h : EpAll v sz i) : (ep v sz i f).oneCell' = true := by
  obtain ⟨a, ha⟩ := h
  rw [ha]; rfl
theorem at_a1 {L0 : List Chunk} {R0 : List Fact} {v : Value} {sz i f : Nat} {cs : List Value} {c : Value} (h : CellsAt L0 R0 (ep v sz i 0) cs) (he : EpAll v sz i) (hl : LSub L L0) (hf : FSub R R0) (hc : cs[f]? = some c) : CellsAt L R (ep v sz i f) [c] := by
  intro w hs
  obtain ⟨a, ha⟩ := he
  obtain ⟨b, hb, hk⟩ := h w (hs.sub hl hf)
  rw [ha, show a.add 0 = a by simp [Addr.add]] at hb
  cases hb
  refine ⟨a.add f, ha f, fun k c' hk' => ?_⟩
  match k, hk' with
  | 0, hk' =>
    have e : c = c' := by simpa using hk'
    rw [add_add, ← e]; exact hk f c hc
  | k + 1, hk' => simp at hk'
theorem q_fa {b f fld off : Nat} (hf : FieldOff P T fld off) (hx : ev n al x = some (bp b f) := by exact rfl) : PureOp P n al L R ⟨some d, .fieldAddr T x fld, ty, pos, aft, none⟩ (bp b (f + off)) :=
  ⟨rfl, fun ρ w h _ => exec_fieldAddr (by rw [h x (by simp [Op.operands]) _ hx]; show (Instr.fieldAt T (.pointer (some ⟨b, f, none⟩)) fld).run P w = _; rw [run_fieldAt hf, add_mk]; rfl)⟩
theorem q_fe {v : Value} {sz i f fld off : Nat} (hf : FieldOff P T fld off) (hx : ev n al x = some (ep v sz i f) := by exact rfl) (hok : EpOk L R v sz i := by first | exact ok_c mm | exact ok_f pkk | exact ok_a (by assumption) | exact ok_l (len_row pkk) (by omega) | exact ok_l (len_sl mm) (by omega)) : PureOp P n al L R ⟨some d, .fieldAddr T x fld, ty, pos, aft, none⟩ (ep v sz i (f + off)) :=
  ⟨rfl, fun ρ w h hs => exec_fieldAddr (by
    obtain ⟨a, ha⟩ := hok w hs
    rw [h x (by simp [Op.operands]) _ hx, ha, run_fieldAt hf, add_add, ha])⟩
theorem q_nb {b f : Nat} (hx : ev n al x = some (bp b f) := by exact rfl) : PureOp P n al L R ⟨some d, .nilCheck x, ty, pos, aft, none⟩ (bp b f) :=
  ⟨rfl, fun ρ w h _ => by simp only [execOp, h x (by simp [Op.operands]) _ hx]; rfl⟩
theorem q_ne {v : Value} {sz i f : Nat} (hx : ev n al x = some (ep v sz i f) := by exact rfl) (hok : EpOk L R v sz i := by first | exact ok_c mm | exact ok_f pkk | exact ok_a (by assumption) | exact ok_l (len_row pkk) (by omega) | exact ok_l (len_sl mm) (by omega)) : PureOp P n al L R ⟨some d, .nilCheck x, ty, pos, aft, none⟩ (ep v sz i f) :=
  ⟨rfl, fun ρ w h hs => by
    obtain ⟨a, ha⟩ := hok w hs
    simp only [execOp, h x (by simp [Op.operands]) _ hx, ha]; rfl⟩
theorem len_foc {α : Type} [Enc α] {v : Value} {i : Nat} {xs : List α} {cs : List Value} (hp : Pick L (foc T v xs i cs) L') : SliceLen L R v xs.length := fun w hs => by
  obtain ⟨m, j, hd, hm, hj, ⟨m1, m2, hd', h1, h2, ⟨rs, e1, e2, e3, e5⟩, hst⟩, hr⟩ := hs.pick hp
  have h : SliceLen (row T v rs :: L') R v rs.length := len_row .hd
  rw [e2] at h
  exact h w ⟨m, j, hd, hm, hj, ⟨m1, m2, hd', h1, h2, e1, hst⟩, hr⟩
theorem q_iN {v : Value} {e : TypeId} {sz len i : Nat} (ht : SliceOf P T e sz) (hx : ev n al x = some v := by exact rfl) (hy : ev n al y = some (vi (i : Int)) := by exact rfl) (hl : SliceLen L R v len := by first | exact len_row pkk | exact len_foc pkk | exact len_sl mm) (h1 : i < len := by first | assumption | omega | (simp only [List.length_nil, List.length_cons, List.length_append, List.length_take, List.length_drop, List.length_set, List.length_replicate, Int.toNat_natCast]; omega) | decide) : PureOp P n al L R ⟨some d, .indexAddr T x y, ty, pos, aft, none⟩ (ep v sz i 0) := p_indexAddrN ht hx hy hl h1
theorem q_iI {v : Value} {e : TypeId} {sz len : Nat} {i : Int} (ht : SliceOf P T e sz) (hx : ev n al x = some v := by exact rfl) (hy : ev n al y = some (vi i) := by exact rfl) (hl : SliceLen L R v len := by first | exact len_row pkk | exact len_foc pkk | exact len_sl mm) (h0 : 0 ≤ i := by first | assumption | omega | (simp only [List.length_nil, List.length_cons, List.length_append, List.length_take, List.length_drop, List.length_set, List.length_replicate, Int.toNat_natCast]; omega) | decide) (h1 : i < len := by first | assumption | omega | (simp only [List.length_nil, List.length_cons, List.length_append, List.length_take, List.length_drop, List.length_set, List.length_replicate, Int.toNat_natCast]; omega) | decide) : PureOp P n al L R ⟨some d, .indexAddr T x y, ty, pos, aft, none⟩ (ep v sz i.toNat 0) :=
  p_indexAddrN ht hx (by rw [hy, Int.toNat_of_nonneg h0]) hl (by omega)
theorem q_len {t e : TypeId} {v : Value} {len : Nat} (ht : P.underlying t = some (.slice e)) (hx : ev n al x = some v := by exact rfl) (hl : SliceLen L R v len := by first | exact len_row pkk | exact len_foc pkk | exact len_sl mm) : PureOp P n al L R ⟨some d, .call { callee := .builtin .len, args := #[x], argTypes := #[t] }, ty, pos, aft, none⟩ (vi (len : Int)) :=
  ⟨rfl, fun ρ w h hs => by
    obtain ⟨base, cap, rfl, _⟩ := hl w hs
    have hx' := h x (by simp [Op.operands, Call.operands]) _ hx
    have e1 : (Builtin.len_ #[t] ty #[ρ x]).run P w = .ok (vi (len : Int)) w := by
      rw [hx']; simp [Builtin.len_, run_und ht, goInt]
    exact exec_len e1⟩
theorem q_x {vs : List Value} {i : Nat} {v : Value} (hx : ev n al x = some (.tuple vs.toArray) := by exact rfl) (hv : vs[i]? = some v := by exact rfl) : PureOp P n al L R ⟨some d, .extract x i, ty, pos, aft, none⟩ v :=
  ⟨rfl, fun ρ w h _ => by simp [execOp, h x (by simp [Op.operands]) _ hx, Instr.extract, hv]⟩
/-! ### What lies there -/
theorem q_l1 {p c : Value} (hT : ∀ w, (isAgg T).run P w = .ok false w) (hx : ev n al x = some p := by exact rfl) (hc : CellsAt L R p [c] := by first | exact at_blk1 pkk (by exact rfl) | exact at_c1 mm (by exact rfl) | exact at_f1 pkk rfl (by exact rfl) | exact at_a1 (by assumption) (by assumption) (by repeat (first | exact .refl | exact .nil | (apply LSub.cons; focus (exact pkk)) | apply LSub.drop)) (by repeat (first | exact FSub.refl | exact FSub.nil | (apply FSub.cons; focus (exact mm)) | apply FSub.drop)) (by exact rfl)) : PureOp P n al L R ⟨some d, .load T x, ty, pos, aft, none⟩ c :=
  ⟨rfl, fun ρ w h hs => by
    obtain ⟨a, rfl, hk⟩ := hc w hs
    exact exec_load (by rw [h x (by simp [Op.operands]) _ hx]; exact run_load1 hT (by simpa [Addr.add] using hk 0 c rfl))⟩
theorem q_lA {p : Value} {cs : List Value} {sz : Nat} (hT : ∀ w, (isAgg T).run P w = .ok true w) (hsz : ∀ w, (sizeOf T).run P w = .ok sz w) (hx : ev n al x = some p := by exact rfl) (hc : CellsAt L R p cs := by first | exact at_blkAll pkk | exact at_cAll mm | exact at_fAll pkk rfl) (hl : cs.length = sz := by exact rfl) : PureOp P n al L R ⟨some d, .load T x, ty, pos, aft, none⟩ (.agg cs.toArray) :=
  ⟨rfl, fun ρ w h hs => by
    obtain ⟨a, rfl, hk⟩ := hc w hs
    exact exec_load (by rw [h x (by simp [Op.operands]) _ hx]; exact run_loadN hT hsz hl hk)⟩
theorem q_lNb {b f : Nat} {vs : List Value} {T0 : TypeId} (sz : Nat) (hT : ∀ w, (isAgg T).run P w = .ok true w) (hsz : ∀ w, (sizeOf T).run P w = .ok sz w) (hx : ev n al x = some (bp b f) := by exact rfl) (hp : Pick L (blk b T0 vs) L' := by exact pkk) (hl : ((vs.drop f).take sz).length = sz := by exact rfl) : PureOp P n al L R ⟨some d, .load T x, ty, pos, aft, none⟩ (.agg ((vs.drop f).take sz).toArray) := q_lA hT hsz hx (at_blkN hp) hl
theorem q_lNc {v : Value} {k i f : Nat} {vs : List Value} (sz : Nat) (hT : ∀ w, (isAgg T).run P w = .ok true w) (hsz : ∀ w, (sizeOf T).run P w = .ok sz w) (hx : ev n al x = some (ep v k i f) := by exact rfl) (hm : cF v k i vs ∈ R := by exact mm) (hl : ((vs.drop f).take sz).length = sz := by exact rfl) : PureOp P n al L R ⟨some d, .load T x, ty, pos, aft, none⟩ (.agg ((vs.drop f).take sz).toArray) := q_lA hT hsz hx (at_cN hm) hl
theorem q_lNf {α : Type} [Enc α] {v : Value} {xs : List α} {k i f : Nat} {vs : List Value} {T0 : TypeId} (sz : Nat) (hT : ∀ w, (isAgg T).run P w = .ok true w) (hsz : ∀ w, (sizeOf T).run P w = .ok sz w) (hx : ev n al x = some (ep v k i f) := by exact rfl) (hp : Pick L (foc T0 v xs i vs) L' := by exact pkk) (hk : Enc.sz α = k := by exact rfl) (hl : ((vs.drop f).take sz).length = sz := by exact rfl) : PureOp P n al L R ⟨some d, .load T x, ty, pos, aft, none⟩ (.agg ((vs.drop f).take sz).toArray) := q_lA hT hsz hx (at_fN hp hk) hl
def fillR (places : List (Nat × Nat)) : List Value → List (Nat × List Value) → Option (List Value)
  | cells, [] => some cells
  | cells, (i, c) :: rest => match places[i]? with
    | none => none
    | some (off, size) => match Nat.beq c.length size with
      | false => none
      | true => match putSeg cells off c with
        | none => none
        | some cells' => fillR places cells' rest
def CellsL : List Value → List (List Value) → Prop
  | [], [] => True
  | v :: vs, c :: cs => v.cells.toList = c ∧ CellsL vs cs
  | _, _ => False
theorem cells_one {v : Value} (h : v.oneCell' = true) : v.cells.toList = [v] := by
  cases v <;> first | rfl | (simp [Value.oneCell'] at h)
theorem fillR_Q (places : List (Nat × Nat)) : ∀ (idx : List Nat) (vs : List Value) (css : List (List Value)) (cells cs : List Value), CellsL vs css → fillR places cells (idx.zip css) = some cs → fillQ places cells (idx.zip vs) = some cs
  | [], _, _, cells, cs, _, h => by simpa [fillR, fillQ] using h
  | _ :: _, [], [], cells, cs, _, h => by simpa [fillR, fillQ] using h
  | _ :: _, [], _ :: _, _, _, hc, _ => by cases hc
  | _ :: _, _ :: _, [], _, _, hc, _ => by cases hc
  | i :: idx, v :: vs, c :: css, cells, cs, hc, h => by
    obtain ⟨hv, hc⟩ := hc
    have hsz : v.cells.size = c.length := by rw [← hv, Array.length_toList]
    simp only [List.zip_cons_cons, fillR, fillQ] at h ⊢
    rw [hsz, hv]
    cases hp : places[i]? with
    | none => rw [hp] at h; cases h
    | some q =>
      obtain ⟨off, size⟩ := q
      rw [hp] at h
      simp only at h ⊢
      cases hb : Nat.beq c.length size with
      | false => rw [hb] at h; cases h
      | true =>
        rw [hb] at h
        simp only at h ⊢
        cases hq : putSeg cells off c with
        | none => rw [hq] at h; cases h
        | some c' => rw [hq] at h; exact fillR_Q places idx vs css c' cs hc h
theorem cl_nil : CellsL [] [] := trivial
theorem cl_cons {v : Value} {c : List Value} {vs : List Value} {cs : List (List Value)} (h : v.cells.toList = c) (h' : CellsL vs cs) : CellsL (v :: vs) (c :: cs) := ⟨h, h'⟩
theorem q_bdR {zc cs : List Value} {places : List (Nat × Nat)} {parts : List (Nat × Operand)} {vs : List Value} {css : List (List Value)} (hT : StructOf P T zc places) (ha : evL n al (parts.map (·.2)) = some vs := by exact rfl) (hc : CellsL vs css := by repeat (first | exact cl_nil | apply cl_cons (by first | exact cells_one (by assumption) | exact rfl))) (h' : fillR places zc ((parts.map (·.1)).zip css) = some cs := by exact rfl) : PureOp P n al L R ⟨some d, .build T parts.toArray, ty, pos, aft, none⟩ (.agg cs.toArray) := p_build hT ha (fillR_Q _ _ _ _ _ _ hc h')
theorem q_cS {src dst e : TypeId} {bs : List UInt8} {v : Value} (hs : P.underlying src = some (.slice e)) (he : P.underlying e = some (.int .u8)) (hd : P.underlying dst = some .string) (hx : ev n al x = some v := by exact rfl) (hm : sl v bs ∈ R := by exact mm) : PureOp P n al L R ⟨some d, .convert src dst x, ty, pos, aft, none⟩ (.string (bstr bs)) := p_convStr hs he hd hx hm
theorem q_bd {zc cs : List Value} {places : List (Nat × Nat)} {parts : List (Nat × Operand)} {vs : List Value} (hT : StructOf P T zc places) (ha : evL n al (parts.map (·.2)) = some vs := by exact rfl) (h' : fillQ places zc ((parts.map (·.1)).zip vs) = some cs := by exact rfl) : PureOp P n al L R ⟨some d, .build T parts.toArray, ty, pos, aft, none⟩ (.agg cs.toArray) := p_build hT ha h'
/-! ### One step -/
theorem ob {op : Oper} {v : Value} (hp : PureOp P n al L R op v) (k : J P n ops Q rest L R ((d, v) :: al)) (hd : op.dst = some d := by exact rfl) : J P n ops Q (op :: rest) L R al := r_p hp hd k
theorem dc {Sh : Rho → (Nat → Bool) → List Chunk} {R0 : List Fact} {al0 : List (Nat × Value)} {i : Nat} {its : List Item} {op : Oper} {v : Value} (hp : ∀ ρ S, PureOp P n (alOf its al0 ρ) (Sh ρ S) R0 op v)
    (k : DJ P n ops Q Sh R0 al0 (i + 1) rest (⟨i, some d, fun _ => v, fun _ => [], fun _ => []⟩ :: its)) (hd : op.dst = some d := by exact rfl) (hSh : ∀ ρ g S, S i = false → Sh (Rho.set ρ i g) (upS S i) = Sh ρ S := by exact fun _ _ _ _ => rfl) : DN P n ops Q Sh R0 al0 i op rest its := d_pc hp hd hSh k
theorem dp {Sh : Rho → (Nat → Bool) → List Chunk} {R0 : List Fact} {al0 : List (Nat × Value)} {i : Nat} {its : List Item} {op : Oper} {v : Rho → Value} (hp : ∀ ρ S, PureOp P n (alOf its al0 ρ) (Sh ρ S) R0 op (v ρ))
    (k : DJ P n ops Q Sh R0 al0 (i + 1) rest (⟨i, some d, v, fun _ => [], fun _ => []⟩ :: its)) (hd : op.dst = some d := by exact rfl) (hSh : ∀ ρ g S, S i = false → Sh (Rho.set ρ i g) (upS S i) = Sh ρ S := by exact fun _ _ _ _ => rfl) (hi : Ind ops i v := by first | exact Ind.const _ | exact fun _ _ _ _ _ => rfl | exact Ind.self | exact Ind.gh _ 3 rfl) : DN P n ops Q Sh R0 al0 i op rest its := d_p hp hd hi hSh k
/-! ### What changes memory -/
theorem s_b {b f : Nat} {vs : List Value} {T0 : TypeId} {c : Value} (hsz : ∀ w, (sizeOf T).run P w = .ok 1 w) (k : ∀ cs', vs.set f c = cs' → J P n ops Q rest (blk b T0 cs' :: L') R al) (hx : ev n al x = some (bp b f) := by exact rfl) (hy : ev n al y = some c := by exact rfl) (hp : Pick L (blk b T0 vs) L' := by exact pkk) (h1 : c.oneCell' = true := by first | exact rfl | assumption | simp [*]) (hf : Nat.blt f vs.length = true := by exact rfl) : J P n ops Q (⟨none, .store T x y, ty, pos, aft, none⟩ :: rest) L R al :=
  r_store1 hsz hx hy h1 hp hf (k _ rfl)
theorem cells_arr {v : Value} (h : v.oneCell' = true) : v.cells = #[v] := Array.toList_inj.1 (cells_one h)
theorem s_f {α : Type} [Enc α] {v : Value} {xs : List α} {i f sz : Nat} {cs : List Value} {T0 : TypeId} {c : Value} (hsz : ∀ w, (sizeOf T).run P w = .ok 1 w) (k : ∀ cs', cs.set f c = cs' → J P n ops Q rest (foc T0 v xs i cs' :: L') R al) (hx : ev n al x = some (ep v sz i f) := by exact rfl) (hy : ev n al y = some c := by exact rfl) (hp : Pick L (foc T0 v xs i cs) L' := by exact pkk) (hes : Enc.sz α = sz := by exact rfl) (hc : c.cells = #[c] := by first | exact rfl | exact cells_arr (by assumption)) (h1 : c.oneCell' = true := by first | exact rfl | assumption | simp [*]) (hf : Nat.blt f cs.length = true := by exact rfl) : J P n ops Q (⟨none, .store T x y, ty, pos, aft, none⟩ :: rest) L R al :=
  r_storeF (us := [c]) hsz hx hy hc rfl (by intro u hu; cases List.mem_singleton.1 hu; exact h1) hp hes (Nat.ble_eq_true_of_le (blt_iff.1 hf)) (by rw [List.set_eq_take_append_cons_drop, if_pos (blt_iff.1 hf)]; simp) (k _ rfl)
theorem s_N {b f : Nat} {vs cs : List Value} {T0 : TypeId} {sz : Nat} (new : List Value) (hsz : ∀ w, (sizeOf T).run P w = .ok sz w) (k : J P n ops Q rest (blk b T0 new :: L') R al) (hx : ev n al x = some (bp b f) := by exact rfl) (hy : ev n al y = some (.agg cs.toArray) := by exact rfl) (hp : Pick L (blk b T0 vs) L' := by exact pkk) (hl : cs.length = sz := by exact rfl) (h1 : ∀ u ∈ cs, u.oneCell' = true := by repeat (first | exact one_nil | refine one_cons (by first | exact rfl | assumption) ?_)) (hf : Nat.ble (f + sz) vs.length = true := by exact rfl) (hn : vs.take f ++ cs ++ vs.drop (f + sz) = new := by exact rfl) : J P n ops Q (⟨none, .store T x y, ty, pos, aft, none⟩ :: rest) L R al :=
  r_storeN hsz hx hy hl h1 hp hf (by rw [hn]; exact k)
theorem s_fN {α : Type} [Enc α] {v : Value} {xs : List α} {i f sz z : Nat} {cs us : List Value} {T0 : TypeId} (new : List Value) (hsz : ∀ w, (sizeOf T).run P w = .ok z w) (k : J P n ops Q rest (foc T0 v xs i new :: L') R al) (hx : ev n al x = some (ep v sz i f) := by exact rfl) (hy : ev n al y = some (.agg us.toArray) := by exact rfl) (hp : Pick L (foc T0 v xs i cs) L' := by exact pkk) (hes : Enc.sz α = sz := by exact rfl) (hl : us.length = z := by exact rfl) (h1 : ∀ u ∈ us, u.oneCell' = true := by repeat (first | exact one_nil | refine one_cons (by first | exact rfl | assumption) ?_)) (hf : Nat.ble (f + us.length) cs.length = true := by exact rfl) (hn : cs.take f ++ us ++ cs.drop (f + us.length) = new := by exact rfl) : J P n ops Q (⟨none, .store T x y, ty, pos, aft, none⟩ :: rest) L R al :=
  r_storeF hsz hx hy rfl hl h1 hp hes hf hn k
theorem s_B {b : Nat} {vs cs : List Value} {T0 : TypeId} {sz : Nat} (hsz : ∀ w, (sizeOf T).run P w = .ok sz w) (k : J P n ops Q rest (blk b T0 cs :: L') R al) (hx : ev n al x = some (bp b 0) := by exact rfl) (hy : ev n al y = some (.agg cs.toArray) := by exact rfl) (hp : Pick L (blk b T0 vs) L' := by exact pkk) (hl : cs.length = sz := by exact rfl) (h1 : ∀ u ∈ cs, u.oneCell' = true := by repeat (first | exact one_nil | refine one_cons (by first | exact rfl | assumption) ?_)) (hf : vs.length = sz := by exact rfl) : J P n ops Q (⟨none, .store T x y, ty, pos, aft, none⟩ :: rest) L R al :=
  r_storeAll hsz hx hy hl h1 hp hf k
theorem bx {v : Value} {cs : List Value} (k : ∀ b, J P n ops Q rest (blk b T cs :: L) R ((d, bp b 0) :: al)) (hx : ev n al x = some v := by exact rfl) (hv : v.cells = cs.toArray := by exact rfl) : J P n ops Q (⟨some d, .box T x, ty, pos, aft, none⟩ :: rest) L R al := r_box hx hv k
theorem al_ {z : Value} {cs : List Value} (hz : ∀ w, (zeroValue T).run P w = .ok z w) (k : ∀ b, J P n ops Q rest (blk b T cs :: L) R ((d, bp b 0) :: al)) (hv : z.cells = cs.toArray := by exact rfl) : J P n ops Q (⟨some d, .alloc T, ty, pos, aft, none⟩ :: rest) L R al := r_alloc hz hv k
theorem ap {α : Type} [Enc α] {t e : TypeId} {sz bytes : Nat} {z : Value} {xs ys : List α} {v u : Value} (he : ElemOf P t e sz z bytes) (hx : ev n al x = some v := by exact rfl) (hy : ev n al y = some u := by exact rfl) (hp : Pick L (row e v xs) L' := by exact pkk) (hm : sl u ys ∈ R := by exact mm) (hsz : Enc.sz α = sz := by exact rfl) (hpos : 0 < sz := by decide) (hb : ∀ w, St L R w → xs.length + ys.length ≤ maxN) (k : ∀ v', J P n ops Q rest (row e v' (xs ++ ys) :: L') R ((d, v') :: al)) : J P n ops Q (⟨some d, .call { callee := .builtin .append, args := #[x, y], argTypes := #[t, t] }, ty, pos, aft, none⟩ :: rest) L R al := r_append he hx hy hsz hpos hp hm hb k
theorem li {α : Type} [Enc α] {t el : TypeId} {sz bytes len : Nat} {z : Value} {parts : List (Nat × Operand)} {vs : List Value} (xs : List α) (he : ElemOf P t el sz z bytes) (ha : evL n al (parts.map (·.2)) = some vs) (hrd : ∀ j, (∀ q ∈ R, q.p j) → RdV xs vs j) (k : ∀ v, J P n ops Q rest L (sl v xs :: R) ((d, v) :: al)) (hsz : Enc.sz α = sz := by exact rfl) (hidx : parts.map (·.1) = List.range' 0 len := by exact rfl) (hlv : vs.length = len := by exact rfl) (hsmall : Nat.ble (len * sz) 1000 = true := by exact rfl) (hsm2 : Nat.ble len 1000 = true := by exact rfl) : J P n ops Q (⟨some d, .buildSlice t len parts.toArray, ty, pos, aft, none⟩ :: rest) L R al :=
  r_lit xs he hsz ha hidx hlv hsmall hsm2 hrd fun v => J.shut .hd (k v)
theorem liO {α : Type} [Enc α] {t el : TypeId} {sz bytes len : Nat} {z : Value} {parts : List (Nat × Operand)} {vs : List Value} (xs : List α) (he : ElemOf P t el sz z bytes) (ha : evL n al (parts.map (·.2)) = some vs) (hrd : ∀ j, (∀ q ∈ R, q.p j) → RdV xs vs j) (k : ∀ v, J P n ops Q rest (row el v xs :: L) R ((d, v) :: al)) (hsz : Enc.sz α = sz := by exact rfl) (hidx : parts.map (·.1) = List.range' 0 len := by exact rfl) (hlv : vs.length = len := by exact rfl) (hsmall : Nat.ble (len * sz) 1000 = true := by exact rfl) (hsm2 : Nat.ble len 1000 = true := by exact rfl) : J P n ops Q (⟨some d, .buildSlice t len parts.toArray, ty, pos, aft, none⟩ :: rest) L R al := r_lit xs he hsz ha hidx hlv hsmall hsm2 hrd k
theorem rd_nil {α : Type} [Enc α] {j : Mem} : RdV ([] : List α) [] j := trivial
theorem rd_sl {α : Type} [Enc α] {u : Value} {ys : List α} (hm : sl u ys ∈ R := by exact mm) : ∀ j, (∀ q ∈ R, q.p j) → RdV [ys] [u] j := fun j h => by
  have hs := h _ hm
  obtain ⟨base, cap, hv, _⟩ := id hs
  exact ⟨⟨[u], by rw [hv]; rfl, u, rfl, hs⟩, trivial⟩
theorem rd_0 {α : Type} [Enc α] [El0 α] {x : α} {v : Value} {cs : List Value} (hr : ∀ j, Enc.rd x cs j) (hv : v.cells = cs.toArray := by exact rfl) : ∀ j, (∀ q ∈ R, q.p j) → RdV [x] [v] j := fun j _ => ⟨⟨cs, hv, hr j⟩, trivial⟩
theorem cl {γ : Type} {val : γ → Value} {Lf : γ → List Chunk} {Rf : γ → List Fact} {f : FuncId} {args : List Operand} {ts : Array TypeId} {vs : List Value} (hf : ∀ args w, (callFunc f args).run P w = .ok (.enter f args) w) (hc : ∀ w, St L R w → Calls P f vs.toArray w (Post val Lf Rf)) (k : ∀ g, J P n ops Q rest (Lf g) (Rf g) ((d, val g) :: al)) (ha : evL n al args = some vs := by exact rfl) : J P n ops Q (⟨some d, .call { callee := .value (.func f), args := args.toArray, argTypes := ts }, ty, pos, aft, none⟩ :: rest) L R al := r_call hf ha hc k
/-! ### Ways that part, and meet again -/
theorem cd {t : Nat} {a b : Code} {p : Prop} {hd : Decidable p} (hT : p → JC P n a Q L R ((t, .bool true) :: al)) (hF : ¬ p → JC P n b Q L R ((t, .bool false) :: al)) (hc : ev n al (.tmp t) = some (.bool (decide p)) := by exact rfl) : JC P n (.cond (.tmp t) a b) Q L R al :=
  jc_cond hc (fun h => hT (of_decide_eq_true h)) (fun h => hF (of_decide_eq_false h))
theorem cb {t : Nat} {a b : Code} {c : Bool} (hT : c = true → JC P n a Q L R ((t, .bool true) :: al)) (hF : c = false → JC P n b Q L R ((t, .bool false) :: al)) (hc : ev n al (.tmp t) = some (.bool c) := by exact rfl) : JC P n (.cond (.tmp t) a b) Q L R al := jc_cond hc hT hF
theorem cT {c : Operand} {a b : Code} (h : JC P n a Q L R al) (hc : ev n al c = some (.bool true) := by exact rfl) : JC P n (.cond c a b) Q L R al := jc_condT hc h
theorem cF_ {c : Operand} {a b : Code} (h : JC P n b Q L R al) (hc : ev n al c = some (.bool false) := by exact rfl) : JC P n (.cond c a b) Q L R al := jc_condF hc h
theorem cTp {t : Nat} {a b : Code} {p : Prop} {hd : Decidable p} (hp : p) (h : JC P n a Q L R al) (hc : ev n al (.tmp t) = some (.bool (decide p)) := by exact rfl) : JC P n (.cond (.tmp t) a b) Q L R al := jc_condT (by rw [hc, decide_eq_true hp]) h
theorem cFp {t : Nat} {a b : Code} {p : Prop} {hd : Decidable p} (hp : ¬ p) (h : JC P n b Q L R al) (hc : ev n al (.tmp t) = some (.bool (decide p)) := by exact rfl) : JC P n (.cond (.tmp t) a b) Q L R al := jc_condF (by rw [hc, decide_eq_false hp]) h
theorem jg {t : Nat} {p : Prop} {hd : Decidable p} {l : List Oper} (hT : p → J P n ops Q l L R ((t, .bool true) :: al)) (hF : ¬ p → J P n ops Q l L R ((t, .bool false) :: al)) (hc : ev n al (.tmp t) = some (.bool (decide p)) := by exact rfl) : J P n ops Q l L R al :=
  j_cases hc (fun h => hT (of_decide_eq_true h)) (fun h => hF (of_decide_eq_false h))
theorem jgx {t : Nat} {p : Prop} {hd : Decidable p} {l : List Oper} (hc : ev n al (.tmp t) = some (.bool (decide p))) (hT : p → J P n ops Q l L R ((t, .bool true) :: al)) (hF : ¬ p → J P n ops Q l L R ((t, .bool false) :: al)) : J P n ops Q l L R al := jg hT hF hc
theorem cdx {t : Nat} {a b : Code} {p : Prop} {hd : Decidable p} (hc : ev n al (.tmp t) = some (.bool (decide p))) (hT : p → JC P n a Q L R ((t, .bool true) :: al)) (hF : ¬ p → JC P n b Q L R ((t, .bool false) :: al)) : JC P n (.cond (.tmp t) a b) Q L R al := cd hT hF hc
theorem jb {t : Nat} {c : Bool} {l : List Oper} (hT : c = true → J P n ops Q l L R ((t, .bool true) :: al)) (hF : c = false → J P n ops Q l L R ((t, .bool false) :: al)) (hc : ev n al (.tmp t) = some (.bool c) := by exact rfl) : J P n ops Q l L R al := j_cases hc hT hF
theorem jc_meet1 {a b : Code} (al2 : List (Nat × Value)) (hx : JC P n a (Exit.then (fun a' w => ∃ B, a' = mkA n al2 B ∧ St L R w) Q) L R al) (hy : JC P n b Q L R al2) : JC P n (.seq a b) Q L R al := by
  intro B w hs
  refine wp_seq (wp_mono (hx B w hs) ?_)
  intro e a' w' hq
  cases e with
  | normal => obtain ⟨B1, rfl, hs1⟩ := hq; exact hy B1 w' hs1
  | exit id => exact hq
  | goto l => exact hq
  | ret => exact hq
  | panic c => exact hq
  | outgrown => exact hq
theorem jc_meetK {a : Code} {K : Act → World → Prop} (t : Nat) (v : Value) (hx : JC P n a (Exit.then (fun a' w => ∃ B, a' = mkA n ((t, v) :: al) B ∧ St L R w) Q) L R al) (hy : JX n (Exit.then K Q) .normal L R ((t, v) :: al)) : JC P n a (Exit.then K Q) L R al := by
  intro B w hs
  refine wp_mono (hx B w hs) ?_
  intro e a' w' hq
  cases e with
  | normal => obtain ⟨B1, rfl, hs1⟩ := hq; exact hy B1 w' hs1
  | exit id => exact hq
  | goto l => exact hq
  | ret => exact hq
  | panic c => exact hq
  | outgrown => exact hq
theorem jx_meet1 {L1 : List Chunk} {R1 : List Fact} {al2 : List (Nat × Value)} (hal : alsub al n al2) (hst : ∀ w, St L R w → St L1 R1 w) : JX n (Exit.then (fun a' w => ∃ B, a' = mkA n al2 B ∧ St L1 R1 w) Q) .normal L R al := by
  intro B w hs
  obtain ⟨B', hB⟩ := mkA_sub hal B
  exact ⟨B', hB, hst w hs⟩
/-- The slots that are wanted still. -/
inductive Keep : List Nat → List (Nat × Value) → List (Nat × Value) → List (Nat × Value) → Prop
  | nil {ts acc} : Keep ts [] acc acc
  | yes {ts ts' : List Nat} {t v r acc out} : ts.contains t = true → ts.erase t = ts' → Keep ts' r ((t, v) :: acc) out → Keep ts ((t, v) :: r) acc out
  | no {ts t v r acc out} : ts.contains t = false → Keep ts r acc out → Keep ts ((t, v) :: r) acc out
theorem look_ne {d t : Nat} {u : Value} {r : List (Nat × Value)} (h : d ≠ t) : look ((d, u) :: r) t = look r t := by
  simp only [look]
  cases hb : Nat.beq d t with
  | true => exact absurd (Nat.eq_of_beq_eq_true hb) h
  | false => rfl
theorem look_eq {d : Nat} {u : Value} {r : List (Nat × Value)} : look ((d, u) :: r) d = some u := by simp [look]
theorem Keep.sub_aux {ts : List Nat} {al acc out : List (Nat × Value)} (h : Keep ts al acc out) : ∀ t v, look out t = some v → (∀ t, ts.count t ≤ 1) → look acc t = some v ∨ (look al t = some v ∧ t ∈ ts) := by
  induction h with
  | nil => intro t v h _; exact .inl h
  | @yes ts ts' d u r acc out h1 h2 h3 ih =>
    intro t v h hn
    subst h2
    have hd : d ∈ ts := by simpa using h1
    rcases ih t v h (fun s => Nat.le_trans (List.Sublist.count_le _ List.erase_sublist) (hn s)) with e | ⟨e1, e2⟩
    · by_cases hdt : d = t
      · subst hdt
        rw [look_eq] at e
        right; rw [look_eq]; exact ⟨e, hd⟩
      · rw [look_ne hdt] at e; exact .inl e
    · by_cases hdt : d = t
      · subst hdt
        exfalso
        have h4 := List.count_erase_self (a := d) (l := ts)
        have h5 := hn d
        have h6 : 0 < (ts.erase d).count d := List.count_pos_iff.2 e2
        omega
      · right; rw [look_ne hdt]; exact ⟨e1, List.mem_of_mem_erase e2⟩
  | @no ts d u r acc out h1 h3 ih =>
    intro t v h hn
    rcases ih t v h hn with e | ⟨e1, e2⟩
    · exact .inl e
    · right
      have hdt : d ≠ t := by intro e; subst e; simp at h1; exact h1 e2
      rw [look_ne hdt]; exact ⟨e1, e2⟩
def nodupB : List Nat → Bool
  | [] => true
  | x :: r => !(r.contains x) && nodupB r
theorem nodupB_count : ∀ {l : List Nat}, nodupB l = true → ∀ t, l.count t ≤ 1
  | [], _, t => by simp
  | x :: r, h, t => by
    simp only [nodupB, Bool.and_eq_true, Bool.not_eq_true', List.contains_eq_mem, decide_eq_false_iff_not] at h
    rw [List.count_cons]
    have := nodupB_count h.2 t
    by_cases hx : x = t
    · subst hx; rw [List.count_eq_zero_of_not_mem h.1]; simp
    · simp [hx]; exact this
theorem mkA_keep {ts : List Nat} {al al' : List (Nat × Value)} (h : Keep ts al [] al') (hn : nodupB ts = true) (B : Nat → Value) : ∃ B', mkA n al B = mkA n al' B' := by
  refine ⟨fun t => (look al t).getD (B t), ?_⟩
  unfold mkA
  simp only [Act.mk.injEq, and_true]
  congr 1
  funext i
  cases hl : look al' i with
  | none => simp
  | some v =>
    rcases h.sub_aux i v hl (nodupB_count hn) with e | e
    · cases e
    · simp [e.1]
theorem kp {c : Code} (ts : List Nat) {al' : List (Nat × Value)} (k : JC P n c Q L R al') (h : Keep ts al [] al' := by repeat (first | exact .nil | apply Keep.yes rfl rfl | apply Keep.no rfl)) (hn : nodupB ts = true := by exact rfl) : JC P n c Q L R al := by
  intro B w hs
  obtain ⟨B', hB⟩ := mkA_keep h hn B
  rw [hB]; exact k B' w hs
theorem alT {al' : List (Nat × Value)} (h : alsub al n al' := by repeat (first | exact trivial | refine ⟨rfl, ?_⟩)) : alsub al n al' := h
end
section
variable {P : Program} {n : Nat} {Q : Exit → Act → World → Prop} {rest : List Oper} {L L' : List Chunk} {R : List Fact} {al : List (Nat × Value)} {d : Nat} {ty : TypeId} {pos : String} {aft : Array Edge}
theorem gy {l : List Oper} {dst : Option Tmp} {op : Go.Op} {i : Nat} {b : Bool} (k : J P n l.toArray Q (⟨dst, op, ty, pos, aft, none⟩ :: rest) L R al) (hv : gv n al l i = some b := by exact rfl) : J P n l.toArray Q (⟨dst, op, ty, pos, aft, some (i, b)⟩ :: rest) L R al := J.guardYes hv k
theorem gn {l : List Oper} {op : Go.Op} {i : Nat} {b : Bool} (k : J P n l.toArray Q rest L R ((d, undef) :: al)) (hv : gv n al l i = some (!b) := by exact rfl) : J P n l.toArray Q (⟨some d, op, ty, pos, aft, some (i, b)⟩ :: rest) L R al := J.guardNo hv k
theorem gU {l : List Oper} {op : Go.Op} {i : Nat} {b : Bool} (k : J P n l.toArray Q rest L R ((d, undef) :: al)) (hv : gu n al l i = true := by exact rfl) : J P n l.toArray Q (⟨some d, op, ty, pos, aft, some (i, b)⟩ :: rest) L R al := J.guardUndef hv k
variable {Sh : Rho → (Nat → Bool) → List Chunk} {R0 : List Fact} {al0 : List (Nat × Value)} {its : List Item} {i : Nat}
theorem dgy {l : List Oper} {dst : Option Tmp} {op : Go.Op} {q : Nat} {b : Bool} (k : DN P n l.toArray Q Sh R0 al0 i ⟨dst, op, ty, pos, aft, none⟩ rest its) (hv : ∀ ρ, gv n (alOf its al0 ρ) l q = some b := by exact fun _ => rfl) : DN P n l.toArray Q Sh R0 al0 i ⟨dst, op, ty, pos, aft, some (q, b)⟩ rest its := d_guardYes hv k
theorem dgn {l : List Oper} {op : Go.Op} {q : Nat} {b : Bool} (k : DJ P n l.toArray Q Sh R0 al0 (i + 1) rest (⟨i, some d, fun _ => undef, fun _ => [], fun _ => []⟩ :: its)) (hv : ∀ ρ, gv n (alOf its al0 ρ) l q = some (!b) := by exact fun _ => rfl) (hSh : ∀ ρ g S, S i = false → Sh (Rho.set ρ i g) (upS S i) = Sh ρ S := by exact fun _ _ _ _ => rfl) : DN P n l.toArray Q Sh R0 al0 i ⟨some d, op, ty, pos, aft, some (q, b)⟩ rest its := d_guardNo hv hSh k
theorem dgu {l : List Oper} {op : Go.Op} {q : Nat} {b : Bool} (k : DJ P n l.toArray Q Sh R0 al0 (i + 1) rest (⟨i, some d, fun _ => undef, fun _ => [], fun _ => []⟩ :: its)) (hv : ∀ ρ, gu n (alOf its al0 ρ) l q = true := by exact fun _ => rfl) (hSh : ∀ ρ g S, S i = false → Sh (Rho.set ρ i g) (upS S i) = Sh ρ S := by exact fun _ _ _ _ => rfl) : DN P n l.toArray Q Sh R0 al0 i ⟨some d, op, ty, pos, aft, some (q, b)⟩ rest its := d_guardUndef hv hSh k
end
end Go.Proofs.YtiofgjolhbgkiaaDoor
end
section
/- This file proves rules for parts of an array of the call's own, for appending in place, for clearing, and for slices held against nil. No conditions. -/
namespace Go.Proofs.YtiofgjolhbgkiaaDoor
open Go
def isNilV : Value → Bool
  | .slice none _ _ => true
  | _ => false
theorem eq_slnil {P : Program} {T e : TypeId} {k : Nat} {b : Option Addr} {l c : Nat} (ht : P.underlying T = some (.slice e)) (w : World) : (Op.equalIn (k + 1) T (.slice b l c) (.slice none 0 0)).run P w = .ok (isNilV (.slice b l c)) w := by
  unfold Op.equalIn
  cases b <;> simp [run_und ht, isNilV]
section
variable {P : Program} {n : Nat} {ops : Array Oper} {Q : Exit → Act → World → Prop} {rest : List Oper} {L L' : List Chunk} {R : List Fact} {al : List (Nat × Value)} {d : Nat} {x y : Operand} {T ty : TypeId} {pos : String} {aft : Array Edge}
theorem q_nil {e U : TypeId} {v : Value} {len : Nat} (ht : P.underlying T = some (.slice e)) (hl : SliceLen L R v len) (hx : ev n al x = some v := by exact rfl) : PureOp P n al L R ⟨some d, .binOp .eql T x (.const (.slice none 0 0)) U, ty, pos, aft, none⟩ (.bool (isNilV v)) :=
  ⟨rfl, fun ρ w h hs => by
    obtain ⟨base, cap, rfl, _⟩ := hl w hs
    have e1 : ρ (.const (.slice none 0 0)) = .slice none 0 0 := h _ (by simp [Op.operands]) _ rfl
    have e2 := h x (by simp [Op.operands]) _ hx
    have g : (eqGuard .eql T x (.const (.slice none 0 0)) (.slice base len cap) (.slice none 0 0)).run P w = .ok () w := by
      unfold eqGuard; rfl
    have e : (binOp .eql T (.slice base len cap) (.slice none 0 0)).run P w = .ok (.bool (isNilV (.slice base len cap))) w := by
      show (Op.equal T (.slice base len cap) (.slice none 0 0) >>= fun r => Pure.pure (Value.bool r)).run P w = _
      rw [Sem.run_bind]
      have : (Op.equal T (.slice base len cap) (.slice none 0 0)).run P w = .ok (isNilV (.slice base len cap)) w := by
        rw [show Op.equal T (.slice base len cap) (.slice none 0 0) = Op.equalIn (9999 + 1) T (.slice base len cap) (.slice none 0 0) from rfl, eq_slnil ht w]
      rw [this]; rfl
    have : (execOp ρ ⟨some d, .binOp .eql T x (.const (.slice none 0 0)) U, ty, pos, aft, none⟩) = (do let v ← (do eqGuard .eql T x (.const (.slice none 0 0)) (.slice base len cap) (.slice none 0 0); binOp .eql T (.slice base len cap) (.slice none 0 0)); pure (Next.value v)) := by
      simp only [execOp, e1, e2]
    rw [this]
    simp [g, e]⟩
theorem nil_of {α : Type} [Enc α] {v : Value} {xs : List α} {w : World} (hm : sl v xs ∈ R) (hs : St L R w) (h : isNilV v = true) : xs = [] := by
  obtain ⟨base, cap, rfl, _, hc⟩ := hs.fact hm
  cases base with
  | none =>
    apply Classical.byContradiction
    intro hne
    obtain ⟨a, _, _, _, _, h1, _⟩ := hc hne
    cases h1
  | some a => cases h
theorem JC.nilOf {α : Type} [Enc α] {c : Code} {v : Value} {xs : List α} (h : isNilV v = true) (hm : sl v xs ∈ R) (k : xs = [] → JC P n c Q L R al) : JC P n c Q L R al := JC.know (fun w hs => nil_of hm hs h) k
/-- A part of a slice whose place is known. -/
theorem q_sl {e : TypeId} {sz len cap lo hi : Nat} {a : Addr} {low high : Option Operand} (ht : SliceOf P T e sz) (hx : ev n al x = some (.slice (some a) len cap) := by exact rfl)
    (hlo : (match low with | none => lo = 0 | some y => ev n al y = some (vi (lo : Int))) := by exact rfl) (hhi : (match high with | none => hi = len | some y => ev n al y = some (vi (hi : Int))) := by exact rfl) (h1 : lo ≤ hi := by omega) (h2 : hi ≤ cap := by omega) : PureOp P n al L R ⟨some d, .slice T x low high none, ty, pos, aft, none⟩ (.slice (if cap = lo then some a else some (a.add (lo * sz))) (hi - lo) (cap - lo)) :=
  ⟨rfl, fun ρ w h hs => by
    show (Instr.sliceAt T (ρ x) (low.map ρ) (high.map ρ) none >>= fun v => Pure.pure (Next.value v)).run P w = _
    rw [h x (by simp [Op.operands]) _ hx, Sem.run_bind]
    have hlo' : (low.map ρ = none ∧ lo = 0) ∨ low.map ρ = some (vi (lo : Int)) := by
      cases low with
      | none => exact .inl ⟨rfl, hlo⟩
      | some y => right; simp only [Option.map_some]; rw [h y (by simp [Op.operands]) _ hlo]
    have hhi' : (high.map ρ = none ∧ hi = len) ∨ high.map ρ = some (vi (hi : Int)) := by
      cases high with
      | none => exact .inl ⟨rfl, hhi⟩
      | some y => right; simp only [Option.map_some]; rw [h y (by simp [Op.operands]) _ hhi]
    have e1 : (0 : Int) ≤ (lo : Int) ∧ (lo : Int) ≤ (hi : Int) := by omega
    have e2 : (0 : Int) ≤ (hi : Int) ∧ (hi : Int) ≤ (cap : Int) := by omega
    have : (Instr.sliceAt T (.slice (some a) len cap) (low.map ρ) (high.map ρ) none).run P w = .ok (.slice (if cap = lo then some a else some (a.add (lo * sz))) (hi - lo) (cap - lo)) w := by
      rcases hlo' with ⟨a1, a2⟩ | a1 <;> rcases hhi' with ⟨b1, b2⟩ | b1 <;> rw [a1, b1] <;>
        simp [Instr.sliceAt, Instr.slice, Instr.sliceBounds, Instr.sliceBound, run_und ht.1, ht.2, asIntOf, e1, e2, h1, h2] <;> (try subst a2) <;> (try subst b2) <;> (try simp) <;> (try omega)
    rw [this]; rfl⟩
end
section
variable {P : Program} {n : Nat} {L : List Chunk} {R : List Fact} {al : List (Nat × Value)} {d : Nat} {x y : Operand} {T ty : TypeId} {pos : String} {aft : Array Edge}
theorem ite_some {α : Type} {c : Prop} [Decidable c] {a b : α} : (if c then some a else some b) = some (if c then a else b) := by split <;> rfl
theorem q_sl0 {e : TypeId} {sz len cap hi : Nat} {a : Addr} {high : Option Operand} (ht : SliceOf P T e sz) (hx : ev n al x = some (.slice (some a) len cap)) (hhi : match high with | none => hi = len | some y => ev n al y = some (vi (hi : Int))) (h2 : hi ≤ cap) : PureOp P n al L R ⟨some d, .slice T x none high none, ty, pos, aft, none⟩ (.slice (some a) hi cap) := by
  have := q_sl (P := P) (L := L) (R := R) (d := d) (ty := ty) (pos := pos) (aft := aft) (lo := 0) (low := none) ht hx rfl hhi (Nat.zero_le _) h2
  simpa [Addr.add] using this
theorem q_slN {e : TypeId} {sz len cap lo hi : Nat} {a : Addr} {low high : Option Operand} (ht : SliceOf P T e sz) (hx : ev n al x = some (.slice (some a) len cap)) (hlo : match low with | none => lo = 0 | some y => ev n al y = some (vi (lo : Int))) (hhi : match high with | none => hi = len | some y => ev n al y = some (vi (hi : Int))) (h1 : lo ≤ hi) (h2 : hi ≤ cap) : PureOp P n al L R ⟨some d, .slice T x low high none, ty, pos, aft, none⟩ (.slice (some (if cap = lo then a else a.add (lo * sz))) (hi - lo) (cap - lo)) := by
  have := q_sl (P := P) (L := L) (R := R) (d := d) (ty := ty) (pos := pos) (aft := aft) ht hx hlo hhi h1 h2
  rw [ite_some] at this; exact this
end
/-! ### An array's block, opened whole -/
def rdL {α : Type} [Enc α] (xs : List α) (cs : List Value) : Fact := ⟨RdL xs cs, fun _ _ h hr => hr.mono h⟩
section
variable {P : Program} {n : Nat} {ops : Array Oper} {Q : Exit → Act → World → Prop} {rest : List Oper} {L L' : List Chunk} {R : List Fact} {al : List (Nat × Value)} {d : Nat} {x y : Operand} {T ty : TypeId} {pos : String} {aft : Array Edge}
variable {α : Type} [Enc α] {v : Value} {xs : List α}
theorem row_blk {w : World} (hne : xs ≠ []) (hs : St (row T v xs :: L) R w) : ∃ g cap cs, v = .slice (some ⟨g, 0, none⟩) xs.length cap ∧ xs.length ≤ cap ∧ cap ≤ maxLen ∧ xs.length ≤ maxN ∧ cs.length = cap * Enc.sz α ∧ St (blk g T cs :: L) (rdL xs (cs.take (xs.length * Enc.sz α)) :: R) w ∧ (∀ u ∈ cs.take (xs.length * Enc.sz α), u.oneCell' = true) := by
  obtain ⟨m, j, hd, hm, hj, ⟨m1, m2, hd', h1, h2, hc, hst⟩, hr⟩ := hs
  obtain ⟨h0, hv | ⟨g, cap, cur, cs, hv, hg, hcap, hml, hsz, htk, hrd⟩⟩ := hc
  · exact absurd hv.2 hne
  · subst htk
    refine ⟨g, cap, cur.toList, hv, hcap, hml, h0, by simpa using hsz, ⟨m, j, hd, hm, hj, ⟨m1, m2, hd', h1, h2, by simpa [blk, blkO] using hg, hst⟩, fun f hf => ?_⟩, hrd.one⟩
    cases List.mem_cons.1 hf with
    | inl e => rw [e]; exact hrd
    | inr e => exact hr f e
theorem blk_row {w : World} {g cap : Nat} {cs : List Value} (hN : xs.length ≤ maxN) (hcap : xs.length ≤ cap) (hml : cap ≤ maxLen) (hcl : cs.length = cap * Enc.sz α) (hrd : ∀ j, (∀ f ∈ R, f.p j) → RdL xs (cs.take (xs.length * Enc.sz α)) j) (hs : St (blk g T cs :: L) R w) : St (row T (.slice (some ⟨g, 0, none⟩) xs.length cap) xs :: L) R w := by
  obtain ⟨m, j, hd, hm, hj, ⟨m1, m2, hd', h1, h2, hc, hst⟩, hr⟩ := hs
  exact ⟨m, j, hd, hm, hj, ⟨m1, m2, hd', h1, h2, ⟨hN, .inr ⟨g, cap, cs.toArray, _, rfl, hc, hcap, hml, by simpa using hcl, rfl, hrd j hr⟩⟩, hst⟩, hr⟩
/-- Appending a part of the same array, in place. -/
theorem ap_in {t e : TypeId} {bytes g i j m cap c2 : Nat} {a : Addr} {z : Value} {cs : List Value} (he : ElemOf P t e 1 z bytes) (hx : ev n al x = some (.slice (some ⟨g, 0, none⟩) i cap)) (hy : ev n al y = some (.slice (some a) m c2)) (ha : m ≠ 0 → a = ⟨g, j, none⟩)
    (hp : Pick L (blk g e cs) L') (hcl : cs.length = cap) (hj : j + m ≤ cap) (hroom : i + m ≤ cap) (h1 : ∀ u ∈ (cs.drop j).take m, u.oneCell' = true)
    (k : J P n ops Q rest (blk g e (cs.take i ++ (cs.drop j).take m ++ cs.drop (i + m)) :: L') R ((d, .slice (some ⟨g, 0, none⟩) (i + m) cap) :: al)) :
    J P n ops Q (⟨some d, .call { callee := .builtin .append, args := #[x, y], argTypes := #[t, t] }, ty, pos, aft, none⟩ :: rest) L R al :=
  J.yield (L' := blk g e (cs.take i ++ (cs.drop j).take m ++ cs.drop (i + m)) :: L') (R' := R) rfl rfl (fun B w hs => by
    obtain ⟨ti, hi, hz, hisz, hiby⟩ := he.info
    have hs' := hs.pick hp
    have hgw : w.heap[g]? = some (.cells cs.toArray e (0, 0)) := hs'.blk_get
    by_cases hm : m = 0
    · subst hm
      refine ⟨w, exec_append ?_, ?_⟩
      · rw [ev_eval hx, ev_eval hy]
        have hfirst : (Builtin.firstCells 1 0 (.slice (some a) 0 c2)).run P w = .ok #[] w := by simp [Builtin.firstCells, loadCells, loadCellsFrom]
        simp [Builtin.append_, run_und he.und, sizeOf, typeInfo, hi, hisz, Builtin.lenOf, hfirst, show i ≤ cap by omega, storeCells]
      · simpa using hs'
    · have ha' := ha hm
      subst ha'
      have hnl : ((cs.drop j).take m).length = m * 1 := by simp; omega
      have hnc : ∀ (k : Nat) c, ((cs.drop j).take m)[k]? = some c → w.cell? ((⟨g, j, none⟩ : Addr).add k) = some c := by
        intro k c hk
        rw [add_mk, cell_of hgw]
        rw [List.getElem?_take] at hk
        split at hk
        · rw [List.getElem?_drop] at hk; simpa using hk
        · cases hk
      have hrun := run_append_room (P := P) (w := w) t ty e ti he.und hi g i cap cs.toArray hgw ⟨g, j, none⟩ m c2 ((cs.drop j).take m) (by rw [hisz]; exact hnl) hnc h1 hroom (by rw [hisz, hnl]; simp; omega)
      refine ⟨_, exec_append (by rw [ev_eval hx, ev_eval hy]; exact hrun), ?_⟩
      rw [hisz, hnl]
      simp only [Nat.mul_one]
      exact hs'.blk_set (setRow_heap' hgw).1 (setRow_heap' hgw).2 rfl rfl) k
/-- The rest of an array is cleared. -/
theorem clr {t e : TypeId} {bytes g o c2 : Nat} {z : Value} {cs : List Value} (he : ElemOf P t e 1 z bytes) (hz : ∀ w, (zeroValue e).run P w = .ok z w) (hzc : z.cells = #[z]) (hz1 : z.oneCell' = true) (hx : ev n al x = some (.slice (some ⟨g, o, none⟩) 1 c2))
    (hp : Pick L (blk g e cs) L') (hcl : o + 1 ≤ cs.length)
    (k : ∀ cs', cs' = cs.take o ++ [z] ++ cs.drop (o + 1) → J P n ops Q rest (blk g e cs' :: L') R al) :
    J P n ops Q (⟨none, .call { callee := .builtin .clear, args := #[x], argTypes := #[t] }, ty, pos, aft, none⟩ :: rest) L R al := by
  refine J.step rfl fun B w hs => .inl ?_
  have hs' := hs.pick hp
  have hgw : w.heap[g]? = some (.cells cs.toArray e (0, 0)) := hs'.blk_get
  have hzl : (Builtin.zeroCells z.cells 1).toList = [z] := by
    rw [hzc]; unfold Builtin.zeroCells; simp [List.range_succ]
  have hst := run_storeCells_at P g o e ([z]) 0 cs.toArray w hgw (by simpa using hcl) (fun u hu => by cases List.mem_singleton.1 hu; exact hz1)
  have e1 : (Builtin.clear_ #[t] ty #[(mkA n al B).eval x]).run P w = .ok (.tuple #[]) (w.setRow g (cs.take o ++ [z] ++ cs.drop (o + 1)).toArray) := by
    rw [ev_eval hx]
    simp [Builtin.clear_, run_und he.und, hz, hzl] at hst ⊢
    rw [hst]; rfl
  have e2 : (execOp (mkA n al B).eval ⟨none, .call { callee := .builtin .clear, args := #[x], argTypes := #[t] }, ty, pos, aft, none⟩).run P w = .ok (.value (.tuple #[])) (w.setRow g (cs.take o ++ [z] ++ cs.drop (o + 1)).toArray) := by
    simp [execOp, resolve, invoke, builtin, e1]
  unfold Oper.wp
  rw [e2, Oper.upon_value, mkA_putNone]
  exact k _ rfl B _ (hs'.blk_set (setRow_heap' hgw).1 (setRow_heap' hgw).2 rfl rfl)
end
/-- What a call hands back is let lie for good. -/
theorem frz {P : Program} {γ : Type} {f : FuncId} {args : Array Value} {w : World} {α : Type} [Enc α] {T : TypeId} {xs : List α} {val p : γ → Value} {L : γ → List Chunk} {R : γ → List Fact} (h : Calls P f args w (Post val (fun g => row T (p g) xs :: L g) R)) : Calls P f args w (Post val L (fun g => sl (p g) xs :: R g)) :=
  h.mono fun e w' ⟨g, h1, h2⟩ => ⟨g, h1, h2.shut⟩
section
variable {P : Program} {n : Nat} {ops : Array Oper} {Q : Exit → Act → World → Prop} {rest : List Oper} {L L' : List Chunk} {R : List Fact} {al : List (Nat × Value)} {d : Nat} {x y : Operand} {T ty : TypeId} {pos : String} {aft : Array Edge}
theorem takeS {α : Type} {l : List α} {k : Nat} (d : α) (h : k < l.length) : l.take (k + 1) = l.take k ++ [l.getD k d] := by
  rw [List.take_add_one, getD_some d h]; rfl
/-- A slice that lies in an array of the call's own. -/
theorem l_Sr {β : Type} [Enc β] {T' : TypeId} {v : Value} {xs : List (List β)} {i : Nat} (hT : ∀ w, (isAgg T).run P w = .ok false w) (hx : ev n al x = some (ep v 1 i 0)) (hp : Pick L (row T' v xs) L') (hi : i < xs.length)
    (k : ∀ u, J P n ops Q rest L (sl u (xs.getD i []) :: R) ((d, u) :: al)) : J P n ops Q (⟨some d, .load T x, ty, pos, aft, none⟩ :: rest) L R al :=
  r_loadSrow (α := List β) (f := 0) hT hx hp (getD_some [] hi) (fun cs m h => by obtain ⟨u, h1, h2⟩ := h; exact ⟨u, by rw [h1]; rfl, h2⟩) k
/-- A store of a slice into an array of slices of the call's own. -/
theorem s_Sr {β : Type} [Enc β] {T' : TypeId} {v c : Value} {xs : List (List β)} {ys : List β} {i : Nat} (hsz : ∀ w, (sizeOf T).run P w = .ok 1 w) (hx : ev n al x = some (ep v 1 i 0)) (hy : ev n al y = some c) (hm : sl c ys ∈ R) (hp : Pick L (row T' v xs) L') (hi : i < xs.length)
    (k : J P n ops Q rest (row T' v (xs.set i ys) :: L') R al) : J P n ops Q (⟨none, .store T x y, ty, pos, aft, none⟩ :: rest) L R al :=
  fun B w hs => by
    have hc : c.cells = #[c] ∧ c.oneCell' = true := by obtain ⟨base, cap, rfl, _⟩ := hs.fact hm; exact ⟨rfl, rfl⟩
    exact r_storeRow (α := List β) (f := 0) (cs := [c]) (e := xs.getD i []) (e' := ys) hsz hx hy hc.1 rfl (by intro u hu; cases List.mem_singleton.1 hu; exact hc.2) hp (getD_some [] hi)
      (fun ds m hr => by obtain ⟨u, h1, _⟩ := hr; rw [h1]; exact Nat.le_refl _) (fun j hj ds hr => by obtain ⟨u, h1, _⟩ := hr; rw [h1]; exact ⟨c, rfl, hj _ hm⟩) k B w hs
end
end Go.Proofs.YtiofgjolhbgkiaaDoor
end
section
/- This file proves the rules for strings: in cells, put together, cut, and behind an array of bytes. No conditions. -/
namespace Go.Proofs.YtiofgjolhbgkiaaDoor
open Go
/-- A string, where it lies in a cell. -/
def Wd := List UInt8
instance instEncWd : Enc Wd where
  sz := 1
  rd x cs _ := cs = [.string (bstr x)]
  mono _ _ _ _ _ h := h
  len _ _ _ h := by rw [h]; rfl
  one _ _ _ h := by rw [h]; intro u hu; rw [List.mem_singleton.1 hu]; rfl
instance e0Wd : El0 Wd := ⟨fun x => [.string (bstr x)], fun _ => True, ([] : List UInt8), fun _ _ _ h => ⟨h, trivial⟩⟩
theorem bstr_size (l : List UInt8) : (bstr l).size = l.length := by show l.toArray.size = _; simp
theorem bstr_app (a b : List UInt8) : bstr a ++ bstr b = bstr (a ++ b) := by
  apply ByteArray.ext
  simp [bstr]
theorem bstr_cut (l : List UInt8) (a b : Nat) : (bstr l).extract a b = bstr ((l.drop a).take (b - a)) := ByteArray.extract_mk l a b
theorem strCells_bstr (l : List UInt8) : Go.Lib.strCells (bstr l) = l.map vb := by unfold Go.Lib.strCells bstr; rfl
theorem rd_vb : ∀ (l : List UInt8) (m : Mem), RdL l (l.map vb) m
  | [], _ => rfl
  | b :: l, m => ⟨[vb b], l.map vb, rfl, rfl, rd_vb l m⟩
section
variable {P : Program} {n : Nat} {ops : Array Oper} {Q : Exit → Act → World → Prop} {rest : List Oper} {L L' : List Chunk} {R : List Fact} {al : List (Nat × Value)} {d : Nat} {x y : Operand} {T ty : TypeId} {pos : String} {aft : Array Edge}
theorem append_str {t u e : TypeId} {bytes : Nat} {z : Value} {v : Value} {xs ys : List UInt8} {w : World} (he : ElemOf P t e 1 z bytes) (hu : P.underlying u = some .string)
    (hs : St (row e v xs :: L) R w) (hb : xs.length + ys.length ≤ maxN) :
    ∃ v' w', (Builtin.append_ #[t, u] ty #[v, .string (bstr ys)]).run P w = .ok v' w' ∧ St (row e v' (xs ++ ys) :: L) R w' := by
  obtain ⟨i, hi, hz, hisz, hiby⟩ := he.info
  have hN : maxN = 16777216 := rfl
  have hsz : (bstr ys).size = ys.length := bstr_size ys
  have hlen : (xs ++ ys).length = xs.length + ys.length := List.length_append
  have hcl : (Go.Lib.strCells (bstr ys)).length = ys.length := by rw [Go.Lib.strCells_length, hsz]
  have hys : ∀ m, RdL ys (Go.Lib.strCells (bstr ys)) m := fun m => by rw [strCells_bstr]; exact rd_vb ys m
  by_cases hne : ys = []
  · subst hne
    refine ⟨v, w, ?_, by simpa using hs⟩
    obtain ⟨m, j, _, hle, _, hr, _⟩ := hs.head
    have hfirst : ∀ sz, (Builtin.firstCells sz 0 (.string (bstr []))).run P w = .ok #[] w := fun sz => by
      have := Go.Lib.run_firstCells_string (P := P) w sz (bstr [])
      exact this
    have h0 : (bstr []).size = 0 := rfl
    rcases row_block hr with ⟨hv, _⟩ | ⟨g, c, cur, cs, hv, _, hc, _⟩
    · rw [hv]; simp [Builtin.append_, run_und he.und, run_und hu, sizeOf, typeInfo, hi, hisz, Builtin.lenOf, hfirst, h0]
    · rw [hv]; simp [Builtin.append_, run_und he.und, run_und hu, sizeOf, typeInfo, hi, hisz, Builtin.lenOf, hfirst, h0, hc, storeCells]
  have hmpos : 0 < ys.length := List.length_pos_iff.2 hne
  obtain ⟨m, j, hd, hmw, hjw, ⟨m1, m2, hd', h1, h2, hc, hst⟩, hr⟩ := hs
  have mk : ∀ (w' : World) (cells : Array Value) (cap : Nat) (cs : List Value), w'.heap = w.heap.push (.cells cells e (0, 0)) → w'.os = w.os → w'.output = w.output → RdL (xs ++ ys) cs j → (xs ++ ys).length ≤ cap → cap ≤ maxLen → cells.size = cap * 1 → cells.toList.take ((xs ++ ys).length * 1) = cs →
      St (row e (.slice (some ⟨w.heap.size, 0, none⟩) (xs ++ ys).length cap) (xs ++ ys) :: L) R w' := by
    intro w' cells cap cs hw ho hu hrd hcap hml hcl' htk
    exact St.newC (Mem.disj_le hd h2 (Mem.le_refl _)) (Mem.le_trans h2 hmw) hjw hst hr hw ho hu ⟨by rw [hlen]; exact hb, .inr ⟨w.heap.size, cap, cells, cs, rfl, one_self _ _, hcap, hml, hcl', htk, hrd⟩⟩
  have hcapge : ∀ (w1 : World) need old, need ≤ maxN → need ≤ grownCap w1 need old e ∧ grownCap w1 need old e ≤ maxLen := by
    intro w1 need old hn
    exact ⟨grownCap_ge _ _ _ _, grownCap_le_maxLen _ _ _ _ (by rw [hN] at hn; unfold maxLen; omega)⟩
  have hbnd : ∀ k, k ≤ maxN → k * i.bytes ≤ 140737488355328 := by
    intro k hk
    have : k * i.bytes ≤ 16777216 * 1024 := Nat.mul_le_mul (by omega) (by rw [hiby]; exact he.bnd)
    omega
  have hzc : ∀ k, (Builtin.zeroCells z.cells k).size = k := by intro k; rw [size_zeroCells, he.zsz, Nat.mul_one]
  rcases hc with ⟨h0, ⟨hv, hx⟩ | ⟨g, cap, cur, cs, hv, hg, hcap, hml, hcsz, htk, hrd⟩⟩
  · subst hx
    have hyl : ys.length ≤ maxN := by simpa using hb
    have hgc := hcapge w (bstr ys).size 0 (by omega)
    refine ⟨_, _, by rw [hv]; exact run_append_nil_string (P := P) (w := w) t u ty e i z he.und hu hi hz (bstr ys) (by omega) (by omega) (by have := hbnd _ hyl; rw [hsz]; omega), ?_⟩
    have he2 : (bstr ys).data.map (fun b => Value.int .u8 b.toNat) = (Go.Lib.strCells (bstr ys)).toArray := by apply Array.ext'; simp [Go.Lib.strCells]
    have := mk (w.drew.alloc (.cells ((bstr ys).data.map (fun b => Value.int .u8 b.toNat) ++ Builtin.zeroCells z.cells (grownCap w (bstr ys).size 0 e - (bstr ys).size)) e)) _ (grownCap w (bstr ys).size 0 e) (Go.Lib.strCells (bstr ys)) rfl rfl rfl (hys j) (by rw [hlen, List.length_nil]; omega) hgc.2
      (by rw [he2, Array.size_append, hzc, List.size_toArray, hcl]; omega) (by rw [he2, hlen, List.length_nil]; simp only [Array.toList_append]; rw [List.take_append_of_le_length (by simp [hcl]), List.take_of_length_le (by simp [hcl])])
    rw [hlen, List.length_nil, Nat.zero_add, ← hsz] at this
    exact this
  have hgw : w.heap[g]? = some (.cells cur e (0, 0)) := mem_ob (hmw _ _ (h1 _ _ hg))
  have hcsl : cs.length = xs.length * 1 := hrd.len
  have htk' : cur.toList.take xs.length = cs := by rw [← htk]; show _ = cur.toList.take (xs.length * 1); rw [Nat.mul_one]
  have hcsz' : cur.size = cap := by rw [hcsz]; show cap * 1 = cap; omega
  by_cases hroom : xs.length + (bstr ys).size ≤ cap
  · refine ⟨_, _, by rw [hv]; exact Go.Lib.run_append_room_string (P := P) (w := w) t u ty e i he.und hu hi hisz g xs.length cap cur hgw (bstr ys) hroom (by omega), ?_⟩
    rw [htk']
    have hb1 : (w.setRow g (cs ++ Go.Lib.strCells (bstr ys) ++ cur.toList.drop (xs.length + (bstr ys).size)).toArray).heap[g]? = some (.cells (cs ++ Go.Lib.strCells (bstr ys) ++ cur.toList.drop (xs.length + (bstr ys).size)).toArray e (0, 0)) := by simp [World.setRow, Array.getElem?_modify, hgw]
    have hb2 : ∀ x, x ≠ g → (w.setRow g (cs ++ Go.Lib.strCells (bstr ys) ++ cur.toList.drop (xs.length + (bstr ys).size)).toArray).heap[x]? = w.heap[x]? := by intro x hx; simp [World.setRow, Array.getElem?_modify, Ne.symm hx]
    refine St.put hd hmw hjw hd' h1 h2 hst hr hg hb1 hb2 rfl rfl ⟨by rw [hlen]; exact hb, .inr ⟨g, cap, _, cs ++ Go.Lib.strCells (bstr ys), by rw [hlen, hsz], one_self _ _, by omega, hml, ?_, ?_, RdL.append (hys j) hrd⟩⟩
    · show _ = cap * 1
      simp only [List.size_toArray, List.length_append, List.length_drop, Array.length_toList]; omega
    · show ((_ : List Value).toArray.toList).take ((xs ++ ys).length * 1) = _
      rw [List.take_append_of_le_length (by simp only [List.length_append, hlen]; omega), List.take_of_length_le (by simp only [List.length_append, hlen]; omega)]
  · have hgc := hcapge w (xs.length + (bstr ys).size) cap (by omega)
    have holds : ∀ (k : Nat) c, cs[k]? = some c → w.cell? ((⟨g, 0, none⟩ : Addr).add k) = some c := by
      intro k c hk
      rw [add_mk, cell_of hgw, Nat.zero_add]
      rw [← htk', List.getElem?_take] at hk
      split at hk
      · rw [← Array.getElem?_toList]; exact hk
      · cases hk
    refine ⟨_, _, by rw [hv]; exact Go.Lib.run_append_grow_string (P := P) (w := w) t u ty e i z he.und hu hi hz ⟨g, 0, none⟩ xs.length cap cs (by rw [hisz]; exact hcsl) holds (bstr ys) (by omega) (by omega) (growslice_fits (by omega) (hbnd _ (by omega))), ?_⟩
    have := mk (w.drew.alloc (.cells (cs.toArray ++ (Go.Lib.strCells (bstr ys)).toArray ++ Builtin.zeroCells z.cells (grownCap w (xs.length + (bstr ys).size) cap e - (xs.length + (bstr ys).size))) e)) _ (grownCap w (xs.length + (bstr ys).size) cap e) (cs ++ Go.Lib.strCells (bstr ys)) rfl rfl rfl (RdL.append (hys j) hrd) (by rw [hlen]; omega) hgc.2
      (by rw [Array.size_append, Array.size_append, hzc, List.size_toArray, List.size_toArray, hcl, hcsl]; omega)
      (by simp only [Array.toList_append]; rw [List.take_append_of_le_length (by simp [hcl, hcsl]), List.take_of_length_le (by simp [hcl, hcsl])])
    rw [hlen, ← hsz] at this
    exact this
theorem r_appendS {t u e : TypeId} {bytes : Nat} {z : Value} {v : Value} {xs ys : List UInt8} (he : ElemOf P t e 1 z bytes) (hu : P.underlying u = some .string) (hx : ev n al x = some v) (hy : ev n al y = some (.string (bstr ys)))
    (hp : Pick L (row e v xs) L') (hb : xs.length + ys.length ≤ maxN)
    (k : ∀ v', J P n ops Q rest (row e v' (xs ++ ys) :: L') R ((d, v') :: al)) : J P n ops Q (⟨some d, .call { callee := .builtin .append, args := #[x, y], argTypes := #[t, u] }, ty, pos, aft, none⟩ :: rest) L R al :=
  J.yieldEx (v := fun v' => v') (L' := fun v' => row e v' (xs ++ ys) :: L') (R' := fun _ => R) rfl rfl (fun B w hs => by
    obtain ⟨v', w', h1, h2⟩ := append_str (ty := ty) he hu (hs.pick hp) hb
    exact ⟨v', w', exec_append (by rw [ev_eval hx, ev_eval hy]; exact h1), h2⟩) k
theorem b_sadd {a b : List UInt8} (h : a.length + b.length ≤ 9223372036854775807) (w : World) : (binOp .add T (.string (bstr a)) (.string (bstr b))).run P w = .ok (.string (bstr (a ++ b))) w := by
  have h2 : ((bstr a).size : Int) + ((bstr b).size : Int) ≤ 9223372036854775807 := by rw [bstr_size, bstr_size]; omega
  simp [binOp, Op.stringOp, bstr_app, h2]
theorem q_slen {l : List UInt8} (ht : P.underlying T = some .string) (hx : ev n al x = some (.string (bstr l)) := by exact rfl) : PureOp P n al L R ⟨some d, .call { callee := .builtin .len, args := #[x], argTypes := #[T] }, ty, pos, aft, none⟩ (vi (l.length : Int)) :=
  ⟨rfl, fun ρ w h hs => by
    have hx' := h x (by simp [Op.operands, Call.operands]) _ hx
    have e1 : (Builtin.len_ #[T] ty #[ρ x]).run P w = .ok (vi (l.length : Int)) w := by
      rw [hx', run_len_string w T ty (bstr l) ht, bstr_size]; rfl
    exact exec_len e1⟩
theorem q_sidx {l : List UInt8} {i : Nat} (ht : P.underlying T = some .string) (hx : ev n al x = some (.string (bstr l)) := by exact rfl) (hy : ev n al y = some (vi (i : Int)) := by exact rfl) (h1 : i < l.length := by omega) : PureOp P n al L R ⟨some d, .index T x y, ty, pos, aft, none⟩ (vb (l.getD i 0)) :=
  ⟨rfl, fun ρ w h hs => by
    show (Instr.index T (ρ x) (ρ y) >>= fun v => Pure.pure (Next.value v)).run P w = _
    rw [h x (by simp [Op.operands]) _ hx, h y (by simp [Op.operands]) _ hy, Sem.run_bind, run_index_string w T (bstr l) .i64 (i : Int) ht]
    have h2 : i < (bstr l).size := by rw [bstr_size]; exact h1
    have h5 : (bstr l)[i]'h2 = l.getD i 0 := by
      rw [List.getD_eq_getElem?_getD, List.getElem?_eq_getElem h1]
      exact List.getElem_toArray ..
    have h6 : (0 : Int) ≤ (i : Int) ∧ (i : Int) < ((bstr l).size : Int) := ⟨by omega, by omega⟩
    rw [dif_pos h6]
    simp only [Int.toNat_natCast, h5]
    rfl⟩
theorem q_scut {l : List UInt8} {lo hi : Nat} {low high : Operand} (ht : P.underlying T = some .string) (hx : ev n al x = some (.string (bstr l)) := by exact rfl) (hlo : ev n al low = some (vi (lo : Int)) := by exact rfl) (hhi : ev n al high = some (vi (hi : Int)) := by exact rfl) (h1 : lo ≤ hi := by omega) (h2 : hi ≤ l.length := by omega) : PureOp P n al L R ⟨some d, .slice T x (some low) (some high) none, ty, pos, aft, none⟩ (.string (bstr ((l.drop lo).take (hi - lo)))) :=
  ⟨rfl, fun ρ w h hs => by
    show (Instr.sliceAt T (ρ x) (some (ρ low)) (some (ρ high)) none >>= fun v => Pure.pure (Next.value v)).run P w = _
    rw [h x (by simp [Op.operands]) _ hx, h low (by simp [Op.operands]) _ hlo, h high (by simp [Op.operands]) _ hhi, Sem.run_bind]
    have h3 := run_slice_string (P := P) w T (bstr l) .i64 .i64 (lo : Int) (hi : Int) ht (by omega) (by omega) (by rw [bstr_size]; omega)
    have h4 : (Instr.sliceAt T (.string (bstr l)) (some (vi (lo : Int))) (some (vi (hi : Int))) none).run P w = .ok (.string (bstr ((l.drop lo).take (hi - lo)))) w := by
      rw [← bstr_cut]
      simpa [Instr.sliceAt, run_und ht] using h3
    rw [h4]; rfl⟩
end
end Go.Proofs.YtiofgjolhbgkiaaDoor
end
section
/- This file proves how a contract that leaves all that was there as it was is one of what is owned and known. No conditions. -/
namespace Go.Proofs.YtiofgjolhbgkiaaDoor
open Go Go.RowKit Go.Lib
theorem mem_grows {w w' : World} (ho : w'.os = w.os) (hu : w'.output = w.output) (hb : ∀ k, k < w.heap.size → w'.heap[k]? = w.heap[k]?) : Mem.le (memOf w) (memOf w') := by
  intro b o e
  cases b with
  | zero => simp only [memOf] at e ⊢; rw [ho, hu]; exact e
  | succ b =>
    simp only [memOf] at e ⊢
    have hlt : b < w.heap.size := by
      rcases Nat.lt_or_ge b w.heap.size with h | h
      · exact h
      · rw [Array.getElem?_eq_none h] at e; cases e
    rw [hb b hlt]; exact e
theorem St.grows {L : List Chunk} {R : List Fact} {w w' : World} (h : Mem.le (memOf w) (memOf w')) (hs : St L R w) : St L R w' := by
  obtain ⟨m, i, hd, hm, hi, hst, hr⟩ := hs
  exact ⟨m, i, hd, Mem.le_trans hm h, Mem.le_trans hi h, hst, hr⟩
theorem grows_below {w w' : World} (h : Below w.heap.size w w') : Mem.le (memOf w) (memOf w') := mem_grows h.os h.output h.block
theorem grows_drewN {w : World} (n : Nat) : Mem.le (memOf w) (memOf (w.drewN n)) := mem_grows rfl rfl fun _ _ => rfl
theorem grows_grow {w : World} (n : Nat) (os : Array Obj) : Mem.le (memOf w) (memOf (Go.Sort.grow (w.drewN n) os)) := mem_grows rfl rfl fun k hk => by
  show (w.heap ++ os)[k]? = _
  rw [Array.getElem?_append_left hk]
theorem grows_alloc {w : World} (o : Obj) : Mem.le (memOf w) (memOf (w.alloc o)) := mem_grows rfl rfl fun k hk => by
  show (w.heap.push o)[k]? = _
  rw [Array.getElem?_push_lt hk, Array.getElem?_eq_getElem hk]
/-- A contract of one value, that leaves all that was there. -/
theorem calls_grows {P : Program} {f : FuncId} {args : Array Value} {w : World} {L : List Chunk} {R : List Fact} {v : Value} {p : World → Prop} (hs : St L R w) (hp : ∀ w', p w' → Mem.le (memOf w) (memOf w')) (h : Calls P f args w fun e w' => e = .returned v ∧ p w') :
    Calls P f args w (Post (fun _ : Unit => v) (fun _ => L) (fun _ => R)) :=
  h.mono fun e w' ⟨h1, h2⟩ => ⟨(), h1, hs.grows (hp w' h2)⟩
/-- The cells of a package's variable. -/
def varF (g : Nat) (cs : List Value) : Fact := ⟨fun m => ∃ T fz, m (g + 1) = some (.ob (.cells cs.toArray T fz)), fun m m' h ⟨T, fz, e⟩ => ⟨T, fz, h _ _ e⟩⟩
theorem var_of {P : Program} {L : List Chunk} {R : List Fact} {w : World} {g : Nat} {cs : List Value} {name : String} (hg : P.globalNamed name = some g) (hm : varF g cs ∈ R) (hs : St L R w) : w.var? P name = some cs.toArray := by
  obtain ⟨T, fz, e⟩ := hs.fact hm
  unfold World.var?
  rw [hg]
  show (match w.heap[g]? with | some (.cells cs _ _) => some cs | _ => none) = _
  rw [mem_ob e]
theorem cell_of_var {L : List Chunk} {R : List Fact} {w : World} {g : Nat} {c : Value} {cs : List Value} (hm : varF g (c :: cs) ∈ R) (hs : St L R w) : w.cell? ⟨g, 0, none⟩ = some c := by
  obtain ⟨T, fz, e⟩ := hs.fact hm
  rw [cell_of (mem_ob e)]; rfl
/-- A new block that holds strings is a slice of them. -/
theorem sl_new {L : List Chunk} {R : List Fact} {w : World} {T : TypeId} {ws : List Wd} (hs : St L R w) (hn : ws.length ≤ maxN) :
    St L (sl (α := Wd) (.slice (some ⟨w.heap.size, 0, none⟩) ws.length ws.length) ws :: R) (w.alloc (.cells ((ws.map fun x => Value.string (bstr x)).toArray) T)) := by
  have hr : ∀ (l : List Wd) (m : Mem), RdL (α := Wd) l (l.map fun x => Value.string (bstr x)) m := by
    intro l m
    induction l with
    | nil => rfl
    | cons a l ih => exact ⟨[.string (bstr a)], _, rfl, rfl, ih⟩
  obtain ⟨m, i, hd, hm, hi, hst, hrr⟩ := hs
  have h1 : St (row (α := Wd) T (.slice (some ⟨w.heap.size, 0, none⟩) ws.length ws.length) ws :: L) R (w.alloc (.cells ((ws.map fun x => Value.string (bstr x)).toArray) T)) :=
    St.newC (o := .cells ((ws.map fun x => Value.string (bstr x)).toArray) T (0, 0)) hd hm hi hst hrr rfl rfl rfl ⟨hn, .inr ⟨w.heap.size, ws.length, _, _, rfl, one_self _ _, Nat.le_refl _, by have : maxN = 16777216 := rfl; unfold maxLen; omega, (by show _ = ws.length * 1; rw [List.size_toArray, Nat.mul_one]; exact List.length_map _), rfl, by
      have e : ((ws.map fun x => Value.string (bstr x)).toArray.toList).take (ws.length * Enc.sz Wd) = ws.map fun x => Value.string (bstr x) := by
        show List.take (ws.length * 1) _ = _
        rw [List.take_of_length_le (by rw [Nat.mul_one]; exact Nat.le_of_eq (List.length_map _))]
      rw [e]; exact hr ws i⟩⟩
  exact h1.shut
end Go.Proofs.YtiofgjolhbgkiaaDoor
end
section
/- This file tells what steps are as texts, in plain Lean, and proves that what is written is read. No conditions. -/
namespace Go.Proofs.YtiofgjolhbgkiaaDoor
abbrev Bs := List UInt8
/-! ### Words -/
def joinW : List Bs → Bs
  | [] => []
  | [x] => x
  | x :: y :: r => x ++ 32 :: joinW (y :: r)
def cutAt (c : UInt8) : Bs → List Bs
  | [] => [[]]
  | b :: r => if b = c then [] :: cutAt c r else match cutAt c r with
    | [] => [[b]]
    | w :: ws => (b :: w) :: ws
theorem cutAt_ne (c : UInt8) : ∀ s, cutAt c s ≠ []
  | [] => by simp [cutAt]
  | b :: r => by
    unfold cutAt
    split
    · simp
    · split <;> simp
theorem cutAt_cons {c b : UInt8} {r : Bs} (h : b ≠ c) : ∃ w ws, cutAt c r = w :: ws ∧ cutAt c (b :: r) = (b :: w) :: ws := by
  cases e : cutAt c r with
  | nil => exact absurd e (cutAt_ne c r)
  | cons w ws => exact ⟨w, ws, rfl, by rw [cutAt, if_neg h, e]⟩
theorem cutAt_eq {c : UInt8} {r : Bs} : cutAt c (c :: r) = [] :: cutAt c r := by rw [cutAt, if_pos rfl]
theorem cutAt_free {c : UInt8} : ∀ {w : Bs}, c ∉ w → cutAt c w = [w]
  | [], _ => rfl
  | b :: r, h => by
    obtain ⟨w, ws, h1, h2⟩ := cutAt_cons (c := c) (b := b) (r := r) (fun e => h (by rw [e]; exact List.mem_cons_self ..))
    rw [cutAt_free (fun hm => h (List.mem_cons_of_mem _ hm))] at h1
    injection h1 with e1 e2
    rw [h2, ← e1, ← e2]
theorem cutAt_app {c : UInt8} : ∀ {w : Bs} {s : Bs}, c ∉ w → cutAt c (w ++ c :: s) = w :: cutAt c s
  | [], s, _ => cutAt_eq
  | b :: r, s, h => by
    obtain ⟨w, ws, h1, h2⟩ := cutAt_cons (c := c) (b := b) (r := r ++ c :: s) (fun e => h (by rw [e]; exact List.mem_cons_self ..))
    rw [cutAt_app (fun hm => h (List.mem_cons_of_mem _ hm))] at h1
    injection h1 with e1 e2
    rw [List.cons_append, h2, ← e1, ← e2]
theorem cutAt_mem {c : UInt8} : ∀ {s : Bs} {w : Bs}, w ∈ cutAt c s → c ∉ w
  | [], w, h => by simp [cutAt] at h; rw [h]; simp
  | b :: r, w, h => by
    by_cases e : b = c
    · subst e; rw [cutAt_eq] at h
      cases List.mem_cons.1 h with
      | inl h => rw [h]; simp
      | inr h => exact cutAt_mem h
    · obtain ⟨x, ws, h1, h2⟩ := cutAt_cons (r := r) e
      rw [h2] at h
      cases List.mem_cons.1 h with
      | inl h =>
        have := cutAt_mem (c := c) (s := r) (w := x) (by rw [h1]; exact List.mem_cons_self ..)
        rw [h]; simp [this, Ne.symm e]
      | inr h => exact cutAt_mem (s := r) (by rw [h1]; exact List.mem_cons_of_mem _ h)
theorem cut_join : ∀ {l : List Bs}, l ≠ [] → (∀ w ∈ l, (32 : UInt8) ∉ w) → cutAt 32 (joinW l) = l
  | [], h, _ => absurd rfl h
  | [x], _, h => cutAt_free (h x (List.mem_cons_self ..))
  | x :: y :: r, _, h => by
    rw [joinW, cutAt_app (h x (List.mem_cons_self ..)), cut_join (by simp) (fun w hw => h w (List.mem_cons_of_mem _ hw))]
theorem joinW_cons {x : Bs} {l : List Bs} (h : l ≠ []) : joinW (x :: l) = x ++ 32 :: joinW l := by
  cases l with
  | nil => exact absurd rfl h
  | cons y r => rfl
theorem join_cut : ∀ (s : Bs), joinW (cutAt 32 s) = s
  | [] => rfl
  | b :: r => by
    by_cases e : b = 32
    · subst e; rw [cutAt_eq, joinW_cons (cutAt_ne _ _), join_cut r]; rfl
    · obtain ⟨w, ws, h1, h2⟩ := cutAt_cons (r := r) e
      have h3 := join_cut r
      rw [h1] at h3
      rw [h2]
      cases ws with
      | nil => rw [joinW] at h3 ⊢; rw [h3]
      | cons y t => rw [joinW] at h3 ⊢; rw [List.cons_append, h3]
/-! ### Numbers -/
open Go.Lib in
theorem parse_app : ∀ {a b : Bs} {k : Nat}, parseUint10 k (a ++ b) = match parseUint10 k a with | .ok v => parseUint10 v b | e => e
  | [], b, k => rfl
  | c :: r, b, k => by
    simp only [List.cons_append, parseUint10]
    split
    · split
      · rfl
      · split
        · rfl
        · exact parse_app
    · rfl
theorem digit_val {d : Nat} (h : d < 10) : (UInt8.ofNat (48 + d)).toNat = 48 + d := by
  rw [UInt8.toNat_ofNat']; omega
open Go.Lib in
theorem parse_digits (u : Nat) : u < 18446744073709551616 → parseUint10 0 (decDigits u) = .ok u := by
  induction u using Nat.strongRecOn with
  | _ u ih =>
    intro hu
    by_cases h : u < 10
    · rw [decDigits, dif_pos h]
      simp only [parseUint10, digit_val h]
      rw [if_pos (by omega), if_neg (by omega), if_neg (by omega)]; congr 1; omega
    · rw [decDigits, dif_neg h, parse_app, ih (u / 10) (by omega) (by omega)]
      simp only [parseUint10, digit_val (show u % 10 < 10 by omega)]
      rw [if_pos (by omega), if_neg (by omega), if_neg (by omega)]; congr 1; omega
open Go.Lib in
theorem digits_mem (u : Nat) : ∀ b ∈ decDigits u, 48 ≤ b.toNat ∧ b.toNat ≤ 57 := by
  induction u using Nat.strongRecOn with
  | _ u ih =>
    intro b hb
    by_cases h : u < 10
    · rw [decDigits, dif_pos h] at hb
      rw [List.mem_singleton.1 hb, digit_val h]; omega
    · rw [decDigits, dif_neg h] at hb
      cases List.mem_append.1 hb with
      | inl e => exact ih (u / 10) (by omega) b e
      | inr e => rw [List.mem_singleton.1 e, digit_val (show u % 10 < 10 by omega)]; omega
open Go.Lib in
theorem digits_ne (u : Nat) : decDigits u ≠ [] := by
  rw [decDigits]; split <;> simp
open Go.Lib in
theorem atoi_itoa {n : Int} (h : In64 n) : atoiAll (itoa n) = .ok n := by
  obtain ⟨h1, h2⟩ := h
  unfold itoa
  by_cases h0 : n < 0
  · rw [if_pos h0]
    unfold atoiAll
    have e := parse_digits n.natAbs (by omega)
    simp only [show (45 : UInt8).toNat = 45 from rfl, or_true, if_true, parseMag, digits_ne, if_false, e]
    rw [if_neg (by simp), if_neg (by omega)]
    congr 1; omega
  · rw [if_neg h0]
    have e := parse_digits n.toNat (by omega)
    have hm := digits_mem n.toNat
    cases hd : decDigits n.toNat with
    | nil => exact absurd hd (digits_ne _)
    | cons c r =>
      rw [hd] at e hm
      have hc := hm c (List.mem_cons_self ..)
      unfold atoiAll
      simp only
      rw [if_neg (by omega)]
      simp only [parseMag, e]
      rw [if_neg (by simp)]
      simp only
      rw [if_neg (by omega), if_neg (by omega), if_neg (by omega)]
      congr 1; omega
open Go.Lib in
theorem atoi_in {w : Bs} {v : Int} (h : atoiAll w = .ok v) : In64 v := by
  unfold atoiAll at h
  split at h
  · cases h
  · simp only at h
    split at h
    · cases h
    · cases h
    · rename_i u hu
      split at h
      · cases h
      split at h
      · cases h
      injection h with h
      subst h
      unfold In64
      split <;> omega
/-- A number, written as it must be. -/
def numOf (w : Bs) : Option Int := match Go.Lib.atoiAll w with
  | .ok v => if Go.Lib.itoa v = w then some v else none
  | _ => none
theorem numOf_itoa {n : Int} (h : In64 n) : numOf (Go.Lib.itoa n) = some n := by unfold numOf; rw [atoi_itoa h]; simp
theorem numOf_eq {w : Bs} {v : Int} (h : numOf w = some v) : Go.Lib.itoa v = w ∧ In64 v := by
  unfold numOf at h
  split at h
  · rename_i u hu
    split at h
    · injection h with h; subst h; exact ⟨by assumption, atoi_in hu⟩
    · cases h
  · cases h
open Go.Lib in
theorem itoa_mem {n : Int} : ∀ b ∈ itoa n, b ≠ 32 ∧ b ≠ 10 := by
  intro b hb
  unfold itoa at hb
  have hd : ∀ u, b ∈ decDigits u → b ≠ 32 ∧ b ≠ 10 := fun u hu => by
    have := digits_mem u b hu
    exact ⟨fun e => by rw [e] at this; exact absurd this.1 (by decide), fun e => by rw [e] at this; exact absurd this.1 (by decide)⟩
  split at hb
  · cases List.mem_cons.1 hb with
    | inl e => rw [e]; decide
    | inr e => exact hd _ e
  · exact hd _ hb
end Go.Proofs.YtiofgjolhbgkiaaDoor
end
section
/- This file tells the lines of steps, and the steps of texts, in plain Lean, and proves that one is the other's. No conditions. -/
namespace Go.Proofs.YtiofgjolhbgkiaaDoor
open Go.Lib (itoa)
/-! ### A step's line -/
def kinds : List Bs := [[111, 112], [103, 111], [100, 114, 111, 112], [116, 119, 105, 99, 101], [115, 112, 111, 105, 108], [116, 105, 109, 101, 114]]
def opns : List Bs := [[108, 111, 97, 100], [115, 116, 111, 114, 101], [97, 100, 100], [101, 118, 105, 99, 116]]
def place : List Bs → Bs → Nat
  | [], _ => 0
  | x :: r, w => if x = w then 1 else match place r w with
    | 0 => 0
    | k + 1 => k + 2
def nameK (k : Int) : Bs := kinds.getD (k - 1).toNat []
def nameO (k : Int) : Bs := opns.getD (k - 1).toNat []
def badStep (s : Step) : Prop := s.kind < 1 ∨ 6 < s.kind ∨ (s.kind = 1 ∧ (s.op.kind < 1 ∨ 4 < s.op.kind))
instance (s : Step) : Decidable (badStep s) := by unfold badStep; exact inferInstance
def numWords (s : Step) : List Bs :=
  if s.kind = 1 then itoa s.node :: nameO s.op.kind :: itoa s.op.line :: (if s.op.kind = 2 ∨ s.op.kind = 3 then [itoa s.op.value] else [])
  else if s.kind = 6 then [itoa s.node]
  else if s.kind = 5 then [itoa s.n, itoa s.bit]
  else [itoa s.n]
def stepWords (s : Step) : List Bs := nameK s.kind :: numWords s
def printS (s : Step) : Bs × Int := if badStep s then ([], 1) else (joinW (stepWords s), 0)
def normS (s : Step) : Step :=
  if s.kind = 1 then ⟨1, s.node, 0, 0, ⟨s.op.kind, s.op.line, if s.op.kind = 2 ∨ s.op.kind = 3 then s.op.value else 0⟩⟩
  else if s.kind = 6 then ⟨6, s.node, 0, 0, zOp⟩
  else if s.kind = 5 then ⟨5, 0, s.n, s.bit, zOp⟩
  else ⟨s.kind, 0, s.n, 0, zOp⟩
/-- The operation of words behind 'op'. -/
def lineOp : List Bs → Step × Int
  | a :: o :: t => match numOf a with
    | none => (zStep, 2)
    | some n =>
      if place opns o = 0 then (zStep, 1)
      else if place opns o = 2 ∨ place opns o = 3 then match t with
        | [x, y] => match numOf x, numOf y with
          | some p, some q => (⟨1, n, 0, 0, ⟨(place opns o : Nat), p, q⟩⟩, 0)
          | _, _ => (zStep, 2)
        | _ => (zStep, 2)
      else match t with
        | [x] => match numOf x with
          | some p => (⟨1, n, 0, 0, ⟨(place opns o : Nat), p, 0⟩⟩, 0)
          | none => (zStep, 2)
        | _ => (zStep, 2)
  | _ => (zStep, 2)
/-- The step of words. -/
def lineOf : List Bs → Step × Int
  | [] => (zStep, 1)
  | w :: r =>
    if place kinds w = 0 then (zStep, 1)
    else if place kinds w = 1 then lineOp r
    else if place kinds w = 5 then match r with
      | [x, y] => match numOf x, numOf y with
        | some p, some q => (⟨5, 0, p, q, zOp⟩, 0)
        | _, _ => (zStep, 2)
      | _ => (zStep, 2)
    else match r with
      | [x] => match numOf x with
        | some p => (if place kinds w = 6 then ⟨6, p, 0, 0, zOp⟩ else ⟨(place kinds w : Nat), 0, p, 0, zOp⟩, 0)
        | none => (zStep, 2)
      | _ => (zStep, 2)
theorem place_at : ∀ {l : List Bs} {w : Bs} {k : Nat}, place l w = k + 1 → k < l.length ∧ l.getD k [] = w
  | [], w, k, h => by simp [place] at h
  | x :: r, w, k, h => by
    unfold place at h
    split at h
    · rename_i e
      obtain rfl : k = 0 := by omega
      exact ⟨by simp, by simpa using e⟩
    · split at h
      · cases h
      · rename_i j hj
        obtain rfl : k = j + 1 := by omega
        obtain ⟨h1, h2⟩ := place_at hj
        exact ⟨by simpa using h1, by simpa using h2⟩
theorem place_kind : ∀ k, k < 6 → place kinds (kinds.getD k []) = k + 1 := by decide
theorem place_opn : ∀ k, k < 4 → place opns (opns.getD k []) = k + 1 := by decide
theorem place_nameK {k : Int} (h : 1 ≤ k) (h6 : k ≤ 6) : ((place kinds (nameK k) : Nat) : Int) = k := by
  unfold nameK; rw [place_kind _ (by omega)]; omega
theorem place_nameO {k : Int} (h : 1 ≤ k) (h6 : k ≤ 4) : ((place opns (nameO k) : Nat) : Int) = k := by
  unfold nameO; rw [place_opn _ (by omega)]; omega
theorem nameK_place {w : Bs} (h : place kinds w ≠ 0) : nameK (place kinds w : Nat) = w ∧ 1 ≤ place kinds w ∧ place kinds w ≤ 6 := by
  obtain ⟨k, hk⟩ : ∃ k, place kinds w = k + 1 := ⟨place kinds w - 1, by omega⟩
  obtain ⟨h1, h2⟩ := place_at hk
  have h1' : k < 6 := h1
  unfold nameK; rw [hk, show (((k + 1 : Nat) : Int) - 1).toNat = k by omega]
  exact ⟨h2, by omega, by omega⟩
theorem nameO_place {w : Bs} (h : place opns w ≠ 0) : nameO (place opns w : Nat) = w ∧ 1 ≤ place opns w ∧ place opns w ≤ 4 := by
  obtain ⟨k, hk⟩ : ∃ k, place opns w = k + 1 := ⟨place opns w - 1, by omega⟩
  obtain ⟨h1, h2⟩ := place_at hk
  have h1' : k < 4 := h1
  unfold nameO; rw [hk, show (((k + 1 : Nat) : Int) - 1).toNat = k by omega]
  exact ⟨h2, by omega, by omega⟩
theorem names_mem : (∀ w ∈ kinds, ∀ b ∈ w, b ≠ 32 ∧ b ≠ 10) ∧ (∀ w ∈ opns, ∀ b ∈ w, b ≠ 32 ∧ b ≠ 10) := by decide
theorem name_mem {l : List Bs} {k : Nat} {b : UInt8} (h : b ∈ l.getD k []) : ∃ w ∈ l, b ∈ w := by
  rw [List.getD_eq_getElem?_getD] at h
  cases e : l[k]? with
  | none => rw [e] at h; simp at h
  | some w => rw [e] at h; exact ⟨w, List.mem_of_getElem? e, h⟩
theorem words_mem {s : Step} : ∀ w ∈ stepWords s, ∀ b ∈ w, b ≠ 32 ∧ b ≠ 10 := by
  intro w hw b hb
  have hK : ∀ k, b ∈ nameK k → b ≠ 32 ∧ b ≠ 10 := fun k h => by obtain ⟨w, h1, h2⟩ := name_mem h; exact names_mem.1 w h1 b h2
  have hO : ∀ k, b ∈ nameO k → b ≠ 32 ∧ b ≠ 10 := fun k h => by obtain ⟨w, h1, h2⟩ := name_mem h; exact names_mem.2 w h1 b h2
  have hI : ∀ n, b ∈ itoa n → b ≠ 32 ∧ b ≠ 10 := fun n h => itoa_mem b h
  unfold stepWords numWords at hw
  rcases List.mem_cons.1 hw with e | hw
  · rw [e] at hb; exact hK _ hb
  split at hw
  · rcases List.mem_cons.1 hw with e | hw
    · rw [e] at hb; exact hI _ hb
    rcases List.mem_cons.1 hw with e | hw
    · rw [e] at hb; exact hO _ hb
    rcases List.mem_cons.1 hw with e | hw
    · rw [e] at hb; exact hI _ hb
    split at hw
    · rw [List.mem_singleton.1 hw] at hb; exact hI _ hb
    · cases hw
  split at hw
  · rw [List.mem_singleton.1 hw] at hb; exact hI _ hb
  split at hw
  · rcases List.mem_cons.1 hw with e | hw
    · rw [e] at hb; exact hI _ hb
    · rw [List.mem_singleton.1 hw] at hb; exact hI _ hb
  · rw [List.mem_singleton.1 hw] at hb; exact hI _ hb
/-- What is written is read. -/
theorem line_words {s : Step} (hb : ¬ badStep s) (hw : s.wf) : lineOf (stepWords s) = (normS s, 0) := by
  obtain ⟨w1, w2, w3, w4, w5, w6, w7⟩ := hw
  unfold badStep at hb
  have hk := place_nameK (k := s.kind) (by omega) (by omega)
  have k0 : place kinds (nameK s.kind) ≠ 0 := by omega
  unfold stepWords lineOf
  simp only
  rw [if_neg k0]
  unfold numWords normS
  by_cases h1 : s.kind = 1
  · rw [if_pos (by omega), if_pos h1, if_pos h1]
    have ho := place_nameO (k := s.op.kind) (by omega) (by omega)
    have o0 : place opns (nameO s.op.kind) ≠ 0 := by omega
    unfold lineOp
    simp only [numOf_itoa w2]
    rw [if_neg o0]
    by_cases h2 : s.op.kind = 2 ∨ s.op.kind = 3
    · rw [if_pos (by omega), if_pos h2, if_pos h2]
      simp only [numOf_itoa w6, numOf_itoa w7, ho]
    · rw [if_neg (by omega), if_neg h2, if_neg h2]
      simp only [numOf_itoa w6, ho]
  rw [if_neg (by omega), if_neg h1, if_neg h1]
  by_cases h6 : s.kind = 6
  · rw [if_neg (by omega), if_pos h6, if_pos h6]
    simp only [numOf_itoa w2]
    rw [if_pos (by omega)]
  rw [if_neg h6, if_neg h6]
  by_cases h5 : s.kind = 5
  · rw [if_pos (by omega), if_pos h5, if_pos h5]
    simp only [numOf_itoa w3, numOf_itoa w4]
  · rw [if_neg (by omega), if_neg h5, if_neg h5]
    simp only [numOf_itoa w3]
    rw [if_neg (by omega), hk]
/-- What is read is what would be written. -/
theorem words_line {W : List Bs} {s : Step} (h : lineOf W = (s, 0)) : ¬ badStep s ∧ stepWords s = W ∧ normS s = s ∧ s.wf := by
  have z20 : ∀ {a : Step}, (a, (2 : Int)) = (s, 0) → False := fun h => by injection h with _ h; exact absurd h (by decide)
  have z10 : ∀ {a : Step}, (a, (1 : Int)) = (s, 0) → False := fun h => by injection h with _ h; exact absurd h (by decide)
  have i0 : In64 0 := by unfold In64; decide
  unfold lineOf at h
  split at h
  · exact (z10 h).elim
  rename_i w r
  split at h
  · exact (z10 h).elim
  rename_i k0
  obtain ⟨nk, k1, k6⟩ := nameK_place k0
  split at h
  · rename_i hk
    unfold lineOp at h
    split at h
    · rename_i a o t
      split at h
      · exact (z20 h).elim
      rename_i n hn
      obtain ⟨en, wn⟩ := numOf_eq hn
      split at h
      · exact (z10 h).elim
      rename_i o0
      obtain ⟨no, o1, o4⟩ := nameO_place o0
      rw [hk] at nk
      split at h
      · rename_i o23
        split at h
        · split at h
          · rename_i p q hp hq
            obtain ⟨ep, wp⟩ := numOf_eq hp
            obtain ⟨eq, wq⟩ := numOf_eq hq
            injection h with h _
            subst h
            refine ⟨by unfold badStep; simp only; omega, ?_, ?_, ?_⟩
            · unfold stepWords numWords; simp only [if_true]
              rw [if_pos (by omega), en, ep, eq, no]; rw [← nk]; rfl
            · unfold normS; simp only [if_true]; rw [if_pos (by omega)]
            · exact ⟨by unfold In64; simp only; omega, wn, i0, i0, by unfold In64; simp only; omega, wp, wq⟩
          · exact (z20 h).elim
        · exact (z20 h).elim
      · rename_i o23
        split at h
        · split at h
          · rename_i p hp
            obtain ⟨ep, wp⟩ := numOf_eq hp
            injection h with h _
            subst h
            refine ⟨by unfold badStep; simp only; omega, ?_, ?_, ?_⟩
            · unfold stepWords numWords; simp only [if_true]
              rw [if_neg (by omega), en, ep, no]; rw [← nk]; rfl
            · unfold normS; simp only [if_true]; rw [if_neg (by omega)]
            · exact ⟨by unfold In64; simp only; omega, wn, i0, i0, by unfold In64; simp only; omega, wp, i0⟩
          · exact (z20 h).elim
        · exact (z20 h).elim
    · exact (z20 h).elim
  rename_i hk1
  split at h
  · rename_i hk
    split at h
    · split at h
      · rename_i p q hp hq
        obtain ⟨ep, wp⟩ := numOf_eq hp
        obtain ⟨eq, wq⟩ := numOf_eq hq
        injection h with h _
        subst h
        rw [hk] at nk
        refine ⟨by unfold badStep; simp only; omega, ?_, rfl, ⟨by unfold In64; simp only; omega, i0, wp, wq, i0, i0, i0⟩⟩
        unfold stepWords numWords; simp only
        rw [if_neg (by omega), if_neg (by omega), if_pos trivial, ep, eq, ← nk]; rfl
      · exact (z20 h).elim
    · exact (z20 h).elim
  rename_i hk5
  split at h
  · split at h
    · rename_i p hp
      obtain ⟨ep, wp⟩ := numOf_eq hp
      injection h with h _
      subst h
      split
      · rename_i hk
        rw [hk] at nk
        refine ⟨by unfold badStep; simp only; omega, ?_, rfl, ⟨by unfold In64; simp only; omega, wp, i0, i0, i0, i0, i0⟩⟩
        unfold stepWords numWords; simp only
        rw [if_neg (by omega), if_pos trivial, ep, ← nk]; rfl
      · rename_i hk
        refine ⟨by unfold badStep; simp only; omega, ?_, ?_, ⟨by unfold In64; simp only; omega, i0, wp, i0, i0, i0, i0⟩⟩
        · unfold stepWords numWords; simp only
          rw [if_neg (by omega), if_neg (by omega), if_neg (by omega), ep, nk]
        · unfold normS; simp only
          rw [if_neg (by omega), if_neg (by omega), if_neg (by omega)]
    · exact (z20 h).elim
  · exact (z20 h).elim
end Go.Proofs.YtiofgjolhbgkiaaDoor
end
section
/- This file tells the texts of steps, in plain Lean, and proves that what is written is read, that what is read is what would be written, and that texts one behind the other are read so. No conditions. -/
namespace Go.Proofs.YtiofgjolhbgkiaaDoor
open Go.Lib (itoa)
def lineS (b : Bs) : Step × Int := lineOf (cutAt 32 b)
def lineT (s : Step) : Bs := joinW (stepWords s)
theorem stepWords_ne (s : Step) : stepWords s ≠ [] := by unfold stepWords; simp
theorem line_text {s : Step} (hb : ¬ badStep s) (hw : s.wf) : lineS (lineT s) = (normS s, 0) := by
  unfold lineS lineT
  rw [cut_join (stepWords_ne s) (fun w hw' hm => (words_mem w hw' 32 hm).1 rfl)]
  exact line_words hb hw
theorem text_line {b : Bs} {s : Step} (h : lineS b = (s, 0)) : ¬ badStep s ∧ lineT s = b ∧ normS s = s ∧ s.wf := by
  obtain ⟨h1, h2, h3, h4⟩ := words_line h
  exact ⟨h1, by unfold lineT; rw [h2, join_cut], h3, h4⟩
theorem joinW_mem : ∀ {l : List Bs} {b : UInt8}, b ∈ joinW l → b = 32 ∨ ∃ w ∈ l, b ∈ w
  | [], b, h => by simp [joinW] at h
  | [x], b, h => .inr ⟨x, List.mem_cons_self .., h⟩
  | x :: y :: r, b, h => by
    rw [joinW] at h
    rcases List.mem_append.1 h with h | h
    · exact .inr ⟨x, List.mem_cons_self .., h⟩
    · rcases List.mem_cons.1 h with h | h
      · exact .inl h
      · rcases joinW_mem h with h | ⟨w, hw, hb⟩
        · exact .inl h
        · exact .inr ⟨w, List.mem_cons_of_mem _ hw, hb⟩
theorem lineT_free (s : Step) : (10 : UInt8) ∉ lineT s := by
  intro h
  rcases joinW_mem h with h | ⟨w, hw, hb⟩
  · exact absurd h (by decide)
  · exact (words_mem w hw 10 hb).2 rfl
theorem norm_words (s : Step) : stepWords (normS s) = stepWords s := by
  unfold stepWords numWords normS
  by_cases h1 : s.kind = 1
  · rw [if_pos h1]; simp only [if_true]; rw [if_pos h1, h1]
    by_cases h2 : s.op.kind = 2 ∨ s.op.kind = 3
    · rw [if_pos h2, if_pos h2, if_pos h2]
    · rw [if_neg h2, if_neg h2]
  rw [if_neg h1]
  by_cases h6 : s.kind = 6
  · rw [if_pos h6]; simp only; rw [if_neg (by omega), if_pos trivial, if_neg h1, if_pos h6, h6]
  rw [if_neg h6]
  by_cases h5 : s.kind = 5
  · rw [if_pos h5]; simp only; rw [if_neg (by omega), if_neg (by omega), if_pos trivial, if_neg h1, if_neg h6, if_pos h5, h5]
  · rw [if_neg h5]; simp only; rw [if_neg h1, if_neg h6, if_neg h5, if_neg h1, if_neg h6, if_neg h5]
theorem norm_text (s : Step) : lineT (normS s) = lineT s := by unfold lineT; rw [norm_words]
theorem norm_bad {s : Step} (h : ¬ badStep s) : ¬ badStep (normS s) := by
  unfold badStep at h ⊢
  unfold normS
  split
  · simp only; omega
  split
  · simp only; omega
  split
  · simp only; omega
  · simp only; omega
/-! ### Texts -/
def textB (l : List Step) : Bs := l.flatMap fun s => lineT s ++ [10]
def textS : List Step → Bs × Int
  | [] => ([], 0)
  | s :: r => if badStep s then ([], 1) else if (textS r).2 = 0 then (lineT s ++ 10 :: (textS r).1, 0) else ([], (textS r).2)
theorem textB_cons (s : Step) (r : List Step) : textB (s :: r) = lineT s ++ 10 :: textB r := by unfold textB; simp
theorem textB_app (a b : List Step) : textB (a ++ b) = textB a ++ textB b := by unfold textB; rw [List.flatMap_append]
theorem textS_ok : ∀ {l : List Step}, (∀ s ∈ l, ¬ badStep s) → textS l = (textB l, 0)
  | [], _ => rfl
  | s :: r, h => by
    have ih := textS_ok (l := r) (fun x hx => h x (List.mem_cons_of_mem _ hx))
    rw [textS, if_neg (h s (List.mem_cons_self ..)), ih, if_pos rfl, textB_cons]
theorem textS_bad : ∀ {l : List Step}, (∃ s ∈ l, badStep s) → textS l = ([], 1)
  | [], ⟨_, h, _⟩ => by cases h
  | s :: r, ⟨x, hx, hb⟩ => by
    rw [textS]
    by_cases h : badStep s
    · rw [if_pos h]
    · rw [if_neg h]
      have : textS r = ([], 1) := textS_bad ⟨x, (List.mem_cons.1 hx).resolve_left (fun e => h (by rw [← e]; exact hb)), hb⟩
      rw [this, if_neg (by decide)]
theorem textS_cases (l : List Step) : ((∀ s ∈ l, ¬ badStep s) ∧ textS l = (textB l, 0)) ∨ ((∃ s ∈ l, badStep s) ∧ textS l = ([], 1)) := by
  by_cases h : ∃ s ∈ l, badStep s
  · exact .inr ⟨h, textS_bad h⟩
  · have h' : ∀ s ∈ l, ¬ badStep s := fun s hs hb => h ⟨s, hs, hb⟩
    exact .inl ⟨h', textS_ok h'⟩
/-- What is read, behind what was read. -/
def comb (a : List Step) (r : List Step × Int) : List Step × Int := if r.2 = 0 then (a ++ r.1, 0) else ([], r.2)
theorem comb_comb (a b : List Step) (r : List Step × Int) : comb a (comb b r) = comb (a ++ b) r := by
  unfold comb
  by_cases h : r.2 = 0
  · rw [if_pos h, if_pos rfl, if_pos h, List.append_assoc]
  · rw [if_neg h, if_neg h, if_neg h]
theorem comb_ok (a b : List Step) : comb a (b, 0) = (a ++ b, 0) := rfl
theorem comb_err {a b : List Step} {e : Int} (h : e ≠ 0) : comb a (b, e) = ([], e) := by unfold comb; rw [if_neg h]
def readL : List Bs → List Step × Int
  | [] => ([], 0)
  | [b] => if b = [] then ([], 0) else ([], 2)
  | b :: c :: r => if (lineS b).2 = 0 then comb [(lineS b).1] (readL (c :: r)) else ([], (lineS b).2)
def parseS (t : Bs) : List Step × Int := readL (cutAt 10 t)
theorem scr_nil : parseS [] = ([], 0) := rfl
theorem scr_open {s : Bs} (h : (10 : UInt8) ∉ s) (h0 : s ≠ []) : parseS s = ([], 2) := by
  unfold parseS; rw [cutAt_free h, readL, if_neg h0]
theorem scr_cons {b r : Bs} (h : (10 : UInt8) ∉ b) : parseS (b ++ 10 :: r) = if (lineS b).2 = 0 then comb [(lineS b).1] (parseS r) else ([], (lineS b).2) := by
  unfold parseS
  rw [cutAt_app h]
  cases e : cutAt 10 r with
  | nil => exact absurd e (cutAt_ne _ _)
  | cons c t => rfl
theorem scr_text : ∀ {l : List Step}, (∀ s ∈ l, ¬ badStep s ∧ s.wf) → parseS (textB l) = (l.map normS, 0)
  | [], _ => rfl
  | s :: r, h => by
    obtain ⟨h1, h2⟩ := h s (List.mem_cons_self ..)
    rw [textB_cons, scr_cons (lineT_free s), line_text h1 h2, if_pos rfl, scr_text (fun x hx => h x (List.mem_cons_of_mem _ hx))]
    rfl
theorem scr_cases (t : Bs) : t = [] ∨ (t ≠ [] ∧ (10 : UInt8) ∉ t) ∨ ∃ b r, t = b ++ 10 :: r ∧ (10 : UInt8) ∉ b := by
  by_cases h : (10 : UInt8) ∈ t
  · obtain ⟨b, r, h1, h2⟩ := List.eq_append_cons_of_mem h
    exact .inr (.inr ⟨b, r, h1, h2⟩)
  · by_cases h0 : t = []
    · exact .inl h0
    · exact .inr (.inl ⟨h0, h⟩)
theorem scr_back : ∀ (n : Nat) {t : Bs} {m : List Step}, t.length ≤ n → parseS t = (m, 0) → (∀ s ∈ m, ¬ badStep s ∧ normS s = s ∧ s.wf) ∧ textB m = t := by
  intro n
  induction n with
  | zero =>
    intro t m hl h
    obtain rfl : t = [] := List.length_eq_zero_iff.1 (by omega)
    rw [scr_nil] at h
    injection h with h _
    subst h
    exact ⟨fun s hs => (by cases hs), rfl⟩
  | succ n ih =>
    intro t m hl h
    rcases scr_cases t with rfl | ⟨h0, hf⟩ | ⟨b, r, rfl, hf⟩
    · rw [scr_nil] at h
      injection h with h _
      subst h
      exact ⟨fun s hs => (by cases hs), rfl⟩
    · rw [scr_open hf h0] at h
      injection h with _ h
      exact absurd h (by decide)
    · rw [scr_cons hf] at h
      split at h
      · rename_i e0
        unfold comb at h
        split at h
        · rename_i e1
          injection h with h _
          rw [List.length_append, List.length_cons] at hl
          obtain ⟨g1, g2⟩ := ih (t := r) (m := (parseS r).1) (by omega) (by rw [← e1])
          obtain ⟨k1, k2, k3, k4⟩ := text_line (b := b) (s := (lineS b).1) (by rw [← e0])
          subst h
          refine ⟨fun s hs => ?_, ?_⟩
          · rcases List.mem_cons.1 hs with e | e
            · rw [e]; exact ⟨k1, k3, k4⟩
            · exact g1 s e
          · rw [List.singleton_append, textB_cons, k2, g2]
        · rename_i e1
          injection h with _ h
          exact absurd h e1
      · rename_i e1
        injection h with _ h
        exact absurd h e1
theorem scr_err : ∀ (n : Nat) {t : Bs}, t.length ≤ n → (parseS t).2 ≠ 0 → (parseS t).1 = [] := by
  intro n t hl h
  rcases scr_cases t with rfl | ⟨h0, hf⟩ | ⟨b, r, rfl, hf⟩
  · exact rfl
  · rw [scr_open hf h0]
  · rw [scr_cons hf] at h ⊢
    split
    · rename_i e0
      rw [if_pos e0] at h
      unfold comb at h ⊢
      split
      · rename_i e1
        rw [if_pos e1] at h; exact absurd rfl h
      · rfl
    · rfl
theorem scr_app2 : ∀ (n : Nat) {s t : Bs} {a : List Step}, s.length ≤ n → parseS s = (a, 0) → parseS (s ++ t) = comb a (parseS t) := by
  intro n
  induction n with
  | zero =>
    intro s t a hl h
    obtain rfl : s = [] := List.length_eq_zero_iff.1 (by omega)
    rw [scr_nil] at h
    injection h with h _
    subst h
    unfold comb
    split
    · rename_i e; rw [List.nil_append, List.nil_append, ← e]
    · rename_i e; rw [List.nil_append, ← scr_err _ (Nat.le_refl _) e]
  | succ n ih =>
    intro s t a hl h
    rcases scr_cases s with rfl | ⟨h0, hf⟩ | ⟨b, r, rfl, hf⟩
    · exact ih (Nat.zero_le _) h
    · rw [scr_open hf h0] at h
      injection h with _ h
      exact absurd h (by decide)
    · rw [scr_cons hf] at h
      rw [List.append_assoc, List.cons_append, scr_cons hf]
      split at h
      · rename_i e0
        rw [if_pos e0]
        rw [List.length_append, List.length_cons] at hl
        unfold comb at h
        split at h
        · rename_i e1
          rw [ih (s := r) (a := (parseS r).1) (by omega) (by rw [← e1]), comb_comb]
          injection h with h _
          rw [h]
        · rename_i e1
          injection h with _ h
          exact absurd h e1
      · rename_i e1
        injection h with _ h
        exact absurd h e1
/-- What is written comes back, but for what it has not; and its text is the same. -/
theorem turns {l : List Step} {s : Bs} (hw : ∀ x ∈ l, x.wf) (h : textS l = (s, 0)) : parseS s = (l.map normS, 0) ∧ textS (l.map normS) = (s, 0) := by
  rcases textS_cases l with ⟨h1, h2⟩ | ⟨_, h2⟩
  · rw [h2] at h
    injection h with h _
    subst h
    refine ⟨scr_text fun x hx => ⟨h1 x hx, hw x hx⟩, ?_⟩
    rw [textS_ok (fun x hx => by obtain ⟨y, hy, e⟩ := List.mem_map.1 hx; rw [← e]; exact norm_bad (h1 y hy))]
    congr 1
    unfold textB
    rw [List.flatMap_map]
    simp only [norm_text]
  · rw [h2] at h
    injection h with _ h
    exact absurd h (by decide)
theorem turns2 {t : Bs} {m : List Step} (h : parseS t = (m, 0)) : textS m = (t, 0) := by
  obtain ⟨h1, h2⟩ := scr_back _ (Nat.le_refl _) h
  rw [textS_ok (fun x hx => (h1 x hx).1), h2]
end Go.Proofs.YtiofgjolhbgkiaaDoor
end
section
/- This file proves, in plain Lean, that the program's reader of a line and the document's tell one step. No conditions. -/
namespace Go.Proofs.YtiofgjolhbgkiaaDoor
/-! ### The reader -/
/-- What the reader has: words, and whether all went well. -/
abbrev RSt := List Bs × Bool
def hdW (st : RSt) : Bs := match st.1 with
  | [] => []
  | w :: _ => w
def rdW (st : RSt) : RSt := match st.1 with
  | [] => ([], false)
  | _ :: r => (r, st.2)
def vOf (w : Bs) : Int := match Go.Lib.atoiAll w with
  | .ok v => v
  | .range => Go.Lib.atoiSat w
  | _ => 0
def okOf (w : Bs) : Bool := (numOf w).isSome
def vN (st : RSt) : Int := vOf (hdW st)
def rdN (st : RSt) : RSt := ((rdW st).1, (rdW st).2 && okOf (hdW st))
def fin (s : Step) (st : RSt) : Step × Int := if st.2 = false ∨ 0 < st.1.length then (zStep, 2) else (s, 0)
def progOp (st : RSt) : Step × Int :=
  if place opns (hdW (rdN st)) = 0 ∧ (rdW (rdN st)).2 = true then (zStep, 1)
  else if place opns (hdW (rdN st)) = 2 ∨ place opns (hdW (rdN st)) = 3 then fin ⟨1, vN st, 0, 0, ⟨(place opns (hdW (rdN st)) : Nat), vN (rdW (rdN st)), vN (rdN (rdW (rdN st)))⟩⟩ (rdN (rdN (rdW (rdN st))))
  else fin ⟨1, vN st, 0, 0, ⟨(place opns (hdW (rdN st)) : Nat), vN (rdW (rdN st)), 0⟩⟩ (rdN (rdW (rdN st)))
def progLine (W : List Bs) : Step × Int :=
  if place kinds (hdW (W, true)) = 0 then (zStep, 1)
  else if place kinds (hdW (W, true)) = 1 then progOp (rdW (W, true))
  else if place kinds (hdW (W, true)) = 6 then fin ⟨6, vN (rdW (W, true)), 0, 0, zOp⟩ (rdN (rdW (W, true)))
  else if place kinds (hdW (W, true)) = 5 then fin ⟨5, 0, vN (rdW (W, true)), vN (rdN (rdW (W, true))), zOp⟩ (rdN (rdN (rdW (W, true))))
  else fin ⟨(place kinds (hdW (W, true)) : Nat), 0, vN (rdW (W, true)), 0, zOp⟩ (rdN (rdW (W, true)))
theorem num_cases (w : Bs) : (numOf w = none ∧ okOf w = false) ∨ ∃ v, numOf w = some v ∧ okOf w = true ∧ vOf w = v := by
  cases h : numOf w with
  | none => exact .inl ⟨rfl, by unfold okOf; rw [h]; rfl⟩
  | some v =>
    refine .inr ⟨v, rfl, by unfold okOf; rw [h]; rfl, ?_⟩
    unfold numOf at h
    unfold vOf
    split at h
    · rename_i u hu
      split at h
      · injection h with h; simp only [hu, h]
      · cases h
    · cases h
theorem ok_nil : okOf [] = false := rfl
theorem place_nil : place opns [] = 0 := rfl
theorem fin_no {s : Step} {l : List Bs} : fin s (l, false) = (zStep, 2) := by unfold fin; rw [if_pos (.inl rfl)]
theorem fin_more {s : Step} {w : Bs} {l : List Bs} {b : Bool} : fin s (w :: l, b) = (zStep, 2) := by unfold fin; rw [if_pos (.inr (by simp))]
theorem fin_ok {s : Step} : fin s ([], true) = (s, 0) := rfl
/-- Nothing goes well again. -/
theorem rdN_no (l : List Bs) : ∃ l', rdN (l, false) = (l', false) := by
  cases l <;> exact ⟨_, rfl⟩
theorem rdW_no (l : List Bs) : ∃ l', rdW (l, false) = (l', false) := by
  cases l <;> exact ⟨_, rfl⟩
theorem progOp_no (l : List Bs) : progOp (l, false) = (zStep, 2) := by
  obtain ⟨l1, e1⟩ := rdN_no l
  obtain ⟨l2, e2⟩ := rdW_no l1
  obtain ⟨l3, e3⟩ := rdN_no l2
  obtain ⟨l4, e4⟩ := rdN_no l3
  unfold progOp
  rw [e1, e2, e3, e4, if_neg (by simp)]
  split <;> exact fin_no
theorem prog_op : ∀ (W : List Bs), progOp (W, true) = lineOp W
  | [] => rfl
  | [a] => by
    unfold progOp lineOp
    have e1 : rdN ([a], true) = ([], okOf a) := rfl
    have e2 : ∀ b, rdW ([], b) = ([], false) := fun _ => rfl
    have e3 : ∀ b, rdN ([], b) = ([], false) := fun _ => rfl
    simp only [e1, e2, e3]
    rw [if_neg (by simp)]
    split <;> exact fin_no
  | a :: o :: t => by
    have e1 : rdN (a :: o :: t, true) = (o :: t, okOf a) := rfl
    have e2 : ∀ b, rdW (o :: t, b) = (t, b) := fun _ => rfl
    have e3 : ∀ b, hdW (o :: t, b) = o := fun _ => rfl
    have e4 : vN (a :: o :: t, true) = vOf a := rfl
    unfold progOp lineOp
    simp only [e1, e2, e3, e4]
    rcases num_cases a with ⟨h1, h2⟩ | ⟨n, h1, h2, h3⟩
    · rw [h1, h2, if_neg (by simp)]
      obtain ⟨l3, e3⟩ := rdN_no t
      obtain ⟨l4, e4⟩ := rdN_no l3
      rw [e3, e4]
      simp only
      split <;> exact fin_no
    rw [h1, h2, h3]
    simp only
    by_cases h0 : place opns o = 0
    · rw [if_pos ⟨h0, by trivial⟩, if_pos h0]
    rw [if_neg (fun a => h0 a.1), if_neg h0]
    by_cases h23 : place opns o = 2 ∨ place opns o = 3
    · rw [if_pos h23, if_pos h23]
      match t with
      | [] => exact fin_no
      | [x] =>
        have e5 : rdN (rdN ([x], true)) = ([], false) := rfl
        rw [e5]; exact fin_no
      | [x, y] =>
        have e5 : rdN (rdN ([x, y], true)) = ([], (okOf x && okOf y)) := rfl
        have e6 : vN ([x, y], true) = vOf x := rfl
        have e7 : vN (rdN ([x, y], true)) = vOf y := rfl
        rw [e5, e6, e7]
        simp only
        rcases num_cases x with ⟨g1, g2⟩ | ⟨p, g1, g2, g3⟩
        · rw [g1, g2]; exact fin_no
        rcases num_cases y with ⟨k1, k2⟩ | ⟨q, k1, k2, k3⟩
        · rw [g1, g2, k1, k2]; exact fin_no
        · rw [g1, g2, k1, k2, g3, k3]; exact fin_ok
      | x :: y :: z :: r =>
        have e5 : ∃ b, rdN (rdN (x :: y :: z :: r, true)) = (z :: r, b) := ⟨_, rfl⟩
        obtain ⟨b, e5⟩ := e5
        rw [e5]; exact fin_more
    · rw [if_neg h23, if_neg h23]
      match t with
      | [] => exact fin_no
      | [x] =>
        have e5 : rdN ([x], true) = ([], okOf x) := by unfold rdN; rfl
        have e6 : vN ([x], true) = vOf x := rfl
        rw [e5, e6]
        simp only
        rcases num_cases x with ⟨g1, g2⟩ | ⟨p, g1, g2, g3⟩
        · rw [g1, g2]; exact fin_no
        · rw [g1, g2, g3]; exact fin_ok
      | x :: y :: r =>
        have e5 : ∃ b, rdN (x :: y :: r, true) = (y :: r, b) := ⟨_, rfl⟩
        obtain ⟨b, e5⟩ := e5
        rw [e5]; exact fin_more
theorem one_num {f : Int → Step} (r : List Bs) : fin (f (vN (r, true))) (rdN (r, true)) = match r with
    | [x] => match numOf x with
      | some p => (f p, 0)
      | none => (zStep, 2)
    | _ => (zStep, 2) := by
  match r with
  | [] => exact fin_no
  | [x] =>
    have e5 : rdN ([x], true) = ([], okOf x) := by unfold rdN; rfl
    have e6 : vN ([x], true) = vOf x := rfl
    rw [e5, e6]
    simp only
    rcases num_cases x with ⟨g1, g2⟩ | ⟨p, g1, g2, g3⟩
    · rw [g1, g2]; exact fin_no
    · rw [g1, g2, g3]; exact fin_ok
  | x :: y :: t =>
    have e5 : ∃ b, rdN (x :: y :: t, true) = (y :: t, b) := ⟨_, rfl⟩
    obtain ⟨b, e5⟩ := e5
    rw [e5]; exact fin_more
theorem two_num {f : Int → Int → Step} (r : List Bs) : fin (f (vN (r, true)) (vN (rdN (r, true)))) (rdN (rdN (r, true))) = match r with
    | [x, y] => match numOf x, numOf y with
      | some p, some q => (f p q, 0)
      | _, _ => (zStep, 2)
    | _ => (zStep, 2) := by
  match r with
  | [] => exact fin_no
  | [x] =>
    have e5 : rdN (rdN ([x], true)) = ([], false) := rfl
    rw [e5]; exact fin_no
  | [x, y] =>
    have e5 : rdN (rdN ([x, y], true)) = ([], (okOf x && okOf y)) := rfl
    have e6 : vN ([x, y], true) = vOf x := rfl
    have e7 : vN (rdN ([x, y], true)) = vOf y := rfl
    rw [e5, e6, e7]
    simp only
    rcases num_cases x with ⟨g1, g2⟩ | ⟨p, g1, g2, g3⟩
    · rw [g1, g2]; exact fin_no
    rcases num_cases y with ⟨k1, k2⟩ | ⟨q, k1, k2, k3⟩
    · rw [g1, g2, k1, k2]; exact fin_no
    · rw [g1, g2, k1, k2, g3, k3]; exact fin_ok
  | x :: y :: z :: t =>
    have e5 : ∃ b, rdN (rdN (x :: y :: z :: t, true)) = (z :: t, b) := ⟨_, rfl⟩
    obtain ⟨b, e5⟩ := e5
    rw [e5]; exact fin_more
/-- The program's reader tells the step of a line. -/
theorem prog_line : ∀ (W : List Bs), W ≠ [] → progLine W = lineOf W
  | [], h => absurd rfl h
  | w :: r, _ => by
    have e1 : hdW (w :: r, true) = w := rfl
    have e2 : rdW (w :: r, true) = (r, true) := rfl
    unfold progLine lineOf
    rw [e1, e2]
    simp only
    by_cases h0 : place kinds w = 0
    · rw [if_pos h0, if_pos h0]
    rw [if_neg h0, if_neg h0]
    by_cases h1 : place kinds w = 1
    · rw [if_pos h1, if_pos h1, prog_op]
    rw [if_neg h1, if_neg h1]
    by_cases h6 : place kinds w = 6
    · rw [if_pos h6, if_neg (by omega)]
      simp only [if_pos h6]
      exact one_num (f := fun p => ⟨6, p, 0, 0, zOp⟩) r
    rw [if_neg h6]
    by_cases h5 : place kinds w = 5
    · rw [if_pos h5, if_pos h5]
      exact two_num (f := fun p q => ⟨5, 0, p, q, zOp⟩) r
    · rw [if_neg h5, if_neg h5]
      simp only [if_neg h6]
      exact one_num (f := fun p => ⟨(place kinds w : Nat), 0, p, 0, zOp⟩) r
end Go.Proofs.YtiofgjolhbgkiaaDoor
end
section
/- This file proves the rules of a statement whose order is open where memory is made and written in it, each piece by a chain of operations. No conditions. -/
namespace Go.Proofs.YtiofgjolhbgkiaaDoor
open Go
section
variable {P : Program} {n : Nat} {Q : Exit → Act → World → Prop} {Sh : Rho → (Nat → Bool) → List Chunk} {R0 : List Fact} {al0 : List (Nat × Value)}
variable {ops : Array Oper} {i : Nat} {rest : List Oper} {its : List Item} {d : Nat} {x y : Operand} {T ty : TypeId} {pos : String} {aft : Array Edge}
/-- The pieces hang on nothing that this operation does. -/
def Still (ops : Array Oper) (Sh : Rho → (Nat → Bool) → List Chunk) (i : Nat) : Prop := ∀ ρ g S, S i = false → (∀ j, Bef ops i j → S j = false) → Sh (Rho.set ρ i g) (upS S i) = Sh ρ S
theorem e_res {γ : Type} [Gh γ] {o : Oper} {val : γ → Value} {F : γ → List Fact} {C : γ → List Chunk} (hg : o.guard = none) (hd : o.dst = some d) (hSh : Still ops Sh i)
    (h : ∀ ρ S a L' R' w (K : Act → World → Prop), Now ops n Sh R0 al0 i its o ρ S a L' R' w → (∀ g w', St (C g ++ (Sh ρ S ++ L')) (F g ++ R') w' → K (a.put (some d) (val g)) w') → o.wp P a w K Q)
    (k : DJ P n ops Q Sh R0 al0 (i + 1) rest (⟨i, some d, fun ρ => val (Gh.dec (ρ i)), fun ρ => F (Gh.dec (ρ i)), fun ρ => C (Gh.dec (ρ i))⟩ :: its)) : DJ P n ops Q Sh R0 al0 i (o :: rest) its := by
  refine dj ⟨⟨i, some d, fun ρ => val (Gh.dec (ρ i)), fun ρ => F (Gh.dec (ρ i)), fun ρ => C (Gh.dec (ρ i))⟩, rfl, hd.symm, Ind.self (h := fun g => val (Gh.dec g)), Ind.self (h := fun g => F (Gh.dec g)), Ind.self (h := fun g => C (Gh.dec g)), ?_, k⟩
  intro ρ S a L' R' w K hS hbef haft hag hdep hbase hst hK
  rw [if_pos (by simp [Region.wanted, hg])]
  left
  refine h ρ S a L' R' w K ⟨hS, hag, hdep, hbase, hst⟩ ?_
  intro g w' hs'
  have e : (Rho.set ρ i (Gh.enc g)) i = Gh.enc g := by simp [Rho.set]
  have := hK (Gh.enc g) w'
  simp only [e, Gh.ok, hd, hSh ρ (Gh.enc g) S hS haft] at this
  refine this (hs'.perm ?_)
  rw [← List.append_assoc, ← List.append_assoc]
  exact List.Perm.append_right _ List.perm_append_comm
theorem e_p {op : Oper} {v : Rho → Value} (hp : ∀ ρ S, PureOp P n (alOf its al0 ρ) (Sh ρ S) R0 op (v ρ)) (hi : Ind ops i v) (hSh : Still ops Sh i)
    (k : DJ P n ops Q Sh R0 al0 (i + 1) rest (⟨i, some d, v, fun _ => [], fun _ => []⟩ :: its)) (hd : op.dst = some d := by exact rfl) : DJ P n ops Q Sh R0 al0 i (op :: rest) its := by
  refine dj ⟨⟨i, some d, v, fun _ => [], fun _ => []⟩, rfl, hd.symm, hi, Ind.const _, Ind.const _, ?_, k⟩
  intro ρ S a L' R' w K hS hbef haft hag hdep hbase hst hK
  have hp0 := hp ρ S
  rw [if_pos (by simp [Region.wanted, hp0.1])]
  left
  unfold Oper.wp
  have h : Now ops n Sh R0 al0 i its op ρ S a L' R' w := ⟨hS, hag, hdep, hbase, hst⟩
  rw [hp0.2 _ w (fun x hx u hu => agree_ev h.agree hx hu) (h.st.fewer h.base), Oper.upon_value]
  have hsh := hSh ρ (ρ i) S hS haft
  rw [Rho.set_same] at hsh
  have := hK (ρ i) w
  rw [Rho.set_same] at this
  exact this (by rw [hsh]; exact hst)
/-- A look at a piece that is being written: at that place it is the same, whichever of the writings went before. -/
theorem e_ld {op : Oper} {v : Value} (hp : ∀ ρ S, S i = false → (∀ j, Bef ops j i → S j = true) → (∀ j, Bef ops i j → S j = false) → PureOp P n (alOf its al0 ρ) (Sh ρ S) R0 op v) (hSh : Still ops Sh i)
    (k : DJ P n ops Q Sh R0 al0 (i + 1) rest (⟨i, some d, fun _ => v, fun _ => [], fun _ => []⟩ :: its)) (hpure : op.guard = none := by exact rfl) (hd : op.dst = some d := by exact rfl) : DJ P n ops Q Sh R0 al0 i (op :: rest) its := by
  refine dj ⟨⟨i, some d, fun _ => v, fun _ => [], fun _ => []⟩, rfl, hd.symm, Ind.const _, Ind.const _, Ind.const _, ?_, k⟩
  intro ρ S a L' R' w K hS hbef haft hag hdep hbase hst hK
  have hp0 := hp ρ S hS hbef haft
  rw [if_pos (by simp [Region.wanted, hp0.1])]
  left
  unfold Oper.wp
  have h : Now ops n Sh R0 al0 i its op ρ S a L' R' w := ⟨hS, hag, hdep, hbase, hst⟩
  rw [hp0.2 _ w (fun x hx u hu => agree_ev h.agree hx hu) (h.st.fewer h.base), Oper.upon_value]
  have hsh := hSh ρ (ρ i) S hS haft
  rw [Rho.set_same] at hsh
  have := hK (ρ i) w
  rw [Rho.set_same] at this
  exact this (by rw [hsh]; exact hst)
theorem at_bif {s : Bool} {x y : List Value} {f : Nat} {c : Value} (hx : x[f]? = some c) (hy : y[f]? = some c) : (bif s then x else y)[f]? = some c := by cases s <;> assumption
theorem e_pc {op : Oper} {v : Value} (hp : ∀ ρ S, PureOp P n (alOf its al0 ρ) (Sh ρ S) R0 op v) (hSh : Still ops Sh i)
    (k : DJ P n ops Q Sh R0 al0 (i + 1) rest (⟨i, some d, fun _ => v, fun _ => [], fun _ => []⟩ :: its)) (hd : op.dst = some d := by exact rfl) : DJ P n ops Q Sh R0 al0 i (op :: rest) its := e_p hp (Ind.const _) hSh k hd
theorem e_call {γ : Type} [Gh γ] {val : γ → Value} {F : γ → List Fact} {f : FuncId} {args : List Operand} {ts : Array TypeId} {vs : Rho → List Value} (hf : ∀ args w, (callFunc f args).run P w = .ok (.enter f args) w)
    (ha : ∀ ρ, evL n (alOf its al0 ρ) args = some (vs ρ)) (hc : ∀ ρ L' R' w, Deps ops R0 its i ρ R' → St L' R' w → Calls P f (vs ρ).toArray w (Post val (fun _ => L') (fun g => F g ++ R'))) (hSh : Still ops Sh i)
    (k : DJ P n ops Q Sh R0 al0 (i + 1) rest (⟨i, some d, fun ρ => val (Gh.dec (ρ i)), fun ρ => F (Gh.dec (ρ i)), fun ρ => []⟩ :: its)) :
    DJ P n ops Q Sh R0 al0 i (⟨some d, .call { callee := .value (.func f), args := args.toArray, argTypes := ts }, ty, pos, aft, none⟩ :: rest) its :=
  e_res (C := fun _ => []) rfl rfl hSh (fun ρ S a L' R' w K h hK => by
    unfold Oper.wp
    rw [exec_call hf rfl, Oper.upon_enter, List.map_toArray, agree_evL h.agree (fun x hx => by simp [Op.operands, Call.operands, hx]) (ha ρ)]
    refine (hc ρ _ _ w ⟨h.base, h.deps⟩ h.st).mono ?_
    rintro e w' ⟨g, rfl, hs'⟩
    exact hK g w' hs') k
theorem e_callv {γ : Type} [Gh γ] {val : γ → Value} {F : γ → List Fact} {f : FuncId} {args : List Operand} {ts : Array TypeId} {vs caps : List Value} (hx : ∀ ρ, ev n (alOf its al0 ρ) x = some (.func (.func f) #[] caps.toArray)) (hf : ∀ args w, (callFunc f args).run P w = .ok (.enter f args) w)
    (ha : ∀ ρ, evL n (alOf its al0 ρ) args = some vs) (hc : ∀ ρ S L' R' w, St (Sh ρ S ++ L') R' w → Deps ops R0 its i ρ R' → Calls P f (vs ++ caps).toArray w (Post val (fun _ => Sh ρ S ++ L') (fun g => F g ++ R'))) (hSh : Still ops Sh i)
    (k : DJ P n ops Q Sh R0 al0 (i + 1) rest (⟨i, some d, fun ρ => val (Gh.dec (ρ i)), fun ρ => F (Gh.dec (ρ i)), fun ρ => []⟩ :: its)) :
    DJ P n ops Q Sh R0 al0 i (⟨some d, .call { callee := .value x, args := args.toArray, argTypes := ts }, ty, pos, aft, none⟩ :: rest) its :=
  e_res (C := fun _ => []) rfl rfl hSh (fun ρ S a L' R' w K h hK => by
    unfold Oper.wp
    have e1 : a.eval x = .func (.func f) #[] caps.toArray := agree_ev h.agree (by simp [Op.operands, Call.operands]) (hx ρ)
    rw [exec_callv hf e1, Oper.upon_enter, List.map_toArray, agree_evL h.agree (fun x hx => by simp [Op.operands, Call.operands, hx]) (ha ρ), List.append_toArray]
    refine (hc ρ S L' R' w h.st ⟨h.base, h.deps⟩).mono ?_
    rintro e w' ⟨g, rfl, hs'⟩
    exact hK g w' hs') k
/-- A new slice of so many parts, that lies for good. -/
theorem e_lit {α : Type} [Enc α] {t el : TypeId} {sz bytes len : Nat} {z : Value} {parts : List (Nat × Operand)} {vs : Rho → List Value} (xs : List α) (he : ElemOf P t el sz z bytes) (hsz : Enc.sz α = sz)
    (ha : ∀ ρ, evL n (alOf its al0 ρ) (parts.map (·.2)) = some (vs ρ)) (hidx : parts.map (·.1) = List.range' 0 len) (hlv : ∀ ρ, (vs ρ).length = len) (hsmall : Nat.ble (len * sz) 1000 = true) (hsm2 : Nat.ble len 1000 = true)
    (hrd : ∀ ρ R', Deps ops R0 its i ρ R' → ∀ j, (∀ q ∈ R', q.p j) → RdV xs (vs ρ) j) (hSh : Still ops Sh i)
    (k : DJ P n ops Q Sh R0 al0 (i + 1) rest (⟨i, some d, fun ρ => (Gh.dec (ρ i) : Value), fun ρ => [sl (Gh.dec (ρ i) : Value) xs], fun _ => []⟩ :: its)) :
    DJ P n ops Q Sh R0 al0 i (⟨some d, .buildSlice t len parts.toArray, ty, pos, aft, none⟩ :: rest) its :=
  e_res (γ := Value) (val := fun v => v) (F := fun v => [sl v xs]) (C := fun _ => []) rfl rfl hSh (fun ρ S ac L' R' w K h hK => by
    obtain ⟨j, hj, hrj⟩ := h.st.ex
    have hrd' := hrd ρ R' ⟨h.base, h.deps⟩
    obtain ⟨h1, h2, h3⟩ := (hrd' j hrj).list
    have hlen := hlv ρ
    have hb := Nat.le_of_ble_eq_true hsmall
    have hb2 := Nat.le_of_ble_eq_true hsm2
    have hrun := run_buildSlice (vs := vs ρ) he (fun v hv => by rw [h2 v hv, hsz]) (by rw [hlen]; exact hb) w
    have e : (execOp ac.eval ⟨some d, .buildSlice t len parts.toArray, ty, pos, aft, none⟩).run P w = .ok (.value (.slice (some ⟨w.heap.size, 0, none⟩) len len)) (w.alloc (.cells ((vs ρ).flatMap fun v => v.cells.toList).toArray el)) := by
      show (Instr.buildSlice t len (parts.toArray.map fun (i, x) => (i, ac.eval x)) >>= fun v => Pure.pure (Next.value v)).run P w = _
      have hp : (parts.toArray.map fun (i, x) => (i, ac.eval x)) = ((parts.map (·.1)).zip (vs ρ)).toArray := by
        rw [← agree_evL h.agree (fun x hx => by simpa [Op.operands] using hx) (ha ρ)]
        simp only [List.map_toArray, List.map_map, List.zip_map', Function.comp_def]
      rw [hp, hidx, Sem.run_bind, ← hlen, hrun]; rfl
    unfold Oper.wp
    rw [e, Oper.upon_value]
    refine hK _ _ ?_
    obtain ⟨m, j', hd, hmw, hjw, hst, hr⟩ := h.st
    have hnew : St (row el (.slice (some ⟨w.heap.size, 0, none⟩) len len) xs :: (Sh ρ S ++ L')) R' (w.alloc (.cells ((vs ρ).flatMap fun v => v.cells.toList).toArray el)) := by
      obtain ⟨g1, g2, g3⟩ := (hrd' j' hr).list
      have hcl : ((vs ρ).flatMap fun v => v.cells.toList).length = len * sz := by rw [g3.len, g1, hlen, hsz]
      exact St.newC hd hmw hjw hst hr rfl rfl rfl ⟨by rw [g1, hlen]; have : maxN = 16777216 := rfl; omega, .inr ⟨w.heap.size, len, _, _, by rw [g1, hlen], one_self _ _, by rw [g1, hlen]; exact Nat.le_refl _, by unfold maxLen; omega, by rw [hsz]; simpa using hcl, rfl, by
        rw [g1, hlen, hsz, ← hcl, List.toList_toArray, List.take_length]; exact g3⟩⟩
    exact hnew.shut) k
theorem e_make {α : Type} [Enc α] {t el : TypeId} {sz bytes : Nat} {z : Value} {zc : List Value} {a : Int} {x0 : α} (he : ElemOf P t el sz z bytes) (hsz : Enc.sz α = sz) (hpos : 0 < sz) (hx : ∀ ρ, ev n (alOf its al0 ρ) x = some (vi a)) (hy : ∀ ρ, ev n (alOf its al0 ρ) y = some (vi a))
    (hzc : z.cells = zc.toArray) (hrd : ∀ j, Enc.rd x0 zc j) (h0 : 0 ≤ a) (hN : a ≤ 16777216) (hSh : ∀ ρ g S, S i = false → Sh (Rho.set ρ i g) (upS S i) = Sh ρ S)
    (k : DJ P n ops Q Sh R0 al0 (i + 1) rest (⟨i, some d, fun ρ => (Gh.dec (ρ i) : Value), fun ρ => [sl (Gh.dec (ρ i) : Value) (List.replicate a.toNat x0)], fun _ => []⟩ :: its)) :
    DJ P n ops Q Sh R0 al0 i (⟨some d, .makeSlice t x y, ty, pos, aft, none⟩ :: rest) its := dj (d_make he hsz hpos hx hy hzc hrd h0 hN hSh k)
/-! ### Pieces that are made and written here -/
theorem e_alloc {z : Value} {cs : List Value} (hz : ∀ w, (zeroValue T).run P w = .ok z w) (hv : z.cells = cs.toArray) (hSh : ∀ ρ (b : Nat) S, S i = false → (∀ j, Bef ops i j → S j = false) → (Sh (Rho.set ρ i (Gh.enc b)) (upS S i)).Perm (blk b T cs :: Sh ρ S))
    (k : DJ P n ops Q Sh R0 al0 (i + 1) rest (⟨i, some d, fun ρ => bp (Gh.dec (γ := Nat) (ρ i)) 0, fun _ => [], fun _ => []⟩ :: its)) : DJ P n ops Q Sh R0 al0 i (⟨some d, .alloc T, ty, pos, aft, none⟩ :: rest) its := dj (d_allocSh hz hv hSh k)
theorem e_store {f : Nat} {vs us : Rho → List Value} {v : Rho → Value} {sz : Nat} {T0 : TypeId} (bb : Rho → Nat) (hsz : ∀ w, (sizeOf T).run P w = .ok sz w) (hx : ∀ ρ, ev n (alOf its al0 ρ) x = some (bp (bb ρ) f)) (hy : ∀ ρ, ev n (alOf its al0 ρ) y = some (v ρ)) (hv : ∀ ρ, (v ρ).cells = (us ρ).toArray) (hl : ∀ ρ, (us ρ).length = sz)
    (h1 : ∀ ρ R' w L', Deps ops R0 its i ρ R' → St L' R' w → ∀ u ∈ us ρ, u.oneCell' = true) (hf : ∀ ρ, Nat.ble (f + sz) (vs ρ).length = true)
    (hSh : ∀ ρ g S, S i = false → (∀ j, Bef ops j i → S j = true) → (∀ j, Bef ops i j → S j = false) → ∃ L1, (Sh ρ S).Perm (blk (bb ρ) T0 (vs ρ) :: L1) ∧ (Sh (Rho.set ρ i g) (upS S i)).Perm (blk (bb ρ) T0 ((vs ρ).take f ++ us ρ ++ (vs ρ).drop (f + sz)) :: L1))
    (k : DJ P n ops Q Sh R0 al0 (i + 1) rest (⟨i, none, fun _ => undef, fun _ => [], fun _ => []⟩ :: its)) : DJ P n ops Q Sh R0 al0 i (⟨none, .store T x y, ty, pos, aft, none⟩ :: rest) its := by
  refine dj ⟨⟨i, none, fun _ => undef, fun _ => [], fun _ => []⟩, rfl, rfl, Ind.const _, Ind.const _, Ind.const _, ?_, k⟩
  intro ρ S a L' R' w K hS hbef haft hag hdep hbase hst hK
  rw [if_pos (by simp [Region.wanted])]
  left
  unfold Oper.wp
  obtain ⟨L1, p1, p2⟩ := hSh ρ (ρ i) S hS hbef haft
  have hs' : St (blk (bb ρ) T0 (vs ρ) :: (L1 ++ L')) R' w := hst.perm (p1.append_right L')
  have hone := h1 ρ R' w _ ⟨hbase, hdep⟩ hst
  have hfit : f + (us ρ).length ≤ (vs ρ).length := by rw [hl]; exact Nat.le_of_ble_eq_true (hf ρ)
  have e : (execOp a.eval ⟨none, .store T x y, ty, pos, aft, none⟩).run P w = .ok .skip (w.setRow (bb ρ) ((vs ρ).take f ++ us ρ ++ (vs ρ).drop (f + (us ρ).length)).toArray) := by
    refine exec_store ?_
    rw [agree_ev hag (by simp [Op.operands]) (hx ρ), agree_ev hag (by simp [Op.operands]) (hy ρ)]
    have := run_storeCells_at P (bb ρ) f T0 (us ρ) 0 (vs ρ).toArray w hs'.blk_get (by simpa using hfit) hone
    simp only [Nat.add_zero] at this
    have hl' := hl ρ
    simp [Instr.storeAt, Instr.sureAddr, storeVar, hsz, hv, bp, hl', this]
  rw [e, Oper.upon_skip]
  refine hK (ρ i) _ ?_
  have hnew := hs'.blk_set (setRow_heap' (us := (vs ρ).take f ++ us ρ ++ (vs ρ).drop (f + (us ρ).length)) hs'.blk_get).1 (setRow_heap' hs'.blk_get).2 rfl rfl
  rw [hl] at hnew ⊢
  exact hnew.perm (p2.symm.append_right L')
end
/-- One piece put in, or another one in its place. -/
inductive Ins : List Chunk → List Chunk → Chunk → Prop
  | hd {r x} : Ins ([x] ++ r) r x
  | hc {r x} : Ins (x :: r) r x
  | tl {r r' x c} : Ins r' r x → Ins (c :: r') (c :: r) x
  | ap {r r' x P} : Ins r' r x → Ins (P ++ r') (P ++ r) x
theorem Ins.perm {l' l : List Chunk} {x : Chunk} (h : Ins l' l x) : l'.Perm (x :: l) := by
  induction h with
  | hd => exact .refl _
  | hc => exact .refl _
  | tl _ ih => exact (ih.cons _).trans (.swap ..)
  | ap _ ih => exact (ih.append_left _).trans List.perm_middle
inductive Pos : List Chunk → List Chunk → Chunk → Chunk → List Chunk → Prop
  | hd {r x x'} : Pos ([x] ++ r) ([x'] ++ r) x x' r
  | hc {r x x'} : Pos (x :: r) (x' :: r) x x' r
  | tl {r r' x x' c L1} : Pos r r' x x' L1 → Pos (c :: r) (c :: r') x x' (c :: L1)
  | ap {r r' x x' P L1} : Pos r r' x x' L1 → Pos (P ++ r) (P ++ r') x x' (P ++ L1)
theorem Pos.ex {l l' L1 : List Chunk} {x x' : Chunk} (h : Pos l l' x x' L1) : ∃ L1, l.Perm (x :: L1) ∧ l'.Perm (x' :: L1) := by
  induction h with
  | hd => exact ⟨_, .refl _, .refl _⟩
  | hc => exact ⟨_, .refl _, .refl _⟩
  | tl _ ih => obtain ⟨L1, h1, h2⟩ := ih; exact ⟨_ :: L1, (h1.cons _).trans (.swap ..), (h2.cons _).trans (.swap ..)⟩
  | ap _ ih => obtain ⟨L1, h1, h2⟩ := ih; exact ⟨_ ++ L1, (h1.append_left _).trans List.perm_middle, (h2.append_left _).trans List.perm_middle⟩
section
variable {P : Program} {n : Nat} {ops : Array Oper} {Q : Exit → Act → World → Prop} {rest : List Oper} {L L' : List Chunk} {R : List Fact} {al : List (Nat × Value)} {d : Nat} {x y : Operand} {T ty : TypeId} {pos : String} {aft : Array Edge}
/-- A whole element is written. -/
theorem s_W {α : Type} [Enc α] {T' : TypeId} {v : Value} {xs : List α} {i sz : Nat} {cs : List Value} (e' : α) (hsz : ∀ w, (sizeOf T).run P w = .ok sz w) (hx : ev n al x = some (ep v sz i 0)) (hy : ev n al y = some (.agg cs.toArray)) (hes : Enc.sz α = sz) (hp : Pick L (row T' v xs) L') (hi : i < xs.length) (hrd : ∀ j, (∀ q ∈ R, q.p j) → Enc.rd e' cs j)
    (k : J P n ops Q rest (row T' v (xs.set i e') :: L') R al) : J P n ops Q (⟨none, .store T x y, ty, pos, aft, none⟩ :: rest) L R al := fun B w hs => by
  obtain ⟨j, _, hr⟩ := hs.ex
  have hl := Enc.len _ _ _ (hrd j hr)
  subst hes
  obtain ⟨e, he⟩ : ∃ e, xs[i]? = some e := ⟨xs[i], List.getElem?_eq_getElem hi⟩
  refine r_storeRow (α := α) (f := 0) (cs := cs) (e := e) (e' := e') hsz hx hy rfl hl (Enc.one _ _ _ (hrd j hr)) hp he (fun ds m hr => by rw [Enc.len _ _ _ hr, hl]; omega) (fun j hj ds hr => ?_) k B w hs
  have hd := Enc.len _ _ _ hr
  have : ds.take 0 ++ cs ++ ds.drop (0 + cs.length) = cs := by rw [List.drop_of_length_le (by omega)]; simp
  rw [this]; exact hrd j hj
theorem rdEntry {u : Value} {e : Entry} (hm : sl u e.last ∈ R) (hw : e.wf) : ∀ j, (∀ q ∈ R, q.p j) → Enc.rd e (e.cells u) j := fun j h => ⟨u, rfl, h _ hm, hw⟩
theorem rdCore {u : Value} {e : Core} (hm : sl u e.lines ∈ R) (hw : e.wait.wf) : ∀ j, (∀ q ∈ R, q.p j) → Enc.rd e (e.cells u) j := fun j h => ⟨u, rfl, h _ hm, hw⟩
theorem rdLine {e : Line} (hw : e.wf) : ∀ j, (∀ q ∈ R, q.p j) → Enc.rd e e.cells j := fun j h => ⟨rfl, hw⟩
theorem rdMsg {e : Msg} (hw : e.wf) : ∀ j, (∀ q ∈ R, q.p j) → RdV [e] [.agg e.cells.toArray] j := fun j _ => ⟨⟨_, rfl, rfl, hw⟩, trivial⟩
theorem rdDone {e : Done} (hw : e.wf) : ∀ j, (∀ q ∈ R, q.p j) → RdV [e] [.agg e.cells.toArray] j := fun j _ => ⟨⟨_, rfl, rfl, hw⟩, trivial⟩
end
end Go.Proofs.YtiofgjolhbgkiaaDoor
end
