/- This file tells, as plain functions on lists and numbers, what this program reckons: frames, what is on the way, cores, their home, and chips. No program in sight. No conditions. -/
import Derived.Test.YthnokijkdobdfaaCrc
set_option linter.unusedVariables false
set_option linter.unusedSimpArgs false
namespace Go.Proofs.Ythnokijkdobdfaa

def u8 (x : Int) : UInt8 := UInt8.ofNat (x % 256).toNat
def zMsg : Msg := ⟨0, 0, 0, 0, 0, 0, 0, false⟩
def zOp : Op := ⟨0, 0, 0⟩
def zLine : Line := ⟨0, 0, 0, 0, 0, 0, 0⟩
def zCore : Core := ⟨[], zOp⟩
def zChip : Chip := ⟨[], [], []⟩
def zEntry : Entry := ⟨0, -1, 0, 0, 0, 0, false, 0, 0, []⟩
/-- What is wrong with a message. -/
def msgWrong (c : Config) (m : Msg) : Int :=
  if m.kind < 1 ∨ 11 < m.kind then 1
  else if m.src < 0 ∨ c.cores < m.src ∨ m.dst < 0 ∨ c.cores < m.dst ∨ m.line < 0 ∨ c.lines ≤ m.line ∨ m.serial < 0 ∨ 65535 < m.serial ∨ m.turn < 0 ∨ 65535 < m.turn ∨ m.value < 0 ∨ 255 < m.value then 3
  else if (m.src = c.cores) ↔ (m.dst = c.cores) then 6 else 0
def sumI (b : List UInt8) : Int := ((sumOf b).toNat : Int)
def msgHead (m : Msg) : List UInt8 :=
  [u8 m.kind, u8 (16 * m.src + m.dst), u8 m.line, u8 (m.serial / 256), u8 m.serial, u8 (m.turn / 256), u8 m.turn, u8 m.value, if m.alone then 1 else 0, 0]
def msgBytes (m : Msg) : List UInt8 := msgHead m ++ [u8 (sumI (msgHead m) / 256), u8 (sumI (msgHead m))]
def at8 (b : List UInt8) (i : Nat) : Int := ((b.getD i 0).toNat : Int)
def msgOf (b : List UInt8) : Msg :=
  ⟨at8 b 0, at8 b 1 / 16, at8 b 1 % 16, at8 b 2, 256 * at8 b 3 + at8 b 4, 256 * at8 b 5 + at8 b 6, at8 b 7, at8 b 8 == 1⟩
def msgParse (c : Config) (b : List UInt8) : Msg × Int :=
  if b.length ≠ 12 then (zMsg, 2)
  else if sumI (b.take 10) ≠ 256 * at8 b 10 + at8 b 11 then (zMsg, 7)
  else if 1 < at8 b 8 ∨ at8 b 9 ≠ 0 then (zMsg, 2)
  else if msgWrong c (msgOf b) ≠ 0 then (zMsg, msgWrong c (msgOf b))
  else (msgOf b, 0)
def bitTurn (b : List UInt8) (bit : Int) : List UInt8 :=
  if 0 ≤ bit ∧ bit < 8 * (b.length : Int) then b.set (bit / 8).toNat (b.getD (bit / 8).toNat 0 ^^^ (1 <<< UInt8.ofNat (bit % 8).toNat)) else b

/-! ### What is on the way -/
abbrev Frames := List (List UInt8)
def netSend (l : Frames) (b : List UInt8) : Frames := if l.length < 40 then l ++ [b] else l
def netAt (l : Frames) (n : Int) : List UInt8 := l.getD n.toNat []
def netTake (l : Frames) (n : Int) : Frames × List UInt8 × Int :=
  if n < 0 ∨ (l.length : Int) ≤ n then ([], [], 5) else (l.eraseIdx n.toNat, netAt l n, 0)
def netTwice (l : Frames) (n : Int) : Frames × Int :=
  if n < 0 ∨ (l.length : Int) ≤ n then ([], 5) else (netSend l (netAt l n), 0)
def netSpoil (l : Frames) (n bit : Int) : Frames × Int :=
  if n < 0 ∨ (l.length : Int) ≤ n then ([], 5)
  else if bit < 0 ∨ 8 * ((netAt l n).length : Int) ≤ bit then ([], 3)
  else (l.set n.toNat (bitTurn (netAt l n) bit), 0)
def way : Frames → List Msg → Frames
  | l, [] => l
  | l, m :: r => way (netSend l (msgBytes m)) r

/-! ### A core -/
/-- An operation on a value: the value then, and what is told. -/
def opVal (v : Int) (o : Op) : Int × Int :=
  if o.kind = 1 then (v, v) else if o.kind = 2 then (o.value, 0) else if o.kind = 3 then ((v + o.value) % 256, v) else (v, 0)
def lineAt (c : Core) (i : Int) : Line := c.lines.getD i.toNat zLine
def withLine (c : Core) (i : Int) (l : Line) (w : Op) : Core := ⟨c.lines.set i.toNat l, w⟩
def askMsg (l : Line) (id home i : Int) : Msg := ⟨l.want, id, home, i, l.serial, 0, if l.want = 3 then l.value else 0, false⟩
def toldMsg (kind id home i turn value : Int) : Msg := ⟨kind, id, home, i, 0, turn, value, false⟩
def beginLine (l : Line) (o : Op) : Line :=
  if o.kind = 4 then (if l.state = 2 then { l with state := 3, want := 3, serial := l.serial + 1 } else { l with state := 0, value := 0 })
  else if l.state = 2 ∨ l.state = 1 ∧ o.kind = 1 then { l with value := (opVal l.value o).1 }
  else { l with want := if o.kind = 1 then 1 else 2, serial := l.serial + 1 }
/-- Whether it is done at once. -/
def beginDone (l : Line) (o : Op) : Bool := if o.kind = 4 then l.state != 2 else (l.state == 2 || l.state == 1 && o.kind == 1)
def beginTold (l : Line) (o : Op) : Int := if o.kind = 4 then 0 else (opVal l.value o).2
def coreBegin (c : Core) (id home : Int) (o : Op) : Core × List Msg × List Done × Int :=
  if o.kind < 1 ∨ 4 < o.kind then (zCore, [], [], 1)
  else if o.line < 0 ∨ (c.lines.length : Int) ≤ o.line ∨ o.value < 0 ∨ 255 < o.value then (zCore, [], [], 3)
  else if c.wait.kind ≠ 0 ∨ 65535 ≤ (lineAt c o.line).serial then (zCore, [], [], 8)
  else if beginDone (lineAt c o.line) o then (withLine c o.line (beginLine (lineAt c o.line) o) zOp, [], [⟨id, o, beginTold (lineAt c o.line) o⟩], 0)
  else (withLine c o.line (beginLine (lineAt c o.line) o) o, [askMsg (beginLine (lineAt c o.line) o) id home o.line], [], 0)
def hearInv (l : Line) (t : Int) : Line :=
  if l.seen < t then (if l.state = 1 then { l with seen := t, state := 0, value := 0 } else { l with seen := t }) else l
def fetches (l : Line) (t : Int) : Prop := ¬ (t = l.gave ∧ 0 < t) ∧ l.seen < t ∧ (l.state = 2 ∨ l.state = 3)
instance (l : Line) (t : Int) : Decidable (fetches l t) := by unfold fetches; exact inferInstance
def fetched (l : Line) (kind t : Int) : Line :=
  if l.want = 3 then { l with state := 0, value := 0, want := 0, seen := t, gave := t, given := l.value }
  else if kind = 6 then { l with state := 0, value := 0, seen := t, gave := t, given := l.value }
  else { l with state := 1, seen := t, gave := t, given := l.value }
def asked (l : Line) (m : Msg) : Prop := m.serial = l.serial ∧ (l.want = 1 ∧ m.alone = false ∨ l.want = 2 ∧ m.alone = true)
instance (l : Line) (m : Msg) : Decidable (asked l m) := by unfold asked; exact inferInstance
def granted (l : Line) (m : Msg) (o : Op) : Line :=
  { l with state := if m.alone then 2 else 1, value := (opVal m.value o).1, want := 0, seen := m.turn }
def coreHear (c : Core) (id home : Int) (m : Msg) : Core × List Msg × List Done :=
  if m.line < 0 ∨ (c.lines.length : Int) ≤ m.line then (c, [], [])
  else if m.kind = 4 then (withLine c m.line (hearInv (lineAt c m.line) m.turn) c.wait, [toldMsg 8 id home m.line m.turn 0], [])
  else if m.kind = 5 ∨ m.kind = 6 then
    (if fetches (lineAt c m.line) m.turn then
      (withLine c m.line (fetched (lineAt c m.line) m.kind m.turn) (if (lineAt c m.line).want = 3 then zOp else c.wait),
       [toldMsg 9 id home m.line m.turn (lineAt c m.line).value], if (lineAt c m.line).want = 3 then [⟨id, c.wait, 0⟩] else [])
     else if m.turn = (lineAt c m.line).gave ∧ 0 < m.turn then (c, [toldMsg 9 id home m.line (lineAt c m.line).gave (lineAt c m.line).given], [])
     else (c, [], []))
  else if m.kind = 7 then
    (if (lineAt c m.line).serial < m.serial then (c, [], [])
     else if asked (lineAt c m.line) m then
      (withLine c m.line (granted (lineAt c m.line) m c.wait) zOp, [toldMsg 10 id home m.line m.turn 0], [⟨id, c.wait, (opVal m.value c.wait).2⟩])
     else (c, [toldMsg 10 id home m.line m.turn 0], []))
  else if m.kind = 11 ∧ (lineAt c m.line).want = 3 ∧ m.serial = (lineAt c m.line).serial then
    (withLine c m.line { lineAt c m.line with state := 0, value := 0, want := 0 } zOp, [], [⟨id, c.wait, 0⟩])
  else (c, [], [])
def timerFrom (id home : Int) : Int → List Line → List Msg
  | _, [] => []
  | i, l :: r => if l.want ≠ 0 then askMsg l id home i :: timerFrom id home (i + 1) r else timerFrom id home (i + 1) r
def coreTimer (c : Core) (id home : Int) : List Msg := timerFrom id home 0 c.lines

/-! ### The home -/
def hasB (s k : Int) : Bool := s.toNat.testBit k.toNat
def setB (s k : Int) : Int := ((s.toNat ||| (2 ^ k.toNat) : Nat) : Int)
def clrB (s k : Int) : Int := if hasB s k then s - (2 ^ k.toNat : Nat) else s
def says (e : Entry) (line id : Int) : List Msg :=
  if e.phase = 1 then [⟨if e.alone then 6 else 5, id, e.owner, line, 0, e.turn, 0, false⟩]
  else if e.phase = 2 then ([0, 1, 2, 3].filter (fun p => hasB e.need p)).map fun p => ⟨4, id, p, line, 0, e.turn, 0, false⟩
  else if e.phase = 3 then [⟨7, id, e.who, line, e.serial, e.turn, e.value, e.alone⟩]
  else []
def nextE (e : Entry) : Entry :=
  if 0 ≤ e.owner then { e with need := 0, phase := 1 }
  else if e.alone = true ∧ clrB e.sharers e.who ≠ 0 then { e with need := clrB e.sharers e.who, phase := 2 }
  else { e with need := 0, phase := 3 }
def entAt (l : List Entry) (i : Int) : Entry := l.getD i.toNat zEntry
def lastAt (e : Entry) (p : Int) : Int := e.last.getD p.toNat 0
def entGet (e : Entry) (m : Msg) : Entry :=
  nextE { e with last := e.last.set m.src.toNat m.serial, who := m.src, serial := m.serial, alone := m.kind == 2, turn := e.turn + 1 }
def entPut (e : Entry) (m : Msg) : Entry :=
  if lastAt e m.src < m.serial then
    (if e.owner = m.src then { e with last := e.last.set m.src.toNat m.serial, value := m.value, owner := -1 } else { e with last := e.last.set m.src.toNat m.serial })
  else e
def entData (e : Entry) (m : Msg) : Entry :=
  nextE { e with value := m.value, sharers := if e.alone then e.sharers else setB e.sharers e.owner, owner := -1 }
def entGone (e : Entry) (m : Msg) : Entry := { e with need := clrB e.need m.src, sharers := clrB e.sharers m.src }
def entThanks (e : Entry) : Entry :=
  if e.alone then { e with owner := e.who, sharers := 0, phase := 0, who := 0, serial := 0, alone := false }
  else { e with sharers := setB e.sharers e.who, phase := 0, who := 0, serial := 0, alone := false }
/-- What the home's line is behind a message, and what is said. -/
def entHear (e : Entry) (id : Int) (m : Msg) : Entry × List Msg :=
  if m.kind = 1 ∨ m.kind = 2 then
    (if e.phase ≠ 0 ∨ m.serial ≤ lastAt e m.src ∨ 65535 ≤ e.turn then (e, []) else (entGet e m, says (entGet e m) m.line id))
  else if m.kind = 3 then
    (if e.phase ≠ 0 then (e, []) else (entPut e m, [⟨11, id, m.src, m.line, m.serial, 0, 0, false⟩]))
  else if m.kind = 9 ∧ m.turn = e.turn ∧ e.phase = 1 ∧ m.src = e.owner then (entData e m, says (entData e m) m.line id)
  else if m.kind = 8 ∧ m.turn = e.turn ∧ e.phase = 2 ∧ hasB e.need m.src = true then
    (if (entGone e m).need = 0 then (nextE (entGone e m), says (nextE (entGone e m)) m.line id) else (entGone e m, []))
  else if m.kind = 10 ∧ m.turn = e.turn ∧ e.phase = 3 ∧ m.src = e.who then (entThanks e, [])
  else (e, [])
def homeHear (l : List Entry) (id : Int) (m : Msg) : List Entry × List Msg :=
  if m.line < 0 ∨ (l.length : Int) ≤ m.line ∨ m.src < 0 ∨ ((entAt l m.line).last.length : Int) ≤ m.src then (l, [])
  else (l.set m.line.toNat (entHear (entAt l m.line) id m).1, (entHear (entAt l m.line) id m).2)
def saysFrom (id : Int) : Int → List Entry → List Msg
  | _, [] => []
  | i, e :: r => says e i id ++ saysFrom id (i + 1) r
def homeTimer (l : List Entry) (id : Int) : List Msg := saysFrom id 0 l
def homeNew (cores lines : Int) : List Entry := List.replicate lines.toNat { zEntry with last := List.replicate cores.toNat 0 }

/-! ### A chip -/
def cfgWrong (c : Config) : Int := if c.cores < 1 ∨ 4 < c.cores ∨ c.lines < 1 ∨ 4 < c.lines then 3 else 0
def coreNew (lines : Int) : Core := ⟨List.replicate lines.toNat zLine, zOp⟩
def chipNew (c : Config) : Chip × Int :=
  if cfgWrong c ≠ 0 then (zChip, 3) else (⟨List.replicate c.cores.toNat (coreNew c.lines), homeNew c.cores c.lines, []⟩, 0)
def nCores (x : Chip) : Int := (x.cores.length : Int)
def cfgOf (x : Chip) : Config := ⟨nCores x, (x.home.length : Int)⟩
def coreAt (x : Chip) (p : Int) : Core := x.cores.getD p.toNat zCore
def withCore (x : Chip) (p : Int) (c : Core) (l : List Msg) : Chip := ⟨x.cores.set p.toNat c, x.home, way x.frames l⟩
/-- A frame comes: the chip without it hears it. -/
def chipHear (x : Chip) (b : List UInt8) : Chip × List Done :=
  if (msgParse (cfgOf x) b).2 ≠ 0 then (x, [])
  else if (msgParse (cfgOf x) b).1.dst = nCores x then
    (⟨x.cores, (homeHear x.home (nCores x) (msgParse (cfgOf x) b).1).1, way x.frames (homeHear x.home (nCores x) (msgParse (cfgOf x) b).1).2⟩, [])
  else
    (withCore x (msgParse (cfgOf x) b).1.dst (coreHear (coreAt x (msgParse (cfgOf x) b).1.dst) (msgParse (cfgOf x) b).1.dst (nCores x) (msgParse (cfgOf x) b).1).1
      (coreHear (coreAt x (msgParse (cfgOf x) b).1.dst) (msgParse (cfgOf x) b).1.dst (nCores x) (msgParse (cfgOf x) b).1).2.1,
     (coreHear (coreAt x (msgParse (cfgOf x) b).1.dst) (msgParse (cfgOf x) b).1.dst (nCores x) (msgParse (cfgOf x) b).1).2.2)
def noFrame (x : Chip) (n : Int) : Prop := n < 0 ∨ (x.frames.length : Int) ≤ n
instance (x : Chip) (n : Int) : Decidable (noFrame x n) := by unfold noFrame; exact inferInstance
def chipDo (x : Chip) (s : Step) : Chip × List Done × Int :=
  if s.kind = 1 then
    (if s.node < 0 ∨ nCores x ≤ s.node then (zChip, [], 5)
     else if (coreBegin (coreAt x s.node) s.node (nCores x) s.op).2.2.2 ≠ 0 then (zChip, [], (coreBegin (coreAt x s.node) s.node (nCores x) s.op).2.2.2)
     else (withCore x s.node (coreBegin (coreAt x s.node) s.node (nCores x) s.op).1 (coreBegin (coreAt x s.node) s.node (nCores x) s.op).2.1, (coreBegin (coreAt x s.node) s.node (nCores x) s.op).2.2.1, 0))
  else if s.kind = 2 then
    (if noFrame x s.n then (zChip, [], 5)
     else ((chipHear ⟨x.cores, x.home, x.frames.eraseIdx s.n.toNat⟩ (netAt x.frames s.n)).1, (chipHear ⟨x.cores, x.home, x.frames.eraseIdx s.n.toNat⟩ (netAt x.frames s.n)).2, 0))
  else if s.kind = 3 then
    (if noFrame x s.n then (zChip, [], 5) else (⟨x.cores, x.home, x.frames.eraseIdx s.n.toNat⟩, [], 0))
  else if s.kind = 4 then
    (if noFrame x s.n then (zChip, [], 5) else (⟨x.cores, x.home, netSend x.frames (netAt x.frames s.n)⟩, [], 0))
  else if s.kind = 5 then
    (if noFrame x s.n then (zChip, [], 5)
     else if (msgParse (cfgOf x) (netAt x.frames s.n)).2 ≠ 0 then (zChip, [], 6)
     else if (netSpoil x.frames s.n s.bit).2 ≠ 0 then (zChip, [], (netSpoil x.frames s.n s.bit).2)
     else (⟨x.cores, x.home, (netSpoil x.frames s.n s.bit).1⟩, [], 0))
  else if s.kind = 6 then
    (if s.node < 0 ∨ nCores x < s.node then (zChip, [], 5)
     else if s.node = nCores x then (⟨x.cores, x.home, way x.frames (homeTimer x.home s.node)⟩, [], 0)
     else (⟨x.cores, x.home, way x.frames (coreTimer (coreAt x s.node) s.node (nCores x))⟩, [], 0))
  else (zChip, [], 1)
/-- What steps come to; those that don't go are left out. -/
def doAll : Chip → List Step → Chip × List Done
  | x, [] => (x, [])
  | x, s :: r =>
    if (chipDo x s).2.2 = 0 then ((doAll (chipDo x s).1 r).1, (chipDo x s).2.1 ++ (doAll (chipDo x s).1 r).2) else doAll x r
def build (c : Config) (l : List Step) : Chip × List Done :=
  if (chipNew c).2 ≠ 0 then (zChip, []) else doAll (chipNew c).1 (l.take 300)
end Go.Proofs.Ythnokijkdobdfaa
