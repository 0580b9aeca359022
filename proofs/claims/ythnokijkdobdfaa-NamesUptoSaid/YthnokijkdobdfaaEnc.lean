/- This file proves how Go's data of this program lie in memory: numbers, structs, and slices of them. No conditions. -/
import Derived.Test.YthnokijkdobdfaaSep
import Derived.Test.YthnokijkdobdfaaTypes
set_option linter.unusedVariables false
set_option linter.unusedSimpArgs false
namespace Go.Proofs.Ythnokijkdobdfaa
open Go

def maxN : Nat := 16777216
def In64 (x : Int) : Prop := -9223372036854775808 ≤ x ∧ x ≤ 9223372036854775807

/-- Values of a type as cells. -/
class Enc (α : Type) where
  sz : Nat
  rd : α → List Value → Mem → Prop
  mono : ∀ x cs m m', Mem.le m m' → rd x cs m → rd x cs m'
  len : ∀ x cs m, rd x cs m → cs.length = sz
  one : ∀ x cs m, rd x cs m → ∀ u ∈ cs, u.oneCell' = true

abbrev vi (x : Int) : Value := .int .i64 x
abbrev vb (b : UInt8) : Value := .int .u8 (b.toNat : Int)

instance instEncInt : Enc Int where
  sz := 1
  rd x cs _ := cs = [vi x] ∧ In64 x
  mono _ _ _ _ _ h := h
  len x cs _ h := by rw [h.1]; rfl
  one x cs _ h := by rw [h.1]; intro u hu; cases List.mem_singleton.1 hu; rfl
instance instEncByte : Enc UInt8 where
  sz := 1
  rd x cs _ := cs = [vb x]
  mono _ _ _ _ _ h := h
  len x cs _ h := by rw [h]; rfl
  one x cs _ h := by rw [h]; intro u hu; cases List.mem_singleton.1 hu; rfl
instance instEncBool : Enc Bool where
  sz := 1
  rd x cs _ := cs = [.bool x]
  mono _ _ _ _ _ h := h
  len x cs _ h := by rw [h]; rfl
  one x cs _ h := by rw [h]; intro u hu; cases List.mem_singleton.1 hu; rfl

/-- A list's elements as cells, one behind the other. -/
def RdL {α : Type} [Enc α] : List α → List Value → Mem → Prop
  | [], cs, _ => cs = []
  | x :: xs, cs, m => ∃ c1 c2, cs = c1 ++ c2 ∧ Enc.rd x c1 m ∧ RdL xs c2 m

section
variable {α : Type} [Enc α]
theorem RdL.mono {m m' : Mem} (h : Mem.le m m') : ∀ {xs : List α} {cs : List Value}, RdL xs cs m → RdL xs cs m'
  | [], _, hr => hr
  | _ :: _, _, ⟨c1, c2, h1, h2, h3⟩ => ⟨c1, c2, h1, Enc.mono _ _ _ _ h h2, RdL.mono h h3⟩
theorem RdL.len {m : Mem} : ∀ {xs : List α} {cs : List Value}, RdL xs cs m → cs.length = xs.length * Enc.sz α
  | [], _, hr => by rw [show _ = [] from hr]; simp
  | _ :: xs, _, ⟨c1, c2, h1, h2, h3⟩ => by
    rw [h1, List.length_append, Enc.len _ _ _ h2, RdL.len h3, List.length_cons, Nat.succ_mul, Nat.add_comm]
theorem RdL.one {m : Mem} : ∀ {xs : List α} {cs : List Value}, RdL xs cs m → ∀ u ∈ cs, u.oneCell' = true
  | [], _, hr => by rw [show _ = [] from hr]; intro u hu; cases hu
  | _ :: xs, _, ⟨c1, c2, h1, h2, h3⟩ => by
    rw [h1]; intro u hu
    cases List.mem_append.1 hu with
    | inl e => exact Enc.one _ _ _ h2 u e
    | inr e => exact RdL.one h3 u e
theorem RdL.append {m : Mem} {ys : List α} {ds : List Value} (hy : RdL ys ds m) : ∀ {xs : List α} {cs : List Value}, RdL xs cs m → RdL (xs ++ ys) (cs ++ ds) m
  | [], _, hr => by rw [show _ = [] from hr]; exact hy
  | _ :: xs, _, ⟨c1, c2, h1, h2, h3⟩ => ⟨c1, c2 ++ ds, by rw [h1, List.append_assoc], h2, RdL.append hy h3⟩
theorem RdL.single {m : Mem} {x : α} {cs : List Value} (h : Enc.rd x cs m) : RdL [x] cs m := ⟨cs, [], by simp, h, rfl⟩
/-- One element, and what lies on both sides. -/
theorem RdL.get {m : Mem} : ∀ {xs : List α} {cs : List Value} {i : Nat} {x : α}, RdL xs cs m → xs[i]? = some x →
    ∃ p c q, cs = p ++ c ++ q ∧ p.length = i * Enc.sz α ∧ Enc.rd x c m ∧ ∀ y d, Enc.rd y d m → RdL (xs.set i y) (p ++ d ++ q) m
  | [], _, i, x, _, hx => by simp at hx
  | y :: xs, _, 0, x, ⟨c1, c2, h1, h2, h3⟩, hx => by
    have e : y = x := by simpa using hx
    subst e
    exact ⟨[], c1, c2, by simp [h1], by simp, h2, fun z d hd => ⟨d, c2, by simp, hd, h3⟩⟩
  | y :: xs, _, i + 1, x, ⟨c1, c2, h1, h2, h3⟩, hx => by
    have hx' : xs[i]? = some x := by simpa using hx
    obtain ⟨p, c, q, e1, e2, e3, e4⟩ := RdL.get h3 hx'
    refine ⟨c1 ++ p, c, q, by rw [h1, e1]; simp, by rw [List.length_append, Enc.len _ _ _ h2, e2, Nat.succ_mul, Nat.add_comm], e3, fun z d hd => ⟨c1, p ++ d ++ q, by simp, h2, e4 z d hd⟩⟩
/-- The first ones. -/
theorem RdL.split {m : Mem} : ∀ {xs ys : List α} {cs : List Value}, RdL (xs ++ ys) cs m → ∃ a b, cs = a ++ b ∧ RdL xs a m ∧ RdL ys b m
  | [], ys, cs, h => ⟨[], cs, rfl, rfl, h⟩
  | x :: xs, ys, cs, ⟨c1, c2, h1, h2, h3⟩ => by
    obtain ⟨a, b, e1, e2, e3⟩ := RdL.split h3
    exact ⟨c1 ++ a, b, by rw [h1, e1, List.append_assoc], ⟨c1, a, rfl, h2, e2⟩, e3⟩

/-- A value is a slice that holds a list. -/
def isSlice (v : Value) (xs : List α) (m : Mem) : Prop :=
  ∃ base cap, v = .slice base xs.length cap ∧ (xs.length ≤ maxN ∧ xs.length ≤ cap) ∧ (xs ≠ [] → ∃ a cells T fz cs, base = some a ∧ a.spot = none ∧ m (a.block + 1) = some (.ob (.cells cells T fz)) ∧ (cells.toList.drop a.off).take (xs.length * Enc.sz α) = cs ∧ RdL xs cs m)

theorem isSlice.mono {v : Value} {xs : List α} {m m' : Mem} (h : Mem.le m m') (hs : isSlice v xs m) : isSlice v xs m' := by
  obtain ⟨base, cap, hv, hn, hc⟩ := hs
  refine ⟨base, cap, hv, hn, fun hx => ?_⟩
  obtain ⟨a, cells, T, fz, cs, h1, h2, h3, h4, h5⟩ := hc hx
  exact ⟨a, cells, T, fz, cs, h1, h2, h _ _ h3, h4, h5.mono h⟩
theorem isSlice.one {v : Value} {xs : List α} {m : Mem} (hs : isSlice v xs m) : v.oneCell' = true := by
  obtain ⟨base, cap, hv, hn, hc⟩ := hs; rw [hv]; rfl

/-- 'v' is a slice that holds 'xs', for good. -/
def sl (v : Value) (xs : List α) : Fact := ⟨isSlice v xs, fun _ _ h => isSlice.mono h⟩
/-- 'cs' are the cells of 'x', for good. -/
def rdF (x : α) (cs : List Value) : Fact := ⟨Enc.rd x cs, fun _ _ h => Enc.mono _ _ _ _ h⟩
/-- An array of the call's own, behind the slice 'v', that holds 'xs'. -/
def row (T : TypeId) (v : Value) (xs : List α) : Chunk :=
  ⟨fun m i => xs.length ≤ maxN ∧ ((v = .slice none 0 0 ∧ xs = []) ∨ ∃ g cap cur cs, v = .slice (some ⟨g, 0, none⟩) xs.length cap ∧ m (g + 1) = some (.ob (.cells cur T (0, 0))) ∧ xs.length ≤ cap ∧ cap ≤ maxLen ∧
      cur.size = cap * Enc.sz α ∧ cur.toList.take (xs.length * Enc.sz α) = cs ∧ RdL xs cs i),
   fun m i i' h ⟨h0, hp⟩ => ⟨h0, hp.imp id fun ⟨g, cap, cur, cs, h1, h2, h3, h4, h5, h6, h7⟩ => ⟨g, cap, cur, cs, h1, h2, h3, h4, h5, h6, h7.mono h⟩⟩⟩

instance instEncList : Enc (List α) where
  sz := 1
  rd xs cs m := ∃ v, cs = [v] ∧ isSlice v xs m
  mono x cs m m' h := fun ⟨v, h1, h2⟩ => ⟨v, h1, h2.mono h⟩
  len x cs m := fun ⟨v, h1, _⟩ => by rw [h1]; rfl
  one x cs m := fun ⟨v, h1, h2⟩ => by rw [h1]; intro u hu; cases List.mem_singleton.1 hu; exact h2.one
end

def Config.cells (x : Config) : List Value := [vi x.cores, vi x.lines]
def Config.wf (x : Config) : Prop := In64 x.cores ∧ In64 x.lines
instance instEncConfig : Enc Config where
  sz := 2
  rd x cs _ := cs = x.cells ∧ x.wf
  mono _ _ _ _ _ h := h
  len x cs _ h := by rw [h.1]; rfl
  one x cs _ h := by rw [h.1]; simp [Config.cells, Value.oneCell']
def Msg.cells (x : Msg) : List Value := [vi x.kind, vi x.src, vi x.dst, vi x.line, vi x.serial, vi x.turn, vi x.value, .bool x.alone]
def Msg.wf (x : Msg) : Prop := In64 x.kind ∧ In64 x.src ∧ In64 x.dst ∧ In64 x.line ∧ In64 x.serial ∧ In64 x.turn ∧ In64 x.value
instance instEncMsg : Enc Msg where
  sz := 8
  rd x cs _ := cs = x.cells ∧ x.wf
  mono _ _ _ _ _ h := h
  len x cs _ h := by rw [h.1]; rfl
  one x cs _ h := by rw [h.1]; simp [Msg.cells, Value.oneCell']
def Line.cells (x : Line) : List Value := [vi x.state, vi x.value, vi x.want, vi x.serial, vi x.seen, vi x.gave, vi x.given]
def Line.wf (x : Line) : Prop := In64 x.state ∧ In64 x.value ∧ In64 x.want ∧ In64 x.serial ∧ In64 x.seen ∧ In64 x.gave ∧ In64 x.given
instance instEncLine : Enc Line where
  sz := 7
  rd x cs _ := cs = x.cells ∧ x.wf
  mono _ _ _ _ _ h := h
  len x cs _ h := by rw [h.1]; rfl
  one x cs _ h := by rw [h.1]; simp [Line.cells, Value.oneCell']
def Op.cells (x : Op) : List Value := [vi x.kind, vi x.line, vi x.value]
def Op.wf (x : Op) : Prop := In64 x.kind ∧ In64 x.line ∧ In64 x.value
instance instEncOp : Enc Op where
  sz := 3
  rd x cs _ := cs = x.cells ∧ x.wf
  mono _ _ _ _ _ h := h
  len x cs _ h := by rw [h.1]; rfl
  one x cs _ h := by rw [h.1]; simp [Op.cells, Value.oneCell']
def Done.cells (x : Done) : List Value := [vi x.core, vi x.op.kind, vi x.op.line, vi x.op.value, vi x.value]
def Done.wf (x : Done) : Prop := In64 x.core ∧ In64 x.op.kind ∧ In64 x.op.line ∧ In64 x.op.value ∧ In64 x.value
instance instEncDone : Enc Done where
  sz := 5
  rd x cs _ := cs = x.cells ∧ x.wf
  mono _ _ _ _ _ h := h
  len x cs _ h := by rw [h.1]; rfl
  one x cs _ h := by rw [h.1]; simp [Done.cells, Value.oneCell']
def Step.cells (x : Step) : List Value := [vi x.kind, vi x.node, vi x.n, vi x.bit, vi x.op.kind, vi x.op.line, vi x.op.value]
def Step.wf (x : Step) : Prop := In64 x.kind ∧ In64 x.node ∧ In64 x.n ∧ In64 x.bit ∧ In64 x.op.kind ∧ In64 x.op.line ∧ In64 x.op.value
instance instEncStep : Enc Step where
  sz := 7
  rd x cs _ := cs = x.cells ∧ x.wf
  mono _ _ _ _ _ h := h
  len x cs _ h := by rw [h.1]; rfl
  one x cs _ h := by rw [h.1]; simp [Step.cells, Value.oneCell']
def Answer.cells (x : Answer) : List Value := [vi x.err, vi x.done]
def Answer.wf (x : Answer) : Prop := In64 x.err ∧ In64 x.done
instance instEncAnswer : Enc Answer where
  sz := 2
  rd x cs _ := cs = x.cells ∧ x.wf
  mono _ _ _ _ _ h := h
  len x cs _ h := by rw [h.1]; rfl
  one x cs _ h := by rw [h.1]; simp [Answer.cells, Value.oneCell']
def Seen.cells (x : Seen) : List Value := [vi x.states, vi x.bad, .bool x.full]
def Seen.wf (x : Seen) : Prop := In64 x.states ∧ In64 x.bad
instance instEncSeen : Enc Seen where
  sz := 3
  rd x cs _ := cs = x.cells ∧ x.wf
  mono _ _ _ _ _ h := h
  len x cs _ h := by rw [h.1]; rfl
  one x cs _ h := by rw [h.1]; simp [Seen.cells, Value.oneCell']

def Core.cells (v : Value) (x : Core) : List Value := [v, vi x.wait.kind, vi x.wait.line, vi x.wait.value]
instance instEncCore : Enc Core where
  sz := 4
  rd x cs m := ∃ v, cs = x.cells v ∧ isSlice v x.lines m ∧ x.wait.wf
  mono x cs m m' h := fun ⟨v, h1, h2, h3⟩ => ⟨v, h1, h2.mono h, h3⟩
  len x cs m := fun ⟨v, h1, _, _⟩ => by rw [h1]; rfl
  one x cs m := fun ⟨v, h1, h2, _⟩ => by have := h2.one; rw [h1]; simp [Core.cells, Value.oneCell'] at this ⊢; exact this
def Entry.cells (v : Value) (x : Entry) : List Value := [vi x.value, vi x.owner, vi x.sharers, vi x.phase, vi x.who, vi x.serial, .bool x.alone, vi x.turn, vi x.need, v]
def Entry.wf (x : Entry) : Prop := In64 x.value ∧ In64 x.owner ∧ In64 x.sharers ∧ In64 x.phase ∧ In64 x.who ∧ In64 x.serial ∧ In64 x.turn ∧ In64 x.need
instance instEncEntry : Enc Entry where
  sz := 10
  rd x cs m := ∃ v, cs = x.cells v ∧ isSlice v x.last m ∧ x.wf
  mono x cs m m' h := fun ⟨v, h1, h2, h3⟩ => ⟨v, h1, h2.mono h, h3⟩
  len x cs m := fun ⟨v, h1, _, _⟩ => by rw [h1]; rfl
  one x cs m := fun ⟨v, h1, h2, _⟩ => by have := h2.one; rw [h1]; simp [Entry.cells, Value.oneCell'] at this ⊢; exact this
def Chip.cells (a b c : Value) : List Value := [a, b, c]
instance instEncChip : Enc Chip where
  sz := 3
  rd x cs m := ∃ a b c, cs = [a, b, c] ∧ isSlice a x.cores m ∧ isSlice b x.home m ∧ isSlice c x.frames m
  mono x cs m m' h := fun ⟨a, b, c, h1, h2, h3, h4⟩ => ⟨a, b, c, h1, h2.mono h, h3.mono h, h4.mono h⟩
  len x cs m := fun ⟨a, b, c, h1, _⟩ => by rw [h1]; rfl
  one x cs m := fun ⟨a, b, c, h1, h2, h3, h4⟩ => by have e2 := h2.one; have e3 := h3.one; have e4 := h4.one; rw [h1]; simp [Value.oneCell'] at e2 e3 e4 ⊢; exact ⟨e2, e3, e4⟩
instance instEncPair : Enc (Int × Int) where
  sz := 2
  rd x cs _ := cs = [vi x.1, vi x.2] ∧ In64 x.1 ∧ In64 x.2
  mono _ _ _ _ _ h := h
  len x cs _ h := by rw [h.1]; rfl
  one x cs _ h := by rw [h.1]; simp [Value.oneCell']
end Go.Proofs.Ythnokijkdobdfaa
