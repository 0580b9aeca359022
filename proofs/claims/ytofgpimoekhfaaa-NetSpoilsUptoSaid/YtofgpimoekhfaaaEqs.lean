/- This file proves how structs of numbers are compared. No conditions. -/
import Derived.Laws.StructEq
import Derived.Test.YtofgpimoekhfaaaFacts
set_option linter.unusedVariables false
set_option linter.unusedSimpArgs false
set_option maxHeartbeats 1000000
namespace Go.Proofs.Ytofgpimoekhfaaa
open Go
theorem eq_int {P : Program} {t : TypeId} {k : IntKind} {d : Nat} {a b : Int} (ht : P.underlying t = some (.int k)) (w : World) : (Op.equalIn (d + 1) t (.int k a) (.int k b)).run P w = .ok (a == b) w := by
  unfold Op.equalIn; simp [run_und ht]
theorem eq_bool {P : Program} {t : TypeId} {d : Nat} {a b : Bool} (ht : P.underlying t = some .bool) (w : World) : (Op.equalIn (d + 1) t (.bool a) (.bool b)).run P w = .ok (a == b) w := by
  unfold Op.equalIn; simp [run_und ht]
theorem eq_Op (x y : Op) {d : Nat} (w : World) : (Op.equalIn (d + 3) 66 (.agg x.cells.toArray) (.agg y.cells.toArray)).run Try.prog w = .ok (decide (x = y)) w := by
  show (Op.equalIn ((d + 2) + 1) 66 _ _).run _ _ = _
  rw [run_equalIn_struct w (d + 2) 66 _ _ (by kernel_rfl) (by kernel_rfl)]
  have e3 : ∀ (a b : Int) w, (Op.equalIn (d + 2) 3 (vi a) (vi b)).run Try.prog w = .ok (a == b) w := fun a b w => eq_int (d := d + 1) Try.underlying3 w
  simp only [Program.fieldsOf, Try.underlying66]
  simp [Op.eqFields, part, Try.isAgg3, Op.cells, e3]
  cases x; cases y; simp
  repeat' split
  all_goals simp_all
theorem ag_Op (x y : Op) {xo yo : Operand} (op : BinOp) (w : World) : (eqGuard op 66 xo yo (.agg x.cells.toArray) (.agg y.cells.toArray)).run Try.prog w = .ok () w := by
  have h : Try.prog.eqGuardType Try.prog.depth 66 = false := by kernel_rfl
  unfold eqGuard
  cases op <;> simp [h]
theorem be_Op (x y : Op) (w : World) : (binOp .eql 66 (.agg x.cells.toArray) (.agg y.cells.toArray)).run Try.prog w = .ok (.bool (decide (x = y))) w := by
  show (Op.equal 66 (.agg x.cells.toArray) (.agg y.cells.toArray) >>= fun r => Pure.pure (Value.bool r)).run _ w = _
  rw [Sem.run_bind, show Op.equal 66 (.agg x.cells.toArray) (.agg y.cells.toArray) = Op.equalIn (9997 + 3) 66 _ _ from rfl, eq_Op x y w]; rfl
theorem bn_Op (x y : Op) (w : World) : (binOp .neq 66 (.agg x.cells.toArray) (.agg y.cells.toArray)).run Try.prog w = .ok (.bool (!decide (x = y))) w := by
  show (Op.equal 66 (.agg x.cells.toArray) (.agg y.cells.toArray) >>= fun r => Pure.pure (Value.bool (!r))).run _ w = _
  rw [Sem.run_bind, show Op.equal 66 (.agg x.cells.toArray) (.agg y.cells.toArray) = Op.equalIn (9997 + 3) 66 _ _ from rfl, eq_Op x y w]; rfl
theorem be_Op_T {x y : Op} (h : x = y) (w : World) : (binOp .eql 66 (.agg x.cells.toArray) (.agg y.cells.toArray)).run Try.prog w = .ok (.bool true) w := by rw [be_Op, decide_eq_true h]
theorem be_Op_F {x y : Op} (h : x ≠ y) (w : World) : (binOp .eql 66 (.agg x.cells.toArray) (.agg y.cells.toArray)).run Try.prog w = .ok (.bool false) w := by rw [be_Op, decide_eq_false h]
theorem bn_Op_T {x y : Op} (h : x ≠ y) (w : World) : (binOp .neq 66 (.agg x.cells.toArray) (.agg y.cells.toArray)).run Try.prog w = .ok (.bool true) w := by rw [bn_Op, decide_eq_false h]; rfl
theorem bn_Op_F {x y : Op} (h : x = y) (w : World) : (binOp .neq 66 (.agg x.cells.toArray) (.agg y.cells.toArray)).run Try.prog w = .ok (.bool false) w := by rw [bn_Op, decide_eq_true h]; rfl
theorem eq_Msg (x y : Msg) {d : Nat} (w : World) : (Op.equalIn (d + 3) 42 (.agg x.cells.toArray) (.agg y.cells.toArray)).run Try.prog w = .ok (decide (x = y)) w := by
  show (Op.equalIn ((d + 2) + 1) 42 _ _).run _ _ = _
  rw [run_equalIn_struct w (d + 2) 42 _ _ (by kernel_rfl) (by kernel_rfl)]
  have e3 : ∀ (a b : Int) w, (Op.equalIn (d + 2) 3 (vi a) (vi b)).run Try.prog w = .ok (a == b) w := fun a b w => eq_int (d := d + 1) Try.underlying3 w
  have e4 : ∀ (a b : Bool) w, (Op.equalIn (d + 2) 4 (.bool a) (.bool b)).run Try.prog w = .ok (a == b) w := fun a b w => eq_bool (d := d + 1) Try.underlying4 w
  simp only [Program.fieldsOf, Try.underlying42]
  simp [Op.eqFields, part, Try.isAgg3, Try.isAgg4, Msg.cells, e3, e4]
  cases x; cases y; simp
  repeat' split
  all_goals simp_all
theorem ag_Msg (x y : Msg) {xo yo : Operand} (op : BinOp) (w : World) : (eqGuard op 42 xo yo (.agg x.cells.toArray) (.agg y.cells.toArray)).run Try.prog w = .ok () w := by
  have h : Try.prog.eqGuardType Try.prog.depth 42 = false := by kernel_rfl
  unfold eqGuard
  cases op <;> simp [h]
theorem be_Msg (x y : Msg) (w : World) : (binOp .eql 42 (.agg x.cells.toArray) (.agg y.cells.toArray)).run Try.prog w = .ok (.bool (decide (x = y))) w := by
  show (Op.equal 42 (.agg x.cells.toArray) (.agg y.cells.toArray) >>= fun r => Pure.pure (Value.bool r)).run _ w = _
  rw [Sem.run_bind, show Op.equal 42 (.agg x.cells.toArray) (.agg y.cells.toArray) = Op.equalIn (9997 + 3) 42 _ _ from rfl, eq_Msg x y w]; rfl
theorem bn_Msg (x y : Msg) (w : World) : (binOp .neq 42 (.agg x.cells.toArray) (.agg y.cells.toArray)).run Try.prog w = .ok (.bool (!decide (x = y))) w := by
  show (Op.equal 42 (.agg x.cells.toArray) (.agg y.cells.toArray) >>= fun r => Pure.pure (Value.bool (!r))).run _ w = _
  rw [Sem.run_bind, show Op.equal 42 (.agg x.cells.toArray) (.agg y.cells.toArray) = Op.equalIn (9997 + 3) 42 _ _ from rfl, eq_Msg x y w]; rfl
theorem be_Msg_T {x y : Msg} (h : x = y) (w : World) : (binOp .eql 42 (.agg x.cells.toArray) (.agg y.cells.toArray)).run Try.prog w = .ok (.bool true) w := by rw [be_Msg, decide_eq_true h]
theorem be_Msg_F {x y : Msg} (h : x ≠ y) (w : World) : (binOp .eql 42 (.agg x.cells.toArray) (.agg y.cells.toArray)).run Try.prog w = .ok (.bool false) w := by rw [be_Msg, decide_eq_false h]
theorem bn_Msg_T {x y : Msg} (h : x ≠ y) (w : World) : (binOp .neq 42 (.agg x.cells.toArray) (.agg y.cells.toArray)).run Try.prog w = .ok (.bool true) w := by rw [bn_Msg, decide_eq_false h]; rfl
theorem bn_Msg_F {x y : Msg} (h : x = y) (w : World) : (binOp .neq 42 (.agg x.cells.toArray) (.agg y.cells.toArray)).run Try.prog w = .ok (.bool false) w := by rw [bn_Msg, decide_eq_true h]; rfl
theorem eq_Line (x y : Line) {d : Nat} (w : World) : (Op.equalIn (d + 3) 82 (.agg x.cells.toArray) (.agg y.cells.toArray)).run Try.prog w = .ok (decide (x = y)) w := by
  show (Op.equalIn ((d + 2) + 1) 82 _ _).run _ _ = _
  rw [run_equalIn_struct w (d + 2) 82 _ _ (by kernel_rfl) (by kernel_rfl)]
  have e3 : ∀ (a b : Int) w, (Op.equalIn (d + 2) 3 (vi a) (vi b)).run Try.prog w = .ok (a == b) w := fun a b w => eq_int (d := d + 1) Try.underlying3 w
  simp only [Program.fieldsOf, Try.underlying82]
  simp [Op.eqFields, part, Try.isAgg3, Line.cells, e3]
  cases x; cases y; simp
  repeat' split
  all_goals simp_all
theorem ag_Line (x y : Line) {xo yo : Operand} (op : BinOp) (w : World) : (eqGuard op 82 xo yo (.agg x.cells.toArray) (.agg y.cells.toArray)).run Try.prog w = .ok () w := by
  have h : Try.prog.eqGuardType Try.prog.depth 82 = false := by kernel_rfl
  unfold eqGuard
  cases op <;> simp [h]
theorem be_Line (x y : Line) (w : World) : (binOp .eql 82 (.agg x.cells.toArray) (.agg y.cells.toArray)).run Try.prog w = .ok (.bool (decide (x = y))) w := by
  show (Op.equal 82 (.agg x.cells.toArray) (.agg y.cells.toArray) >>= fun r => Pure.pure (Value.bool r)).run _ w = _
  rw [Sem.run_bind, show Op.equal 82 (.agg x.cells.toArray) (.agg y.cells.toArray) = Op.equalIn (9997 + 3) 82 _ _ from rfl, eq_Line x y w]; rfl
theorem bn_Line (x y : Line) (w : World) : (binOp .neq 82 (.agg x.cells.toArray) (.agg y.cells.toArray)).run Try.prog w = .ok (.bool (!decide (x = y))) w := by
  show (Op.equal 82 (.agg x.cells.toArray) (.agg y.cells.toArray) >>= fun r => Pure.pure (Value.bool (!r))).run _ w = _
  rw [Sem.run_bind, show Op.equal 82 (.agg x.cells.toArray) (.agg y.cells.toArray) = Op.equalIn (9997 + 3) 82 _ _ from rfl, eq_Line x y w]; rfl
theorem be_Line_T {x y : Line} (h : x = y) (w : World) : (binOp .eql 82 (.agg x.cells.toArray) (.agg y.cells.toArray)).run Try.prog w = .ok (.bool true) w := by rw [be_Line, decide_eq_true h]
theorem be_Line_F {x y : Line} (h : x ≠ y) (w : World) : (binOp .eql 82 (.agg x.cells.toArray) (.agg y.cells.toArray)).run Try.prog w = .ok (.bool false) w := by rw [be_Line, decide_eq_false h]
theorem bn_Line_T {x y : Line} (h : x ≠ y) (w : World) : (binOp .neq 82 (.agg x.cells.toArray) (.agg y.cells.toArray)).run Try.prog w = .ok (.bool true) w := by rw [bn_Line, decide_eq_false h]; rfl
theorem bn_Line_F {x y : Line} (h : x = y) (w : World) : (binOp .neq 82 (.agg x.cells.toArray) (.agg y.cells.toArray)).run Try.prog w = .ok (.bool false) w := by rw [bn_Line, decide_eq_true h]; rfl
theorem eq_Done (x y : Done) {d : Nat} (w : World) : (Op.equalIn (d + 4) 84 (.agg x.cells.toArray) (.agg y.cells.toArray)).run Try.prog w = .ok (decide (x = y)) w := by
  show (Op.equalIn ((d + 3) + 1) 84 _ _).run _ _ = _
  rw [run_equalIn_struct w (d + 3) 84 _ _ (by kernel_rfl) (by kernel_rfl)]
  have e3 : ∀ (a b : Int) w, (Op.equalIn (d + 3) 3 (vi a) (vi b)).run Try.prog w = .ok (a == b) w := fun a b w => eq_int (d := d + 2) Try.underlying3 w
  have e66 : ∀ (a b : Op) w, (Op.equalIn (d + 3) 66 (.agg a.cells.toArray) (.agg b.cells.toArray)).run Try.prog w = .ok (decide (a = b)) w := fun a b w => eq_Op a b (d := d) w
  simp only [Program.fieldsOf, Try.underlying84]
  have p1 : ∀ (a b c : Int), (#[vi a, vi b, vi c] : Array Value) = (Op.mk a b c).cells.toArray := fun _ _ _ => rfl
  cases x with | mk x0 x1 x2 =>
  cases y with | mk y0 y1 y2 =>
  cases x1 with | mk xa xb xc =>
  cases y1 with | mk ya yb yc =>
  simp [Op.eqFields, part, Try.isAgg3, Try.isAgg66, Try.sizeOf66, Done.cells]
  simp [p1, e3, e66]
  repeat' split
  all_goals simp_all
theorem ag_Done (x y : Done) {xo yo : Operand} (op : BinOp) (w : World) : (eqGuard op 84 xo yo (.agg x.cells.toArray) (.agg y.cells.toArray)).run Try.prog w = .ok () w := by
  have h : Try.prog.eqGuardType Try.prog.depth 84 = false := by kernel_rfl
  unfold eqGuard
  cases op <;> simp [h]
theorem be_Done (x y : Done) (w : World) : (binOp .eql 84 (.agg x.cells.toArray) (.agg y.cells.toArray)).run Try.prog w = .ok (.bool (decide (x = y))) w := by
  show (Op.equal 84 (.agg x.cells.toArray) (.agg y.cells.toArray) >>= fun r => Pure.pure (Value.bool r)).run _ w = _
  rw [Sem.run_bind, show Op.equal 84 (.agg x.cells.toArray) (.agg y.cells.toArray) = Op.equalIn (9996 + 4) 84 _ _ from rfl, eq_Done x y w]; rfl
theorem bn_Done (x y : Done) (w : World) : (binOp .neq 84 (.agg x.cells.toArray) (.agg y.cells.toArray)).run Try.prog w = .ok (.bool (!decide (x = y))) w := by
  show (Op.equal 84 (.agg x.cells.toArray) (.agg y.cells.toArray) >>= fun r => Pure.pure (Value.bool (!r))).run _ w = _
  rw [Sem.run_bind, show Op.equal 84 (.agg x.cells.toArray) (.agg y.cells.toArray) = Op.equalIn (9996 + 4) 84 _ _ from rfl, eq_Done x y w]; rfl
theorem be_Done_T {x y : Done} (h : x = y) (w : World) : (binOp .eql 84 (.agg x.cells.toArray) (.agg y.cells.toArray)).run Try.prog w = .ok (.bool true) w := by rw [be_Done, decide_eq_true h]
theorem be_Done_F {x y : Done} (h : x ≠ y) (w : World) : (binOp .eql 84 (.agg x.cells.toArray) (.agg y.cells.toArray)).run Try.prog w = .ok (.bool false) w := by rw [be_Done, decide_eq_false h]
theorem bn_Done_T {x y : Done} (h : x ≠ y) (w : World) : (binOp .neq 84 (.agg x.cells.toArray) (.agg y.cells.toArray)).run Try.prog w = .ok (.bool true) w := by rw [bn_Done, decide_eq_false h]; rfl
theorem bn_Done_F {x y : Done} (h : x = y) (w : World) : (binOp .neq 84 (.agg x.cells.toArray) (.agg y.cells.toArray)).run Try.prog w = .ok (.bool false) w := by rw [bn_Done, decide_eq_true h]; rfl
theorem eq_Step (x y : Step) {d : Nat} (w : World) : (Op.equalIn (d + 4) 98 (.agg x.cells.toArray) (.agg y.cells.toArray)).run Try.prog w = .ok (decide (x = y)) w := by
  show (Op.equalIn ((d + 3) + 1) 98 _ _).run _ _ = _
  rw [run_equalIn_struct w (d + 3) 98 _ _ (by kernel_rfl) (by kernel_rfl)]
  have e3 : ∀ (a b : Int) w, (Op.equalIn (d + 3) 3 (vi a) (vi b)).run Try.prog w = .ok (a == b) w := fun a b w => eq_int (d := d + 2) Try.underlying3 w
  have e66 : ∀ (a b : Op) w, (Op.equalIn (d + 3) 66 (.agg a.cells.toArray) (.agg b.cells.toArray)).run Try.prog w = .ok (decide (a = b)) w := fun a b w => eq_Op a b (d := d) w
  simp only [Program.fieldsOf, Try.underlying98]
  have p1 : ∀ (a b c : Int), (#[vi a, vi b, vi c] : Array Value) = (Op.mk a b c).cells.toArray := fun _ _ _ => rfl
  cases x with | mk x0 x1 x2 x3 x4 =>
  cases y with | mk y0 y1 y2 y3 y4 =>
  cases x4 with | mk xa xb xc =>
  cases y4 with | mk ya yb yc =>
  simp [Op.eqFields, part, Try.isAgg3, Try.isAgg66, Try.sizeOf66, Step.cells]
  simp [p1, e3, e66]
  repeat' split
  all_goals simp_all
theorem ag_Step (x y : Step) {xo yo : Operand} (op : BinOp) (w : World) : (eqGuard op 98 xo yo (.agg x.cells.toArray) (.agg y.cells.toArray)).run Try.prog w = .ok () w := by
  have h : Try.prog.eqGuardType Try.prog.depth 98 = false := by kernel_rfl
  unfold eqGuard
  cases op <;> simp [h]
theorem be_Step (x y : Step) (w : World) : (binOp .eql 98 (.agg x.cells.toArray) (.agg y.cells.toArray)).run Try.prog w = .ok (.bool (decide (x = y))) w := by
  show (Op.equal 98 (.agg x.cells.toArray) (.agg y.cells.toArray) >>= fun r => Pure.pure (Value.bool r)).run _ w = _
  rw [Sem.run_bind, show Op.equal 98 (.agg x.cells.toArray) (.agg y.cells.toArray) = Op.equalIn (9996 + 4) 98 _ _ from rfl, eq_Step x y w]; rfl
theorem bn_Step (x y : Step) (w : World) : (binOp .neq 98 (.agg x.cells.toArray) (.agg y.cells.toArray)).run Try.prog w = .ok (.bool (!decide (x = y))) w := by
  show (Op.equal 98 (.agg x.cells.toArray) (.agg y.cells.toArray) >>= fun r => Pure.pure (Value.bool (!r))).run _ w = _
  rw [Sem.run_bind, show Op.equal 98 (.agg x.cells.toArray) (.agg y.cells.toArray) = Op.equalIn (9996 + 4) 98 _ _ from rfl, eq_Step x y w]; rfl
theorem be_Step_T {x y : Step} (h : x = y) (w : World) : (binOp .eql 98 (.agg x.cells.toArray) (.agg y.cells.toArray)).run Try.prog w = .ok (.bool true) w := by rw [be_Step, decide_eq_true h]
theorem be_Step_F {x y : Step} (h : x ≠ y) (w : World) : (binOp .eql 98 (.agg x.cells.toArray) (.agg y.cells.toArray)).run Try.prog w = .ok (.bool false) w := by rw [be_Step, decide_eq_false h]
theorem bn_Step_T {x y : Step} (h : x ≠ y) (w : World) : (binOp .neq 98 (.agg x.cells.toArray) (.agg y.cells.toArray)).run Try.prog w = .ok (.bool true) w := by rw [bn_Step, decide_eq_false h]; rfl
theorem bn_Step_F {x y : Step} (h : x = y) (w : World) : (binOp .neq 98 (.agg x.cells.toArray) (.agg y.cells.toArray)).run Try.prog w = .ok (.bool false) w := by rw [bn_Step, decide_eq_true h]; rfl
end Go.Proofs.Ytofgpimoekhfaaa
