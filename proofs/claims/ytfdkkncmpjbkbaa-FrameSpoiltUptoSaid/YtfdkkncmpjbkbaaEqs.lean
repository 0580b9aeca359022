/- This file proves how structs of numbers are compared. No conditions. -/
import Derived.Laws.StructEq
import Derived.Test.YtfdkkncmpjbkbaaFacts
set_option linter.unusedVariables false
set_option linter.unusedSimpArgs false
set_option maxHeartbeats 1000000
namespace Go.Proofs.Ytfdkkncmpjbkbaa
open Go
theorem eq_int {P : Program} {t : TypeId} {k : IntKind} {d : Nat} {a b : Int} (ht : P.underlying t = some (.int k)) (w : World) : (Op.equalIn (d + 1) t (.int k a) (.int k b)).run P w = .ok (a == b) w := by
  unfold Op.equalIn; simp [run_und ht]
theorem eq_bool {P : Program} {t : TypeId} {d : Nat} {a b : Bool} (ht : P.underlying t = some .bool) (w : World) : (Op.equalIn (d + 1) t (.bool a) (.bool b)).run P w = .ok (a == b) w := by
  unfold Op.equalIn; simp [run_und ht]
theorem eq_Op (x y : Op) {d : Nat} (w : World) : (Op.equalIn (d + 3) 24 (.agg x.cells.toArray) (.agg y.cells.toArray)).run Try.prog w = .ok (decide (x = y)) w := by
  show (Op.equalIn ((d + 2) + 1) 24 _ _).run _ _ = _
  rw [run_equalIn_struct w (d + 2) 24 _ _ (by kernel_rfl) (by kernel_rfl)]
  have e3 : ∀ (a b : Int) w, (Op.equalIn (d + 2) 3 (vi a) (vi b)).run Try.prog w = .ok (a == b) w := fun a b w => eq_int (d := d + 1) Try.underlying3 w
  simp only [Program.fieldsOf, Try.underlying24]
  simp [Op.eqFields, part, Try.isAgg3, Op.cells, e3]
  cases x; cases y; simp
  repeat' split
  all_goals simp_all
theorem ag_Op (x y : Op) {xo yo : Operand} (op : BinOp) (w : World) : (eqGuard op 24 xo yo (.agg x.cells.toArray) (.agg y.cells.toArray)).run Try.prog w = .ok () w := by
  have h : Try.prog.eqGuardType Try.prog.depth 24 = false := by kernel_rfl
  unfold eqGuard
  cases op <;> simp [h]
theorem be_Op (x y : Op) (w : World) : (binOp .eql 24 (.agg x.cells.toArray) (.agg y.cells.toArray)).run Try.prog w = .ok (.bool (decide (x = y))) w := by
  show (Op.equal 24 (.agg x.cells.toArray) (.agg y.cells.toArray) >>= fun r => Pure.pure (Value.bool r)).run _ w = _
  rw [Sem.run_bind, show Op.equal 24 (.agg x.cells.toArray) (.agg y.cells.toArray) = Op.equalIn (9997 + 3) 24 _ _ from rfl, eq_Op x y w]; rfl
theorem bn_Op (x y : Op) (w : World) : (binOp .neq 24 (.agg x.cells.toArray) (.agg y.cells.toArray)).run Try.prog w = .ok (.bool (!decide (x = y))) w := by
  show (Op.equal 24 (.agg x.cells.toArray) (.agg y.cells.toArray) >>= fun r => Pure.pure (Value.bool (!r))).run _ w = _
  rw [Sem.run_bind, show Op.equal 24 (.agg x.cells.toArray) (.agg y.cells.toArray) = Op.equalIn (9997 + 3) 24 _ _ from rfl, eq_Op x y w]; rfl
theorem be_Op_T {x y : Op} (h : x = y) (w : World) : (binOp .eql 24 (.agg x.cells.toArray) (.agg y.cells.toArray)).run Try.prog w = .ok (.bool true) w := by rw [be_Op, decide_eq_true h]
theorem be_Op_F {x y : Op} (h : x ≠ y) (w : World) : (binOp .eql 24 (.agg x.cells.toArray) (.agg y.cells.toArray)).run Try.prog w = .ok (.bool false) w := by rw [be_Op, decide_eq_false h]
theorem bn_Op_T {x y : Op} (h : x ≠ y) (w : World) : (binOp .neq 24 (.agg x.cells.toArray) (.agg y.cells.toArray)).run Try.prog w = .ok (.bool true) w := by rw [bn_Op, decide_eq_false h]; rfl
theorem bn_Op_F {x y : Op} (h : x = y) (w : World) : (binOp .neq 24 (.agg x.cells.toArray) (.agg y.cells.toArray)).run Try.prog w = .ok (.bool false) w := by rw [bn_Op, decide_eq_true h]; rfl
theorem eq_Msg (x y : Msg) {d : Nat} (w : World) : (Op.equalIn (d + 3) 39 (.agg x.cells.toArray) (.agg y.cells.toArray)).run Try.prog w = .ok (decide (x = y)) w := by
  show (Op.equalIn ((d + 2) + 1) 39 _ _).run _ _ = _
  rw [run_equalIn_struct w (d + 2) 39 _ _ (by kernel_rfl) (by kernel_rfl)]
  have e3 : ∀ (a b : Int) w, (Op.equalIn (d + 2) 3 (vi a) (vi b)).run Try.prog w = .ok (a == b) w := fun a b w => eq_int (d := d + 1) Try.underlying3 w
  have e4 : ∀ (a b : Bool) w, (Op.equalIn (d + 2) 4 (.bool a) (.bool b)).run Try.prog w = .ok (a == b) w := fun a b w => eq_bool (d := d + 1) Try.underlying4 w
  simp only [Program.fieldsOf, Try.underlying39]
  simp [Op.eqFields, part, Try.isAgg3, Try.isAgg4, Msg.cells, e3, e4]
  cases x; cases y; simp
  repeat' split
  all_goals simp_all
theorem ag_Msg (x y : Msg) {xo yo : Operand} (op : BinOp) (w : World) : (eqGuard op 39 xo yo (.agg x.cells.toArray) (.agg y.cells.toArray)).run Try.prog w = .ok () w := by
  have h : Try.prog.eqGuardType Try.prog.depth 39 = false := by kernel_rfl
  unfold eqGuard
  cases op <;> simp [h]
theorem be_Msg (x y : Msg) (w : World) : (binOp .eql 39 (.agg x.cells.toArray) (.agg y.cells.toArray)).run Try.prog w = .ok (.bool (decide (x = y))) w := by
  show (Op.equal 39 (.agg x.cells.toArray) (.agg y.cells.toArray) >>= fun r => Pure.pure (Value.bool r)).run _ w = _
  rw [Sem.run_bind, show Op.equal 39 (.agg x.cells.toArray) (.agg y.cells.toArray) = Op.equalIn (9997 + 3) 39 _ _ from rfl, eq_Msg x y w]; rfl
theorem bn_Msg (x y : Msg) (w : World) : (binOp .neq 39 (.agg x.cells.toArray) (.agg y.cells.toArray)).run Try.prog w = .ok (.bool (!decide (x = y))) w := by
  show (Op.equal 39 (.agg x.cells.toArray) (.agg y.cells.toArray) >>= fun r => Pure.pure (Value.bool (!r))).run _ w = _
  rw [Sem.run_bind, show Op.equal 39 (.agg x.cells.toArray) (.agg y.cells.toArray) = Op.equalIn (9997 + 3) 39 _ _ from rfl, eq_Msg x y w]; rfl
theorem be_Msg_T {x y : Msg} (h : x = y) (w : World) : (binOp .eql 39 (.agg x.cells.toArray) (.agg y.cells.toArray)).run Try.prog w = .ok (.bool true) w := by rw [be_Msg, decide_eq_true h]
theorem be_Msg_F {x y : Msg} (h : x ≠ y) (w : World) : (binOp .eql 39 (.agg x.cells.toArray) (.agg y.cells.toArray)).run Try.prog w = .ok (.bool false) w := by rw [be_Msg, decide_eq_false h]
theorem bn_Msg_T {x y : Msg} (h : x ≠ y) (w : World) : (binOp .neq 39 (.agg x.cells.toArray) (.agg y.cells.toArray)).run Try.prog w = .ok (.bool true) w := by rw [bn_Msg, decide_eq_false h]; rfl
theorem bn_Msg_F {x y : Msg} (h : x = y) (w : World) : (binOp .neq 39 (.agg x.cells.toArray) (.agg y.cells.toArray)).run Try.prog w = .ok (.bool false) w := by rw [bn_Msg, decide_eq_true h]; rfl
theorem eq_Line (x y : Line) {d : Nat} (w : World) : (Op.equalIn (d + 3) 98 (.agg x.cells.toArray) (.agg y.cells.toArray)).run Try.prog w = .ok (decide (x = y)) w := by
  show (Op.equalIn ((d + 2) + 1) 98 _ _).run _ _ = _
  rw [run_equalIn_struct w (d + 2) 98 _ _ (by kernel_rfl) (by kernel_rfl)]
  have e3 : ∀ (a b : Int) w, (Op.equalIn (d + 2) 3 (vi a) (vi b)).run Try.prog w = .ok (a == b) w := fun a b w => eq_int (d := d + 1) Try.underlying3 w
  simp only [Program.fieldsOf, Try.underlying98]
  simp [Op.eqFields, part, Try.isAgg3, Line.cells, e3]
  cases x; cases y; simp
  repeat' split
  all_goals simp_all
theorem ag_Line (x y : Line) {xo yo : Operand} (op : BinOp) (w : World) : (eqGuard op 98 xo yo (.agg x.cells.toArray) (.agg y.cells.toArray)).run Try.prog w = .ok () w := by
  have h : Try.prog.eqGuardType Try.prog.depth 98 = false := by kernel_rfl
  unfold eqGuard
  cases op <;> simp [h]
theorem be_Line (x y : Line) (w : World) : (binOp .eql 98 (.agg x.cells.toArray) (.agg y.cells.toArray)).run Try.prog w = .ok (.bool (decide (x = y))) w := by
  show (Op.equal 98 (.agg x.cells.toArray) (.agg y.cells.toArray) >>= fun r => Pure.pure (Value.bool r)).run _ w = _
  rw [Sem.run_bind, show Op.equal 98 (.agg x.cells.toArray) (.agg y.cells.toArray) = Op.equalIn (9997 + 3) 98 _ _ from rfl, eq_Line x y w]; rfl
theorem bn_Line (x y : Line) (w : World) : (binOp .neq 98 (.agg x.cells.toArray) (.agg y.cells.toArray)).run Try.prog w = .ok (.bool (!decide (x = y))) w := by
  show (Op.equal 98 (.agg x.cells.toArray) (.agg y.cells.toArray) >>= fun r => Pure.pure (Value.bool (!r))).run _ w = _
  rw [Sem.run_bind, show Op.equal 98 (.agg x.cells.toArray) (.agg y.cells.toArray) = Op.equalIn (9997 + 3) 98 _ _ from rfl, eq_Line x y w]; rfl
theorem be_Line_T {x y : Line} (h : x = y) (w : World) : (binOp .eql 98 (.agg x.cells.toArray) (.agg y.cells.toArray)).run Try.prog w = .ok (.bool true) w := by rw [be_Line, decide_eq_true h]
theorem be_Line_F {x y : Line} (h : x ≠ y) (w : World) : (binOp .eql 98 (.agg x.cells.toArray) (.agg y.cells.toArray)).run Try.prog w = .ok (.bool false) w := by rw [be_Line, decide_eq_false h]
theorem bn_Line_T {x y : Line} (h : x ≠ y) (w : World) : (binOp .neq 98 (.agg x.cells.toArray) (.agg y.cells.toArray)).run Try.prog w = .ok (.bool true) w := by rw [bn_Line, decide_eq_false h]; rfl
theorem bn_Line_F {x y : Line} (h : x = y) (w : World) : (binOp .neq 98 (.agg x.cells.toArray) (.agg y.cells.toArray)).run Try.prog w = .ok (.bool false) w := by rw [bn_Line, decide_eq_true h]; rfl
theorem eq_Done (x y : Done) {d : Nat} (w : World) : (Op.equalIn (d + 4) 100 (.agg x.cells.toArray) (.agg y.cells.toArray)).run Try.prog w = .ok (decide (x = y)) w := by
  show (Op.equalIn ((d + 3) + 1) 100 _ _).run _ _ = _
  rw [run_equalIn_struct w (d + 3) 100 _ _ (by kernel_rfl) (by kernel_rfl)]
  have e3 : ∀ (a b : Int) w, (Op.equalIn (d + 3) 3 (vi a) (vi b)).run Try.prog w = .ok (a == b) w := fun a b w => eq_int (d := d + 2) Try.underlying3 w
  have e24 : ∀ (a b : Op) w, (Op.equalIn (d + 3) 24 (.agg a.cells.toArray) (.agg b.cells.toArray)).run Try.prog w = .ok (decide (a = b)) w := fun a b w => eq_Op a b (d := d) w
  simp only [Program.fieldsOf, Try.underlying100]
  have p1 : ∀ (a b c : Int), (#[vi a, vi b, vi c] : Array Value) = (Op.mk a b c).cells.toArray := fun _ _ _ => rfl
  cases x with | mk x0 x1 x2 =>
  cases y with | mk y0 y1 y2 =>
  cases x1 with | mk xa xb xc =>
  cases y1 with | mk ya yb yc =>
  simp [Op.eqFields, part, Try.isAgg3, Try.isAgg24, Try.sizeOf24, Done.cells]
  simp [p1, e3, e24]
  repeat' split
  all_goals simp_all
theorem ag_Done (x y : Done) {xo yo : Operand} (op : BinOp) (w : World) : (eqGuard op 100 xo yo (.agg x.cells.toArray) (.agg y.cells.toArray)).run Try.prog w = .ok () w := by
  have h : Try.prog.eqGuardType Try.prog.depth 100 = false := by kernel_rfl
  unfold eqGuard
  cases op <;> simp [h]
theorem be_Done (x y : Done) (w : World) : (binOp .eql 100 (.agg x.cells.toArray) (.agg y.cells.toArray)).run Try.prog w = .ok (.bool (decide (x = y))) w := by
  show (Op.equal 100 (.agg x.cells.toArray) (.agg y.cells.toArray) >>= fun r => Pure.pure (Value.bool r)).run _ w = _
  rw [Sem.run_bind, show Op.equal 100 (.agg x.cells.toArray) (.agg y.cells.toArray) = Op.equalIn (9996 + 4) 100 _ _ from rfl, eq_Done x y w]; rfl
theorem bn_Done (x y : Done) (w : World) : (binOp .neq 100 (.agg x.cells.toArray) (.agg y.cells.toArray)).run Try.prog w = .ok (.bool (!decide (x = y))) w := by
  show (Op.equal 100 (.agg x.cells.toArray) (.agg y.cells.toArray) >>= fun r => Pure.pure (Value.bool (!r))).run _ w = _
  rw [Sem.run_bind, show Op.equal 100 (.agg x.cells.toArray) (.agg y.cells.toArray) = Op.equalIn (9996 + 4) 100 _ _ from rfl, eq_Done x y w]; rfl
theorem be_Done_T {x y : Done} (h : x = y) (w : World) : (binOp .eql 100 (.agg x.cells.toArray) (.agg y.cells.toArray)).run Try.prog w = .ok (.bool true) w := by rw [be_Done, decide_eq_true h]
theorem be_Done_F {x y : Done} (h : x ≠ y) (w : World) : (binOp .eql 100 (.agg x.cells.toArray) (.agg y.cells.toArray)).run Try.prog w = .ok (.bool false) w := by rw [be_Done, decide_eq_false h]
theorem bn_Done_T {x y : Done} (h : x ≠ y) (w : World) : (binOp .neq 100 (.agg x.cells.toArray) (.agg y.cells.toArray)).run Try.prog w = .ok (.bool true) w := by rw [bn_Done, decide_eq_false h]; rfl
theorem bn_Done_F {x y : Done} (h : x = y) (w : World) : (binOp .neq 100 (.agg x.cells.toArray) (.agg y.cells.toArray)).run Try.prog w = .ok (.bool false) w := by rw [bn_Done, decide_eq_true h]; rfl
theorem eq_Step (x y : Step) {d : Nat} (w : World) : (Op.equalIn (d + 4) 106 (.agg x.cells.toArray) (.agg y.cells.toArray)).run Try.prog w = .ok (decide (x = y)) w := by
  show (Op.equalIn ((d + 3) + 1) 106 _ _).run _ _ = _
  rw [run_equalIn_struct w (d + 3) 106 _ _ (by kernel_rfl) (by kernel_rfl)]
  have e3 : ∀ (a b : Int) w, (Op.equalIn (d + 3) 3 (vi a) (vi b)).run Try.prog w = .ok (a == b) w := fun a b w => eq_int (d := d + 2) Try.underlying3 w
  have e24 : ∀ (a b : Op) w, (Op.equalIn (d + 3) 24 (.agg a.cells.toArray) (.agg b.cells.toArray)).run Try.prog w = .ok (decide (a = b)) w := fun a b w => eq_Op a b (d := d) w
  simp only [Program.fieldsOf, Try.underlying106]
  have p1 : ∀ (a b c : Int), (#[vi a, vi b, vi c] : Array Value) = (Op.mk a b c).cells.toArray := fun _ _ _ => rfl
  cases x with | mk x0 x1 x2 x3 x4 =>
  cases y with | mk y0 y1 y2 y3 y4 =>
  cases x4 with | mk xa xb xc =>
  cases y4 with | mk ya yb yc =>
  simp [Op.eqFields, part, Try.isAgg3, Try.isAgg24, Try.sizeOf24, Step.cells]
  simp [p1, e3, e24]
  repeat' split
  all_goals simp_all
theorem ag_Step (x y : Step) {xo yo : Operand} (op : BinOp) (w : World) : (eqGuard op 106 xo yo (.agg x.cells.toArray) (.agg y.cells.toArray)).run Try.prog w = .ok () w := by
  have h : Try.prog.eqGuardType Try.prog.depth 106 = false := by kernel_rfl
  unfold eqGuard
  cases op <;> simp [h]
theorem be_Step (x y : Step) (w : World) : (binOp .eql 106 (.agg x.cells.toArray) (.agg y.cells.toArray)).run Try.prog w = .ok (.bool (decide (x = y))) w := by
  show (Op.equal 106 (.agg x.cells.toArray) (.agg y.cells.toArray) >>= fun r => Pure.pure (Value.bool r)).run _ w = _
  rw [Sem.run_bind, show Op.equal 106 (.agg x.cells.toArray) (.agg y.cells.toArray) = Op.equalIn (9996 + 4) 106 _ _ from rfl, eq_Step x y w]; rfl
theorem bn_Step (x y : Step) (w : World) : (binOp .neq 106 (.agg x.cells.toArray) (.agg y.cells.toArray)).run Try.prog w = .ok (.bool (!decide (x = y))) w := by
  show (Op.equal 106 (.agg x.cells.toArray) (.agg y.cells.toArray) >>= fun r => Pure.pure (Value.bool (!r))).run _ w = _
  rw [Sem.run_bind, show Op.equal 106 (.agg x.cells.toArray) (.agg y.cells.toArray) = Op.equalIn (9996 + 4) 106 _ _ from rfl, eq_Step x y w]; rfl
theorem be_Step_T {x y : Step} (h : x = y) (w : World) : (binOp .eql 106 (.agg x.cells.toArray) (.agg y.cells.toArray)).run Try.prog w = .ok (.bool true) w := by rw [be_Step, decide_eq_true h]
theorem be_Step_F {x y : Step} (h : x ≠ y) (w : World) : (binOp .eql 106 (.agg x.cells.toArray) (.agg y.cells.toArray)).run Try.prog w = .ok (.bool false) w := by rw [be_Step, decide_eq_false h]
theorem bn_Step_T {x y : Step} (h : x ≠ y) (w : World) : (binOp .neq 106 (.agg x.cells.toArray) (.agg y.cells.toArray)).run Try.prog w = .ok (.bool true) w := by rw [bn_Step, decide_eq_false h]; rfl
theorem bn_Step_F {x y : Step} (h : x = y) (w : World) : (binOp .neq 106 (.agg x.cells.toArray) (.agg y.cells.toArray)).run Try.prog w = .ok (.bool false) w := by rw [bn_Step, decide_eq_true h]; rfl
theorem eq_Answer (x y : Answer) {d : Nat} (w : World) : (Op.equalIn (d + 3) 132 (.agg x.cells.toArray) (.agg y.cells.toArray)).run Try.prog w = .ok (decide (x = y)) w := by
  show (Op.equalIn ((d + 2) + 1) 132 _ _).run _ _ = _
  rw [run_equalIn_struct w (d + 2) 132 _ _ (by kernel_rfl) (by kernel_rfl)]
  have e3 : ∀ (a b : Int) w, (Op.equalIn (d + 2) 3 (vi a) (vi b)).run Try.prog w = .ok (a == b) w := fun a b w => eq_int (d := d + 1) Try.underlying3 w
  have e26 : ∀ (a b : Int) w, (Op.equalIn (d + 2) 26 (vi a) (vi b)).run Try.prog w = .ok (a == b) w := fun a b w => eq_int (d := d + 1) Try.underlying26 w
  simp only [Program.fieldsOf, Try.underlying132]
  simp [Op.eqFields, part, Try.isAgg3, Try.isAgg26, Answer.cells, e3, e26]
  cases x; cases y; simp
  repeat' split
  all_goals simp_all
theorem ag_Answer (x y : Answer) {xo yo : Operand} (op : BinOp) (w : World) : (eqGuard op 132 xo yo (.agg x.cells.toArray) (.agg y.cells.toArray)).run Try.prog w = .ok () w := by
  have h : Try.prog.eqGuardType Try.prog.depth 132 = false := by kernel_rfl
  unfold eqGuard
  cases op <;> simp [h]
theorem be_Answer (x y : Answer) (w : World) : (binOp .eql 132 (.agg x.cells.toArray) (.agg y.cells.toArray)).run Try.prog w = .ok (.bool (decide (x = y))) w := by
  show (Op.equal 132 (.agg x.cells.toArray) (.agg y.cells.toArray) >>= fun r => Pure.pure (Value.bool r)).run _ w = _
  rw [Sem.run_bind, show Op.equal 132 (.agg x.cells.toArray) (.agg y.cells.toArray) = Op.equalIn (9997 + 3) 132 _ _ from rfl, eq_Answer x y w]; rfl
theorem bn_Answer (x y : Answer) (w : World) : (binOp .neq 132 (.agg x.cells.toArray) (.agg y.cells.toArray)).run Try.prog w = .ok (.bool (!decide (x = y))) w := by
  show (Op.equal 132 (.agg x.cells.toArray) (.agg y.cells.toArray) >>= fun r => Pure.pure (Value.bool (!r))).run _ w = _
  rw [Sem.run_bind, show Op.equal 132 (.agg x.cells.toArray) (.agg y.cells.toArray) = Op.equalIn (9997 + 3) 132 _ _ from rfl, eq_Answer x y w]; rfl
theorem be_Answer_T {x y : Answer} (h : x = y) (w : World) : (binOp .eql 132 (.agg x.cells.toArray) (.agg y.cells.toArray)).run Try.prog w = .ok (.bool true) w := by rw [be_Answer, decide_eq_true h]
theorem be_Answer_F {x y : Answer} (h : x ≠ y) (w : World) : (binOp .eql 132 (.agg x.cells.toArray) (.agg y.cells.toArray)).run Try.prog w = .ok (.bool false) w := by rw [be_Answer, decide_eq_false h]
theorem bn_Answer_T {x y : Answer} (h : x ≠ y) (w : World) : (binOp .neq 132 (.agg x.cells.toArray) (.agg y.cells.toArray)).run Try.prog w = .ok (.bool true) w := by rw [bn_Answer, decide_eq_false h]; rfl
theorem bn_Answer_F {x y : Answer} (h : x = y) (w : World) : (binOp .neq 132 (.agg x.cells.toArray) (.agg y.cells.toArray)).run Try.prog w = .ok (.bool false) w := by rw [bn_Answer, decide_eq_true h]; rfl
theorem eq_Seen (x y : Seen) {d : Nat} (w : World) : (Op.equalIn (d + 3) 140 (.agg x.cells.toArray) (.agg y.cells.toArray)).run Try.prog w = .ok (decide (x = y)) w := by
  show (Op.equalIn ((d + 2) + 1) 140 _ _).run _ _ = _
  rw [run_equalIn_struct w (d + 2) 140 _ _ (by kernel_rfl) (by kernel_rfl)]
  have e3 : ∀ (a b : Int) w, (Op.equalIn (d + 2) 3 (vi a) (vi b)).run Try.prog w = .ok (a == b) w := fun a b w => eq_int (d := d + 1) Try.underlying3 w
  have e4 : ∀ (a b : Bool) w, (Op.equalIn (d + 2) 4 (.bool a) (.bool b)).run Try.prog w = .ok (a == b) w := fun a b w => eq_bool (d := d + 1) Try.underlying4 w
  have e26 : ∀ (a b : Int) w, (Op.equalIn (d + 2) 26 (vi a) (vi b)).run Try.prog w = .ok (a == b) w := fun a b w => eq_int (d := d + 1) Try.underlying26 w
  simp only [Program.fieldsOf, Try.underlying140]
  simp [Op.eqFields, part, Try.isAgg3, Try.isAgg4, Try.isAgg26, Seen.cells, e3, e4, e26]
  cases x; cases y; simp
  repeat' split
  all_goals simp_all
theorem ag_Seen (x y : Seen) {xo yo : Operand} (op : BinOp) (w : World) : (eqGuard op 140 xo yo (.agg x.cells.toArray) (.agg y.cells.toArray)).run Try.prog w = .ok () w := by
  have h : Try.prog.eqGuardType Try.prog.depth 140 = false := by kernel_rfl
  unfold eqGuard
  cases op <;> simp [h]
theorem be_Seen (x y : Seen) (w : World) : (binOp .eql 140 (.agg x.cells.toArray) (.agg y.cells.toArray)).run Try.prog w = .ok (.bool (decide (x = y))) w := by
  show (Op.equal 140 (.agg x.cells.toArray) (.agg y.cells.toArray) >>= fun r => Pure.pure (Value.bool r)).run _ w = _
  rw [Sem.run_bind, show Op.equal 140 (.agg x.cells.toArray) (.agg y.cells.toArray) = Op.equalIn (9997 + 3) 140 _ _ from rfl, eq_Seen x y w]; rfl
theorem bn_Seen (x y : Seen) (w : World) : (binOp .neq 140 (.agg x.cells.toArray) (.agg y.cells.toArray)).run Try.prog w = .ok (.bool (!decide (x = y))) w := by
  show (Op.equal 140 (.agg x.cells.toArray) (.agg y.cells.toArray) >>= fun r => Pure.pure (Value.bool (!r))).run _ w = _
  rw [Sem.run_bind, show Op.equal 140 (.agg x.cells.toArray) (.agg y.cells.toArray) = Op.equalIn (9997 + 3) 140 _ _ from rfl, eq_Seen x y w]; rfl
theorem be_Seen_T {x y : Seen} (h : x = y) (w : World) : (binOp .eql 140 (.agg x.cells.toArray) (.agg y.cells.toArray)).run Try.prog w = .ok (.bool true) w := by rw [be_Seen, decide_eq_true h]
theorem be_Seen_F {x y : Seen} (h : x ≠ y) (w : World) : (binOp .eql 140 (.agg x.cells.toArray) (.agg y.cells.toArray)).run Try.prog w = .ok (.bool false) w := by rw [be_Seen, decide_eq_false h]
theorem bn_Seen_T {x y : Seen} (h : x ≠ y) (w : World) : (binOp .neq 140 (.agg x.cells.toArray) (.agg y.cells.toArray)).run Try.prog w = .ok (.bool true) w := by rw [bn_Seen, decide_eq_false h]; rfl
theorem bn_Seen_F {x y : Seen} (h : x = y) (w : World) : (binOp .neq 140 (.agg x.cells.toArray) (.agg y.cells.toArray)).run Try.prog w = .ok (.bool false) w := by rw [bn_Seen, decide_eq_true h]; rfl
end Go.Proofs.Ytfdkkncmpjbkbaa
