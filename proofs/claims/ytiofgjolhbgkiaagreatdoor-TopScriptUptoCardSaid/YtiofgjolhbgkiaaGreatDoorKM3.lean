/- This file proves parts of what its law needs: each part is told ahead of it. No conditions. -/
import Derived.Test.YtiofgjolhbgkiaaGreatDoorKM1
import Derived.Test.YtiofgjolhbgkiaaGreatDoorKM2
import Derived.Lib.LaidTab
import Derived.LaidLaws
import Derived.Stop.LaidErr
import Derived.Shelf.Vars
import Derived.Laws.StructEq
set_option linter.unusedVariables false
set_option linter.unusedSimpArgs false
set_option linter.unusedSectionVars false
set_option maxHeartbeats 1000000
set_option maxRecDepth 8000
namespace Go.Proofs.YtiofgjolhbgkiaaGreatDoor
open Go
class CFo (T f : Nat) (off : outParam Nat) : Prop where
 h : Ap Tryz.prog T f off
class CAg (T : Nat) : Prop where
 h : ∀ w, (isAgg T).run Tryz.prog w = .ok true w
class CNa (T : Nat) : Prop where
 h : ∀ w, (isAgg T).run Tryz.prog w = .ok false w
class CSz (T : Nat) (sz : outParam Nat) : Prop where
 h : ∀ w, (sizeOf T).run Tryz.prog w = .ok sz w
class CSo (T : Nat) (e sz : outParam Nat) : Prop where
 h : Cu Tryz.prog T e sz
class CUs (T : Nat) (e : outParam Nat) : Prop where
 h : Tryz.prog.underlying T = some (.slice e)
class CSt (T : Nat) (zc : outParam (List Value)) (pl : outParam (List (Nat × Nat))) : Prop where
 h : Cz Tryz.prog T zc pl
instance : CNa 3 := ⟨Tryz.isAgg3⟩
instance : CSz 3 1 := ⟨Tryz.sizeOf3⟩
instance : CNa 4 := ⟨Tryz.isAgg4⟩
instance : CSz 4 1 := ⟨Tryz.sizeOf4⟩
instance : CNa 5 := ⟨Tryz.isAgg5⟩
instance : CNa 9 := ⟨Tryz.isAgg9⟩
instance : CFo 23 0 0 := ⟨Afg⟩
instance : CFo 23 1 1 := ⟨Aff⟩
instance : CSt 23 (Tryz.t23.zero.getD undef).cells.toList [(0, 1), (1, 1)] := ⟨st_23⟩
instance : CAg 23 := ⟨Tryz.isAgg23⟩
instance : CSz 23 2 := ⟨Tryz.sizeOf23⟩
instance : CSo 24 29 7 := ⟨so_24⟩
instance : CUs 24 29 := ⟨Tryz.underlying24⟩
instance : CFo 27 0 0 := ⟨Afe⟩
instance : CFo 27 1 1 := ⟨Afd⟩
instance : CFo 27 2 2 := ⟨Afc⟩
instance : CSt 27 (Tryz.t27.zero.getD undef).cells.toList [(0, 1), (1, 1), (2, 1)] := ⟨Uk⟩
instance : CAg 27 := ⟨Tryz.isAgg27⟩
instance : CSz 27 3 := ⟨Tryz.sizeOf27⟩
instance : CFo 29 0 0 := ⟨Afb⟩
instance : CFo 29 1 1 := ⟨Afa⟩
instance : CFo 29 2 2 := ⟨Aez⟩
instance : CFo 29 3 3 := ⟨Aey⟩
instance : CFo 29 4 4 := ⟨Aex⟩
instance : CSt 29 (Tryz.t29.zero.getD undef).cells.toList [(0, 1), (1, 1), (2, 1), (3, 1), (4, 3)] := ⟨G1⟩
instance : CAg 29 := ⟨Tryz.isAgg29⟩
instance : CSz 29 7 := ⟨Tryz.sizeOf29⟩
instance : CNa 35 := ⟨Tryz.isAgg35⟩
instance : CSo 35 93 4 := ⟨Aco⟩
instance : CUs 35 93 := ⟨Tryz.underlying35⟩
instance : CNa 36 := ⟨Tryz.isAgg36⟩
instance : CSz 36 1 := ⟨Tryz.sizeOf36⟩
instance : CSo 36 109 10 := ⟨Ny⟩
instance : CUs 36 109 := ⟨Tryz.underlying36⟩
instance : CNa 37 := ⟨Tryz.isAgg37⟩
instance : CSz 37 1 := ⟨Tryz.sizeOf37⟩
instance : CSo 37 53 1 := ⟨Nx⟩
instance : CUs 37 53 := ⟨Tryz.underlying37⟩
instance : CFo 39 0 0 := ⟨Aew⟩
instance : CFo 39 1 1 := ⟨Aev⟩
instance : CFo 39 2 2 := ⟨Aeu⟩
instance : CSt 39 (Tryz.t39.zero.getD undef).cells.toList [(0, 1), (1, 1), (2, 1)] := ⟨Iv⟩
instance : CAg 39 := ⟨Tryz.isAgg39⟩
instance : CSz 39 3 := ⟨Tryz.sizeOf39⟩
instance : CSo 40 45 2 := ⟨so_40⟩
instance : CUs 40 45 := ⟨Tryz.underlying40⟩
instance : CNa 41 := ⟨Tryz.isAgg41⟩
instance : CSo 41 47 5 := ⟨so_41⟩
instance : CUs 41 47 := ⟨Tryz.underlying41⟩
instance : CFo 45 1 1 := ⟨Aet⟩
instance : CSt 45 (Tryz.t45.zero.getD undef).cells.toList [(0, 1), (1, 1)] := ⟨st_45⟩
instance : CFo 47 0 0 := ⟨Aes⟩
instance : CFo 47 2 4 := ⟨Aer⟩
instance : CSt 47 (Tryz.t47.zero.getD undef).cells.toList [(0, 1), (1, 3), (4, 1)] := ⟨G0⟩
instance : CNa 52 := ⟨Tryz.isAgg52⟩
instance : CSz 52 1 := ⟨Tryz.sizeOf52⟩
instance : CNa 53 := ⟨Tryz.isAgg53⟩
instance : CUs 53 5 := ⟨Tryz.underlying53⟩
instance : CFo 55 0 0 := ⟨Aeq⟩
instance : CFo 55 1 1 := ⟨Aep⟩
instance : CNa 77 := ⟨Tryz.isAgg77⟩
instance : CSz 77 1 := ⟨Tryz.sizeOf77⟩
instance : CSo 77 9 1 := ⟨Sd⟩
instance : CUs 77 9 := ⟨Tryz.underlying77⟩
instance : CFo 86 0 0 := ⟨Aeo⟩
instance : CFo 86 1 1 := ⟨Aen⟩
instance : CSt 86 (Tryz.t86.zero.getD undef).cells.toList [(0, 1), (1, 1)] := ⟨st_86⟩
instance : CNa 91 := ⟨Tryz.isAgg91⟩
instance : CSo 91 120 7 := ⟨Lr⟩
instance : CUs 91 120 := ⟨Tryz.underlying91⟩
instance : CFo 93 0 0 := ⟨Aem⟩
instance : CFo 93 1 1 := ⟨Ael⟩
instance : CSt 93 (Tryz.t93.zero.getD undef).cells.toList [(0, 1), (1, 3)] := ⟨Lq⟩
instance : CAg 93 := ⟨Tryz.isAgg93⟩
instance : CSz 93 4 := ⟨Tryz.sizeOf93⟩
instance : CNa 96 := ⟨Tryz.isAgg96⟩
instance : CSo 96 128 8 := ⟨so_96⟩
instance : CUs 96 128 := ⟨Tryz.underlying96⟩
instance : CNa 107 := ⟨Tryz.isAgg107⟩
instance : CSz 107 1 := ⟨Tryz.sizeOf107⟩
instance : CSo 107 3 1 := ⟨Un⟩
instance : CUs 107 3 := ⟨Tryz.underlying107⟩
instance : CFo 109 0 0 := ⟨Z0⟩
instance : CFo 109 1 1 := ⟨Zz⟩
instance : CFo 109 2 2 := ⟨Zy⟩
instance : CFo 109 3 3 := ⟨Zx⟩
instance : CFo 109 4 4 := ⟨Zw⟩
instance : CFo 109 5 5 := ⟨Zv⟩
instance : CFo 109 6 6 := ⟨Zu⟩
instance : CFo 109 7 7 := ⟨I4⟩
instance : CFo 109 8 8 := ⟨Zt⟩
instance : CFo 109 9 9 := ⟨Zs⟩
instance : CSt 109 (Tryz.t109.zero.getD undef).cells.toList [(0, 1), (1, 1), (2, 1), (3, 1), (4, 1), (5, 1), (6, 1), (7, 1), (8, 1), (9, 1)] := ⟨st_109⟩
instance : CAg 109 := ⟨Tryz.isAgg109⟩
instance : CSz 109 10 := ⟨Tryz.sizeOf109⟩
instance : CFo 120 0 0 := ⟨Zr⟩
instance : CFo 120 1 1 := ⟨Zq⟩
instance : CFo 120 2 2 := ⟨Zp⟩
instance : CFo 120 3 3 := ⟨Zo⟩
instance : CFo 120 4 4 := ⟨Zn⟩
instance : CFo 120 5 5 := ⟨Zm⟩
instance : CFo 120 6 6 := ⟨Zl⟩
instance : CFo 123 0 0 := ⟨Zk⟩
instance : CFo 123 1 4 := ⟨Zj⟩
instance : CFo 123 2 5 := ⟨Zi⟩
instance : CFo 123 3 6 := ⟨Zh⟩
instance : CFo 123 4 7 := ⟨Zg⟩
instance : CSt 123 (Tryz.t123.zero.getD undef).cells.toList [(0, 4), (4, 1), (5, 1), (6, 1), (7, 1)] := ⟨st_123⟩
instance : CFo 128 0 0 := ⟨Zf⟩
instance : CFo 128 1 1 := ⟨Ze⟩
instance : CFo 128 2 2 := ⟨Zd⟩
instance : CFo 128 3 3 := ⟨Zc⟩
instance : CFo 128 4 4 := ⟨Zb⟩
instance : CFo 128 5 5 := ⟨Za⟩
instance : CFo 128 6 6 := ⟨Y9⟩
instance : CFo 128 7 7 := ⟨Y8⟩
instance : CAg 128 := ⟨Tryz.isAgg128⟩
instance : CSz 128 8 := ⟨Tryz.sizeOf128⟩
instance : CNa 156 := ⟨Tryz.isAgg156⟩
instance : CFo 159 0 0 := ⟨Y7⟩
instance : CFo 159 1 1 := ⟨Y6⟩
instance : CFo 159 2 2 := ⟨Y5⟩
instance : CFo 159 3 3 := ⟨Y4⟩
instance : CSt 159 (Tryz.t159.zero.getD undef).cells.toList [(0, 1), (1, 1), (2, 1), (3, 1)] := ⟨st_159⟩
section
variable {n : Nat} {Q : Exit → Act → World → Prop} {ops : Array Oper} {rest : List Oper} {L : List Chunk} {R : List Fact} {al al' : List (Nat × Value)} {d k : Nat} {x y z : Operand} {T ty U : TypeId} {pos : String} {aft : Array Edge} {v : Value} {l l' : List Oper}
theorem kmv (h : Ao Tryz.prog n al L R ⟨some d, .move x, ty, pos, aft, none⟩ v) : Ao Tryz.prog n al L R ⟨some d, .move x, ty, pos, aft, none⟩ v := h
theorem kas (h : Ao Tryz.prog n al L R ⟨some d, .assign x, ty, pos, aft, none⟩ v) : Ao Tryz.prog n al L R ⟨some d, .assign x, ty, pos, aft, none⟩ v := h
theorem kfa {i : Nat} (h : Ao Tryz.prog n al L R ⟨some d, .fieldAddr T x i, ty, pos, aft, none⟩ v) : Ao Tryz.prog n al L R ⟨some d, .fieldAddr T x i, ty, pos, aft, none⟩ v := h
theorem kld (h : Ao Tryz.prog n al L R ⟨some d, .load T x, ty, pos, aft, none⟩ v) : Ao Tryz.prog n al L R ⟨some d, .load T x, ty, pos, aft, none⟩ v := h
theorem knc (h : Ao Tryz.prog n al L R ⟨some d, .nilCheck x, ty, pos, aft, none⟩ v) : Ao Tryz.prog n al L R ⟨some d, .nilCheck x, ty, pos, aft, none⟩ v := h
theorem kpk (h : Ao Tryz.prog n al L R ⟨some d, .pick x y z, ty, pos, aft, none⟩ v) : Ao Tryz.prog n al L R ⟨some d, .pick x y z, ty, pos, aft, none⟩ v := h
theorem kix (h : Ao Tryz.prog n al L R ⟨some d, .indexAddr T x y, ty, pos, aft, none⟩ v) : Ao Tryz.prog n al L R ⟨some d, .indexAddr T x y, ty, pos, aft, none⟩ v := h
theorem kxt {i : Nat} (h : Ao Tryz.prog n al L R ⟨some d, .extract x i, ty, pos, aft, none⟩ v) : Ao Tryz.prog n al L R ⟨some d, .extract x i, ty, pos, aft, none⟩ v := h
theorem kun (h : Ao Tryz.prog n al L R ⟨some d, .unOp .not T x, ty, pos, aft, none⟩ v) : Ao Tryz.prog n al L R ⟨some d, .unOp .not T x, ty, pos, aft, none⟩ v := h
theorem kle (h : Ao Tryz.prog n al L R ⟨some d, .call { callee := .builtin .len, args := #[x], argTypes := #[T] }, ty, pos, aft, none⟩ v) : Ao Tryz.prog n al L R ⟨some d, .call { callee := .builtin .len, args := #[x], argTypes := #[T] }, ty, pos, aft, none⟩ v := h
theorem kbd {ps : Array (Nat × Operand)} (h : Ao Tryz.prog n al L R ⟨some d, .build T ps, ty, pos, aft, none⟩ v) : Ao Tryz.prog n al L R ⟨some d, .build T ps, ty, pos, aft, none⟩ v := h
theorem kbe (h : Ao Tryz.prog n al L R ⟨some d, .binOp .eql T x y U, ty, pos, aft, none⟩ v) : Ao Tryz.prog n al L R ⟨some d, .binOp .eql T x y U, ty, pos, aft, none⟩ v := h
theorem kbn (h : Ao Tryz.prog n al L R ⟨some d, .binOp .neq T x y U, ty, pos, aft, none⟩ v) : Ao Tryz.prog n al L R ⟨some d, .binOp .neq T x y U, ty, pos, aft, none⟩ v := h
theorem kbl (h : Ao Tryz.prog n al L R ⟨some d, .binOp .lss T x y U, ty, pos, aft, none⟩ v) : Ao Tryz.prog n al L R ⟨some d, .binOp .lss T x y U, ty, pos, aft, none⟩ v := h
theorem kbg (h : Ao Tryz.prog n al L R ⟨some d, .binOp .gtr T x y U, ty, pos, aft, none⟩ v) : Ao Tryz.prog n al L R ⟨some d, .binOp .gtr T x y U, ty, pos, aft, none⟩ v := h
theorem kbh (h : Ao Tryz.prog n al L R ⟨some d, .binOp .geq T x y U, ty, pos, aft, none⟩ v) : Ao Tryz.prog n al L R ⟨some d, .binOp .geq T x y U, ty, pos, aft, none⟩ v := h
theorem kba (h : Ao Tryz.prog n al L R ⟨some d, .binOp .add T x y U, ty, pos, aft, none⟩ v) : Ao Tryz.prog n al L R ⟨some d, .binOp .add T x y U, ty, pos, aft, none⟩ v := h
theorem kbs (h : Ao Tryz.prog n al L R ⟨some d, .binOp .sub T x y U, ty, pos, aft, none⟩ v) : Ao Tryz.prog n al L R ⟨some d, .binOp .sub T x y U, ty, pos, aft, none⟩ v := h
theorem kbu (h : Ao Tryz.prog n al L R ⟨some d, .binOp .mul T x y U, ty, pos, aft, none⟩ v) : Ao Tryz.prog n al L R ⟨some d, .binOp .mul T x y U, ty, pos, aft, none⟩ v := h
structure Run (n : Nat) (ops : Array Oper) (Q : Exit → Act → World → Prop) (L : List Chunk) (R : List Fact) (k : Nat) (l : List Oper) (al : List (Nat × Value)) (l' : List Oper) (al' : List (Nat × Value)) : Prop where
 go : J Tryz.prog n ops Q l' L R al' → J Tryz.prog n ops Q l L R al
theorem R0 : Run n ops Q L R 0 l al l al := ⟨fun h => h⟩
theorem Rc {op : Oper} (hp : Ao Tryz.prog n al L R op v) (hd : op.dst = some d) (h : Run n ops Q L R k rest ((d, v) :: al) l' al') : Run n ops Q L R (k + 1) (op :: rest) al l' al' := ⟨fun kk => ob hp (h.go kk) hd⟩
theorem Rgy {dst : Option Tmp} {op : Go.Op} {i : Nat} {b : Bool} {m : List Oper} (hv : gv n al m i = some b) (h : Run n m.toArray Q L R (k + 1) (⟨dst, op, ty, pos, aft, none⟩ :: rest) al l' al') : Run n m.toArray Q L R (k + 1) (⟨dst, op, ty, pos, aft, some (i, b)⟩ :: rest) al l' al' := ⟨fun kk => J.guardYes hv (h.go kk)⟩
theorem Rgn {op : Go.Op} {i : Nat} {b : Bool} {m : List Oper} (hv : gv n al m i = some (!b)) (h : Run n m.toArray Q L R k rest ((d, undef) :: al) l' al') : Run n m.toArray Q L R (k + 1) (⟨some d, op, ty, pos, aft, some (i, b)⟩ :: rest) al l' al' := ⟨fun kk => J.guardNo hv (h.go kk)⟩
theorem RgU {op : Go.Op} {i : Nat} {b : Bool} {m : List Oper} (hv : gu n al m i = true) (h : Run n m.toArray Q L R k rest ((d, undef) :: al) l' al') : Run n m.toArray Q L R (k + 1) (⟨some d, op, ty, pos, aft, some (i, b)⟩ :: rest) al l' al' := ⟨fun kk => J.guardUndef hv (h.go kk)⟩
theorem mr (h : Run n ops Q L R k l al l' al' := by repeat (first | exact R0 | (apply Rc; (focus (first | (apply kmv; exact Ss) | (apply kas; exact C6) | (apply kfa; first | exact q_fa CFo.h | exact q_fe CFo.h) | (apply kld; first | exact Cp CNa.h | exact Adm CAg.h CSz.h | exact E9 _ CAg.h CSz.h | exact q_lNc _ CAg.h CSz.h | exact q_lNf _ CAg.h CSz.h) | (apply knc; first | exact q_nb | exact q_ne) | (apply kpk; first | exact Fd | exact Adk) | (apply kix; first | exact I0 CSo.h | exact Ip CSo.h) | (apply kxt; exact q_x) | (apply kun; first | exact q_notD | exact Ew) | (apply kle; exact Mq CUs.h) | (apply kbd; first | exact Du CSt.h | exact E6 CSt.h) | (apply kbe; exact Fl T6) | (apply kbn; exact Fl T4) | (apply kbl; exact Fl Nm) | (apply kbm; exact Fl T5) | (apply kbg; exact Fl Qo) | (apply kbh; exact Fl Qp) | (apply kba; first | exact q_addN | exact Su) | (apply kbs; exact X3) | (apply kbu; exact X4))); (focus exact rfl)) | (apply Rgy; (focus exact rfl)) | (apply Rgn; (focus exact rfl)) | (apply RgU; (focus exact rfl)))) : Run n ops Q L R k l al l' al' := h
theorem rn1 (kk : J Tryz.prog n ops Q l' L R al') (h : Run n ops Q L R 1 l al l' al' := by exact mr) : J Tryz.prog n ops Q l L R al := h.go kk
theorem rn2 (kk : J Tryz.prog n ops Q l' L R al') (h : Run n ops Q L R 2 l al l' al' := by exact mr) : J Tryz.prog n ops Q l L R al := h.go kk
theorem rn3 (kk : J Tryz.prog n ops Q l' L R al') (h : Run n ops Q L R 3 l al l' al' := by exact mr) : J Tryz.prog n ops Q l L R al := h.go kk
theorem rn4 (kk : J Tryz.prog n ops Q l' L R al') (h : Run n ops Q L R 4 l al l' al' := by exact mr) : J Tryz.prog n ops Q l L R al := h.go kk
theorem rn5 (kk : J Tryz.prog n ops Q l' L R al') (h : Run n ops Q L R 5 l al l' al' := by exact mr) : J Tryz.prog n ops Q l L R al := h.go kk
theorem rn6 (kk : J Tryz.prog n ops Q l' L R al') (h : Run n ops Q L R 6 l al l' al' := by exact mr) : J Tryz.prog n ops Q l L R al := h.go kk
theorem rn7 (kk : J Tryz.prog n ops Q l' L R al') (h : Run n ops Q L R 7 l al l' al' := by exact mr) : J Tryz.prog n ops Q l L R al := h.go kk
theorem rn8 (kk : J Tryz.prog n ops Q l' L R al') (h : Run n ops Q L R 8 l al l' al' := by exact mr) : J Tryz.prog n ops Q l L R al := h.go kk
theorem rn9 (kk : J Tryz.prog n ops Q l' L R al') (h : Run n ops Q L R 9 l al l' al' := by exact mr) : J Tryz.prog n ops Q l L R al := h.go kk
theorem rn10 (kk : J Tryz.prog n ops Q l' L R al') (h : Run n ops Q L R 10 l al l' al' := by exact mr) : J Tryz.prog n ops Q l L R al := h.go kk
theorem rn11 (kk : J Tryz.prog n ops Q l' L R al') (h : Run n ops Q L R 11 l al l' al' := by exact mr) : J Tryz.prog n ops Q l L R al := h.go kk
theorem rn12 (kk : J Tryz.prog n ops Q l' L R al') (h : Run n ops Q L R 12 l al l' al' := by exact mr) : J Tryz.prog n ops Q l L R al := h.go kk
theorem rn32 (kk : J Tryz.prog n ops Q l' L R al') (h : Run n ops Q L R 32 l al l' al' := by exact mr) : J Tryz.prog n ops Q l L R al := h.go kk
variable {Sh : Rho → (Nat → Bool) → List Chunk} {R0' : List Fact} {al0 : List (Nat × Value)} {its its' : List Item} {i i' : Nat}
structure DRun (n : Nat) (ops : Array Oper) (Q : Exit → Act → World → Prop) (Sh : Rho → (Nat → Bool) → List Chunk) (R0 : List Fact) (al0 : List (Nat × Value)) (k i : Nat) (l : List Oper) (its : List Item) (i' : Nat) (l' : List Oper) (its' : List Item) : Prop where
 go : DJ Tryz.prog n ops Q Sh R0 al0 i' l' its' → DJ Tryz.prog n ops Q Sh R0 al0 i l its
theorem D0 : DRun n ops Q Sh R0' al0 0 i l its i l its := ⟨fun h => h⟩
theorem Dc {op : Oper} (hp : ∀ ρ S, Ao Tryz.prog n (Dt its al0 ρ) (Sh ρ S) R0' op v) (hSh : Hz ops Sh i) (hd : op.dst = some d) (h : DRun n ops Q Sh R0' al0 k (i + 1) rest (⟨i, some d, fun _ => v, fun _ => [], fun _ => []⟩ :: its) i' l' its') : DRun n ops Q Sh R0' al0 (k + 1) i (op :: rest) its i' l' its' := ⟨fun kk => Kb hp hSh (h.go kk) hd⟩
theorem Dp {op : Oper} {v : Rho → Value} (hp : ∀ ρ S, Ao Tryz.prog n (Dt its al0 ρ) (Sh ρ S) R0' op (v ρ)) (hi : Ind ops i v) (hSh : Hz ops Sh i) (hd : op.dst = some d) (h : DRun n ops Q Sh R0' al0 k (i + 1) rest (⟨i, some d, v, fun _ => [], fun _ => []⟩ :: its) i' l' its') : DRun n ops Q Sh R0' al0 (k + 1) i (op :: rest) its i' l' its' := ⟨fun kk => e_p hp hi hSh (h.go kk) hd⟩
theorem Dgc {op : Go.Op} {q : Nat} {b : Bool} {m : List Oper} (hv : ∀ ρ, gv n (Dt its al0 ρ) m q = some b) (hp : ∀ ρ S, Ao Tryz.prog n (Dt its al0 ρ) (Sh ρ S) R0' ⟨some d, op, ty, pos, aft, none⟩ v) (hSh : ∀ ρ g S, S i = false → Sh (Rho.set ρ i g) (upS S i) = Sh ρ S) (h : DRun n m.toArray Q Sh R0' al0 k (i + 1) rest (⟨i, some d, fun _ => v, fun _ => [], fun _ => []⟩ :: its) i' l' its') : DRun n m.toArray Q Sh R0' al0 (k + 1) i (⟨some d, op, ty, pos, aft, some (q, b)⟩ :: rest) its i' l' its' := ⟨fun kk => dj (dgy (dc hp (h.go kk) rfl hSh) hv)⟩
theorem Dgn {op : Go.Op} {q : Nat} {b : Bool} {m : List Oper} (hv : ∀ ρ, gv n (Dt its al0 ρ) m q = some (!b)) (hSh : ∀ ρ g S, S i = false → Sh (Rho.set ρ i g) (upS S i) = Sh ρ S) (h : DRun n m.toArray Q Sh R0' al0 k (i + 1) rest (⟨i, some d, fun _ => undef, fun _ => [], fun _ => []⟩ :: its) i' l' its') : DRun n m.toArray Q Sh R0' al0 (k + 1) i (⟨some d, op, ty, pos, aft, some (q, b)⟩ :: rest) its i' l' its' := ⟨fun kk => dj (dgn (h.go kk) hv hSh)⟩
theorem Dgu {op : Go.Op} {q : Nat} {b : Bool} {m : List Oper} (hv : ∀ ρ, gu n (Dt its al0 ρ) m q = true) (hSh : ∀ ρ g S, S i = false → Sh (Rho.set ρ i g) (upS S i) = Sh ρ S) (h : DRun n m.toArray Q Sh R0' al0 k (i + 1) rest (⟨i, some d, fun _ => undef, fun _ => [], fun _ => []⟩ :: its) i' l' its') : DRun n m.toArray Q Sh R0' al0 (k + 1) i (⟨some d, op, ty, pos, aft, some (q, b)⟩ :: rest) its i' l' its' := ⟨fun kk => dj (dgu (h.go kk) hv hSh)⟩
theorem mdr (h : DRun n ops Q Sh R0' al0 k i l its i' l' its' := by repeat (first | exact D0 | (apply Dc; (focus (intro _ _; first | (apply kmv; exact Ss) | (apply kas; exact C6) | (apply kfa; first | exact q_fa CFo.h | exact q_fe CFo.h) | (apply kld; first | exact Cp CNa.h | exact Adm CAg.h CSz.h | exact E9 _ CAg.h CSz.h | exact q_lNc _ CAg.h CSz.h | exact q_lNf _ CAg.h CSz.h) | (apply knc; first | exact q_nb | exact q_ne) | (apply kpk; first | exact Fd | exact Adk) | (apply kix; first | exact I0 CSo.h | exact Ip CSo.h) | (apply kxt; exact q_x) | (apply kun; first | exact q_notD | exact Ew) | (apply kle; exact Mq CUs.h) | (apply kbd; first | exact Du CSt.h | exact E6 CSt.h) | (apply kbe; exact Fl T6) | (apply kbn; exact Fl T4) | (apply kbl; exact Fl Nm) | (apply kbm; exact Fl T5) | (apply kbg; exact Fl Qo) | (apply kbh; exact Fl Qp) | (apply kba; first | exact q_addN | exact Su) | (apply kbs; exact X3) | (apply kbu; exact X4))); (focus exact (fun _ _ _ _ _ => rfl)); (focus exact rfl)) | (apply Dgc; (focus exact (fun _ => rfl)); (focus (intro _ _; first | (apply kmv; exact Ss) | (apply kas; exact C6) | (apply kfa; first | exact q_fa CFo.h | exact q_fe CFo.h) | (apply kld; first | exact Cp CNa.h | exact Adm CAg.h CSz.h | exact E9 _ CAg.h CSz.h | exact q_lNc _ CAg.h CSz.h | exact q_lNf _ CAg.h CSz.h) | (apply knc; first | exact q_nb | exact q_ne) | (apply kpk; first | exact Fd | exact Adk) | (apply kix; first | exact I0 CSo.h | exact Ip CSo.h) | (apply kxt; exact q_x) | (apply kun; first | exact q_notD | exact Ew) | (apply kle; exact Mq CUs.h) | (apply kbd; first | exact Du CSt.h | exact E6 CSt.h) | (apply kbe; exact Fl T6) | (apply kbn; exact Fl T4) | (apply kbl; exact Fl Nm) | (apply kbm; exact Fl T5) | (apply kbg; exact Fl Qo) | (apply kbh; exact Fl Qp) | (apply kba; first | exact q_addN | exact Su) | (apply kbs; exact X3) | (apply kbu; exact X4))); (focus exact (fun _ _ _ _ => rfl))) | (apply Dgn; (focus exact (fun _ => rfl)); (focus exact (fun _ _ _ _ => rfl))) | (apply Dgu; (focus exact (fun _ => rfl)); (focus exact (fun _ _ _ _ => rfl))) | (apply Dp; (focus (intro _ _; first | (apply kmv; exact Ss) | (apply kas; exact C6) | (apply kfa; first | exact q_fa CFo.h | exact q_fe CFo.h) | (apply kld; first | exact Cp CNa.h | exact Adm CAg.h CSz.h | exact E9 _ CAg.h CSz.h | exact q_lNc _ CAg.h CSz.h | exact q_lNf _ CAg.h CSz.h) | (apply knc; first | exact q_nb | exact q_ne) | (apply kpk; first | exact Fd | exact Adk) | (apply kix; first | exact I0 CSo.h | exact Ip CSo.h) | (apply kxt; exact q_x) | (apply kun; first | exact q_notD | exact Ew) | (apply kle; exact Mq CUs.h) | (apply kbd; first | exact Du CSt.h | exact E6 CSt.h) | (apply kbe; exact Fl T6) | (apply kbn; exact Fl T4) | (apply kbl; exact Fl Nm) | (apply kbm; exact Fl T5) | (apply kbg; exact Fl Qo) | (apply kbh; exact Fl Qp) | (apply kba; first | exact q_addN | exact Su) | (apply kbs; exact X3) | (apply kbu; exact X4))); (focus exact (fun _ _ _ _ _ => rfl)); (focus exact (fun _ _ _ _ _ => rfl)); (focus exact rfl)))) : DRun n ops Q Sh R0' al0 k i l its i' l' its' := h
theorem dn1 (kk : DJ Tryz.prog n ops Q Sh R0' al0 i' l' its') (h : DRun n ops Q Sh R0' al0 1 i l its i' l' its' := by exact mdr) : DJ Tryz.prog n ops Q Sh R0' al0 i l its := h.go kk
theorem dn2 (kk : DJ Tryz.prog n ops Q Sh R0' al0 i' l' its') (h : DRun n ops Q Sh R0' al0 2 i l its i' l' its' := by exact mdr) : DJ Tryz.prog n ops Q Sh R0' al0 i l its := h.go kk
theorem dn3 (kk : DJ Tryz.prog n ops Q Sh R0' al0 i' l' its') (h : DRun n ops Q Sh R0' al0 3 i l its i' l' its' := by exact mdr) : DJ Tryz.prog n ops Q Sh R0' al0 i l its := h.go kk
theorem dn4 (kk : DJ Tryz.prog n ops Q Sh R0' al0 i' l' its') (h : DRun n ops Q Sh R0' al0 4 i l its i' l' its' := by exact mdr) : DJ Tryz.prog n ops Q Sh R0' al0 i l its := h.go kk
theorem dn5 (kk : DJ Tryz.prog n ops Q Sh R0' al0 i' l' its') (h : DRun n ops Q Sh R0' al0 5 i l its i' l' its' := by exact mdr) : DJ Tryz.prog n ops Q Sh R0' al0 i l its := h.go kk
theorem dn6 (kk : DJ Tryz.prog n ops Q Sh R0' al0 i' l' its') (h : DRun n ops Q Sh R0' al0 6 i l its i' l' its' := by exact mdr) : DJ Tryz.prog n ops Q Sh R0' al0 i l its := h.go kk
theorem dn7 (kk : DJ Tryz.prog n ops Q Sh R0' al0 i' l' its') (h : DRun n ops Q Sh R0' al0 7 i l its i' l' its' := by exact mdr) : DJ Tryz.prog n ops Q Sh R0' al0 i l its := h.go kk
theorem dn8 (kk : DJ Tryz.prog n ops Q Sh R0' al0 i' l' its') (h : DRun n ops Q Sh R0' al0 8 i l its i' l' its' := by exact mdr) : DJ Tryz.prog n ops Q Sh R0' al0 i l its := h.go kk
theorem dn9 (kk : DJ Tryz.prog n ops Q Sh R0' al0 i' l' its') (h : DRun n ops Q Sh R0' al0 9 i l its i' l' its' := by exact mdr) : DJ Tryz.prog n ops Q Sh R0' al0 i l its := h.go kk
theorem Afr (kk : DJ Tryz.prog n ops Q Sh R0' al0 i' l' its') (h : DRun n ops Q Sh R0' al0 10 i l its i' l' its' := by exact mdr) : DJ Tryz.prog n ops Q Sh R0' al0 i l its := h.go kk
theorem dn11 (kk : DJ Tryz.prog n ops Q Sh R0' al0 i' l' its') (h : DRun n ops Q Sh R0' al0 11 i l its i' l' its' := by exact mdr) : DJ Tryz.prog n ops Q Sh R0' al0 i l its := h.go kk
theorem dn12 (kk : DJ Tryz.prog n ops Q Sh R0' al0 i' l' its') (h : DRun n ops Q Sh R0' al0 12 i l its i' l' its' := by exact mdr) : DJ Tryz.prog n ops Q Sh R0' al0 i l its := h.go kk
theorem dn13 (kk : DJ Tryz.prog n ops Q Sh R0' al0 i' l' its') (h : DRun n ops Q Sh R0' al0 13 i l its i' l' its' := by exact mdr) : DJ Tryz.prog n ops Q Sh R0' al0 i l its := h.go kk
theorem dn14 (kk : DJ Tryz.prog n ops Q Sh R0' al0 i' l' its') (h : DRun n ops Q Sh R0' al0 14 i l its i' l' its' := by exact mdr) : DJ Tryz.prog n ops Q Sh R0' al0 i l its := h.go kk
theorem dn16 (kk : DJ Tryz.prog n ops Q Sh R0' al0 i' l' its') (h : DRun n ops Q Sh R0' al0 16 i l its i' l' its' := by exact mdr) : DJ Tryz.prog n ops Q Sh R0' al0 i l its := h.go kk
theorem dn18 (kk : DJ Tryz.prog n ops Q Sh R0' al0 i' l' its') (h : DRun n ops Q Sh R0' al0 18 i l its i' l' its' := by exact mdr) : DJ Tryz.prog n ops Q Sh R0' al0 i l its := h.go kk
theorem dn27 (kk : DJ Tryz.prog n ops Q Sh R0' al0 i' l' its') (h : DRun n ops Q Sh R0' al0 27 i l its i' l' its' := by exact mdr) : DJ Tryz.prog n ops Q Sh R0' al0 i l its := h.go kk
theorem dn29 (kk : DJ Tryz.prog n ops Q Sh R0' al0 i' l' its') (h : DRun n ops Q Sh R0' al0 29 i l its i' l' its' := by exact mdr) : DJ Tryz.prog n ops Q Sh R0' al0 i l its := h.go kk
end
structure Hold (p : Prop) : Prop where
 h : p
theorem sc {p q : Prop} (k : p) (h : Hold p → q := by intro h; (first | refine s_b CSz.h ?_ | refine s_f CSz.h ?_); intro cs hcs; simp only [Nat.zero_add, Nat.add_zero, Nat.reduceAdd, List.set_cons_zero, List.set_cons_succ, Config.cells, Msg.cells, Line.cells, Op.cells, Done.cells, Step.cells, Core.cells, Entry.cells, Chip.cells, El0.cs, El1.cs] at hcs; subst hcs; exact h.h) : q := h ⟨k⟩
theorem bm {n : Nat} {Q : Exit → Act → World → Prop} {id id' : Nat} {L : List Chunk} {R : List Fact} {al : List (Nat × Value)} (h : JX n Q (.exit id') L R al) (hne : Nat.beq id' id = false := by with_unfolding_all exact rfl) : JX n (Exit.inBlock id Q) (.exit id') L R al := Ha hne h
theorem Gl {p q : Prop} (k : p) (h : Hold p → q := by intro h; (repeat (with_reducible first | refine J.nil ?_ | refine A7 ?_ | refine C3 ?_ | refine Fy ?_ | refine J0 ?_ | refine Ek ?_ | refine Dq ?_ | refine Gq ?_ | refine Hb ?_ | refine Jm ?_ | refine Ex ?_ | refine Ey ?_ | refine bm ?_)); exact h.h) : q := h ⟨k⟩
theorem Glc {p q : Prop} (k : p) (h : Hold p → q := by intro h; (repeat (first | (with_reducible first | refine J.nil ?_ | refine A7 ?_ | refine C3 ?_ | refine Fy ?_ | refine J0 ?_ | refine Ek ?_ | refine Dq ?_ | refine Gq ?_ | refine Hb ?_ | refine Jm ?_ | refine Ex ?_ | refine Ey ?_ | refine bm ?_) | refine cF_ ?_ | refine cT ?_)); exact h.h) : q := h ⟨k⟩
theorem Gmc {p q : Prop} (k : p) (h : Hold p → q := by intro h; (repeat (first | (with_reducible first | refine J.nil ?_ | refine A7 ?_ | refine C3 ?_ | refine Fy ?_ | refine J0 ?_ | refine Ek ?_ | refine Dq ?_ | refine Gq ?_ | refine Hb ?_ | refine Jm ?_ | refine Ex ?_ | refine Ey ?_ | refine bm ?_) | refine cF_ ?_ | refine cT ?_)); refine Aa ?_; exact h.h) : q := h ⟨k⟩
theorem Gm {p q : Prop} (k : p) (h : Hold p → q := by intro h; (repeat (with_reducible first | refine J.nil ?_ | refine A7 ?_ | refine C3 ?_ | refine Fy ?_ | refine J0 ?_ | refine Ek ?_ | refine Dq ?_ | refine Gq ?_ | refine Hb ?_ | refine Jm ?_ | refine Ex ?_ | refine Ey ?_ | refine bm ?_)); refine Aa ?_; exact h.h) : q := h ⟨k⟩
section
variable {n : Nat} {Q : Exit → Act → World → Prop} {ops : Array Oper} {rest : List Oper} {L : List Chunk} {R : List Fact} {al al' : List (Nat × Value)} {d k : Nat} {x y z : Operand} {T ty U : TypeId} {pos : String} {aft : Array Edge} {v : Value} {l l' : List Oper}
variable {p : Prop}
theorem Ga1 (kk : p) (h : Run n ops Q L R 1 l al l' al' := by exact mr) (hg : Hold p → J Tryz.prog n ops Q l' L R al' := by intro h; exact Gl h.h) : J Tryz.prog n ops Q l L R al := h.go (hg ⟨kk⟩)
theorem Ga2 (kk : p) (h : Run n ops Q L R 2 l al l' al' := by exact mr) (hg : Hold p → J Tryz.prog n ops Q l' L R al' := by intro h; exact Gl h.h) : J Tryz.prog n ops Q l L R al := h.go (hg ⟨kk⟩)
theorem Ga3 (kk : p) (h : Run n ops Q L R 3 l al l' al' := by exact mr) (hg : Hold p → J Tryz.prog n ops Q l' L R al' := by intro h; exact Gl h.h) : J Tryz.prog n ops Q l L R al := h.go (hg ⟨kk⟩)
theorem Ga4 (kk : p) (h : Run n ops Q L R 4 l al l' al' := by exact mr) (hg : Hold p → J Tryz.prog n ops Q l' L R al' := by intro h; exact Gl h.h) : J Tryz.prog n ops Q l L R al := h.go (hg ⟨kk⟩)
theorem Ga5 (kk : p) (h : Run n ops Q L R 5 l al l' al' := by exact mr) (hg : Hold p → J Tryz.prog n ops Q l' L R al' := by intro h; exact Gl h.h) : J Tryz.prog n ops Q l L R al := h.go (hg ⟨kk⟩)
theorem Ga6 (kk : p) (h : Run n ops Q L R 6 l al l' al' := by exact mr) (hg : Hold p → J Tryz.prog n ops Q l' L R al' := by intro h; exact Gl h.h) : J Tryz.prog n ops Q l L R al := h.go (hg ⟨kk⟩)
theorem Ga7 (kk : p) (h : Run n ops Q L R 7 l al l' al' := by exact mr) (hg : Hold p → J Tryz.prog n ops Q l' L R al' := by intro h; exact Gl h.h) : J Tryz.prog n ops Q l L R al := h.go (hg ⟨kk⟩)
theorem Ga8 (kk : p) (h : Run n ops Q L R 8 l al l' al' := by exact mr) (hg : Hold p → J Tryz.prog n ops Q l' L R al' := by intro h; exact Gl h.h) : J Tryz.prog n ops Q l L R al := h.go (hg ⟨kk⟩)
theorem Ga9 (kk : p) (h : Run n ops Q L R 9 l al l' al' := by exact mr) (hg : Hold p → J Tryz.prog n ops Q l' L R al' := by intro h; exact Gl h.h) : J Tryz.prog n ops Q l L R al := h.go (hg ⟨kk⟩)
theorem Ga11 (kk : p) (h : Run n ops Q L R 11 l al l' al' := by exact mr) (hg : Hold p → J Tryz.prog n ops Q l' L R al' := by intro h; exact Gl h.h) : J Tryz.prog n ops Q l L R al := h.go (hg ⟨kk⟩)
theorem Ga12 (kk : p) (h : Run n ops Q L R 12 l al l' al' := by exact mr) (hg : Hold p → J Tryz.prog n ops Q l' L R al' := by intro h; exact Gl h.h) : J Tryz.prog n ops Q l L R al := h.go (hg ⟨kk⟩)
theorem Ga13 (kk : p) (h : Run n ops Q L R 13 l al l' al' := by exact mr) (hg : Hold p → J Tryz.prog n ops Q l' L R al' := by intro h; exact Gl h.h) : J Tryz.prog n ops Q l L R al := h.go (hg ⟨kk⟩)
theorem Ga15 (kk : p) (h : Run n ops Q L R 15 l al l' al' := by exact mr) (hg : Hold p → J Tryz.prog n ops Q l' L R al' := by intro h; exact Gl h.h) : J Tryz.prog n ops Q l L R al := h.go (hg ⟨kk⟩)
theorem Ga16 (kk : p) (h : Run n ops Q L R 16 l al l' al' := by exact mr) (hg : Hold p → J Tryz.prog n ops Q l' L R al' := by intro h; exact Gl h.h) : J Tryz.prog n ops Q l L R al := h.go (hg ⟨kk⟩)
theorem Ga17 (kk : p) (h : Run n ops Q L R 17 l al l' al' := by exact mr) (hg : Hold p → J Tryz.prog n ops Q l' L R al' := by intro h; exact Gl h.h) : J Tryz.prog n ops Q l L R al := h.go (hg ⟨kk⟩)
theorem Ga18 (kk : p) (h : Run n ops Q L R 18 l al l' al' := by exact mr) (hg : Hold p → J Tryz.prog n ops Q l' L R al' := by intro h; exact Gl h.h) : J Tryz.prog n ops Q l L R al := h.go (hg ⟨kk⟩)
theorem Ga22 (kk : p) (h : Run n ops Q L R 22 l al l' al' := by exact mr) (hg : Hold p → J Tryz.prog n ops Q l' L R al' := by intro h; exact Gl h.h) : J Tryz.prog n ops Q l L R al := h.go (hg ⟨kk⟩)
theorem Ga27 (kk : p) (h : Run n ops Q L R 27 l al l' al' := by exact mr) (hg : Hold p → J Tryz.prog n ops Q l' L R al' := by intro h; exact Gl h.h) : J Tryz.prog n ops Q l L R al := h.go (hg ⟨kk⟩)
theorem Ga32 (kk : p) (h : Run n ops Q L R 32 l al l' al' := by exact mr) (hg : Hold p → J Tryz.prog n ops Q l' L R al' := by intro h; exact Gl h.h) : J Tryz.prog n ops Q l L R al := h.go (hg ⟨kk⟩)
theorem Gb1 (kk : p) (h : Run n ops Q L R 1 l al l' al' := by exact mr) (hg : Hold p → J Tryz.prog n ops Q l' L R al' := by intro h; exact Gm h.h) : J Tryz.prog n ops Q l L R al := h.go (hg ⟨kk⟩)
theorem Gb2 (kk : p) (h : Run n ops Q L R 2 l al l' al' := by exact mr) (hg : Hold p → J Tryz.prog n ops Q l' L R al' := by intro h; exact Gm h.h) : J Tryz.prog n ops Q l L R al := h.go (hg ⟨kk⟩)
theorem Gb3 (kk : p) (h : Run n ops Q L R 3 l al l' al' := by exact mr) (hg : Hold p → J Tryz.prog n ops Q l' L R al' := by intro h; exact Gm h.h) : J Tryz.prog n ops Q l L R al := h.go (hg ⟨kk⟩)
theorem Gb5 (kk : p) (h : Run n ops Q L R 5 l al l' al' := by exact mr) (hg : Hold p → J Tryz.prog n ops Q l' L R al' := by intro h; exact Gm h.h) : J Tryz.prog n ops Q l L R al := h.go (hg ⟨kk⟩)
theorem Gb6 (kk : p) (h : Run n ops Q L R 6 l al l' al' := by exact mr) (hg : Hold p → J Tryz.prog n ops Q l' L R al' := by intro h; exact Gm h.h) : J Tryz.prog n ops Q l L R al := h.go (hg ⟨kk⟩)
theorem Gb7 (kk : p) (h : Run n ops Q L R 7 l al l' al' := by exact mr) (hg : Hold p → J Tryz.prog n ops Q l' L R al' := by intro h; exact Gm h.h) : J Tryz.prog n ops Q l L R al := h.go (hg ⟨kk⟩)
theorem Gc1 (kk : p) (h : Run n ops Q L R 1 l al l' al' := by exact mr) (hg : Hold p → J Tryz.prog n ops Q l' L R al' := by intro h; exact Glc h.h) : J Tryz.prog n ops Q l L R al := h.go (hg ⟨kk⟩)
theorem Gc2 (kk : p) (h : Run n ops Q L R 2 l al l' al' := by exact mr) (hg : Hold p → J Tryz.prog n ops Q l' L R al' := by intro h; exact Glc h.h) : J Tryz.prog n ops Q l L R al := h.go (hg ⟨kk⟩)
theorem Gc3 (kk : p) (h : Run n ops Q L R 3 l al l' al' := by exact mr) (hg : Hold p → J Tryz.prog n ops Q l' L R al' := by intro h; exact Glc h.h) : J Tryz.prog n ops Q l L R al := h.go (hg ⟨kk⟩)
theorem Gc5 (kk : p) (h : Run n ops Q L R 5 l al l' al' := by exact mr) (hg : Hold p → J Tryz.prog n ops Q l' L R al' := by intro h; exact Glc h.h) : J Tryz.prog n ops Q l L R al := h.go (hg ⟨kk⟩)
theorem Gc6 (kk : p) (h : Run n ops Q L R 6 l al l' al' := by exact mr) (hg : Hold p → J Tryz.prog n ops Q l' L R al' := by intro h; exact Glc h.h) : J Tryz.prog n ops Q l L R al := h.go (hg ⟨kk⟩)
theorem Gc7 (kk : p) (h : Run n ops Q L R 7 l al l' al' := by exact mr) (hg : Hold p → J Tryz.prog n ops Q l' L R al' := by intro h; exact Glc h.h) : J Tryz.prog n ops Q l L R al := h.go (hg ⟨kk⟩)
theorem Gc8 (kk : p) (h : Run n ops Q L R 8 l al l' al' := by exact mr) (hg : Hold p → J Tryz.prog n ops Q l' L R al' := by intro h; exact Glc h.h) : J Tryz.prog n ops Q l L R al := h.go (hg ⟨kk⟩)
theorem Gc11 (kk : p) (h : Run n ops Q L R 11 l al l' al' := by exact mr) (hg : Hold p → J Tryz.prog n ops Q l' L R al' := by intro h; exact Glc h.h) : J Tryz.prog n ops Q l L R al := h.go (hg ⟨kk⟩)
theorem Gc12 (kk : p) (h : Run n ops Q L R 12 l al l' al' := by exact mr) (hg : Hold p → J Tryz.prog n ops Q l' L R al' := by intro h; exact Glc h.h) : J Tryz.prog n ops Q l L R al := h.go (hg ⟨kk⟩)
theorem Gc13 (kk : p) (h : Run n ops Q L R 13 l al l' al' := by exact mr) (hg : Hold p → J Tryz.prog n ops Q l' L R al' := by intro h; exact Glc h.h) : J Tryz.prog n ops Q l L R al := h.go (hg ⟨kk⟩)
theorem Gc18 (kk : p) (h : Run n ops Q L R 18 l al l' al' := by exact mr) (hg : Hold p → J Tryz.prog n ops Q l' L R al' := by intro h; exact Glc h.h) : J Tryz.prog n ops Q l L R al := h.go (hg ⟨kk⟩)
theorem Gc19 (kk : p) (h : Run n ops Q L R 19 l al l' al' := by exact mr) (hg : Hold p → J Tryz.prog n ops Q l' L R al' := by intro h; exact Glc h.h) : J Tryz.prog n ops Q l L R al := h.go (hg ⟨kk⟩)
theorem Gd1 (kk : p) (h : Run n ops Q L R 1 l al l' al' := by exact mr) (hg : Hold p → J Tryz.prog n ops Q l' L R al' := by intro h; exact Gmc h.h) : J Tryz.prog n ops Q l L R al := h.go (hg ⟨kk⟩)
theorem Gd2 (kk : p) (h : Run n ops Q L R 2 l al l' al' := by exact mr) (hg : Hold p → J Tryz.prog n ops Q l' L R al' := by intro h; exact Gmc h.h) : J Tryz.prog n ops Q l L R al := h.go (hg ⟨kk⟩)
theorem Gd3 (kk : p) (h : Run n ops Q L R 3 l al l' al' := by exact mr) (hg : Hold p → J Tryz.prog n ops Q l' L R al' := by intro h; exact Gmc h.h) : J Tryz.prog n ops Q l L R al := h.go (hg ⟨kk⟩)
theorem Gd4 (kk : p) (h : Run n ops Q L R 4 l al l' al' := by exact mr) (hg : Hold p → J Tryz.prog n ops Q l' L R al' := by intro h; exact Gmc h.h) : J Tryz.prog n ops Q l L R al := h.go (hg ⟨kk⟩)
theorem Gd6 (kk : p) (h : Run n ops Q L R 6 l al l' al' := by exact mr) (hg : Hold p → J Tryz.prog n ops Q l' L R al' := by intro h; exact Gmc h.h) : J Tryz.prog n ops Q l L R al := h.go (hg ⟨kk⟩)
theorem Gd8 (kk : p) (h : Run n ops Q L R 8 l al l' al' := by exact mr) (hg : Hold p → J Tryz.prog n ops Q l' L R al' := by intro h; exact Gmc h.h) : J Tryz.prog n ops Q l L R al := h.go (hg ⟨kk⟩)
theorem Gd10 (kk : p) (h : Run n ops Q L R 10 l al l' al' := by exact mr) (hg : Hold p → J Tryz.prog n ops Q l' L R al' := by intro h; exact Gmc h.h) : J Tryz.prog n ops Q l L R al := h.go (hg ⟨kk⟩)
theorem Gd18 (kk : p) (h : Run n ops Q L R 18 l al l' al' := by exact mr) (hg : Hold p → J Tryz.prog n ops Q l' L R al' := by intro h; exact Gmc h.h) : J Tryz.prog n ops Q l L R al := h.go (hg ⟨kk⟩)
theorem Gd22 (kk : p) (h : Run n ops Q L R 22 l al l' al' := by exact mr) (hg : Hold p → J Tryz.prog n ops Q l' L R al' := by intro h; exact Gmc h.h) : J Tryz.prog n ops Q l L R al := h.go (hg ⟨kk⟩)
theorem jd_ {id : Nat} (Sh : Rho → (Nat → Bool) → List Chunk) (k : DJ Tryz.prog n l.toArray Q Sh R al 0 l []) (hsl : Mp l.toArray = true := by kernel_rfl) (hed : Jp l.toArray = true := by kernel_rfl) (hL : ∀ ρ, Sh ρ (fun _ => false) = L := by exact fun _ => rfl) : JC Tryz.prog n (.region id l.toArray true) Q L R al := P5 mixed hsl hed Sh hL k
theorem Bl {id : Nat} (k : DJ Tryz.prog n l.toArray Q (fun _ _ => L) R al 0 l []) (hsl : Mp l.toArray = true := by kernel_rfl) (hed : Jp l.toArray = true := by kernel_rfl) : JC Tryz.prog n (.region id l.toArray true) Q L R al := P5 mixed hsl hed (fun _ _ => L) (fun _ => rfl) k
variable {Sh : Rho → (Nat → Bool) → List Chunk} {R0 : List Fact} {al0 : List (Nat × Value)} {its : List Item} {i : Nat} {q : Rho → Prop}
theorem dnl (k : ∀ ρ, q ρ) (h : ∀ ρ, Hold (q ρ) → JX n Q .normal (Fc its ρ ++ Sh ρ (fun j => Nat.blt j i)) (facts its ρ ++ R0) (Dt its al0 ρ) := by intro ρ h; simp only [Fc, facts, Dt, List.append_nil, List.nil_append, List.cons_append]; exact h.h) : DJ Tryz.prog n ops Q Sh R0 al0 i [] its := d_nilC fun ρ => h ρ ⟨k ρ⟩
theorem dtl {o : Oper} (k : ∀ ρ, q ρ) (ht : Ju ops i = true := by kernel_rfl) (h : ∀ ρ, Hold (q ρ) → J Tryz.prog n ops Q (o :: rest) (Fc its ρ ++ Sh ρ (fun j => Nat.blt j i)) (facts its ρ ++ R0) (Dt its al0 ρ) := by intro ρ h; simp only [Fc, facts, Dt, List.append_nil, List.nil_append, List.cons_append]; exact h.h) : DJ Tryz.prog n ops Q Sh R0 al0 i (o :: rest) its := Wb ht fun ρ => h ρ ⟨k ρ⟩
theorem djc {op : Oper} (hp : ∀ ρ S, Ao Tryz.prog n (Dt its al0 ρ) (Sh ρ S) R0 op v) (k : DJ Tryz.prog n ops Q Sh R0 al0 (i + 1) rest (⟨i, some d, fun _ => v, fun _ => [], fun _ => []⟩ :: its)) (hd : op.dst = some d := by exact rfl) (hSh : ∀ ρ g S, S i = false → Sh (Rho.set ρ i g) (upS S i) = Sh ρ S := by exact fun _ _ _ _ => rfl) : DJ Tryz.prog n ops Q Sh R0 al0 i (op :: rest) its := dj (dc hp k hd hSh)
theorem epc {op : Oper} (hp : ∀ ρ S, Ao Tryz.prog n (Dt its al0 ρ) (Sh ρ S) R0 op v) (k : DJ Tryz.prog n ops Q Sh R0 al0 (i + 1) rest (⟨i, some d, fun _ => v, fun _ => [], fun _ => []⟩ :: its)) (hSh : Hz ops Sh i := by exact fun _ _ _ _ _ => rfl) (hd : op.dst = some d := by exact rfl) : DJ Tryz.prog n ops Q Sh R0 al0 i (op :: rest) its := Kb hp hSh k hd
theorem epp {op : Oper} {v : Rho → Value} (hp : ∀ ρ S, Ao Tryz.prog n (Dt its al0 ρ) (Sh ρ S) R0 op (v ρ)) (k : DJ Tryz.prog n ops Q Sh R0 al0 (i + 1) rest (⟨i, some d, v, fun _ => [], fun _ => []⟩ :: its)) (hi : Ind ops i v := by first | exact Ind.const _ | exact fun _ _ _ _ _ => rfl | exact Ind.self | exact Ind.gh _ 3 rfl) (hSh : Hz ops Sh i := by exact fun _ _ _ _ _ => rfl) (hd : op.dst = some d := by exact rfl) : DJ Tryz.prog n ops Q Sh R0 al0 i (op :: rest) its := e_p hp hi hSh k hd
def befs (ops : Array Oper) (i : Nat) (l : List Nat) : Bool := l.all fun j => Ln ops 9 j i
def afts (ops : Array Oper) (i : Nat) (l : List Nat) : Bool := l.all fun j => Ln ops 9 i j
def AllS (S : Nat → Bool) (b : Bool) : List Nat → Prop
 | [] => True
 | j :: r => S j = b ∧ AllS S b r
theorem AllS.mk {S : Nat → Bool} {b : Bool} : ∀ {l : List Nat}, (∀ j, j ∈ l → S j = b) → AllS S b l
 | [], _ => trivial
 | j :: r, h => ⟨h j (.head _), AllS.mk fun j hj => h j (.tail _ hj)⟩
theorem Rho.at_ne {ρ : Rho} {i j : Nat} {g : G} (h : Nat.beq j i = false) : Rho.set ρ i g j = ρ j := by
 have : j ≠ i := fun e => by rw [e, Nat.beq_refl] at h; cases h
 simp [Rho.set, this]
theorem upS_at {S : Nat → Bool} {i : Nat} : upS S i i = true := by simp [upS]
theorem upS_no {S : Nat → Bool} {i j : Nat} (h : Nat.beq j i = false) : upS S i j = S j := by simp [upS, h]
theorem es_ (T0 : TypeId) (f : Nat) (bz az : List Nat) (bb : Rho → Nat) (vs us : Rho → List Value) {v : Rho → Value} {sz : Nat} (hsz : ∀ w, (sizeOf T).run Tryz.prog w = .ok sz w) (k : DJ Tryz.prog n ops Q Sh R0 al0 (i + 1) rest (⟨i, none, fun _ => undef, fun _ => [], fun _ => []⟩ :: its)) (hx : ∀ ρ, ev n (Dt its al0 ρ) x = some (bp (bb ρ) f) := by exact fun _ => rfl) (hy : ∀ ρ, ev n (Dt its al0 ρ) y = some (v ρ) := by exact fun _ => rfl) (hv : ∀ ρ, (v ρ).cells = (us ρ).toArray := by exact fun _ => rfl) (hl : ∀ ρ, (us ρ).length = sz := by exact fun _ => rfl)
  (h1 : ∀ ρ R' w L', Deps ops R0 its i ρ R' → St L' R' w → ∀ u ∈ us ρ, u.oneCell' = true := by exact fun _ _ _ _ _ _ => by first | (intro u hu; revert u hu; simp [Value.oneCell', Config.cells, Msg.cells, Line.cells, Op.cells, Done.cells, Step.cells]; done) | (repeat (first | exact Ie | refine Ec (by first | exact rfl | assumption) ?_))) (hf : ∀ ρ, Nat.ble (f + sz) (vs ρ).length = true := by exact fun _ => rfl) (hb : befs ops i bz = true := by kernel_rfl) (ha : afts ops i az = true := by kernel_rfl)
  (hSh : ∀ ρ g S, S i = false → AllS S true bz → AllS S false az → ∃ L1, (Sh ρ S).Perm (blk (bb ρ) T0 (vs ρ) :: L1) ∧ (Sh (Rho.set ρ i g) (upS S i)).Perm (blk (bb ρ) T0 ((vs ρ).take f ++ us ρ ++ (vs ρ).drop (f + sz)) :: L1) := by intro ρ g S hS hB hA; simp only [AllS, and_true] at hB hA; simp +decide only [upS_at, upS_no, Rho.at_ne, hS, hB, hA, cond_true, cond_false]; exact Pos.ex (by repeat (first | exact .hd | exact .hc | apply Pos.tl | apply Pos.ap))) : DJ Tryz.prog n ops Q Sh R0 al0 i (⟨none, .store T x y, ty, pos, aft, none⟩ :: rest) its :=
 Afp bb hsz hx hy hv hl h1 hf (fun ρ g S hS hB hA => hSh ρ g S hS (AllS.mk fun j hj => hB j ⟨9, List.all_eq_true.1 hb j hj⟩) (AllS.mk fun j hj => hA j ⟨9, List.all_eq_true.1 ha j hj⟩)) k
end
section
variable {P : Program} {n : Nat} {L L' L1 : List Chunk} {R : List Fact} {al : List (Nat × Value)} {γ : Type} {val : γ → Value} {Lf : γ → List Chunk} {Rf : γ → List Fact} {fn : Func} {e : Exit} {t u s r : Nat} {v v1 v2 v3 v4 : Value} {ty : TypeId} {sz b : Nat} {cs : List Value} {T0 : TypeId} {Q : Exit → Act → World → Prop} {c : Code}
theorem cq_ (L' : List Chunk) (k : JC P n c Q L' R al) (h : ∀ w, St L R w → St L' R w := by exact fun w hs => Af hs) : JC P n c Q L R al := JC.conseq h k
theorem xq_ (L' : List Chunk) (k : JX n Q e L' R al) (h : ∀ w, St L R w → St L' R w := by exact fun w hs => hs) : JX n Q e L R al := JX.conseq h k
theorem Bz (g : γ) (he : e = .normal ∨ e = .ret := by first | exact .inr rfl | exact .inl rfl) (hf : fn.results = #[.tmp t] := by exact rfl) (h0 : ev n al (.tmp t) = some v1 := by exact rfl) (hv : v1 = val g := by rfl) (hs : ∀ w, St L R w → St (Lf g) (Rf g) w := by exact fun w hs => Af hs) : JX n (bodyPost P fn (Bh val Lf Rf)) e L R al := Ax he (fun B w _ => Uw hf h0 B w) (fun w h => ⟨g, hv, hs w h⟩)
theorem Sp (g : γ) (hT : ∀ w, (isAgg ty).run P w = .ok true w) (hsz : ∀ w, (sizeOf ty).run P w = .ok sz w) (he : e = .normal ∨ e = .ret := by first | exact .inr rfl | exact .inl rfl) (hf : fn.results = #[.cell t ty] := by exact rfl) (h0 : ev n al (.tmp t) = some (bp b 0) := by exact rfl)  (hp : Pick L (blk b T0 cs) L1 := by exact pkk) (hl : cs.length = sz := by exact rfl) (hv : (.agg cs.toArray) = val g := by rfl) (hs : ∀ w, St L R w → St (Lf g) (Rf g) w := by exact fun w hs => Af hs) : JX n (bodyPost P fn (Bh val Lf Rf)) e L R al := Ax he (fun B w hw => resC1 hf h0  hT hsz hp hl B w hw) (fun w h => ⟨g, hv, hs w h⟩)
theorem Cl (g : γ) (he : e = .normal ∨ e = .ret := by first | exact .inr rfl | exact .inl rfl) (hf : fn.results = #[.tmp t, .tmp u] := by exact rfl) (h0 : ev n al (.tmp t) = some v1 := by exact rfl) (h1 : ev n al (.tmp u) = some v2 := by exact rfl) (hv : (.tuple #[v1, v2]) = val g := by rfl) (hs : ∀ w, St L R w → St (Lf g) (Rf g) w := by exact fun w hs => Af hs) : JX n (bodyPost P fn (Bh val Lf Rf)) e L R al := Ax he (fun B w _ => res2 hf h0 h1 B w) (fun w h => ⟨g, hv, hs w h⟩)
theorem D6 (g : γ) (hT : ∀ w, (isAgg ty).run P w = .ok true w) (hsz : ∀ w, (sizeOf ty).run P w = .ok sz w) (he : e = .normal ∨ e = .ret := by first | exact .inr rfl | exact .inl rfl) (hf : fn.results = #[.cell t ty, .tmp u] := by exact rfl) (h0 : ev n al (.tmp t) = some (bp b 0) := by exact rfl) (h1 : ev n al (.tmp u) = some v2 := by exact rfl) (hp : Pick L (blk b T0 cs) L1 := by exact pkk) (hl : cs.length = sz := by exact rfl) (hv : (.tuple #[.agg cs.toArray, v2]) = val g := by rfl) (hs : ∀ w, St L R w → St (Lf g) (Rf g) w := by exact fun w hs => Af hs) : JX n (bodyPost P fn (Bh val Lf Rf)) e L R al := Ax he (fun B w hw => resC2 hf h0 h1 hT hsz hp hl B w hw) (fun w h => ⟨g, hv, hs w h⟩)
theorem Jg (g : γ) (he : e = .normal ∨ e = .ret := by first | exact .inr rfl | exact .inl rfl) (hf : fn.results = #[.tmp t, .tmp u, .tmp s] := by exact rfl) (h0 : ev n al (.tmp t) = some v1 := by exact rfl) (h1 : ev n al (.tmp u) = some v2 := by exact rfl) (h2 : ev n al (.tmp s) = some v3 := by exact rfl) (hv : (.tuple #[v1, v2, v3]) = val g := by rfl) (hs : ∀ w, St L R w → St (Lf g) (Rf g) w := by exact fun w hs => Af hs) : JX n (bodyPost P fn (Bh val Lf Rf)) e L R al := Ax he (fun B w _ => res3 hf h0 h1 h2 B w) (fun w h => ⟨g, hv, hs w h⟩)
theorem Eu (g : γ) (hT : ∀ w, (isAgg ty).run P w = .ok true w) (hsz : ∀ w, (sizeOf ty).run P w = .ok sz w) (he : e = .normal ∨ e = .ret := by first | exact .inr rfl | exact .inl rfl) (hf : fn.results = #[.cell t ty, .tmp u, .tmp s] := by exact rfl) (h0 : ev n al (.tmp t) = some (bp b 0) := by exact rfl) (h1 : ev n al (.tmp u) = some v2 := by exact rfl) (h2 : ev n al (.tmp s) = some v3 := by exact rfl) (hp : Pick L (blk b T0 cs) L1 := by exact pkk) (hl : cs.length = sz := by exact rfl) (hv : (.tuple #[.agg cs.toArray, v2, v3]) = val g := by rfl) (hs : ∀ w, St L R w → St (Lf g) (Rf g) w := by exact fun w hs => Af hs) : JX n (bodyPost P fn (Bh val Lf Rf)) e L R al := Ax he (fun B w hw => resC3 hf h0 h1 h2 hT hsz hp hl B w hw) (fun w h => ⟨g, hv, hs w h⟩)
theorem Hw (g : γ) (hT : ∀ w, (isAgg ty).run P w = .ok true w) (hsz : ∀ w, (sizeOf ty).run P w = .ok sz w) (he : e = .normal ∨ e = .ret := by first | exact .inr rfl | exact .inl rfl) (hf : fn.results = #[.cell t ty, .tmp u, .tmp s, .tmp r] := by exact rfl) (h0 : ev n al (.tmp t) = some (bp b 0) := by exact rfl) (h1 : ev n al (.tmp u) = some v2 := by exact rfl) (h2 : ev n al (.tmp s) = some v3 := by exact rfl) (h3 : ev n al (.tmp r) = some v4 := by exact rfl) (hp : Pick L (blk b T0 cs) L1 := by exact pkk) (hl : cs.length = sz := by exact rfl) (hv : (.tuple #[.agg cs.toArray, v2, v3, v4]) = val g := by rfl) (hs : ∀ w, St L R w → St (Lf g) (Rf g) w := by exact fun w hs => Af hs) : JX n (bodyPost P fn (Bh val Lf Rf)) e L R al := Ax he (fun B w hw => resC4 hf h0 h1 h2 h3 hT hsz hp hl B w hw) (fun w h => ⟨g, hv, hs w h⟩)
end
section
variable {P : Program} {n : Nat} {ops : Array Oper} {Q : Exit → Act → World → Prop} {rest : List Oper} {L : List Chunk} {R : List Fact} {al : List (Nat × Value)} {d : Nat} {x y : Operand} {T U ty : TypeId} {pos : String} {aft : Array Edge} {k k' : IntKind} {a b : Int}
theorem Df (kk : J P n ops Q rest L R ((d, .bool true) :: al)) (hx : ev n al x = some (.int k a) := by exact rfl) (hy : ev n al y = some (.int k b) := by exact rfl) (h : a = b := by omega) : J P n ops Q (⟨some d, .binOp .eql T x y U, ty, pos, aft, none⟩ :: rest) L R al := ob (Ai hx hy (Aw h)) kk
theorem Ay (kk : J P n ops Q rest L R ((d, .bool false) :: al)) (hx : ev n al x = some (.int k a) := by exact rfl) (hy : ev n al y = some (.int k b) := by exact rfl) (h : a ≠ b := by omega) : J P n ops Q (⟨some d, .binOp .eql T x y U, ty, pos, aft, none⟩ :: rest) L R al := ob (Ai hx hy (A1 h)) kk
theorem oneqT (kk : J P n ops Q rest L R ((d, .bool true) :: al)) (hx : ev n al x = some (.int k a) := by exact rfl) (hy : ev n al y = some (.int k b) := by exact rfl) (h : a ≠ b := by omega) : J P n ops Q (⟨some d, .binOp .neq T x y U, ty, pos, aft, none⟩ :: rest) L R al := ob (Ai hx hy (Fs h)) kk
theorem oneqF (kk : J P n ops Q rest L R ((d, .bool false) :: al)) (hx : ev n al x = some (.int k a) := by exact rfl) (hy : ev n al y = some (.int k b) := by exact rfl) (h : a = b := by omega) : J P n ops Q (⟨some d, .binOp .neq T x y U, ty, pos, aft, none⟩ :: rest) L R al := ob (Ai hx hy (Cf h)) kk
theorem Fm (kk : J P n ops Q rest L R ((d, .bool true) :: al)) (hx : ev n al x = some (.int k a) := by exact rfl) (hy : ev n al y = some (.int k b) := by exact rfl) (h : a < b := by omega) : J P n ops Q (⟨some d, .binOp .lss T x y U, ty, pos, aft, none⟩ :: rest) L R al := ob (Ai hx hy (Nl h)) kk
theorem Bj (kk : J P n ops Q rest L R ((d, .bool false) :: al)) (hx : ev n al x = some (.int k a) := by exact rfl) (hy : ev n al y = some (.int k b) := by exact rfl) (h : ¬ a < b := by omega) : J P n ops Q (⟨some d, .binOp .lss T x y U, ty, pos, aft, none⟩ :: rest) L R al := ob (Ai hx hy (Dd h)) kk
theorem oleqT (kk : J P n ops Q rest L R ((d, .bool true) :: al)) (hx : ev n al x = some (.int k a) := by exact rfl) (hy : ev n al y = some (.int k b) := by exact rfl) (h : a ≤ b := by omega) : J P n ops Q (⟨some d, .binOp .leq T x y U, ty, pos, aft, none⟩ :: rest) L R al := ob (Ai hx hy (W5 h)) kk
theorem oleqF (kk : J P n ops Q rest L R ((d, .bool false) :: al)) (hx : ev n al x = some (.int k a) := by exact rfl) (hy : ev n al y = some (.int k b) := by exact rfl) (h : ¬ a ≤ b := by omega) : J P n ops Q (⟨some d, .binOp .leq T x y U, ty, pos, aft, none⟩ :: rest) L R al := ob (Ai hx hy (Qn h)) kk
theorem J7 (kk : J P n ops Q rest L R ((d, .bool true) :: al)) (hx : ev n al x = some (.int k a) := by exact rfl) (hy : ev n al y = some (.int k b) := by exact rfl) (h : b < a := by omega) : J P n ops Q (⟨some d, .binOp .gtr T x y U, ty, pos, aft, none⟩ :: rest) L R al := ob (Ai hx hy (Es h)) kk
theorem Fe (kk : J P n ops Q rest L R ((d, .bool false) :: al)) (hx : ev n al x = some (.int k a) := by exact rfl) (hy : ev n al y = some (.int k b) := by exact rfl) (h : ¬ b < a := by omega) : J P n ops Q (⟨some d, .binOp .gtr T x y U, ty, pos, aft, none⟩ :: rest) L R al := ob (Ai hx hy (F5 h)) kk
theorem J8 (kk : J P n ops Q rest L R ((d, .bool true) :: al)) (hx : ev n al x = some (.int k a) := by exact rfl) (hy : ev n al y = some (.int k b) := by exact rfl) (h : b ≤ a := by omega) : J P n ops Q (⟨some d, .binOp .geq T x y U, ty, pos, aft, none⟩ :: rest) L R al := ob (Ai hx hy (Nn h)) kk
theorem Eo (kk : J P n ops Q rest L R ((d, .bool false) :: al)) (hx : ev n al x = some (.int k a) := by exact rfl) (hy : ev n al y = some (.int k b) := by exact rfl) (h : ¬ b ≤ a := by omega) : J P n ops Q (⟨some d, .binOp .geq T x y U, ty, pos, aft, none⟩ :: rest) L R al := ob (Ai hx hy (Dh h)) kk
theorem meT {A B : Prop} (h : A := by first | exact congrArg (fun b => some (Value.bool b)) (decide_eq_true (by omega)).symm | exact congrArg (fun b => some (Value.bool b)) (by simp; omega)) (g : B := by exact alT) : A ∧ B := ⟨h, g⟩
theorem meF {A B : Prop} (h : A := by first | exact congrArg (fun b => some (Value.bool b)) (decide_eq_false (by omega)).symm | exact congrArg (fun b => some (Value.bool b)) (by simp; omega)) (g : B := by exact alT) : A ∧ B := ⟨h, g⟩
theorem cdy {t : Nat} {a b : Code} {p : Prop} {hd : Decidable p} (hT : p → JC P n a Q L R ((t, .bool true) :: al)) (hF : ¬ p → JC P n b Q L R ((t, .bool false) :: al)) (hc : ev n al (.tmp t) = some (.bool (decide p)) := by exact rfl) : JC P n (.cond (.tmp t) a b) Q L R al := cdx hc hT hF
theorem pex {l l' : List Chunk} {x x' : Chunk} {L1 : List Chunk} (h : Pos l l' x x' L1 := by repeat (first | exact .hd | exact .hc | apply Pos.tl | apply Pos.ap)) : ∃ L1, l.Perm (x :: L1) ∧ l'.Perm (x' :: L1) := h.ex
end
section
variable {n : Nat} {Q : Exit → Act → World → Prop} {ops : Array Oper} {rest : List Oper} {d : Nat} {x y : Operand} {ty : TypeId} {pos : String} {aft : Array Edge} {Sh : Rho → (Nat → Bool) → List Chunk} {R0 : List Fact} {al0 : List (Nat × Value)} {its : List Item} {i : Nat} {v : Value}
theorem djm (kk : DJ Tryz.prog n ops Q Sh R0 al0 (i + 1) rest (⟨i, some d, fun _ => v, fun _ => [], fun _ => []⟩ :: its)) (hx : ∀ (ρ : Rho) (_ : Nat → Bool), ev n (Dt its al0 ρ) x = some v := by exact fun _ _ => rfl) (hSh : ∀ ρ g S, S i = false → Sh (Rho.set ρ i g) (upS S i) = Sh ρ S := by exact fun _ _ _ _ => rfl) : DJ Tryz.prog n ops Q Sh R0 al0 i (⟨some d, .move x, ty, pos, aft, none⟩ :: rest) its := djc (fun ρ S => Ss (hx ρ S)) kk rfl hSh
theorem djf {c : Operand} (kk : DJ Tryz.prog n ops Q Sh R0 al0 (i + 1) rest (⟨i, some d, fun _ => v, fun _ => [], fun _ => []⟩ :: its)) (hc : ∀ (ρ : Rho) (_ : Nat → Bool), ev n (Dt its al0 ρ) c = some (.bool false) := by exact fun _ _ => rfl) (hy : ∀ (ρ : Rho) (_ : Nat → Bool), ev n (Dt its al0 ρ) y = some v := by exact fun _ _ => rfl) (hSh : ∀ ρ g S, S i = false → Sh (Rho.set ρ i g) (upS S i) = Sh ρ S := by exact fun _ _ _ _ => rfl) : DJ Tryz.prog n ops Q Sh R0 al0 i (⟨some d, .pick c x y, ty, pos, aft, none⟩ :: rest) its := djc (fun ρ S => Adk (hc ρ S) (hy ρ S)) kk rfl hSh
theorem epg (j f : Nat) (kk : DJ Tryz.prog n ops Q Sh R0 al0 (i + 1) rest (⟨i, some d, fun ρ => Gh.dec (γ := Value) (ρ j), fun _ => [], fun _ => []⟩ :: its)) (hx : ∀ (ρ : Rho) (_ : Nat → Bool), ev n (Dt its al0 ρ) x = some (Gh.dec (γ := Value) (ρ j)) := by exact fun _ _ => rfl) (hj : Ln ops f j i = true := by exact rfl) (hSh : Hz ops Sh i := by exact fun _ _ _ _ _ => rfl) : DJ Tryz.prog n ops Q Sh R0 al0 i (⟨some d, .assign x, ty, pos, aft, none⟩ :: rest) its := e_p (fun ρ S => C6 (hx ρ S)) (Ind.gh (h := fun g => ((Gh.dec (γ := Value) g) : Value)) j f hj) hSh kk rfl
end
structure KpZ (q : Prop) : Prop where
  out : q
def BkZ (p q : Prop) : Prop := KpZ q → p
theorem ZP {p q : Prop} (k : q) (h : BkZ p q := by
 intro kZ
 refine Gm ?_
 refine rn2 ?_
 exact kZ.out) : p := h ⟨k⟩
theorem Zad {p q : Prop} (k : q) (h : BkZ p q := by
 intro kZ
 refine rn3 ?_
 refine gy ?_
 exact kZ.out) : p := h ⟨k⟩
theorem ZbR {p q : Prop} (k : q) (h : BkZ p q := by
 intro kZ
 refine ZP ?_
 refine Ay ?_
 refine Zad ?_
 refine Ay ?_
 refine Gd2 ?_
 refine rn2 ?_
 refine Ay ?_
 refine Gc1 ?_
 refine kp [5, 6, 7, 8, 9, 10, 11, 76, 77, 78, 79, 80, 81, 82, 83, 84, 85, 86, 87, 88, 89, 90, 91, 92, 93, 94, 95, 96, 97, 98] ?_
 refine Bl ?_
 refine dn2 ?_
 exact kZ.out) : p := h ⟨k⟩
theorem Za6 {p q : Prop} (k : q) (h : BkZ p q := by
 intro kZ
 refine djc (fun _ _ => Ai rfl rfl (A1 (by omega))) ?_
 exact kZ.out) : p := h ⟨k⟩
theorem ZR {p q : Prop} (k : q) (h : BkZ p q := by
 intro kZ
 refine djf ?_
 refine djm ?_
 exact kZ.out) : p := h ⟨k⟩
theorem Za0 {p q : Prop} (k : q) (h : BkZ p q := by
 intro kZ
 refine Za6 ?_
 refine djm ?_
 refine dn1 ?_
 refine ZR ?_
 refine dn5 ?_
 refine ZR ?_
 exact kZ.out) : p := h ⟨k⟩
theorem ZZ {p q : Prop} (k : q) (h : BkZ p q := by
 intro kZ
 refine djc (fun _ _ => C6) ?_
 refine dnl ?_; intro ρ
 revert ρ
 exact kZ.out) : p := h ⟨k⟩
theorem Za7 {p q : Prop} (k : q) (h : BkZ p q := by
 intro kZ
 refine dn7 ?_
 refine djf ?_
 refine ZZ ?_;intro ρ
 refine Glc ?_
 revert ρ
 exact kZ.out) : p := h ⟨k⟩
theorem Zak {p q : Prop} (k : q) (h : BkZ p q := by
 intro kZ
 refine Bl ?_
 refine dn2 ?_
 exact kZ.out) : p := h ⟨k⟩
theorem ZaX {p q : Prop} (k : q) (h : BkZ p q := by
 intro kZ
 refine dnl ?_; intro ρ
 refine ZbR ?_
 refine Za0 ?_
 refine Za7 ?_;intro ρ
 refine Zak ?_
 revert ρ
 exact kZ.out) : p := h ⟨k⟩
theorem Zbr {p q : Prop} (k : q) (h : BkZ p q := by
 intro kZ
 refine Gl ?_
 refine cq_ (row 120 vL (Ac ⟨ls, q⟩ id home m).1.lines :: blk b18 123 [vL, vi (Ac ⟨ls, q⟩ id home m).1.wait.kind, vi (Ac ⟨ls, q⟩ id home m).1.wait.line, vi (Ac ⟨ls, q⟩ id home m).1.wait.value, vi id, vi home, g1, g2] :: row 128 g1 (Ac ⟨ls, q⟩ id home m).2.1 :: row 47 g2 (Ac ⟨ls, q⟩ id home m).2.2 :: blk b8 93 [.slice none 0 0, vi 0, vi 0, vi 0] :: L) ?_
 refine JC.shut (v := vL) (xs := (Ac ⟨ls, q⟩ id home m).1.lines) .hd ?_
 refine JC.shut (v := g1) (xs := (Ac ⟨ls, q⟩ id home m).2.1) pkk ?_
 refine JC.shut (v := g2) (xs := (Ac ⟨ls, q⟩ id home m).2.2) pkk ?_
 refine cq_ (blk b8 93 [.slice none 0 0, vi 0, vi 0, vi 0] :: blk b18 123 [vL, vi (Ac ⟨ls, q⟩ id home m).1.wait.kind, vi (Ac ⟨ls, q⟩ id home m).1.wait.line, vi (Ac ⟨ls, q⟩ id home m).1.wait.value, vi id, vi home, g1, g2] :: L) ?_
 refine jd_ (fun ρ S => blk b8 93 (bif S 12 then [vL, vi (Ac ⟨ls, q⟩ id home m).1.wait.kind, vi (Ac ⟨ls, q⟩ id home m).1.wait.line, vi (Ac ⟨ls, q⟩ id home m).1.wait.value] else [.slice none 0 0, vi 0, vi 0, vi 0]) :: blk b18 123 [vL, vi (Ac ⟨ls, q⟩ id home m).1.wait.kind, vi (Ac ⟨ls, q⟩ id home m).1.wait.line, vi (Ac ⟨ls, q⟩ id home m).1.wait.value, vi id, vi home, g1, g2] :: L) ?_
 refine dn3 ?_
 refine Kb (v := .agg ([vL, vi (Ac ⟨ls, q⟩ id home m).1.wait.kind, vi (Ac ⟨ls, q⟩ id home m).1.wait.line, vi (Ac ⟨ls, q⟩ id home m).1.wait.value]).toArray) (fun _ _ => E9 (b := b18) (f := 0) (vs := [vL, vi (Ac ⟨ls, q⟩ id home m).1.wait.kind, vi (Ac ⟨ls, q⟩ id home m).1.wait.line, vi (Ac ⟨ls, q⟩ id home m).1.wait.value, vi id, vi home, g1, g2]) 4 Tryz.isAgg93 Tryz.sizeOf93) (fun _ _ _ _ _ => rfl) ?_
 refine dn8 ?_
 refine es_ 93 0 [] [] (fun ρ => b8) (fun ρ => [.slice none 0 0, vi 0, vi 0, vi 0]) (fun ρ => [vL, vi (Ac ⟨ls, q⟩ id home m).1.wait.kind, vi (Ac ⟨ls, q⟩ id home m).1.wait.line, vi (Ac ⟨ls, q⟩ id home m).1.wait.value]) Tryz.sizeOf93 ?_
 refine dn2 ?_
 refine dnl ?_; intro ρ
 refine xq_ (blk b8 93 [vL, vi (Ac ⟨ls, q⟩ id home m).1.wait.kind, vi (Ac ⟨ls, q⟩ id home m).1.wait.line, vi (Ac ⟨ls, q⟩ id home m).1.wait.value] :: blk b18 123 [vL, vi (Ac ⟨ls, q⟩ id home m).1.wait.kind, vi (Ac ⟨ls, q⟩ id home m).1.wait.line, vi (Ac ⟨ls, q⟩ id home m).1.wait.value, vi id, vi home, g1, g2] :: L) ?_
 refine Gl ?_
 revert ρ
 exact kZ.out) : p := h ⟨k⟩
theorem Zbs {p q : Prop} (k : q) (h : BkZ p q := by
 intro kZ
 refine Zak ?_
 refine djc (fun _ _ => Ai rfl rfl (Dd (by omega))) ?_
 refine djm ?_
 refine dn4 ?_
 exact kZ.out) : p := h ⟨k⟩
theorem ZbS {p q : Prop} (k : q) (h : BkZ p q := by
 intro kZ
 refine G7 (v := v0) m.line mm (by omega) (by omega) (fun hEw u => ?_)
 have hE : EB (Ah l m.line) := hb m.line.toNat (by omega)
 have hE0 := hE
 unfold EB Entry.wf An at hE0
 have hL : (Ah l m.line).last.length ≤ 4 := hla m.line.toNat (by omega)
 refine JC.know (p := u.oneCell' = true) (fun w hs => isSlice.one (hs.fact (.tail _ (.head _)))) (fun hone => ?_)
 refine JC.know (p := ∀ x ∈ (Ah l m.line).last, An x) (fun w hs => Hc (.tail _ (.head _)) hs) (fun hlin => ?_)
 refine Zbs ?_
 revert hEw u hE hE0 hL hone hlin
 exact kZ.out) : p := h ⟨k⟩
theorem ZbT {p q : Prop} (k : q) (h : BkZ p q := by
 intro kZ
 refine rn1 ?_
 refine Aj Tryz.call54 rfl (fun w hs => F4 (u := u) (c := ⟨ls, q⟩) hs mm) ?_; intro vL
 refine J.know (p := vL.oneCell' = true) (fun w hs => A8 .hd hs) (fun honeV => ?_)
 refine rn3 ?_
 revert vL honeV
 exact kZ.out) : p := h ⟨k⟩
theorem ZaY {p q : Prop} (k : q) (h : BkZ p q := by
 intro kZ
 refine Gm ?_
 refine bx ?_; intro b4
 refine bx ?_; intro b7
 refine al_ (cs := [.slice none 0 0, vi 0, vi 0, vi 0]) Tryz.zeroValue93 ?_; intro b8
 refine Gb2 ?_
 refine ZbT ?_;intro vL honeV
 refine bx ?_; intro b18
 refine Ga1 ?_
 refine cq_ (row 120 vL ls :: blk b18 123 [vL, vi q.kind, vi q.line, vi q.value, vi id, vi home, .slice none 0 0, .slice none 0 0] :: blk b8 93 [.slice none 0 0, vi 0, vi 0, vi 0] :: blk b7 128 m.cells :: blk b4 93 [u, vi q.kind, vi q.line, vi q.value] :: L) ?_
 revert b4 b7 b8 vL honeV b18
 exact kZ.out) : p := h ⟨k⟩
theorem ZQ {p q : Prop} (k : q) (h : BkZ p q := by
 intro kZ
 refine JC.rowNil 128 Msg ?_
 exact kZ.out) : p := h ⟨k⟩
theorem Za8 {p q : Prop} (k : q) (h : BkZ p q := by
 intro kZ
 refine dc (fun _ _ => Ai rfl rfl (Dh (show ¬ ((Ah l m.line).last.length : Int) ≤ m.src by omega))) ?_
 refine djf ?_
 refine dnl ?_; intro ρ
 refine Glc ?_
 refine JC.know (p := EpAll g13.1 10 m.line.toNat) (fun w hs => Xj (α := Entry) (xs := l) pkk w hs) (fun hA => ?_)
 have honeE : (ep g13.1 10 m.line.toNat 0).oneCell' = true := hA.one
 refine kp [1, 5, 6, 7, 8, 9, 42, 43, 44, 45] ?_
 refine Aa ?_
 refine rn3 ?_
 refine ob (Ip (v := g13.1) (i := m.line) Ny (hl := Cs (α := Entry) (xs := l) pkk)) ?_
 refine Gb1 ?_
 refine rn5 ?_
 refine bx ?_; intro b51
 refine Ga1 ?_
 refine ZQ ?_
 revert ρ hA honeE b51
 exact kZ.out) : p := h ⟨k⟩
theorem ZbU {p q : Prop} (k : q) (h : BkZ p q := by
 intro kZ
 refine kp [2, 3, 4, 5, 16, 17, 18, 19, 20, 21, 22, 23, 24, 25, 26, 27, 28, 29, 30, 31, 32, 33, 34, 35, 36, 37, 38, 39, 40, 41, 42, 43, 44, 45, 46, 47, 48, 49, 50, 51, 52, 53, 54, 55, 56, 57, 58, 59, 60, 61, 62, 63, 64, 65, 66, 67, 68, 69, 70] ?_
 exact kZ.out) : p := h ⟨k⟩
theorem Zae {p q : Prop} (k : q) (h : BkZ p q := by
 intro kZ
 refine ZbU ?_
 refine Aa ?_
 refine rn3 ?_
 exact kZ.out) : p := h ⟨k⟩
theorem ZaO {p q : Prop} (k : q) (h : BkZ p q := by
 intro kZ
 have honec : cv.oneCell' = true := isSlice.one (hs.fact hcv)
 have honeh : hv.oneCell' = true := isSlice.one (hs.fact hhv)
 have honef : fv.oneCell' = true := isSlice.one (hs.fact hfv)
 revert honec honeh honef
 exact kZ.out) : p := h ⟨k⟩
theorem Za9 {p q : Prop} (k : q) (h : BkZ p q := by
 intro kZ
 have hnc := h.nc
 have hnh := h.nh
 have hn1 := h.n1
 have hn2 := h.l1
 refine ZaO ?_;intro honec honeh honef
 have hn64 : An (x.cores.length : Int) := by unfold An; omega
 have hop : s.op.wf := ⟨hsn.2.2.2.2.1, hsn.2.2.2.2.2.1, hsn.2.2.2.2.2.2⟩
 refine Ag Tryz.func17 rfl Tryz.ntmps17 rfl hs ?_
 revert hnc hnh hn1 hn2 honec honeh honef hn64 hop
 exact kZ.out) : p := h ⟨k⟩
theorem ZaP {p q : Prop} (k : q) (h : BkZ p q := by
 intro kZ
 refine dn8 ?_
 refine es_ 93 0 [] [] (fun ρ => b8) (fun ρ => [.slice none 0 0, vi 0, vi 0, vi 0]) (fun ρ => [vL, vi q.kind, vi q.line, vi q.value]) Tryz.sizeOf93 ?_
 exact kZ.out) : p := h ⟨k⟩
theorem Zbt {p q : Prop} (k : q) (h : BkZ p q := by
 intro kZ
 refine cq_ (blk b8 93 [.slice none 0 0, vi 0, vi 0, vi 0] :: blk b18 123 [vL, vi q.kind, vi q.line, vi q.value, vi id, vi home, v74, .slice none 0 0] :: L) ?_
 refine jd_ (fun ρ S => blk b8 93 (bif S 12 then [vL, vi q.kind, vi q.line, vi q.value] else [.slice none 0 0, vi 0, vi 0, vi 0]) :: blk b18 123 [vL, vi q.kind, vi q.line, vi q.value, vi id, vi home, v74, .slice none 0 0] :: L) ?_
 refine dn3 ?_
 refine Kb (v := .agg ([vL, vi q.kind, vi q.line, vi q.value]).toArray) (fun _ _ => E9 (b := b18) (f := 0) (vs := [vL, vi q.kind, vi q.line, vi q.value, vi id, vi home, v74, .slice none 0 0]) 4 Tryz.isAgg93 Tryz.sizeOf93) (fun _ _ _ _ _ => rfl) ?_
 refine ZaP ?_
 refine dn2 ?_
 refine dnl ?_; intro ρ
 refine xq_ (blk b8 93 [vL, vi q.kind, vi q.line, vi q.value] :: blk b18 123 [vL, vi q.kind, vi q.line, vi q.value, vi id, vi home, v74, .slice none 0 0] :: L) ?_
 refine Gl ?_
 revert ρ
 exact kZ.out) : p := h ⟨k⟩
theorem Zbu {p q : Prop} (k : q) (h : BkZ p q := by
 intro kZ
 refine Glc ?_
 refine kp [5, 6, 7, 8, 9, 10, 11, 178, 179, 180, 181, 182, 183, 184, 185, 186, 187, 188, 189, 190, 191, 192, 193, 194, 195, 196, 197, 198, 199, 200] ?_
 refine Zak ?_
 exact kZ.out) : p := h ⟨k⟩
theorem Zal {p q : Prop} (k : q) (h : BkZ p q := by
 intro kZ
 refine djc (fun _ _ => Ai rfl rfl (Aw (by omega))) ?_
 exact kZ.out) : p := h ⟨k⟩
theorem ZaA {p q : Prop} (k : q) (h : BkZ p q := by
 intro kZ
 refine Zal ?_
 refine djm ?_
 refine dn1 ?_
 exact kZ.out) : p := h ⟨k⟩
theorem ZaZ {p q : Prop} (k : q) (h : BkZ p q := by
 intro kZ
 refine Za0 ?_
 refine dn9 ?_
 refine djf ?_
 refine ZZ ?_;intro ρ
 refine Zbu ?_
 refine ZaA ?_
 refine djc (fun _ _ => Fd) ?_
 refine djm ?_
 revert ρ
 exact kZ.out) : p := h ⟨k⟩
theorem ZbV {p q : Prop} (k : q) (h : BkZ p q := by
 intro kZ
 refine dnl ?_; intro ρ
 refine xq_ (blk bk 123 [vL, vi q.kind, vi q.line, vi q.value, vi id, vi home, vo, (Gh.dec (γ := Value) (ρ 16))] :: row 47 (Gh.dec (γ := Value) (ρ 16)) (ds ++ [(⟨id, q, 0⟩ : Done)]) :: foc 120 vL ls m.line.toNat [vi 0, vi 0, vi 0, vi l.serial, vi m.turn, vi m.turn, vi l.value] :: row 128 vo ms :: blk bm 128 m.cells :: (LX)) ?_
 generalize (Gh.dec (γ := Value) (ρ 15)) = v120
 generalize (Gh.dec (γ := Value) (ρ 16)) = v121
 refine Gl ?_
 refine kp [0, 1, 4, 124, 125, 126, 127, 128] ?_
 refine Aa ?_
 refine rn1 ?_
 refine ob (Du (cs := zOp.cells) Uk) ?_
 refine rn3 ?_
 refine s_N [vL, vi 0, vi 0, vi 0, vi id, vi home, vo, v121] Tryz.sizeOf27 ?_
 refine Gl ?_
 refine Bl ?_
 refine dn13 ?_
 refine dtl ?_; intro ρ
 refine Aj Tryz.call90 rfl (fun w hs => Ep (vL := vL) (vd := v121) (q := zOp) (id := id) (home := home) (ms := ms) (kind := 9) (line := m.line) (serial := 0) (turn := m.turn) (value := l.value) (LX := foc 120 vL ls m.line.toNat [vi 0, vi 0, vi 0, vi l.serial, vi m.turn, vi m.turn, vi l.value] :: row 47 v121 (ds ++ [(⟨id, q, 0⟩ : Done)]) :: blk bm 128 m.cells :: LX) (Af hs) hn (by unfold Msg.wf An; simp only; omega)) ?_; intro v142
 refine Gl ?_
 have ef : C2 l m.kind m.turn = { l with seen := m.turn, gave := m.turn, given := l.value, state := 0, value := 0, want := 0 } := by unfold C2; rw [if_pos ht95]
 have er : (Ac ⟨ls, q⟩ id home m) = (⟨ls.set m.line.toNat ({ l with seen := m.turn, gave := m.turn, given := l.value, state := 0, value := 0, want := 0 }), zOp⟩, [Bm 9 id home m.line m.turn l.value], [⟨id, q, 0⟩]) := by rw [Ho hl hi hk, if_pos (by unfold Ez; omega), ef, if_pos ht95, if_pos ht95]
 rw [er]
 revert v120 v121 ρ v142 ef er
 exact kZ.out) : p := h ⟨k⟩
theorem ZF {p q : Prop} (k : q) (h : BkZ p q := by
 intro kZ
 refine rn4 ?_
 refine gy ?_
 exact kZ.out) : p := h ⟨k⟩
theorem Zba {p q : Prop} (k : q) (h : BkZ p q := by
 intro kZ
 refine ZZ ?_;intro ρ
 refine ZbR ?_
 refine ZaA ?_
 refine djc (fun _ _ => Fd) ?_
 refine djm ?_
 revert ρ
 exact kZ.out) : p := h ⟨k⟩
theorem ZaQ {p q : Prop} (k : q) (h : BkZ p q := by
 intro kZ
 refine ob (Du (cs := zStep.cells) G1) ?_
 refine s_B Tryz.sizeOf29 ?_
 refine Ga1 ?_
 rw [e9]
 exact kZ.out) : p := h ⟨k⟩
theorem Zam {p q : Prop} (k : q) (h : BkZ p q := by
 intro kZ
 refine kp [2, 3, 5, 89] ?_
 refine Aa ?_
 refine ZaQ ?_
 exact kZ.out) : p := h ⟨k⟩
theorem Zbv {p q : Prop} (k : q) (h : BkZ p q := by
 intro kZ
 refine ob (Du (cs := [.slice none 0 0, .slice none 0 0, .slice none 0 0]) Iv) ?_
 exact kZ.out) : p := h ⟨k⟩
theorem Zbb {p q : Prop} (k : q) (h : BkZ p q := by
 intro kZ
 refine Aa ?_
 refine Zbv ?_
 refine rn1 ?_
 refine s_B (cs := [.slice none 0 0, .slice none 0 0, .slice none 0 0]) Tryz.sizeOf39 ?_
 exact kZ.out) : p := h ⟨k⟩
theorem ZaB {p q : Prop} (k : q) (h : BkZ p q := by
 intro kZ
 have hid0 := hid
 have hhome0 := hhome
 unfold An at hid0 hhome0
 revert hid0 hhome0
 exact kZ.out) : p := h ⟨k⟩
theorem ZaC {p q : Prop} (k : q) (h : BkZ p q := by
 intro kZ
 have hlen := Bv hu hs
 have hone0 : u.oneCell' = true := isSlice.one (hs.fact hu)
 have hn4 : ls.length ≤ 4 := hk.n
 have hm0 := hm
 unfold Msg.wf An at hm0
 refine ZaB ?_;intro hid0 hhome0
 refine Ag Tryz.func63 rfl Tryz.ntmps63 rfl hs ?_
 revert hlen hone0 hn4 hm0 hid0 hhome0
 exact kZ.out) : p := h ⟨k⟩
theorem ZA {p q : Prop} (k : q) (h : BkZ p q := by
 intro kZ
 refine Aa ?_
 refine rn2 ?_
 exact kZ.out) : p := h ⟨k⟩
theorem ZaD {p q : Prop} (k : q) (h : BkZ p q := by
 intro kZ
 refine J.know (p := cY.oneCell' = true ∧ hY.oneCell' = true ∧ fY.oneCell' = true) (fun w hs => ⟨A8 .hd hs, isSlice.one (hs.fact (mm (f := sl hY x.home))), isSlice.one (hs.fact (mm (f := sl fY x.frames)))⟩) (fun h12 => ?_)
 revert h12
 exact kZ.out) : p := h ⟨k⟩
theorem ZbW {p q : Prop} (k : q) (h : BkZ p q := by
 intro kZ
 refine kp [1, 2, 3, 4, 5, 40, 76, 77, 78, 79] ?_
 refine Aa ?_
 refine rn4 ?_
 refine Bt (γ := Value) (val := fun _ => .tuple #[]) (caps := [bp b4 0]) (vs := [vi s.op.value]) rfl Tryz.call23 rfl (fun w hs => Oa (b := b4) (v := v65) (ws := (((([toW (Bw s.kind)] : List Wd) ++ [toW (Go.Lib.itoa s.node)]) ++ [toW (D7 s.op.kind)]) ++ [toW (Go.Lib.itoa s.op.line)])) (n := s.op.value) (Af hs) mm hsw.2.2.2.2.2.2 (by simp only [List.length_append, List.length_cons, List.length_nil]; omega)) ?_; intro v80
 refine Gl ?_
 have eW : Az s = ((((([toW (Bw s.kind)] : List Wd) ++ [toW (Go.Lib.itoa s.node)]) ++ [toW (D7 s.op.kind)]) ++ [toW (Go.Lib.itoa s.op.line)]) ++ [toW (Go.Lib.itoa s.op.value)]) := (Ph ht45_ ht75)
 have hLn : (E7 ((((([toW (Bw s.kind)] : List Wd) ++ [toW (Go.Lib.itoa s.node)]) ++ [toW (D7 s.op.kind)]) ++ [toW (Go.Lib.itoa s.op.line)]) ++ [toW (Go.Lib.itoa s.op.value)])).length ≤ 79 := by rw [← eW]; exact Fo hsw
 refine JC.shut (α := Wd) (v := v80) (xs := ((((([toW (Bw s.kind)] : List Wd) ++ [toW (Go.Lib.itoa s.node)]) ++ [toW (D7 s.op.kind)]) ++ [toW (Go.Lib.itoa s.op.line)]) ++ [toW (Go.Lib.itoa s.op.value)])) (T := 9) pkk ?_
 refine Aa ?_
 refine rn1 ?_
 revert v80 eW hLn
 exact kZ.out) : p := h ⟨k⟩
theorem ZJ {p q : Prop} (k : q) (h : BkZ p q := by
 intro kZ
 refine Gm ?_
 refine Gb1 ?_
 exact kZ.out) : p := h ⟨k⟩
theorem ZaE {p q : Prop} (k : q) (h : BkZ p q := by
 intro kZ
 refine al_ (cs := [.slice none 0 0, .slice none 0 0, .slice none 0 0]) Tryz.zeroValue39 ?_; intro b7
 refine s_B (cs := [cY, hY, fY]) Tryz.sizeOf39 ?_
 refine ZJ ?_
 refine Gb1 ?_
 refine Gb2 ?_
 revert b7
 exact kZ.out) : p := h ⟨k⟩
theorem ZbX {p q : Prop} (k : q) (h : BkZ p q := by
 intro kZ
 refine cq_ (blk b8 93 [.slice none 0 0, vi 0, vi 0, vi 0] :: blk b18 123 [vL, vi q.kind, vi q.line, vi q.value, vi id, vi home, .slice none 0 0, .slice none 0 0] :: L) ?_
 refine jd_ (fun ρ S => blk b8 93 (bif S 12 then [vL, vi q.kind, vi q.line, vi q.value] else [.slice none 0 0, vi 0, vi 0, vi 0]) :: blk b18 123 [vL, vi q.kind, vi q.line, vi q.value, vi id, vi home, .slice none 0 0, .slice none 0 0] :: L) ?_
 refine dn3 ?_
 refine Kb (v := .agg ([vL, vi q.kind, vi q.line, vi q.value]).toArray) (fun _ _ => E9 (b := b18) (f := 0) (vs := [vL, vi q.kind, vi q.line, vi q.value, vi id, vi home, .slice none 0 0, .slice none 0 0]) 4 Tryz.isAgg93 Tryz.sizeOf93) (fun _ _ _ _ _ => rfl) ?_
 refine ZaP ?_
 refine dn2 ?_
 refine dnl ?_; intro ρ
 refine xq_ (blk b8 93 [vL, vi q.kind, vi q.line, vi q.value] :: blk b18 123 [vL, vi q.kind, vi q.line, vi q.value, vi id, vi home, .slice none 0 0, .slice none 0 0] :: L) ?_
 refine Gl ?_
 revert ρ
 exact kZ.out) : p := h ⟨k⟩
theorem ZB {p q : Prop} (k : q) (h : BkZ p q := by
 intro kZ
 refine Aa ?_
 refine rn1 ?_
 exact kZ.out) : p := h ⟨k⟩
theorem ZI {p q : Prop} (k : q) (h : BkZ p q := by
 intro kZ
 refine Aa ?_
 refine rn3 ?_
 exact kZ.out) : p := h ⟨k⟩
theorem Zaf {p q : Prop} (k : q) (h : BkZ p q := by
 intro kZ
 refine ob (Au Tryz.underlying3 Tryz.underlying5 rfl (Ce _)) ?_
 exact kZ.out) : p := h ⟨k⟩
theorem ZS {p q : Prop} (k : q) (h : BkZ p q := by
 intro kZ
 refine JC.slNil Done ?_
 exact kZ.out) : p := h ⟨k⟩
theorem ZaF {p q : Prop} (k : q) (h : BkZ p q := by
 intro kZ
 refine JC.slNil Core ?_
 refine JC.slNil Entry ?_
 refine JC.slNil (List UInt8) ?_
 refine ZS ?_
 exact kZ.out) : p := h ⟨k⟩
theorem ZaG {p q : Prop} (k : q) (h : BkZ p q := by
 intro kZ
 refine Gm ?_
 refine bx ?_; intro b2
 refine bx ?_; intro b3
 refine al_ (cs := [.slice none 0 0, .slice none 0 0, .slice none 0 0]) Tryz.zeroValue39 ?_; intro b4
 refine Gb2 ?_
 refine rn1 ?_
 revert b2 b3 b4
 exact kZ.out) : p := h ⟨k⟩
theorem ZbY {p q : Prop} (k : q) (h : BkZ p q := by
 intro kZ
 refine Aa ?_
 refine ob (Du (cs := [.slice none 0 0, vi 0, vi 0, vi 0]) Lq) ?_
 refine s_B Tryz.sizeOf93 ?_
 refine Ga3 ?_
 exact kZ.out) : p := h ⟨k⟩
theorem Zbc {p q : Prop} (k : q) (h : BkZ p q := by
 intro kZ
 refine JC.slNil Line ?_
 refine JC.slNil Msg ?_
 refine ZS ?_
 refine kp [1, 2, 4, 7, 8, 9, 10, 11, 46] ?_
 refine ZbY ?_
 have er : (Ak ⟨ls, q0⟩ id home q) = (Fw, [], [], 3) := Aat (by omega) (by omega)
 rw [er]
 revert er
 exact kZ.out) : p := h ⟨k⟩
theorem Zan {p q : Prop} (k : q) (h : BkZ p q := by
 intro kZ
 have hEB : EB (Ad (Ah l m.line) id m).1 := De hE hm (by omega)
 refine JC.shut (v := uo) (xs := (Ad (Ah l m.line) id m).1.last) pkk ?_
 refine JC.unfocus (Ad (Ah l m.line) id m).1 pkk (C9 mm hEB.1) ?_
 refine JC.shut (v := g13.1) pkk ?_
 revert hEB
 exact kZ.out) : p := h ⟨k⟩
theorem Zao {p q : Prop} (k : q) (h : BkZ p q := by
 intro kZ
 refine Bl ?_
 refine dn7 ?_
 refine dnl ?_; intro ρ
 refine Gl ?_
 have er : Am l id m = (l.set m.line.toNat (Ad (Ah l m.line) id m).1, (Ad (Ah l m.line) id m).2) := by unfold Am; rw [if_neg (by omega)]
 rw [er]
 revert ρ er
 exact kZ.out) : p := h ⟨k⟩
theorem Zbw {p q : Prop} (k : q) (h : BkZ p q := by
 intro kZ
 refine Zan ?_;intro hEB
 refine kp [6, 7, 8, 10, 239, 240, 241, 242, 243] ?_
 refine Zao ?_;intro ρ er
 revert hEB ρ er
 exact kZ.out) : p := h ⟨k⟩
theorem Za1 {p q : Prop} (k : q) (h : BkZ p q := by
 intro kZ
 refine Gm ?_
 refine bx ?_; intro b5
 refine Gb2 ?_
 refine rn1 ?_
 refine Aj Tryz.call52 rfl (fun w hs => Gr (l := l) hs mm) ?_; intro g13
 refine Ga1 ?_
 revert b5 g13
 exact kZ.out) : p := h ⟨k⟩
theorem Zaa {p q : Prop} (k : q) (h : BkZ p q := by
 intro kZ
 refine rn2 ?_
 refine sc ?_
 refine Gl ?_
 exact kZ.out) : p := h ⟨k⟩
theorem ZbZ {p q : Prop} (k : q) (h : BkZ p q := by
 intro kZ
 refine Gm ?_
 refine rn3 ?_
 refine sc ?_
 refine Gm ?_
 refine rn4 ?_
 refine sc ?_
 refine Zaa ?_
 refine cq_ (blk bk 123 [vL, vi q.kind, vi q.line, vi q.value, vi id, vi home, vo, vd] :: row 47 vd ds :: foc 120 vL ls m.line.toNat [vi 0, vi 0, vi 0, vi l.serial, vi m.turn, vi m.turn, vi l.value] :: row 128 vo ms :: blk bm 128 m.cells :: LX) ?_
 refine jd_ (fun ρ S => blk bk 123 (bif S 19 then [vL, vi q.kind, vi q.line, vi q.value, vi id, vi home, vo, (Gh.dec (γ := Value) (ρ 16))] else [vL, vi q.kind, vi q.line, vi q.value, vi id, vi home, vo, vd]) :: (bif S 16 then row 47 (Gh.dec (γ := Value) (ρ 16)) (ds ++ [(⟨id, q, 0⟩ : Done)]) else row 47 vd ds) :: foc 120 vL ls m.line.toNat [vi 0, vi 0, vi 0, vi l.serial, vi m.turn, vi m.turn, vi l.value] :: row 128 vo ms :: blk bm 128 m.cells :: (LX)) ?_
 refine dn4 ?_
 exact kZ.out) : p := h ⟨k⟩
theorem ZD {p q : Prop} (k : q) (h : BkZ p q := by
 intro kZ
 refine Ay ?_
 refine Gd1 ?_
 exact kZ.out) : p := h ⟨k⟩
theorem Za2 {p q : Prop} (k : q) (h : BkZ p q := by
 intro kZ
 have hlen := Bv h0 hs
 have hm0 := hm
 unfold Msg.wf An at hm0
 have hid0 := hid
 unfold An at hid0
 refine Ag Tryz.func62 rfl Tryz.ntmps62 rfl hs ?_
 revert hlen hm0 hid0
 exact kZ.out) : p := h ⟨k⟩
theorem Zab {p q : Prop} (k : q) (h : BkZ p q := by
 intro kZ
 refine djc (fun _ _ => Fd) ?_
 exact kZ.out) : p := h ⟨k⟩
theorem Zbx {p q : Prop} (k : q) (h : BkZ p q := by
 intro kZ
 refine e_p (v := fun ρ => (Gh.dec (γ := Value × Value) (ρ 6)).1) (fun _ _ => q_x) (Ind.gh (h := fun g => ((Gh.dec (γ := Value × Value) g).1 : Value)) 6 1 rfl) (fun _ _ _ _ _ => rfl) ?_
 refine e_p (v := fun ρ => (Gh.dec (γ := Value × Value) (ρ 6)).2) (fun _ _ => q_x) (Ind.gh (h := fun g => ((Gh.dec (γ := Value × Value) g).2 : Value)) 6 1 rfl) (fun _ _ _ _ _ => rfl) ?_
 exact kZ.out) : p := h ⟨k⟩
theorem Zby {p q : Prop} (k : q) (h : BkZ p q := by
 intro kZ
 refine e_p (v := fun ρ => (Gh.dec (γ := Value × Value) (ρ 6)).1) (fun _ _ => C6) (Ind.gh (h := fun g => ((Gh.dec (γ := Value × Value) g).1 : Value)) 6 0 rfl) (fun _ _ _ _ _ => rfl) ?_
 refine e_p (v := fun ρ => (Gh.dec (γ := Value × Value) (ρ 6)).2) (fun _ _ => C6) (Ind.gh (h := fun g => ((Gh.dec (γ := Value × Value) g).2 : Value)) 6 0 rfl) (fun _ _ _ _ _ => rfl) ?_
 exact kZ.out) : p := h ⟨k⟩
theorem ZL {p q : Prop} (k : q) (h : BkZ p q := by
 intro kZ
 refine rn6 ?_
 refine gy ?_
 exact kZ.out) : p := h ⟨k⟩
theorem Zag {p q : Prop} (k : q) (h : BkZ p q := by
 intro kZ
 refine Bj ?_
 refine ZL ?_
 refine Eo ?_
 exact kZ.out) : p := h ⟨k⟩
theorem Zap {p q : Prop} (k : q) (h : BkZ p q := by
 intro kZ
 refine dc (fun _ _ => Ai rfl rfl (Dh (by omega))) ?_
 refine ZR ?_
 refine dn2 ?_
 exact kZ.out) : p := h ⟨k⟩
theorem ZC {p q : Prop} (k : q) (h : BkZ p q := by
 intro kZ
 refine Gm ?_
 refine Ga1 ?_
 exact kZ.out) : p := h ⟨k⟩
theorem Za3 {p q : Prop} (k : q) (h : BkZ p q := by
 intro kZ
 refine dc (fun _ _ => Ai rfl rfl (Dd (by omega))) ?_
 refine ZR ?_
 refine dn9 ?_
 exact kZ.out) : p := h ⟨k⟩
theorem Zbd {p q : Prop} (k : q) (h : BkZ p q := by
 intro kZ
 refine JC.slNil Line ?_
 refine JC.slNil Msg ?_
 refine ZS ?_
 refine ZbY ?_
 exact kZ.out) : p := h ⟨k⟩
theorem ZE {p q : Prop} (k : q) (h : BkZ p q := by
 intro kZ
 refine Gm ?_
 refine Ga2 ?_
 exact kZ.out) : p := h ⟨k⟩
theorem Zbz {p q : Prop} (k : q) (h : BkZ p q := by
 intro kZ
 refine JC.conseq (L' := row 120 vL ls :: blk b68 123 [vL, vi q0.kind, vi q0.line, vi q0.value, vi id, vi home, .slice none 0 0, .slice none 0 0] :: blk b8 93 [.slice none 0 0, vi 0, vi 0, vi 0] :: blk b7 27 q.cells :: L) (fun w hs => Af (Dk hl hlw (hs.pick pkk))) ?_
 exact kZ.out) : p := h ⟨k⟩
theorem Zbe {p q : Prop} (k : q) (h : BkZ p q := by
 intro kZ
 refine Gt (ls := ls) (l := l) (i := m.line) pkk hl (by omega) (by omega) (fun hlw hA => ?_)
 have hlw0 := hlw
 unfold Line.wf An at hlw0
 have honeL : (ep vL 7 m.line.toNat 0).oneCell' = true := hA.one
 refine Bl ?_
 revert hlw hA hlw0 honeL
 exact kZ.out) : p := h ⟨k⟩
theorem Zca {p q : Prop} (k : q) (h : BkZ p q := by
 intro kZ
 refine kp [0, 1, 96, 97, 98, 99, 100, 101, 102, 103, 104] ?_
 refine Bl ?_
 refine dn9 ?_
 refine dtl ?_; intro ρ
 refine Aj Tryz.call90 rfl (fun w hs => Ep (vL := vL) (vd := vd) (q := q) (id := id) (home := home) (ms := ms) (kind := 10) (line := m.line) (serial := 0) (turn := m.turn) (value := 0) (LX := foc 120 vL ls m.line.toNat [vi l.state, vi l.value, vi l.want, vi l.serial, vi l.seen, vi l.gave, vi l.given] :: row 47 vd ds :: blk bm 128 m.cells :: LX) (Af hs) hn (by unfold Msg.wf An; simp only; omega)) ?_; intro v105
 refine Gl ?_
 revert ρ v105
 exact kZ.out) : p := h ⟨k⟩
theorem Zbf {p q : Prop} (k : q) (h : BkZ p q := by
 intro kZ
 refine kp [1, 2, 4, 6, 21, 22, 23, 24, 25, 26, 27, 28, 29, 30, 31, 32, 33, 34, 35, 36, 37, 38, 39, 40, 41, 42, 43, 44, 45, 46, 47, 48] ?_
 refine Aa ?_
 refine Ga2 ?_
 exact kZ.out) : p := h ⟨k⟩
theorem Zcb {p q : Prop} (k : q) (h : BkZ p q := by
 intro kZ
 refine cq_ (blk b1 29 s.cells :: L) ?_
 refine jd_ (fun ρ S => blk b1 29 s.cells :: ((bif S 7 then [blk (Gh.dec (γ := Nat) (ρ 7)) 77 (bif S 8 then [(Gh.dec (γ := Value) (ρ 6))] else [.slice none 0 0])] else []) ++ (L))) ?_
 refine Fr (γ := Value) (val := fun v => v) (F := fun v => [cF v 1 (s.kind - 1).toNat [.string (Ba (Bw s.kind))], sl (α := Wd) v kinds]) Tryz.call22 (fun _ => rfl) (fun ρ L R w hd hs => N2 hs hk1 hk2) (fun _ _ _ _ _ => rfl) ?_
 refine dn3 ?_
 exact kZ.out) : p := h ⟨k⟩
theorem Zbg {p q : Prop} (k : q) (h : BkZ p q := by
 intro kZ
 refine dj ?_
 refine dc (fun _ _ => Ip (v := vL) (i := m.line) Lr (hl := Cs (α := Line) (xs := ls) pkk)) ?_
 refine ZZ ?_;intro ρ
 refine Gl ?_
 revert ρ
 exact kZ.out) : p := h ⟨k⟩
theorem Zbh {p q : Prop} (k : q) (h : BkZ p q := by
 intro kZ
 refine dnl ?_; intro ρ
 refine Glc ?_
 refine kp [1, 5, 6, 7, 8, 41] ?_
 refine Aa ?_
 refine Ga3 ?_
 have er : Am l id m = (l, []) := by unfold Am; rw [if_pos (by omega)]
 rw [er]
 revert ρ er
 exact kZ.out) : p := h ⟨k⟩
theorem ZH {p q : Prop} (k : q) (h : BkZ p q := by
 intro kZ
 refine sc ?_
 refine Gm ?_
 exact kZ.out) : p := h ⟨k⟩
theorem ZG {p q : Prop} (k : q) (h : BkZ p q := by
 intro kZ
 refine Aa ?_
 refine rn4 ?_
 exact kZ.out) : p := h ⟨k⟩
theorem Zcc {p q : Prop} (k : q) (h : BkZ p q := by
 intro kZ
 refine dnl ?_; intro ρ
 refine JX.conseq (L' := row 9 (Gh.dec (γ := Value) (ρ 6)) ([toW (Bw s.kind)] : List Wd) :: blk b1 29 s.cells :: (blk (Gh.dec (γ := Nat) (ρ 7)) 77 [(Gh.dec (γ := Value) (ρ 6))] :: L)) (fun w hs => Af hs) ?_
 generalize (Gh.dec (γ := Value) (ρ 0)) = v31
 generalize (Gh.dec (γ := Value) (ρ 6)) = v37
 generalize (Gh.dec (γ := Nat) (ρ 7)) = b4
 refine Gl ?_
 refine kp [1, 2, 3, 4, 5, 38] ?_
 refine Aa ?_
 refine Jh rfl ?_
 refine Gb1 ?_
 refine Gb2 ?_
 revert ρ v31 v37 b4
 exact kZ.out) : p := h ⟨k⟩
theorem ZaI {p q : Prop} (k : q) (h : BkZ p q := by
 intro kZ
 refine dc (fun _ _ => Ai rfl rfl (Aw (by omega))) ?_
 exact kZ.out) : p := h ⟨k⟩
theorem Zaq {p q : Prop} (k : q) (h : BkZ p q := by
 intro kZ
 refine J.nil ?_
 refine A7 ?_
 exact kZ.out) : p := h ⟨k⟩
theorem ZT {p q : Prop} (k : q) (h : BkZ p q := by
 intro kZ
 refine Di rfl ?_
 refine Zaq ?_
 exact kZ.out) : p := h ⟨k⟩
theorem Zb0 {p q : Prop} (k : q) (h : BkZ p q := by
 intro kZ
 refine Jq ([(⟨id, q, 0⟩ : Done)] : List Done) I6 rfl (fun _ => rfl) rfl (fun _ => rfl) rfl rfl (fun ρ R hd => N7 ⟨hid, hq.1, hq.2.1, hq.2.2, by unfold An; simp only; omega⟩) (fun _ _ _ _ _ => rfl) ?_
 exact kZ.out) : p := h ⟨k⟩
theorem Zcd {p q : Prop} (k : q) (h : BkZ p q := by
 intro kZ
 refine Abz (α := Wd) [toW (Bw s.kind)] Oy rfl (fun _ => rfl) rfl (fun _ => rfl) rfl rfl (fun ρ R hd j hj => ⟨⟨_, rfl, rfl⟩, trivial⟩) (fun ρ g S hS hA => by have u7 : upS S 6 7 = S 7 := rfl; have u8 : upS S 6 8 = S 8 := rfl; have r7 : Rho.set ρ 6 g 7 = ρ 7 := rfl; have h8 : S 8 = false := hA 8 ⟨0, rfl⟩; simp only [u7, u8, r7, h8, cond_false]) ?_
 exact kZ.out) : p := h ⟨k⟩
theorem ZaR {p q : Prop} (k : q) (h : BkZ p q := by
 intro kZ
 refine JC.conseq (L' := foc 109 g13.1 l m.line.toNat (Entry.cells uo (Ad (Ah l m.line) id m).1) :: row 3 uo (Ad (Ah l m.line) id m).1.last :: blk b51 159 [ep g13.1 10 m.line.toNat 0, vi m.line, vi id, .slice none 0 0] :: row 128 (.slice none 0 0) (Ad (Ah l m.line) id m).2 :: L) (fun w hs => by rw [eh]; exact Af hs) ?_
 exact kZ.out) : p := h ⟨k⟩
theorem Zbi {p q : Prop} (k : q) (h : BkZ p q := by
 intro kZ
 have eh : (Ad (Ah l m.line) id m) = ((Ah l m.line), []) := by unfold Ad; rw [if_neg (by omega), if_neg (by omega), if_neg (by omega), if_neg (by omega), if_neg (by omega)]
 refine ZaR ?_
 refine Zan ?_;intro hEB
 refine Zao ?_;intro ρ er
 revert eh hEB ρ er
 exact kZ.out) : p := h ⟨k⟩
theorem ZM {p q : Prop} (k : q) (h : BkZ p q := by
 intro kZ
 refine ob (En rfl (decide_eq_true (by omega))) ?_
 refine ZF ?_
 exact kZ.out) : p := h ⟨k⟩
theorem Za4 {p q : Prop} (k : q) (h : BkZ p q := by
 intro kZ
 refine ZF ?_
 refine Bj ?_
 refine ZF ?_
 exact kZ.out) : p := h ⟨k⟩
theorem Zb1 {p q : Prop} (k : q) (h : BkZ p q := by
 intro kZ
 refine kp [1, 7, 8, 9, 10, 11, 12, 42, 43] ?_
 refine Aa ?_
 refine Gb2 ?_
 exact kZ.out) : p := h ⟨k⟩
theorem Zbj {p q : Prop} (k : q) (h : BkZ p q := by
 intro kZ
 refine ZaY ?_;intro b4 b7 b8 vL honeV b18
 refine ZA ?_
 refine Zag ?_
 refine Gc1 ?_
 refine Bl ?_
 refine dn9 ?_
 refine dnl ?_; intro ρ
 refine Gl ?_
 refine Zb1 ?_
 refine ZD ?_
 revert b4 b7 b8 vL honeV b18 ρ
 exact kZ.out) : p := h ⟨k⟩
theorem Zb2 {p q : Prop} (k : q) (h : BkZ p q := by
 intro kZ
 refine Gc1 ?_
 refine kp [2, 3, 5, 90] ?_
 refine ZB ?_
 refine s_B Tryz.sizeOf29 ?_
 refine Ga1 ?_
 rw [e9]
 exact kZ.out) : p := h ⟨k⟩
theorem Zce {p q : Prop} (k : q) (h : BkZ p q := by
 intro kZ
 refine rn2 ?_
 refine Zaf ?_
 refine rn2 ?_
 refine ob (Ai rfl rfl (Acg (by omega) (by omega))) ?_
 refine rn2 ?_
 refine ob (Ai rfl rfl W7) ?_
 refine ob (Ai rfl rfl (Ach (by omega) (by omega) (by omega) (by omega))) ?_
 refine Zaf ?_
 refine rn2 ?_
 refine Zaf ?_
 refine rn2 ?_
 refine ob (Ai rfl rfl Hu) ?_
 refine Zaf ?_
 refine rn2 ?_
 refine Zaf ?_
 refine rn2 ?_
 refine ob (Ai rfl rfl Hu) ?_
 refine Zaf ?_
 refine rn2 ?_
 refine Zaf ?_
 refine rn2 ?_
 refine Zaf ?_
 refine rn1 ?_
 exact kZ.out) : p := h ⟨k⟩
theorem ZaH {p q : Prop} (k : q) (h : BkZ p q := by
 intro kZ
 refine JC.know (p := uo.oneCell' = true) (fun w hs => Ga (.head _) hs) (fun honeo => ?_)
 refine ZbS ?_;intro hEw u hE hE0 hL hone hlin
 revert honeo hEw u hE hE0 hL hone hlin
 exact kZ.out) : p := h ⟨k⟩
theorem Zcf {p q : Prop} (k : q) (h : BkZ p q := by
 intro kZ
 have hbn : EB ({ e with need := 0, phase := 3 }) := en ▸ F7 hb
 refine Aj Tryz.call94 rfl (fun w hs => Hd (e := { e with need := 0, phase := 3 }) (u := u) (ms := ms) (line := line) (id := id) (LX := foc 109 vh xs i [vi e.value, vi e.owner, vi e.sharers, vi 3, vi e.who, vi e.serial, .bool e.alone, vi e.turn, vi 0, u] :: LX) (Af hs) (Ll .hd rfl) hA hn hbn hl hid) ?_; intro v72
 refine Gl ?_
 rw [en]
 revert hbn v72
 exact kZ.out) : p := h ⟨k⟩
theorem Zb3 {p q : Prop} (k : q) (h : BkZ p q := by
 intro kZ
 refine Aa ?_
 refine Zbv ?_
 refine s_B (cs := [.slice none 0 0, .slice none 0 0, .slice none 0 0]) Tryz.sizeOf39 ?_
 exact kZ.out) : p := h ⟨k⟩
theorem Zb4 {p q : Prop} (k : q) (h : BkZ p q := by
 intro kZ
 refine Jq ([(⟨11, id, m.src, line, m.serial, 0, 0, false⟩ : Msg)] : List Msg) Lc rfl (fun _ => rfl) rfl (fun _ => rfl) rfl rfl (fun ρ R hd => Uz hwf) (fun _ _ _ _ _ => rfl) ?_
 exact kZ.out) : p := h ⟨k⟩
theorem Zar {p q : Prop} (k : q) (h : BkZ p q := by
 intro kZ
 refine dc (fun _ _ => Ai rfl rfl (A1 (by omega))) ?_
 exact kZ.out) : p := h ⟨k⟩
theorem Zbk {p q : Prop} (k : q) (h : BkZ p q := by
 intro kZ
 refine Gm ?_
 refine bx ?_; intro b1
 refine al_ (cs := [.slice none 0 0, .slice none 0 0, .slice none 0 0]) Tryz.zeroValue39 ?_; intro b2
 revert b1 b2
 exact kZ.out) : p := h ⟨k⟩
theorem Zb5 {p q : Prop} (k : q) (h : BkZ p q := by
 intro kZ
 refine J.know (p := va.oneCell' = true) (fun w hs => isSlice.one (hs.fact (.head _))) (fun honeva => ?_)
 refine rn4 ?_
 refine sc ?_
 refine Ga1 ?_
 refine kp [4, 5, 6, 7, 8, 9, 114, 115] ?_
 revert honeva
 exact kZ.out) : p := h ⟨k⟩
theorem Zb6 {p q : Prop} (k : q) (h : BkZ p q := by
 intro kZ
 refine We (fun _ => rfl) (by first | exact Ind.const _ | exact fun _ _ _ _ _ => rfl | exact Ind.self | exact Ind.gh _ 3 rfl) (fun _ _ _ _ => rfl) ?_
 refine dj ?_
 exact kZ.out) : p := h ⟨k⟩
theorem Za5 {p q : Prop} (k : q) (h : BkZ p q := by
 intro kZ
 refine ZI ?_
 refine ob (Cp Tryz.isAgg4) ?_
 exact kZ.out) : p := h ⟨k⟩
theorem Zcg {p q : Prop} (k : q) (h : BkZ p q := by
 intro kZ
 refine dn4 ?_
 refine H6 (v := .agg q.cells.toArray) (fun ρ S hS hB hA => by have h19 : S 19 = false := hA 19 ⟨9, rfl⟩; simp only [h19, cond_false]; exact E9 (b := bk) (f := 1) (vs := [vL, vi q.kind, vi q.line, vi q.value, vi id, vi home, vo, vd]) 3 Tryz.isAgg27 Tryz.sizeOf27) (fun _ _ _ _ _ => rfl) ?_
 exact kZ.out) : p := h ⟨k⟩
theorem Zbl {p q : Prop} (k : q) (h : BkZ p q := by
 intro kZ
 refine kp [0, 3, 4, 5, 6] ?_
 refine Aa ?_
 refine Ga3 ?_
 have er : Ds m o = ([], 0, 3) := Fz (by omega) (by omega)
 rw [er]
 revert er
 exact kZ.out) : p := h ⟨k⟩
theorem Zb7 {p q : Prop} (k : q) (h : BkZ p q := by
 intro kZ
 refine JC.shut (v := vL) (xs := ls) .hd ?_
 refine JC.slNil Msg ?_
 refine ZS ?_
 exact kZ.out) : p := h ⟨k⟩
theorem Zch {p q : Prop} (k : q) (h : BkZ p q := by
 intro kZ
 refine Zb7 ?_
 refine ZI ?_
 refine ob (E9 4 Tryz.isAgg93 Tryz.sizeOf93) ?_
 refine s_B (cs := [vL, vi q.kind, vi q.line, vi q.value]) Tryz.sizeOf93 ?_
 refine Ga2 ?_
 have er : (Ac ⟨ls, q⟩ id home m) = (⟨ls, q⟩, [], []) := Rk hg
 rw [er]
 revert er
 exact kZ.out) : p := h ⟨k⟩
theorem Zb8 {p q : Prop} (k : q) (h : BkZ p q := by
 intro kZ
 refine JC.shut (v := cY) (xs := x.cores) pkk ?_
 refine ZS ?_
 refine ZA ?_
 refine s_B (cs := [cY, hY, va]) Tryz.sizeOf39 ?_
 refine Ga2 ?_
 exact kZ.out) : p := h ⟨k⟩
theorem Zb9 {p q : Prop} (k : q) (h : BkZ p q := by
 intro kZ
 refine Gt (ls := ls) (l := l) (i := q.line) pkk hl (by omega) (by omega) (fun hlw hA => ?_)
 have hlw0 := hlw
 unfold Line.wf An at hlw0
 have honeL : (ep vL 7 q.line.toNat 0).oneCell' = true := hA.one
 revert hlw hA hlw0 honeL
 exact kZ.out) : p := h ⟨k⟩
theorem ZU {p q : Prop} (k : q) (h : BkZ p q := by
 intro kZ
 refine ob (Ai rfl rfl (Cf rfl)) ?_
 exact kZ.out) : p := h ⟨k⟩
theorem Zci {p q : Prop} (k : q) (h : BkZ p q := by
 intro kZ
 refine cq_ (foc 109 vh xs i [vi e.value, vi e.owner, vi e.sharers, vi e.phase, vi e.who, vi e.serial, .bool e.alone, vi e.turn, vi e.need, u] :: blk bk 159 [(ep vh 10 i 0), vi line, vi id, vo] :: row 128 vo ms :: row 3 u (e.last.set m.src.toNat m.serial) :: blk bm 128 m.cells :: LX) ?_
 exact kZ.out) : p := h ⟨k⟩
theorem ZbA {p q : Prop} (k : q) (h : BkZ p q := by
 intro kZ
 have hnt : C0 x.frames s.n = (x.frames.eraseIdx s.n.toNat, Cq x.frames s.n, 0) := by unfold C0; rw [if_neg (show ¬ (s.n < 0 ∨ (x.frames.length : Int) ≤ s.n) from hc)]
 revert hnt
 exact kZ.out) : p := h ⟨k⟩
theorem Zcj {p q : Prop} (k : q) (h : BkZ p q := by
 intro kZ
 refine rn1 ?_
 refine Aj Tryz.call87 rfl (fun w hs => Vr (vh := g13.1) (vo := .slice none 0 0) (u := uo) (i := m.line.toNat) (e := (Ah l m.line)) (ms := []) (line := m.line) (id := id) (xs := l) (m := m) (bm := b5) (LX := L) (Af hs) hA honeo (by simp) hE hm.2.2.2.1 hid hm rfl (by omega) hL (by omega)) ?_; intro v69
 revert v69
 exact kZ.out) : p := h ⟨k⟩
theorem Zah {p q : Prop} (k : q) (h : BkZ p q := by
 intro kZ
 refine ZA ?_
 refine Bj ?_
 refine Zad ?_
 refine Fe ?_
 exact kZ.out) : p := h ⟨k⟩
theorem Zas {p q : Prop} (k : q) (h : BkZ p q := by
 intro kZ
 refine ZD ?_
 refine ZD ?_
 refine Df ?_
 exact kZ.out) : p := h ⟨k⟩
theorem ZV {p q : Prop} (k : q) (h : BkZ p q := by
 intro kZ
 refine Zab ?_
 refine djm ?_
 exact kZ.out) : p := h ⟨k⟩
theorem ZK {p q : Prop} (k : q) (h : BkZ p q := by
 intro kZ
 refine Gb1 ?_
 refine Ga2 ?_
 exact kZ.out) : p := h ⟨k⟩
theorem Zbm {p q : Prop} (k : q) (h : BkZ p q := by
 intro kZ
 simp only [Int.toNat_natCast, hi]
 refine hI.way fun m' hm' => ?_
 rw [List.mem_singleton.1 hm']
 exact kZ.out) : p := h ⟨k⟩
theorem ZbB {p q : Prop} (k : q) (h : BkZ p q := by
 intro kZ
 refine dnl ?_; intro ρ
 refine Glc ?_
 have er : Ad e id m = (e, []) := by unfold Ad; rw [if_pos (by omega), if_pos (by unfold Fb; omega)]
 rw [er, List.append_nil]
 revert ρ er
 exact kZ.out) : p := h ⟨k⟩
theorem Zck {p q : Prop} (k : q) (h : BkZ p q := by
 intro kZ
 refine cq_ (foc 120 vL ls m.line.toNat [vi l.state, vi l.value, vi l.want, vi l.serial, vi l.seen, vi l.gave, vi l.given] :: blk bk 123 [vL, vi q.kind, vi q.line, vi q.value, vi id, vi home, vo, vd] :: row 128 vo ms :: row 47 vd ds :: blk bm 128 m.cells :: LX) ?_
 exact kZ.out) : p := h ⟨k⟩
theorem ZN {p q : Prop} (k : q) (h : BkZ p q := by
 intro kZ
 refine Aa ?_
 refine D2 rfl ?_
 exact kZ.out) : p := h ⟨k⟩
theorem ZO {p q : Prop} (k : q) (h : BkZ p q := by
 intro kZ
 refine Bl ?_
 refine dn8 ?_
 exact kZ.out) : p := h ⟨k⟩
theorem ZbC {p q : Prop} (k : q) (h : BkZ p q := by
 intro kZ
 refine kp [0, 1, 4, 5, 25, 26, 27, 28, 29, 30, 31, 32, 33, 34, 35, 36, 37, 38, 39, 40, 41, 42, 43, 44, 45, 46, 47, 48, 49] ?_
 exact kZ.out) : p := h ⟨k⟩
theorem ZbD {p q : Prop} (k : q) (h : BkZ p q := by
 intro kZ
 refine Gq ?_
 refine A7 ?_
 refine Aa ?_
 refine Iz rfl rfl (W8 (by omega) (by omega)) ?_
 refine D2 rfl ?_
 refine J.nil ?_
 exact kZ.out) : p := h ⟨k⟩
theorem Zai {p q : Prop} (k : q) (h : BkZ p q := by
 intro kZ
 refine Bl ?_
 refine dn6 ?_
 exact kZ.out) : p := h ⟨k⟩
theorem Zbn {p q : Prop} (k : q) (h : BkZ p q := by
 intro kZ
 refine ob (Du (cs := zMsg.cells) Cv) ?_
 refine s_B Tryz.sizeOf128 ?_
 refine Ga1 ?_
 exact kZ.out) : p := h ⟨k⟩
theorem Zcl {p q : Prop} (k : q) (h : BkZ p q := by
 intro kZ
 refine J.know (p := v39.1.oneCell' = true ∧ v39.2.1.oneCell' = true ∧ v39.2.2.1.oneCell' = true) (fun w hs => ⟨isSlice.one (hs.fact (.head _)), isSlice.one (hs.fact (.tail _ (.head _))), isSlice.one (hs.fact (.tail _ (.tail _ (.head _))))⟩) (fun h12 => ?_)
 revert h12
 exact kZ.out) : p := h ⟨k⟩
theorem Zbo {p q : Prop} (k : q) (h : BkZ p q := by
 intro kZ
 refine kp [2, 3, 4, 5, 16, 34, 35, 36, 37, 38, 39, 40, 41, 42, 43] ?_
 refine ZI ?_
 exact kZ.out) : p := h ⟨k⟩
theorem Zbp {p q : Prop} (k : q) (h : BkZ p q := by
 intro kZ
 refine ZA ?_
 refine ob (Ai rfl rfl (Aw hc.1)) ?_
 refine ZF ?_
 exact kZ.out) : p := h ⟨k⟩
theorem Zcm {p q : Prop} (k : q) (h : BkZ p q := by
 intro kZ
 refine ob (Ai rfl rfl (Fs hc.2.2)) ?_
 refine Gc1 ?_
 refine kp [1, 2, 4, 6, 21, 22, 23, 24, 25, 26, 27, 28, 29, 30, 31, 32, 33, 34, 35, 36, 37, 38, 39, 40, 41, 42, 43, 44, 45, 46, 47] ?_
 refine Aa ?_
 refine Ga1 ?_
 exact kZ.out) : p := h ⟨k⟩
theorem ZbE {p q : Prop} (k : q) (h : BkZ p q := by
 intro kZ
 refine Bl ?_
 refine dn7 ?_
 refine djc (fun _ _ => Ai rfl rfl (Cf (by omega))) ?_
 refine djm ?_
 refine dn16 ?_
 exact kZ.out) : p := h ⟨k⟩
theorem ZbF {p q : Prop} (k : q) (h : BkZ p q := by
 intro kZ
 refine kp [1, 2, 4, 7, 8, 9, 10, 11, 47, 48, 49, 50, 51, 52, 53, 54, 55, 56, 57, 58, 59, 60, 61] ?_
 refine ZI ?_
 exact kZ.out) : p := h ⟨k⟩
theorem ZaJ {p q : Prop} (k : q) (h : BkZ p q := by
 intro kZ
 refine Zai ?_
 refine Zal ?_
 refine djc (fun _ _ => C6) ?_
 refine ZaX ?_;intro ρ
 revert ρ
 exact kZ.out) : p := h ⟨k⟩
theorem ZbG {p q : Prop} (k : q) (h : BkZ p q := by
 intro kZ
 refine Bl ?_
 refine dn7 ?_
 refine dj ?_
 refine dc (fun _ _ => Ip (v := vL) (i := q.line) Lr (hl := Cs (α := Line) (xs := ls) pkk)) ?_
 refine ZZ ?_;intro ρ
 revert ρ
 exact kZ.out) : p := h ⟨k⟩
theorem ZaK {p q : Prop} (k : q) (h : BkZ p q := by
 intro kZ
 refine dn9 ?_
 refine djf ?_
 refine ZZ ?_;intro ρ
 refine Zbu ?_
 refine Za0 ?_
 refine Za7 ?_;intro ρ
 refine Zbi ?_;intro eh hEB ρ er
 revert eh hEB ρ er
 exact kZ.out) : p := h ⟨k⟩
theorem Zat {p q : Prop} (k : q) (h : BkZ p q := by
 intro kZ
 refine Za4 ?_
 refine Fe ?_
 exact kZ.out) : p := h ⟨k⟩
theorem ZaS {p q : Prop} (k : q) (h : BkZ p q := by
 intro kZ
 refine gy ?_
 refine ZM ?_
 refine Zag ?_
 refine Zat ?_
 exact kZ.out) : p := h ⟨k⟩
theorem ZbH {p q : Prop} (k : q) (h : BkZ p q := by
 intro kZ
 refine rn1 ?_
 refine Aj Tryz.call32 rfl (fun w hs => H1 (st := (rdW (rdN (rdW ((Av 32 bs, true) : RSt))))) (Af hs) mm mm hB.w.n.w hN) ?_; intro g46
 revert g46
 exact kZ.out) : p := h ⟨k⟩
theorem Zcn {p q : Prop} (k : q) (h : BkZ p q := by
 intro kZ
 refine Gb1 ?_
 refine rn2 ?_
 refine ob (Ai rfl rfl Hu) ?_
 refine Zaf ?_
 refine rn1 ?_
 refine Zaf ?_
 refine li (α := UInt8) ([u8 (Ko (Da m) / 256), u8 (Ko (Da m))] : List UInt8) Ka rfl (fun j hj => ⟨⟨_, rfl, rfl⟩, ⟨_, rfl, rfl⟩, trivial⟩) ?_; intro v49
 revert v49
 exact kZ.out) : p := h ⟨k⟩
theorem ZbI {p q : Prop} (k : q) (h : BkZ p q := by
 intro kZ
 refine Gl ?_
 have hwf : ((⟨11, id, m.src, line, m.serial, 0, 0, false⟩ : Msg) : Msg).wf := by unfold Msg.wf An; simp only; omega
 revert hwf
 exact kZ.out) : p := h ⟨k⟩
theorem ZbJ {p q : Prop} (k : q) (h : BkZ p q := by
 intro kZ
 have hnt : C0 x.frames s.n = ([], [], 5) := by unfold C0; rw [if_pos (show s.n < 0 ∨ (x.frames.length : Int) ≤ s.n from hc)]
 revert hnt
 exact kZ.out) : p := h ⟨k⟩
theorem ZaT {p q : Prop} (k : q) (h : BkZ p q := by
 intro kZ
 refine ob (Ai rfl rfl (Fs (by decide))) ?_
 refine Glc ?_
 exact kZ.out) : p := h ⟨k⟩
theorem ZW {p q : Prop} (k : q) (h : BkZ p q := by
 intro kZ
 refine Gm ?_
 refine rn1 ?_
 exact kZ.out) : p := h ⟨k⟩
theorem ZX {p q : Prop} (k : q) (h : BkZ p q := by
 intro kZ
 refine Aa ?_
 refine rn5 ?_
 exact kZ.out) : p := h ⟨k⟩
theorem ZbK {p q : Prop} (k : q) (h : BkZ p q := by
 intro kZ
 refine ZO ?_
 refine djc (fun _ _ => Ai rfl rfl (Es (by omega))) ?_
 refine djm ?_
 refine dn4 ?_
 exact kZ.out) : p := h ⟨k⟩
theorem ZaL {p q : Prop} (k : q) (h : BkZ p q := by
 intro kZ
 have hCq := hC q hq
 have hl : e'.last q = e.last q := by rw [f8]
 revert hCq hl
 exact kZ.out) : p := h ⟨k⟩
theorem Zco {p q : Prop} (k : q) (h : BkZ p q := by
 intro kZ
 refine ZL ?_
 refine ob (Ai rfl rfl (Es (by have h9 : 0 < @List.length Wd (rdN (rdN (rdW (rdN (rdW ((Av 32 bs, true) : RSt)))))).1 := hc.2; omega))) ?_
 refine Gc1 ?_
 refine Zam ?_
 exact kZ.out) : p := h ⟨k⟩
theorem Zcp {p q : Prop} (k : q) (h : BkZ p q := by
 intro kZ
 refine ZB ?_
 refine Bj ?_
 refine rn7 ?_
 refine gy ?_
 refine ob (Ai (a := 8) (b := ((l.getD n.toNat []).length : Int)) rfl rfl (Aax (by omega) (by omega))) ?_
 refine gy ?_
 exact kZ.out) : p := h ⟨k⟩
theorem Zcq {p q : Prop} (k : q) (h : BkZ p q := by
 intro kZ
 refine ZL ?_
 refine ob (Ai rfl rfl (Es (by have h9 : 0 < @List.length Wd (rdN (rdW (rdN (rdW ((Av 32 bs, true) : RSt))))).1 := hc.2; omega))) ?_
 refine Gc1 ?_
 refine Zam ?_
 exact kZ.out) : p := h ⟨k⟩
theorem Zac {p q : Prop} (k : q) (h : BkZ p q := by
 intro kZ
 refine rn5 ?_
 refine gy ?_
 exact kZ.out) : p := h ⟨k⟩
theorem ZbL {p q : Prop} (k : q) (h : BkZ p q := by
 intro kZ
 refine kp [2, 3, 4, 5, 76, 77, 78, 79, 80, 81, 82, 83, 84, 85, 86, 87, 88] ?_
 refine Za5 ?_
 exact kZ.out) : p := h ⟨k⟩
theorem Zbq {p q : Prop} (k : q) (h : BkZ p q := by
 intro kZ
 refine s_B (cs := [v39.1, v39.2.1, v39.2.2.1]) Tryz.sizeOf39 ?_
 exact kZ.out) : p := h ⟨k⟩
theorem Zcr {p q : Prop} (k : q) (h : BkZ p q := by
 intro kZ
 refine ZL ?_
 refine ob (Ai rfl rfl (F5 (by have h9 : @List.length Wd (rdN (rdN (rdW (rdN (rdW ((Av 32 bs, true) : RSt)))))).1 = 0 := hc.2; omega))) ?_
 refine Zb2 ?_
 exact kZ.out) : p := h ⟨k⟩
theorem Zcs {p q : Prop} (k : q) (h : BkZ p q := by
 intro kZ
 refine Zbp ?_
 refine ob (Ai rfl rfl (A1 (fun h8 => absurd (h8.symm.trans hc.2.1) (by decide)))) ?_
 refine ZF ?_
 refine ob (Ai rfl rfl (Aw hc.2.1)) ?_
 refine ZL ?_
 exact kZ.out) : p := h ⟨k⟩
theorem ZbM {p q : Prop} (k : q) (h : BkZ p q := by
 intro kZ
 refine kp [8, 9, 10, 11, 130, 131, 132, 133, 134, 135, 136, 137, 138, 139, 140, 141] ?_
 exact kZ.out) : p := h ⟨k⟩
theorem Zct {p q : Prop} (k : q) (h : BkZ p q := by
 intro kZ
 refine ZL ?_
 refine ob (Ai rfl rfl (Es (by have h9 : 0 < @List.length Wd (rdN (rdW ((Av 32 bs, true) : RSt))).1 := hc.2; omega))) ?_
 refine Gc1 ?_
 refine Zam ?_
 exact kZ.out) : p := h ⟨k⟩
theorem ZaM {p q : Prop} (k : q) (h : BkZ p q := by
 intro kZ
 refine ZaI ?_
 refine ZV ?_
 refine dn6 ?_
 exact kZ.out) : p := h ⟨k⟩
theorem ZaU {p q : Prop} (k : q) (h : BkZ p q := by
 intro kZ
 refine s_B (cs := [cv, hv, fv]) Tryz.sizeOf39 ?_
 exact kZ.out) : p := h ⟨k⟩
theorem Zcu {p q : Prop} (k : q) (h : BkZ p q := by
 intro kZ
 refine ZL ?_
 refine ob (Ai rfl rfl (F5 (by have h9 : @List.length Wd (rdN (rdW (rdN (rdW ((Av 32 bs, true) : RSt))))).1 = 0 := hc.2; omega))) ?_
 refine Zb2 ?_
 exact kZ.out) : p := h ⟨k⟩
theorem ZbN {p q : Prop} (k : q) (h : BkZ p q := by
 intro kZ
 refine kp [1, 2, 3, 4, 5, 6, 7, 8, 9, 10, 11, 12, 13, 14, 15, 16, 17, 18, 19, 20] ?_
 exact kZ.out) : p := h ⟨k⟩
theorem ZaN {p q : Prop} (k : q) (h : BkZ p q := by
 intro kZ
 refine ZB ?_
 refine Bj ?_
 refine ZF ?_
 exact kZ.out) : p := h ⟨k⟩
theorem Zcv {p q : Prop} (k : q) (h : BkZ p q := by
 intro kZ
 refine dn11 ?_
 refine es_ 23 0 [] [] (fun ρ => b2) (fun ρ => zConfig.cells) (fun ρ => [vi (x.cores.length : Int), vi (x.home.length : Int)]) Tryz.sizeOf23 ?_
 refine dnl ?_; intro ρ
 revert ρ
 exact kZ.out) : p := h ⟨k⟩
theorem Zcw {p q : Prop} (k : q) (h : BkZ p q := by
 intro kZ
 refine cq_ (blk b3 29 s.cells :: blk b 39 [cv, hv, fv] :: L) ?_
 refine jd_ (fun ρ S => blk b3 29 s.cells :: blk b 39 [cv, hv, fv] :: L) ?_
 refine dn6 ?_
 exact kZ.out) : p := h ⟨k⟩
theorem Zcx {p q : Prop} (k : q) (h : BkZ p q := by
 intro kZ
 refine dc (fun _ _ => Fl (a := (((Ah l m.line).need.toNat / 2 ^ m.src.toNat : Nat) : Int)) (b := 1) (Qq (by omega) (by omega) (by omega) (by omega))) ?_
 exact kZ.out) : p := h ⟨k⟩
theorem Zcy {p q : Prop} (k : q) (h : BkZ p q := by
 intro kZ
 refine dn8 ?_
 refine es_ 93 0 [] [] (fun ρ => b8) (fun ρ => [.slice none 0 0, vi 0, vi 0, vi 0]) (fun ρ => [vL, vi 0, vi 0, vi 0]) Tryz.sizeOf93 ?_
 exact kZ.out) : p := h ⟨k⟩
theorem ZbO {p q : Prop} (k : q) (h : BkZ p q := by
 intro kZ
 refine dc (fun _ _ => Cp (hc := Hv (xs := e.last) pkk (by omega)) Tryz.isAgg3) ?_
 exact kZ.out) : p := h ⟨k⟩
theorem ZbP {p q : Prop} (k : q) (h : BkZ p q := by
 intro kZ
 refine al_ (cs := [.slice none 0 0, .slice none 0 0, .slice none 0 0]) Tryz.zeroValue39 ?_; intro b5
 revert b5
 exact kZ.out) : p := h ⟨k⟩
theorem Zcz {p q : Prop} (k : q) (h : BkZ p q := by
 intro kZ
 refine ZL ?_
 refine ob (Ai rfl rfl (F5 (by have h9 : @List.length Wd (rdN (rdW ((Av 32 bs, true) : RSt))).1 = 0 := hc.2; omega))) ?_
 refine Zb2 ?_
 exact kZ.out) : p := h ⟨k⟩
theorem Zc0 {p q : Prop} (k : q) (h : BkZ p q := by
 intro kZ
 rw [Nat.testBit_lt_two_pow (show (ent x i).sharers.toNat < 2 ^ q by have : 2 ^ n ≤ 2 ^ q := Nat.pow_le_pow_right (by omega) (by omega); omega)]
 exact kZ.out) : p := h ⟨k⟩
theorem ZY {p q : Prop} (k : q) (h : BkZ p q := by
 intro kZ
 rw [hc.1]
 refine Za5 ?_
 exact kZ.out) : p := h ⟨k⟩
theorem Zc1 {p q : Prop} (k : q) (h : BkZ p q := by
 intro kZ
 refine Df ?_
 refine ZF ?_
 refine ob (Cp (c := .bool false) Tryz.isAgg4 (hc := Bg pkk (by show some (Value.bool m.alone) = _; rw [hal]))) ?_
 exact kZ.out) : p := h ⟨k⟩
theorem Zc2 {p q : Prop} (k : q) (h : BkZ p q := by
 intro kZ
 refine Df ?_
 refine ZF ?_
 refine ob (Cp (c := .bool true) Tryz.isAgg4 (hc := Bg pkk (by show some (Value.bool m.alone) = _; rw [hal]))) ?_
 exact kZ.out) : p := h ⟨k⟩
theorem Zau {p q : Prop} (k : q) (h : BkZ p q := by
 intro kZ
 refine Gm ?_
 refine Ga3 ?_
 exact kZ.out) : p := h ⟨k⟩
theorem Zav {p q : Prop} (k : q) (h : BkZ p q := by
 intro kZ
 refine Gd1 ?_
 refine rn1 ?_
 exact kZ.out) : p := h ⟨k⟩
theorem Zaw {p q : Prop} (k : q) (h : BkZ p q := by
 intro kZ
 refine Gmc ?_
 refine rn1 ?_
 exact kZ.out) : p := h ⟨k⟩
theorem Zax {p q : Prop} (k : q) (h : BkZ p q := by
 intro kZ
 refine JC.rowNil 47 Done ?_
 exact kZ.out) : p := h ⟨k⟩
theorem Zc3 {p q : Prop} (k : q) (h : BkZ p q := by
 intro kZ
 refine h.home hi (by simpa using hla) ⟨hb.1, ⟨by simp only; omega, by have : 0 < 2 ^ n := Nat.two_pow_pos n; simp only; omega⟩⟩ ?_
 exact kZ.out) : p := h ⟨k⟩
theorem ZbQ {p q : Prop} (k : q) (h : BkZ p q := by
 intro kZ
 refine JC.shut (v := v74) (xs := [Bm 8 id home m.line m.turn 0]) pkk ?_
 refine ZS ?_
 exact kZ.out) : p := h ⟨k⟩
theorem Zc4 {p q : Prop} (k : q) (h : BkZ p q := by
 intro kZ
 refine Ga1 ?_
 have er : J3 x node = 5 ∧ El x node = x.frames := by unfold J3 El A9; rw [if_pos (by omega), if_pos (by omega)]; exact ⟨rfl, rfl⟩
 rw [er.1, er.2]
 revert er
 exact kZ.out) : p := h ⟨k⟩
theorem Zc5 {p q : Prop} (k : q) (h : BkZ p q := by
 intro kZ
 refine rn3 ?_
 refine sc ?_
 refine ZE ?_
 have e1 : (rdN (W, ok)).2 = false := by show ((rdW (W, ok)).2 && Ls (hdW (W, ok))) = _; rw [ho]; exact Bool.and_false _
 revert e1
 exact kZ.out) : p := h ⟨k⟩
theorem Zay {p q : Prop} (k : q) (h : BkZ p q := by
 intro kZ
 refine ZA ?_
 refine Fm ?_
 exact kZ.out) : p := h ⟨k⟩
theorem Zaz {p q : Prop} (k : q) (h : BkZ p q := by
 intro kZ
 refine ZJ ?_
 refine rn1 ?_
 exact kZ.out) : p := h ⟨k⟩
theorem Zc6 {p q : Prop} (k : q) (h : BkZ p q := by
 intro kZ
 refine ZU ?_
 refine Glc ?_
 refine JC.know (p := va.oneCell' = true) (fun w hs => isSlice.one (hs.fact (mm (f := sl va (x.frames.eraseIdx s.n.toNat))))) (fun honeva => ?_)
 revert honeva
 exact kZ.out) : p := h ⟨k⟩
theorem Zc7 {p q : Prop} (k : q) (h : BkZ p q := by
 intro kZ
 refine kp [7, 8, 9, 10, 11, 12, 13, 119, 120, 121, 122, 123, 124, 125, 126, 127, 128, 129, 130, 131, 132, 133, 134, 135, 136] ?_
 exact kZ.out) : p := h ⟨k⟩
theorem ZaV {p q : Prop} (k : q) (h : BkZ p q := by
 intro kZ
 refine ZA ?_
 refine Bj ?_
 refine Zad ?_
 refine J7 ?_
 exact kZ.out) : p := h ⟨k⟩
theorem ZaW {p q : Prop} (k : q) (h : BkZ p q := by
 intro kZ
 refine ZaF ?_
 refine Zbb ?_
 refine Ga2 ?_
 exact kZ.out) : p := h ⟨k⟩
theorem Zaj {p q : Prop} (k : q) (h : BkZ p q := by
 intro kZ
 refine Zab ?_
 refine ZZ ?_;intro ρ
 revert ρ
 exact kZ.out) : p := h ⟨k⟩
theorem Zc8 {p : Prop} (h : p := by
 intro ht95
 refine ZbZ ?_
 refine H6 (v := vd) (fun ρ S hS hB hA => by have h19 : S 19 = false := hA 19 ⟨0, rfl⟩; simp only [h19, cond_false]; exact Cp (hc := Bg pkk (by repeat (first | exact rfl | refine Cr rfl ?_))) Tryz.isAgg41) (fun _ _ _ _ _ => rfl) ?_
 refine dn3 ?_
 refine H6 (v := vi id) (fun ρ S hS hB hA => by have h19 : S 19 = false := hA 19 ⟨0, rfl⟩; simp only [h19, cond_false]; exact Cp (hc := Bg pkk (by repeat (first | exact rfl | refine Cr rfl ?_))) Tryz.isAgg3) (fun _ _ _ _ _ => rfl) ?_
 refine Zcg ?_
 first | refine epc (fun _ _ => Du G0) ?_ | refine epc (fun _ _ => E6 G0) ?_ | refine epp (fun _ _ => Du G0) ?_ | refine epp (fun _ _ => E6 G0) ?_
 refine Zb0 ?_
 refine Dx (e := 47) (xs := ds) (ys := [(⟨id, q, 0⟩ : Done)]) (v := vd) I6 (fun _ => rfl) (fun _ => rfl) rfl (by decide) (fun ρ R hd => (hd.dep (it := ⟨15, _, _, _, _⟩) (by repeat (first | exact List.Mem.head _ | refine List.Mem.tail _ ?_)) ⟨9, rfl⟩ (List.Mem.head _))) (by have : maxN = 16777216 := rfl; simp only [List.length_cons, List.length_nil]; omega) (fun ρ g S hS hB hA => ?_) ?_
 ·have ui : upS S 16 16 = true := rfl; have u19 : upS S 16 19 = S 19 := rfl; have h19 : S 19 = false := hA 19 ⟨0, rfl⟩; have rs : (Gh.dec (γ := Value) (Rho.set ρ 16 (Gh.enc g) 16)) = g := rfl
  simp only [ui, hS, u19, h19, rs, cond_true, cond_false]
  exact pex
 refine dn2 ?_
 refine Cy (T0 := 123) (f := 7) (vs := fun ρ => [vL, vi q.kind, vi q.line, vi q.value, vi id, vi home, vo, vd]) (v := fun ρ => (Gh.dec (γ := Value) (ρ 16))) (fun ρ => bk) Tryz.sizeOf41 (fun _ => rfl) (fun _ => rfl) (fun ρ S R w L9 hB hd hs => by have h16 : S 16 = true := hB 16 ⟨9, rfl⟩; simp only [h16, cond_true] at hs; exact A8 pkk hs) (fun _ => rfl) (fun ρ g S hS hB hA => ?_) ?_
 ·have ui : upS S 19 19 = true := rfl; have u16 : upS S 19 16 = S 16 := rfl; have r16 : Rho.set ρ 19 g 16 = ρ 16 := rfl
  simp only [ui, hS, u16, r16, cond_true, cond_false]
  exact pex
 refine ZbV ?_;intro v120 v121 ρ v142 ef er
 refine Ax (.inl rfl) (fun B w hs => Gx rfl _ w) (fun w hs => ⟨(v142, v121), rfl, Af (Cw ({ l with seen := m.turn, gave := m.turn, given := l.value, state := 0, value := 0, want := 0 }) (by unfold Line.wf An; simp only; omega) (hs.pick pkk))⟩)) : p := h
theorem Zc9 {p : Prop} (h : p := by
 refine Aj Tryz.call32 rfl (fun w hs => H1 (st := (rdN (rdW (rdN (rdW ((Av 32 bs, true) : RSt)))))) (Af hs) mm mm hB.w.n.w.n hN) ?_; intro g60
 refine Zaa ?_
 rcases (show ((rdN (rdN (rdW (rdN (rdW ((Av 32 bs, true) : RSt)))))).2 = false) ∨ ((rdN (rdN (rdW (rdN (rdW ((Av 32 bs, true) : RSt)))))).2 = true ∧ 0 < (rdN (rdN (rdW (rdN (rdW ((Av 32 bs, true) : RSt)))))).1.length) ∨ ((rdN (rdN (rdW (rdN (rdW ((Av 32 bs, true) : RSt)))))).2 = true ∧ (rdN (rdN (rdW (rdN (rdW ((Av 32 bs, true) : RSt)))))).1.length = 0) from by exact Ig (rdN (rdN (rdW (rdN (rdW ((Av 32 bs, true) : RSt))))))) with hc | hc | hc
 ·have e9 : Db bs = (zStep, 2) := ((Bk bs).trans ((pl1 hk).trans (po2 ho.2))).trans (Afl hc)
  rw [hc]
  refine Za5 ?_
  first | refine ob (q_notD) ?_ | refine ob (Ew) ?_
  refine Gc8 ?_
  refine Zam ?_
  exact D6 () Tryz.isAgg29 Tryz.sizeOf29
 ·have e9 : Db bs = (zStep, 2) := ((Bk bs).trans ((pl1 hk).trans (po2 ho.2))).trans (Afk hc.2)
  refine ZY ?_
  first | refine ob (q_notD) ?_ | refine ob (Ew) ?_
  refine Zco ?_
  exact D6 () Tryz.isAgg29 Tryz.sizeOf29
 ·have e9 := ((Bk bs).trans ((pl1 hk).trans (po2 ho.2))).trans (Afj hc.1 hc.2)
  refine ZY ?_
  first | refine ob (q_notD) ?_ | refine ob (Ew) ?_
  refine Zcr ?_
  exact D6 () Tryz.isAgg29 Tryz.sizeOf29) : p := h
theorem ZcA {p : Prop} (h : p := by
 refine Gc1 ?_
 rcases (show ((rdN (rdW (rdN (rdW ((Av 32 bs, true) : RSt))))).2 = false) ∨ ((rdN (rdW (rdN (rdW ((Av 32 bs, true) : RSt))))).2 = true ∧ 0 < (rdN (rdW (rdN (rdW ((Av 32 bs, true) : RSt))))).1.length) ∨ ((rdN (rdW (rdN (rdW ((Av 32 bs, true) : RSt))))).2 = true ∧ (rdN (rdW (rdN (rdW ((Av 32 bs, true) : RSt))))).1.length = 0) from by exact Ig (rdN (rdW (rdN (rdW ((Av 32 bs, true) : RSt)))))) with hc | hc | hc
 ·have e9 : Db bs = (zStep, 2) := ((Bk bs).trans ((pl1 hk).trans (po1 (fun h => ho h) ho2))).trans (Afl hc)
  rw [hc]
  refine Za5 ?_
  first | refine ob (q_notD) ?_ | refine ob (Ew) ?_
  refine Gc8 ?_
  refine Zam ?_
  exact D6 () Tryz.isAgg29 Tryz.sizeOf29
 ·have e9 : Db bs = (zStep, 2) := ((Bk bs).trans ((pl1 hk).trans (po1 (fun h => ho h) ho2))).trans (Afk hc.2)
  refine ZY ?_
  first | refine ob (q_notD) ?_ | refine ob (Ew) ?_
  refine Zcq ?_
  exact D6 () Tryz.isAgg29 Tryz.sizeOf29
 ·have e9 := ((Bk bs).trans ((pl1 hk).trans (po1 (fun h => ho h) ho2))).trans (Afj hc.1 hc.2)
  refine ZY ?_
  first | refine ob (q_notD) ?_ | refine ob (Ew) ?_
  refine Zcu ?_
  exact D6 () Tryz.isAgg29 Tryz.sizeOf29) : p := h
theorem ZcB {p : Prop} (h : p := by
 rcases (show s = 0 ∨ s = 1 ∨ s = 2 ∨ s = 3 ∨ s = 4 ∨ s = 5 ∨ s = 6 ∨ s = 7 ∨ s = 8 ∨ s = 9 ∨ s = 10 ∨ s = 11 ∨ s = 12 ∨ s = 13 ∨ s = 14 ∨ s = 15 by omega) with h | h | h | h | h | h | h | h | h | h | h | h | h | h | h | h <;> rcases (show k = 0 ∨ k = 1 ∨ k = 2 ∨ k = 3 by omega) with g | g | g | g <;> subst h <;> subst g <;> rfl) : p := h
theorem ZcC {p : Prop} (h : p := by
 refine Df ?_
 refine Gc1 ?_
 refine ZQ ?_
 refine Zax ?_
 have hkd : m.kind = 5 ∨ m.kind = 6 := by omega
 refine ZB ?_
 refine Aj Tryz.call91 rfl (fun w hs => O6 (vL := vL) (vo := .slice none 0 0) (vd := .slice none 0 0) (bk := b18) (bm := b7) (q := q) (id := id) (home := home) (ls := ls) (l := l) (ms := []) (ds := []) (m := m) (LX := blk b8 93 [.slice none 0 0, vi 0, vi 0, vi 0] :: L) (Af hs) hl (by omega) (by omega) hm hid hhome (by simp) (by simp) hk.wwf hkd) ?_; intro ⟨g1, g2⟩
 refine J.conseq (L' := blk b18 123 [vL, vi (Ac ⟨ls, q⟩ id home m).1.wait.kind, vi (Ac ⟨ls, q⟩ id home m).1.wait.line, vi (Ac ⟨ls, q⟩ id home m).1.wait.value, vi id, vi home, g1, g2] :: row 120 vL (Ac ⟨ls, q⟩ id home m).1.lines :: row 128 g1 (Ac ⟨ls, q⟩ id home m).2.1 :: row 47 g2 (Ac ⟨ls, q⟩ id home m).2.2 :: blk b8 93 [.slice none 0 0, vi 0, vi 0, vi 0] :: L) (fun w hs => by rw [List.nil_append, List.nil_append] at hs; exact Af hs) ?_
 refine Zbr ?_;intro ρ
 exact Eu (vL, g1, g2) Tryz.isAgg93 Tryz.sizeOf93) : p := h
theorem ZcD {p : Prop} (h : p := by
 constructor
 ·have g0 := hG.own; have g1 := hG.own; grind
 ·have g0 := hG.own; have g1 := hG.ph; grind
 ·have g0 := hG.own; have g1 := hG.idle; grind
 ·have g0 := hG.own; have g1 := hG.whor; grind
 ·have g0 := hG.own; have g1 := hG.f1; grind
 ·have g0 := hG.own; have g1 := hG.f23; grind
 ·intro h2; omega
 ·have g0 := hG.own; have g1 := hG.al; grind
 ·have g0 := hG.own; have g1 := hG.tu; grind
 ·have g0 := hG.own; have g1 := hG.va; grind
 ·have g0 := hG.own; have g1 := hG.se; grind) : p := h
theorem ZcE {p : Prop} (h : p := by
 exact Cl (g13.1, .slice none 0 0) (hs := fun w hs => Af (St.shut (hs.pick pkk)))) : p := h
theorem ZcF {p : Prop} (h : p := by
 refine A2 ?_ (fun w hs => hs)
 refine ⟨by first | exact congrArg (fun b => some (Value.bool b)) (decide_eq_false (by first | exact .inl hm | exact .inr hm | exact .inl ⟨hc1, hal⟩ | exact .inr ⟨hc1, hal⟩ | (rintro (⟨a, b⟩ | ⟨a, b⟩) <;> first | omega | exact absurd (hal.symm.trans b) (by decide)))).symm | exact congrArg (fun b => some (Value.bool b)) (by simp; omega), alT⟩) : p := h
theorem ZcG {p : Prop} (h : p := by
 rw [hc]
 refine Za5 ?_
 first | refine ob (q_notD) ?_ | refine ob (Ew) ?_
 refine Gc8 ?_
 refine Zam ?_
 exact D6 () Tryz.isAgg29 Tryz.sizeOf29) : p := h
theorem ZcH {p : Prop} (h : p := by
 have al := hG.al; have f23 := hG.f23; have f1 := hG.f1; cases h; constructor <;> (try simp only) <;> grind) : p := h
theorem ZcI {p : Prop} (h : p := by
 rw [er]
 exact Eu (.slice none 0 0, .slice none 0 0, .slice none 0 0, .slice none 0 0) Tryz.isAgg39 Tryz.sizeOf39) : p := h
theorem ZcJ {p : Prop} (h : p := by
 refine ⟨?_, fun m' hm' => ?_⟩
 ·exact ZcH
 ·have al := hG.al; have f23 := hG.f23; have f1 := hG.f1; cases h; cases hm'; constructor <;> (try simp only) <;> first | assumption | grind) : p := h
theorem ZcK {p : Prop} (h : p := by
 exact Hw (.slice none 0 0, .slice none 0 0, .slice none 0 0) Tryz.isAgg93 Tryz.sizeOf93) : p := h
theorem ZcL {p : Prop} (h : p := by
 refine ⟨?_, fun m hm => ?_⟩
 ·exact ZcH
 ·have al := hG.al; have f23 := hG.f23; have f1 := hG.f1; cases h; cases hm; constructor <;> (try simp only) <;> first | assumption | grind) : p := h
theorem ZcM {p : Prop} (h : p := by
 have al := hG.al; have f23 := hG.f23; have f1 := hG.f1; cases h; cases hm; constructor <;> (try simp only) <;> first | assumption | grind) : p := h
theorem ZcN {p : Prop} (h : p := by
 have ui : upS S 23 23 = true := rfl; have u26 : upS S 23 26 = S 26 := rfl; have h26 : S 26 = false := hA 26 ⟨0, rfl⟩; have rs : (Gh.dec (γ := Value) (Rho.set ρ 23 (Gh.enc g) 23)) = g := rfl
 simp only [ui, hS, u26, h26, rs, cond_true, cond_false]
 exact pex) : p := h
theorem ZcO {p : Prop} (h : p := by
 refine Zbf ?_
 refine Br (k + 1) ⟨by omega, Ke hok (by omega) hx⟩ (by show l.length - (k + 1) < l.length - k; omega) alT (fun w hs => Af hs)) : p := h
theorem ZcP {p : Prop} (h : p := by
 constructor
 ·have k0 := hm'.get; grind
 ·have k0 := hm'.put; have c0 := hCq.own; grind
 ·have k0 := hm'.inv; have c0 := hCq.ga; grind
 ·have k0 := hm'.fet; have c0 := hCq.ga; grind
 ·have k0 := hm'.gra; have c0 := hCq.taken; have c1 := hCq.la; have c2 := hCq.wa; grind
 ·have k0 := hm'.gon; grind
 ·have k0 := hm'.dat; have c0 := hCq.ga; grind
 ·have k0 := hm'.tha; grind
 ·have k0 := hm'.tak; grind) : p := h
theorem ZcQ {p : Prop} (h : p := by
 exact Ins.perm (by repeat (first | exact .hd | exact .hc | refine .tl ?_ | refine .ap ?_))) : p := h
theorem ZcR {p : Prop} (h : p := by
 rw [er]
 exact Cl (.slice none 0 0) (hs := fun w hs => Af (hs.rowNil 53 (List UInt8)))) : p := h
theorem ZcS {p : Prop} (h : p := by
 refine A2 ?_ (fun w hs => hs)
 refine ⟨by first | exact congrArg (fun b => some (Value.bool b)) (decide_eq_true (by first | exact .inl hm | exact .inr hm | exact .inl ⟨hc1, hal⟩ | exact .inr ⟨hc1, hal⟩ | (rintro (⟨a, b⟩ | ⟨a, b⟩) <;> first | omega | exact absurd (hal.symm.trans b) (by decide)))).symm | exact congrArg (fun b => some (Value.bool b)) (by simp; omega), alT⟩) : p := h
theorem ZcT {p : Prop} (h : p := by
 refine A2 ?_ (fun w hs => hs)
 exact meT) : p := h
theorem ZcU {p : Prop} (h : p := by
 refine ZbW ?_;intro v80 eW hLn
 refine Aj Tryz.call26 rfl (fun w hs => Tz (l := ((((([toW (Bw s.kind)] : List Wd) ++ [toW (Go.Lib.itoa s.node)]) ++ [toW (D7 s.op.kind)]) ++ [toW (Go.Lib.itoa s.op.line)]) ++ [toW (Go.Lib.itoa s.op.value)])) hs mm (by rw [← eW]; exact Dn s) (Nat.le_trans hLn (by decide))) ?_; intro _
 refine Ga2 ?_
 rw [Gk hnb, eW]
 exact Cl ()) : p := h
theorem ZcV {p : Prop} (h : p := by
 have ui : upS S 26 26 = true := rfl; have u23 : upS S 26 23 = S 23 := rfl; have r23 : Rho.set ρ 26 g 23 = ρ 23 := rfl
 simp only [ui, hS, u23, r23, cond_true, cond_false]
 exact pex) : p := h
theorem ZcW {p : Prop} (h : p := by
 constructor
 ·have k0 := hm'.get; grind
 ·have k0 := hm'.put; grind
 ·have k0 := hm'.inv; have c0 := hCq.ga; grind
 ·have k0 := hm'.fet; grind
 ·have k0 := hm'.gra; have c0 := hCq.taken; have c1 := hCq.cur; have c2 := hCq.wa; grind
 ·have k0 := hm'.gon; grind
 ·have k0 := hm'.dat; grind
 ·have k0 := hm'.tha; grind
 ·have k0 := hm'.tak; grind) : p := h
theorem ZcX {p : Prop} (h : p := by
 exact Jg (.slice none 0 0) (hs := fun w hs => Af (St.shut (hs.rowNil 3 Int)))) : p := h
theorem ZcY {p : Prop} (h : p := by
 constructor
 ·have k0 := hm'.get; grind
 ·have k0 := hm'.put; grind
 ·have k0 := hm'.inv; grind
 ·have k0 := hm'.fet; grind
 ·have k0 := hm'.gra; have c0 := hCq.taken; have c1 := hCq.la; have c2 := hCq.wa; grind
 ·have k0 := hm'.gon; grind
 ·have k0 := hm'.dat; grind
 ·have k0 := hm'.tha; grind
 ·have k0 := hm'.tak; grind) : p := h
theorem ZcZ {p : Prop} (h : p := by
 have ui : upS S 7 7 = true := rfl; have u8 : upS S 7 8 = S 8 := rfl; have r6 : Rho.set ρ 7 (Gh.enc b) 6 = ρ 6 := rfl; have h8 : S 8 = false := hA 8 ⟨0, rfl⟩; have rs : (Gh.dec (γ := Nat) (Rho.set ρ 7 (Gh.enc b) 7)) = b := rfl
 simp only [ui, hS, u8, r6, h8, rs, cond_true, cond_false, List.nil_append]
 exact ZcQ) : p := h
theorem Zda {p : Prop} (h : p := by
 refine A2 ?_ (fun w hs => hs)
 exact meF) : p := h
theorem Zdb {p : Prop} (h : p := by
 refine Bz () (hs := fun w hs => hs.perm (Pick.perm hp).symm) (hv := ?_)
 first | rw [decide_eq_true (by omega)] | rw [decide_eq_false (by omega)]) : p := h
theorem Zdc {p : Prop} (h : p := by
 refine kp [1, 2, 4, 5, 45] ?_
 refine Aa ?_
 refine Zbn ?_
 have er : Ae c b = (zMsg, 2) := by
  unfold Ae
  rw [if_neg (by omega), if_neg (by show ¬ Ko (b.take 10) ≠ _; unfold at8; omega), if_pos (by unfold at8; omega)]
 rw [er]
 exact D6 () Tryz.isAgg128 Tryz.sizeOf128) : p := h
theorem Zdd {p : Prop} (h : p := by
 rw [List.getElem?_map] at he
 obtain ⟨x, hx, hxe⟩ := Option.map_eq_some_iff.1 he
 have h3 := r3 k x r hx hkr
 refine ⟨x.u, ?_, ?_, ?_⟩
 ·rw [← hxe]; exact h3.1
 ·rw [← hxe]; exact hr _ (hf x (List.mem_of_getElem? hx))
 ·rw [← hxe]; exact h3.2.1) : p := h
theorem Zde {p : Prop} (h : p := by
 have ui : upS S 8 8 = true := rfl; have u7 : upS S 8 7 = S 7 := rfl; have r6 : Rho.set ρ 8 g 6 = ρ 6 := rfl; have r7 : Rho.set ρ 8 g 7 = ρ 7 := rfl; have h7 : S 7 = true := hB 7 ⟨0, rfl⟩
 simp only [ui, hS, u7, r6, r7, h7, cond_true, cond_false]
 exact pex) : p := h
theorem Zdf {p : Prop} (h : p := by
 have ui : upS S 13 13 = true := rfl; have u16 : upS S 13 16 = S 16 := rfl; have h16 : S 16 = false := hA 16 ⟨0, rfl⟩; have rs : (Gh.dec (γ := Value) (Rho.set ρ 13 (Gh.enc g) 13)) = g := rfl
 simp only [ui, hS, u16, h16, rs, cond_true, cond_false]
 exact pex) : p := h
theorem Zdg {p : Prop} (h : p := by
 intro a ha; rw [List.mem_singleton.1 ha]; exact Kk h1 h2 h3 (by omega) ht (by omega)) : p := h
theorem Zdh {p : Prop} (h : p := by
 refine Ax (.inr rfl) (fun B w hs => Gx rfl _ w) (fun w hs => ⟨vo, rfl, Af hs⟩)) : p := h
theorem Zdi {p : Prop} (h : p := by
 refine Ga3 ?_
 have er : C0 l n = ([], [], 5) := by unfold C0; rw [if_pos (by omega)]
 rw [er]
 exact Jg (.slice none 0 0, .slice none 0 0) (hs := fun w hs => Af (St.shut (((hs.rowNil 53 (List UInt8)).rowNil 5 UInt8))))) : p := h
theorem Zdj {p : Prop} (h : p := by
 exact Eu (vL, .slice none 0 0, .slice none 0 0) Tryz.isAgg93 Tryz.sizeOf93) : p := h
theorem Zdk {p : Prop} (h : p := by
 rw [er]
 exact Jg v40 (hs := fun w hs => Af (St.shut (hs.pick pkk)))) : p := h
theorem Zdl {p : Prop} (h : p := by
 have ui : upS S 16 16 = true := rfl; have u13 : upS S 16 13 = S 13 := rfl; have r13 : Rho.set ρ 16 g 13 = ρ 13 := rfl
 simp only [ui, hS, u13, r13, cond_true, cond_false]
 exact pex) : p := h
theorem Zdm {p : Prop} (h : p := by
 refine Zc4 ?_;intro er
 exact Bz fv (hs := fun w hs => (Af hs : St _ R w).sub .refl (fun f hf => by rcases List.mem_cons.1 hf with e | e; rw [e]; exact hfv; exact e))) : p := h
theorem Zdn {p : Prop} (h : p := by
 have k0 := hm'.gra; have c0 := hCq.taken; have c1 := hCq.cur; have c2 := hCq.wa; grind) : p := h
theorem Zdo {p : Prop} (h : p := by
 unfold EB Entry.wf An; simp only; omega) : p := h
theorem Zdp {p : Prop} (h : p := by
 rw [er, List.append_nil, List.append_nil]
 refine Ax (.inr rfl) (fun B w hs => Gx rfl _ w) (fun w hs => ⟨(vo, vd), rfl, Af (Dk hl hlw (hs.pick pkk))⟩)) : p := h
theorem Zdq {p : Prop} (h : p := by
 refine ZaK ?_;intro eh hEB ρ er
 exact ZcE) : p := h
theorem Zdr {p : Prop} (h : p := by
 refine ZaF ?_
 refine Zb3 ?_
 refine Ga2 ?_
 have er : Al x s = (Ev, [], 5) := by unfold Al A9; rw [if_pos (by omega), if_pos (by omega)]
 exact ZcI) : p := h
theorem Zds {p : Prop} (h : p := by
 refine ZaR ?_
 refine Zan ?_;intro hEB
 refine Zao ?_;intro ρ er
 exact ZcE) : p := h
theorem Zdt {p : Prop} (h : p := by
 refine Zbd ?_
 have er : (Ak ⟨ls, q0⟩ id home q) = (Fw, [], [], 8) := beg_8 hl (by omega) (by omega) (by omega) (by omega)
 rw [er]
 exact ZcK) : p := h
theorem Zdu {p : Prop} (h : p := by
 exact (show SB _ N from h).mono (by omega)) : p := h
theorem Zdv {p : Prop} (h : p := by
 have : (3 : Int) = Fk (cor x p).wait.kind := by rw [← w3]; exact hw.symm
 unfold Fk at this; split at this <;> (try split at this) <;> omega) : p := h
theorem Zdw {p : Prop} (h : p := by
 intro a ha; cases ha) : p := h
theorem Zdx {p : Prop} (h : p := by
 rw [er]
 exact Eu (vL, v74, .slice none 0 0) Tryz.isAgg93 Tryz.sizeOf93) : p := h
theorem Zdy {p : Prop} (h : p := by
 rw [er]
 exact D6 () Tryz.isAgg128 Tryz.sizeOf128) : p := h
theorem Zdz {p : Prop} (h : p := by
 rw [er]
 exact Bz ()) : p := h
theorem Zd0 {p : Prop} (h : p := by
 exact Hw (.slice none 0 0, .slice none 0 0, .slice none 0 0, .slice none 0 0, .slice none 0 0) Tryz.isAgg39 Tryz.sizeOf39) : p := h
theorem Zd1 {p : Prop} (h : p := by
 refine ZY ?_
 first | refine ob (q_notD) ?_ | refine ob (Ew) ?_
 refine Zct ?_
 exact D6 () Tryz.isAgg29 Tryz.sizeOf29) : p := h
theorem Zd2 {p : Prop} (h : p := by
 refine ZY ?_
 first | refine ob (q_notD) ?_ | refine ob (Ew) ?_
 refine Zcz ?_
 exact D6 () Tryz.isAgg29 Tryz.sizeOf29) : p := h
theorem Zd3 {p : Prop} (h : p := by
 refine Ga2 ?_
 have er : Bn l n bit = ([], 3) := by unfold Bn Cq; rw [if_neg (by omega), if_pos (by omega)]
 exact ZcR) : p := h
theorem Zd4 {p : Prop} (h : p := by
 refine Ga2 ?_
 rw [Gk hnb, eW]
 exact Cl ()) : p := h
theorem Zd5 {p : Prop} (h : p := by
 refine Zbd ?_
 have er : (Ak ⟨ls, q0⟩ id home q) = (Fw, [], [], 1) := beg_1 (by omega)
 rw [er]
 exact ZcK) : p := h
theorem Zd6 {p : Prop} (h : p := by
 refine Zcf ?_;intro hbn v72
 refine Ax (.inl rfl) (fun B w hs => Gx rfl _ w) (fun w hs => ⟨v72, rfl, Af hs⟩)) : p := h
theorem Zd7 {p : Prop} (h : p := by
 refine Ga2 ?_
 rw [G5 hbad]
 exact Cl ()) : p := h
theorem Zd8 {p : Prop} (h : p := by
 rcases List.mem_append.1 hs with hs | hs
 ·exact h s hs
 ·rw [List.mem_singleton.1 hs]; exact hx) : p := h
theorem Zd9 {p : Prop} (h : p := by
 generalize (if e.alone = true then e.sharers else G3 e.sharers e.owner) = z at hs4 ⊢
 exact Zdo) : p := h
theorem ZdA {p : Prop} (h : p := by
 refine Ga2 ?_
 have er : Bn l n bit = ([], 5) := by unfold Bn; rw [if_pos (by omega)]
 exact ZcR) : p := h
theorem ZdB {p : Prop} (h : p := by
 refine Ga2 ?_
 have er : Ed l n = ([], 5) := by unfold Ed; rw [if_pos (by omega)]
 exact ZcR) : p := h
theorem ZdC {p : Prop} (h : p := by
 rw [er]
 refine Ax (.inl rfl) (fun B w hs => Gx rfl _ w) (fun w hs => ⟨v29, rfl, Af hs⟩)) : p := h
theorem ZdD {p : Prop} (h : p := by
 show D9 _ [] M
 simp only [D9]
 rw [Gb (.inr hk4), w2, Int.toNat_natCast, h.same i hin]) : p := h
theorem ZdE {p : Prop} (h : p := by
 refine Zbl ?_;intro er
 exact ZcX) : p := h
theorem ZdF {p : Prop} (h : p := by
 refine Zbc ?_;intro er
 exact ZcK) : p := h
theorem ZdG {p : Prop} (h : p := by
 simp only; rw [Cx _ _ _ _ _ (by rw [hla]; exact hp), if_pos rfl]; exact Int.le_refl _) : p := h
theorem ZdH {p : Prop} (h : p := by
 rw [hz, Dz] at this
 unfold upd at this
 rw [if_neg hqp] at this
 exact this.symm) : p := h
theorem ZdI {p : Prop} (h : p := by
 refine Ga3 ?_
 have er : Ds m o = ([], 0, 1) := K8 (by omega)
 rw [er]
 exact ZcX) : p := h
theorem ZdJ {p : Prop} (h : p := by
 refine Ax (.inl rfl) (fun B w hs => Gx rfl _ w) (fun w hs => ⟨(), rfl, Af hs⟩)) : p := h
theorem ZdK {p : Prop} (h : p := by
 have c0 := hCp.bits; grind) : p := h
theorem ZdL {p : Prop} (h : p := by
 have c0 := hCq.back; grind) : p := h
theorem ZdM {p : Prop} (h : p := by
 refine Zbi ?_;intro eh hEB ρ er
 exact ZcE) : p := h
theorem ZdN {p : Prop} (h : p := by
 unfold Ei; rw [List.range_succ, List.filter_append, List.map_append]; simp [h]) : p := h
theorem ZdO {p : Prop} (h : p := by
 rename_i h; exact absurd h.2.2.1 (by omega)) : p := h
theorem ZdP {p : Prop} (h : p := by
 have c0 := hCp.cle; grind) : p := h
theorem ZdQ {p : Prop} (h : p := by
 have c0 := hCp.gra; grind) : p := h
theorem ZdR {p : Prop} (h : p := by
 have c0 := hCq.cle; grind) : p := h
theorem ZdS {p : Prop} (h : p := by
 rw [er]
 exact Eu (cY, hY, va, .slice none 0 0) Tryz.isAgg39 Tryz.sizeOf39) : p := h
theorem ZdT {p : Prop} (h : p := by
 refine Zak ?_
 refine Za0 ?_
 exact Zdq) : p := h
theorem ZdU {p : Prop} (h : p := by
 have c0 := hCp.ga; grind) : p := h
theorem ZdV {p : Prop} (h : p := by
 have c0 := hCp.la; grind) : p := h
theorem ZdW {p : Prop} (h : p := by
 have c0 := hCq.ga; grind) : p := h
theorem ZdX {p : Prop} (h : p := by
 have c0 := hCq.la; grind) : p := h
theorem ZdY {p : Prop} (h : p := by
 intro a ha; rw [List.mem_singleton.1 ha]; unfold MsgIn; simp only; omega) : p := h
variable {L : List Chunk} {R : List Fact} {w : World}
open Go.Lib (itoa atoiAll)
def lbF : Fact := ⟨fun j => (Abl 1 (Lib.pow10Tab.map fun z => Value.int .u64 z)).p j ∧ (∃ m : Int, (celF 0 (vi m)).p j) ∧ (∃ (tp : TypeId) (p : Value), (Abl 2 [.iface tp p]).p j) ∧ ∃ (tp : TypeId) (p : Value), (Abl 3 [.iface tp p]).p j,
 fun j j' h ⟨h1, ⟨m, h2⟩, ⟨a, b, h3⟩, c, d, h4⟩ => ⟨Fact.mono _ _ _ h h1, ⟨m, Fact.mono _ _ _ h h2⟩, ⟨a, b, Fact.mono _ _ _ h h3⟩, c, d, Fact.mono _ _ _ h h4⟩⟩
section
variable {L : List Chunk} {R : List Fact} {w : World}
theorem lb_tab (hl : lbF ∈ R) (hs : St L R w) : Lib.TabIs Tryz.prog w "internal/strconv.uint64pow10" .u64 Lib.pow10Tab := by
 obtain ⟨m, j, hd, hm, hj, hst, hr⟩ := hs
 obtain ⟨h1, _⟩ := hr _ hl
 exact Uc (R := [Abl 1 (Lib.pow10Tab.map fun z => Value.int .u64 z)]) (L := L) (by kernel_rfl) (.head _) ⟨m, j, hd, hm, hj, hst, fun f hf => by cases List.mem_singleton.1 hf; exact h1⟩
theorem Abv (hl : lbF ∈ R) (hs : St L R w) : ∃ m : Int, w.cell? ⟨0, 0, none⟩ = some (vi m) := by
 obtain ⟨m, j, hd, hm, hj, hst, hr⟩ := hs
 obtain ⟨_, ⟨k, cells, T, fz, h1, h2⟩, _⟩ := hr _ hl
 exact ⟨k, by rw [Eg (Ge (hj _ _ h1))]; exact h2⟩
theorem lb_syn (hl : lbF ∈ R) (hs : St L R w) : ∃ (tp : TypeId) (p : Value), w.var? Tryz.prog "strconv.ErrSyntax" = some #[.iface tp p] := by
 obtain ⟨m, j, hd, hm, hj, hst, hr⟩ := hs
 obtain ⟨_, _, ⟨a, b, h1⟩, _⟩ := hr _ hl
 exact ⟨a, b, Uc (R := [Abl 2 [.iface a b]]) (L := L) (by kernel_rfl) (.head _) ⟨m, j, hd, hm, hj, hst, fun f hf => by cases List.mem_singleton.1 hf; exact h1⟩⟩
theorem lb_rng (hl : lbF ∈ R) (hs : St L R w) : ∃ (tp : TypeId) (p : Value), w.var? Tryz.prog "strconv.ErrRange" = some #[.iface tp p] := by
 obtain ⟨m, j, hd, hm, hj, hst, hr⟩ := hs
 obtain ⟨_, _, _, a, b, h1⟩ := hr _ hl
 exact ⟨a, b, Uc (R := [Abl 3 [.iface a b]]) (L := L) (by kernel_rfl) (.head _) ⟨m, j, hd, hm, hj, hst, fun f hf => by cases List.mem_singleton.1 hf; exact h1⟩⟩
theorem Agf {n : Int} (hs : St L R w) (hl : lbF ∈ R) (hn : An n) : Calls Tryz.prog 24 [vi n].toArray w (Bh (fun _ : Unit => .string (Ba (itoa n))) (fun _ => L) (fun _ => R)) :=
 Im hs (fun w' ⟨k, os, e⟩ => by subst e; exact Td k os) (Tryz.strconv_Itoa n hn.1 hn.2 w (lb_tab hl hs))
theorem cAtoi {l : Bs} (hs : St L R w) (hl : lbF ∈ R) (hn : l.length ≤ 4294967280) : Calls Tryz.prog 51 [.string (Ba l)].toArray w (Bh (fun g : TypeId × Value => .tuple #[vi (vOf l), erV (okA l) g]) (fun _ => L) (fun _ => R)) := by
 have hz : (Ba l).size = l.length := Hf l
 cases h : atoiAll l
 ·rename_i v
  have e1 : vOf l = v := by unfold vOf; rw [h]
  have e2 : okA l = true := by unfold okA; rw [h]
  rw [e1, e2]
  exact (Any.strconv_Atoi_ok Tryz.laysC172 (Ba l) (by omega) v (by rw [Li]; exact h) w).mono fun e w' ⟨h1, h2⟩ => ⟨(0, .nilIface), h1, hs.grows (by
   rcases h2 with e | ⟨t, e⟩
   ·rw [e]; exact Mem.le_refl _
   ·rw [e]; exact Gs (Lib.bytesWorld_below w _ t))⟩
 ·have e1 : vOf l = 0 := by unfold vOf; rw [h]
  have e2 : okA l = false := by unfold okA; rw [h]
  rw [e1, e2]
  obtain ⟨tp, p, hv⟩ := lb_syn hl hs
  exact (Any.strconv_Atoi_syntax_var Tryz.laysC172 (Ba l) (by omega) (by rw [Li]; exact h) tp p w hv).mono fun e w' ⟨N, h1, _, _, h2⟩ => ⟨(180, _), h1, hs.grows (Gs h2)⟩
 ·have e1 : vOf l = Go.Lib.atoiSat l := by unfold vOf; rw [h]
  have e2 : okA l = false := by unfold okA; rw [h]
  rw [e1, e2]
  obtain ⟨tp, p, hv⟩ := lb_rng hl hs
  exact (Any.strconv_Atoi_range_var Tryz.laysC172 (Ba l) (by omega) (by rw [Li]; exact h) tp p w hv).mono fun e w' ⟨N, h1, _, _, h2⟩ => ⟨(180, _), h1, hs.grows (Gs h2)⟩
theorem cCut {l : Bs} {c : UInt8} (hs : St L R w) (hl : lbF ∈ R) (hn : l.length ≤ 4294967280) : Calls Tryz.prog 14 [.string (Ba l), .string (Ba [c])].toArray w (Bh (fun _ : Unit => .tuple #[.string (Ba (Lib.cut l [c]).1), .string (Ba (Lib.cut l [c]).2.1), .bool (Lib.cut l [c]).2.2]) (fun _ => L) (fun _ => R)) := by
 obtain ⟨m, hm⟩ := Abv hl hs
 have hz : (Ba l).size = l.length := Hf l
 exact Im hs (fun w' ⟨k, e⟩ => by subst e; exact P9 k) (Tryz.strings_Cut (Ba l) (Ba [c]) m w (by omega) hm)
theorem cCutF {l : Bs} {c : UInt8} (hs : St L R w) (hl : lbF ∈ R) (hn : l.length ≤ 4294967280) (h : c ∉ l) : Calls Tryz.prog 14 [.string (Ba l), .string (Ba [c])].toArray w (Bh (fun _ : Unit => .tuple #[.string (Ba l), .string (Ba []), .bool false]) (fun _ => L) (fun _ => R)) := by
 have := cCut (c := c) hs hl hn
 rw [Z7 h] at this; exact this
theorem cCutT {b r : Bs} {c : UInt8} (hs : St L R w) (hl : lbF ∈ R) (hn : (b ++ c :: r).length ≤ 4294967280) (h : c ∉ b) : Calls Tryz.prog 14 [.string (Ba (b ++ c :: r)), .string (Ba [c])].toArray w (Bh (fun _ : Unit => .tuple #[.string (Ba b), .string (Ba r), .bool true]) (fun _ => L) (fun _ => R)) := by
 have := cCut (c := c) hs hl hn
 rw [Aft h] at this; exact this
theorem cSplit {l : Bs} {c : UInt8} (hs : St L R w) (hl : lbF ∈ R) (hn : l.length ≤ 16777215) : Calls Tryz.prog 29 [.string (Ba l), .string (Ba [c])].toArray w (Bh (fun v : Value => v) (fun _ => L) (fun v => sl (α := Wd) v (Av c l) :: R)) := by
 obtain ⟨m, hm⟩ := Abv hl hs
 have hz : (Ba l).size = l.length := Hf l
 have h1 : 1 ≤ (Ba [c]).size := Nat.le_refl 1
 have hle := Lib.countB_le (Ba [c]) h1 _ (Ba l) (Nat.le_refl _)
 have hlen := Lib.splitB_all (Ba [c]) h1 0 _ (Ba l) rfl
 have e1 : (Lib.splitB (Ba [c]) 0 (Lib.countB (Ba l) (Ba [c])) (Ba l)).map (·.data.toList) = Av c l := by
  rw [Lib.splitB_data]; exact Um c l
 have e2 : (Lib.splitB (Ba [c]) 0 (Lib.countB (Ba l) (Ba [c])) (Ba l)).map Value.string = (Av c l).map fun x => Value.string (Ba x) := by
  rw [← e1, List.map_map]; rfl
 have e3 : (Av c l).length = Lib.countB (Ba l) (Ba [c]) + 1 := by rw [← e1, List.length_map, hlen]
 refine (Tryz.strings_Split (Ba l) (Ba [c]) m w (by omega) hm h1).mono fun e w' ⟨g1, g2⟩ => ⟨_, g1, ?_⟩
 rw [g2, e2, ← e3]
 exact sl_new (ws := Av c l) hs (by have : maxN = 16777216 := rfl; have e4 : @List.length Wd (Av c l) = @List.length Bs (Av c l) := rfl; omega)
theorem Tz {v : Value} {l : List Bs} (hs : St L R w) (h0 : sl (α := Wd) v l ∈ R) (hne : l ≠ []) (hn : (E7 l).length ≤ 140737488355328) : Calls Tryz.prog 26 [v, .string (Ba [32])].toArray w (Bh (fun _ : Unit => .string (Ba (E7 l))) (fun _ => L) (fun _ => R)) := by
 obtain ⟨m, j, hd, hm, hj, hst, hr⟩ := id hs
 obtain ⟨base, cap, (hv : v = .slice base (@List.length Bs l) cap), ⟨(hN : @List.length Bs l ≤ maxN), (hcap : @List.length Bs l ≤ cap)⟩, hc⟩ := hr _ h0
 obtain ⟨a, cells, T, fz, cs, h1, h2, h3, h4, h5⟩ := hc hne
 obtain ⟨bk, o, sp⟩ := a
 simp only at h2; subst h2
 have hb := Ge (hj _ _ h3)
 have hrd : ∀ (l : List Bs) (cs : List Value), RdL (α := Wd) l cs j → cs = l.map fun x => Value.string (Ba x) := by
  intro l
  induction l with
  | nil => intro cs h; exact h
  | cons x l ih =>
   rintro cs ⟨c1, c2, e, (g1 : c1 = _), g2⟩
   rw [e, g1, ih _ g2]; rfl
 have hcs := hrd _ _ h5
 have hcell : ∀ (k : Nat) x, (l.map Ba)[k]? = some x → w.cell? ⟨bk, o + k, none⟩ = some (.string x) := by
  intro k x hk
  rw [Eg hb]
  have e1 : cs[k]? = some (.string x) := by
   rw [hcs, List.getElem?_map]
   rw [List.getElem?_map] at hk
   obtain ⟨y, hy, rfl⟩ := Option.map_eq_some_iff.1 hk
   rw [hy]; rfl
  rw [← h4, List.getElem?_take] at e1
  split at e1
  ·rw [List.getElem?_drop] at e1
   rw [← Array.getElem?_toList]; exact e1
  ·cases e1
 have hlt : bk < w.heap.size := by
  rcases Nat.lt_or_ge bk w.heap.size with h | h
  ·exact h
  ·rw [Array.getElem?_eq_none h] at hb; cases hb
 have hl : (l.map Ba).length = @List.length Bs l := List.length_map _
 have hmn : maxN = 16777216 := rfl
 have c := Tryz.strings_Join bk o cap (l.map Ba) (Ba [32]) w hcell hlt (by rw [hl]; omega) (by rw [hl]; exact hcap) (by rw [Acd, Li, P4]; exact hn)
 rw [hl, Acd, Li, P4] at c
 rw [hv, h1]
 exact Im hs (fun w' e => Gs e) c
end
end Go.Proofs.YtiofgjolhbgkiaaGreatDoor
namespace Go.Proofs.YtiofgjolhbgkiaaGreatDoor
end Go.Proofs.YtiofgjolhbgkiaaGreatDoor
namespace Go.Proofs.YtiofgjolhbgkiaaGreatDoor
open Go Go.ChangeShapes Go.WideShapes Go.ChangeAt Go.RowKit
variable {P : Program}
theorem Qk {H : Type} {k : Nat} {l : List (DataW H)} (h : ∀ x ∈ l, k ≤ Rows.uptoBulk x) : k * l.length ≤ Rows.uptoBulkAll l := by
 induction l with
 | nil => simp
 | cons x r ih =>
  have h1 := h x (List.mem_cons_self ..)
  have h2 := ih fun y hy => h y (List.mem_cons_of_mem _ hy)
  simp only [Rows.uptoBulkAll, List.length_cons, Nat.mul_succ]; omega
section
variable {H : Type} {enc : TypeId × Value → H} {W : World} {sp : Nat → Bool} {held : Bool} {base : Nat} {t : TypeId} {v : Value} {d : DataW H} {ps : List MemPlace}
theorem Abd {α : Type} [Enc α] {e : TypeId} {fs : Array Field} (ht : P.underlying t = some (.slice e)) (he : P.underlying e = some (.struct fs)) (h5 : fs.size = 5) (hr : Np P (List α) t) (hok : Value.okWide P W .any base t v) (h : DataW.Trod enc P W 0 sp held t v d ps) (hb : Rows.uptoBulk d ≤ 1048576) : ∃ xs : List α, (sl v xs).p (Bf W) ∧ 6 * xs.length ≤ 1048576 := by
 obtain ⟨a, len, cap, rfl⟩ := okWide_slice ht hok
 obtain ⟨fuel, hf⟩ := h
 obtain ⟨xs, u, hu, hx⟩ := hr H enc W sp held fuel _ d ps hf hb
 have hu' : [Value.slice a len cap] = [u] := hu
 injection hu' with hu'
 subst hu'
 refine ⟨xs, hx, ?_⟩
 obtain ⟨b, c, he2, _⟩ := hx
 cases he2
 rcases DataW.trod_slice ht hf with ⟨hv, hx⟩ | ⟨a', len', cap', elems, rest, n, hn, hv, hx, hba, hlc, hcm, hel, hget, _⟩
 ·have : [Value.slice a xs.length cap] = [Value.slice none 0 0] := hv
  simp at this; omega
 ·have e1 : [Value.slice a xs.length cap] = [Value.slice (some a') len' cap'] := hv
  simp only [List.cons.injEq, Value.slice.injEq, and_true] at e1
  simp only [Prod.mk.injEq] at hx
  obtain ⟨rfl, _⟩ := hx
  simp only [Rows.uptoBulk] at hb
  have h6 : 6 * (elems.map (·.1)).length ≤ Rows.uptoBulkAll (elems.map (·.1)) := Qk fun x hx => by
   obtain ⟨y, hy, rfl⟩ := List.mem_map.1 hx
   obtain ⟨i, hi, e⟩ := List.mem_iff_getElem.1 hy
   have h1 := hget i (by omega)
   rw [List.getElem?_eq_getElem hi, Option.bind_eq_some_iff] at h1
   obtain ⟨es, h2, h3⟩ := h1
   obtain ⟨zs, n2, hf2, hx2, hl2, hxl2, hget2⟩ := DataW.trod_struct he h3
   rw [e] at hx2
   rw [hx2]
   have h7 := Oi (zs.map (·.1))
   rw [List.length_map, hxl2, h5] at h7
   simp only [Rows.uptoBulk]; omega
  rw [List.length_map, hel] at h6
  omega
end
end Go.Proofs.YtiofgjolhbgkiaaGreatDoor
set_option maxHeartbeats 1000000
set_option maxRecDepth 8000
namespace Go.Proofs.YtiofgjolhbgkiaaGreatDoor
open Go Go.RowKit
theorem gPw : Tryz.prog.globalNamed "internal/strconv.uint64pow10" = some 1 := by kernel_rfl
theorem gPwT : (Tryz.prog.globals[1]?).map (·.type) = some 187 := by kernel_rfl
theorem gEs : Tryz.prog.globalNamed "strconv.ErrSyntax" = some 2 := by kernel_rfl
theorem gEsT : (Tryz.prog.globals[2]?).map (·.type) = some 58 := by kernel_rfl
theorem gEr : Tryz.prog.globalNamed "strconv.ErrRange" = some 3 := by kernel_rfl
theorem gErT : (Tryz.prog.globals[3]?).map (·.type) = some 58 := by kernel_rfl
theorem csTab : Tryz.prog.cellsOf 187 = 20 := by kernel_rfl
theorem csU64 : Tryz.prog.cellsOf 165 = 1 := by kernel_rfl
theorem csErs : Tryz.prog.cellsOf 204 = 1 := by kernel_rfl
theorem csStr : Tryz.prog.cellsOf 9 = 1 := by kernel_rfl
theorem V4 : "*" ++ "errors.errorString" = "*errors.errorString" := by decide
theorem Aby (u : TypeId) (h : Tryz.prog.typeName? 3 u = some "*errors.errorString") : u = 202 :=
 typeName_ptr_named (nm := "errors.errorString") (by rw [V4]; kernel_rfl) (by kernel_rfl) (by decide) u (by rw [V4]; exact h)
theorem Adv {W : World} (hsh : W.ShapedOpen Tryz.prog) : ∃ m, W.cell? ⟨0, 0, none⟩ = some (.int .i64 m) :=
 cell_of_shapedOpen_int (t := 3) (zero := #[.int .i64 0]) hsh (of_decide_eq_true (by kernel_rfl)) (by kernel_rfl) rfl (by kernel_rfl) (by kernel_rfl) Tryz.underlying3
theorem pwTab : (Rows.laid_internal_strconv_uint64pow10 : DataW Unit) = Lib.tabData .u64 Lib.pow10Tab := by kernel_rfl
theorem Yi {W : World} (hsh : W.ShapedOpen Tryz.prog) (hL : laidMet Tryz.prog Rows.topScriptUptoRow.laid W) : lbF.p (Bf W) := by
 obtain ⟨m, hm⟩ := Adv hsh
 have h1 : laidMet Tryz.prog (("internal/strconv.uint64pow10", Rows.laid_internal_strconv_uint64pow10) :: _) W := ((hL).tail).tail
 rw [pwTab] at h1
 have t1 := Lib.tabIs_of_head gPw gPwT Tryz.underlying187 Tryz.underlying165 csU64 csTab h1
 obtain ⟨a1, s1, hv1, _⟩ := laid_sentinel (((((hL).tail).tail).tail).tail) gEr gErT Tryz.underlying58 Aby Tryz.underlying202 Tryz.underlying204 rfl rfl Tryz.underlying9 csErs csStr
 obtain ⟨a2, s2, hv2, _⟩ := laid_sentinel ((((((hL).tail).tail).tail).tail).tail) gEs gEsT Tryz.underlying58 Aby Tryz.underlying202 Tryz.underlying204 rfl rfl Tryz.underlying9 csErs csStr
 exact ⟨by have := Ml gPw t1; exact this, ⟨m, Wv hm⟩, ⟨_, _, Ml gEs hv2⟩, _, _, Ml gEr hv1⟩
def flD0 : DataW Unit → List Value
 | .lit (.int k n) => [.int k n]
 | _ => []
def flD1 : DataW Unit → List Value
 | .agg l => l.flatMap flD0
 | d => flD0 d
def flD2 : DataW Unit → List Value
 | .agg l => l.flatMap flD1
 | d => flD0 d
def Gj (cs : Array Value) : Obj → Obj
 | .cells _ t fz => .cells cs t fz
 | o => o
noncomputable def lowW : Nat := (World.holding Tryz.prog default ⟨#[], #[], []⟩).heap.size
noncomputable def Aea (os : Os) : World :=
 let w0 := World.holding Tryz.prog os ⟨#[.cells #[.string ⟨#[105, 110, 118, 97, 108, 105, 100, 32, 115, 121, 110, 116, 97, 120]⟩] 204, .cells #[.string ⟨#[118, 97, 108, 117, 101, 32, 111, 117, 116, 32, 111, 102, 32, 114, 97, 110, 103, 101]⟩] 204], #[], []⟩
 { w0 with heap := (((((((w0.heap.modify 6 (Gj (flD2 Rows.laid_math_bits_deBruijn32tab).toArray)).modify 7 (Gj (flD2 Rows.laid_math_bits_deBruijn64tab).toArray)).modify 1 (Gj (flD2 Rows.laid_internal_strconv_uint64pow10).toArray)).modify 5 (Gj (flD2 Rows.laid_unicode_utf8_acceptRanges).toArray)).modify 4 (Gj (flD2 Rows.laid_unicode_utf8_first).toArray)).modify 2 (Gj #[.iface 202 (.pointer (some ⟨lowW, 0, none⟩))])).modify 3 (Gj #[.iface 202 (.pointer (some ⟨lowW + 1, 0, none⟩))])) }
variable {L : List Chunk} {R : List Fact} {w : World}
theorem Me {v0 : Value} {xs : List UInt8} (hs : St (L) R w) (h0 : sl v0 xs ∈ R) : Calls Tryz.prog 80 [v0].toArray w (Bh (fun v : Value => v) (fun v => row 5 v xs :: L) (fun v => R)) := by
 refine Ag Tryz.func80 rfl Tryz.ntmps80 rfl hs ?_
 clear hs
 refine Zaz ?_
 refine ob (Adl Tryz.underlying53 (D8 h0)) ?_
 refine Gl ?_
 refine Cb (b := ?b1) ?e1 ?_ ?_; case e1 => exact rfl
 ·intro ht4
  refine JC.nilOf ht4 h0 (fun hx => ?_)
  refine ZC ?_
  exact Bz (.slice none 0 0) (hs := fun w hs => by rw [hx]; exact Af (hs.rowNil 5 UInt8))
 ·intro ht4
  refine Gm ?_
  refine liO ([] : List UInt8) Ka rfl (fun j h => Ux) ?_; intro v5
  refine rn1 ?_
  refine ap Ka (hb := fun w hs => by have := Bv h0 hs; have : maxN = 16777216 := rfl; simp; omega) (k := ?_); intro v7
  refine Ga1 ?_
  exact Bz v7
theorem Q8 {v0 : Value} {l : Frames} (hs : St (L) R w) (h0 : sl v0 l ∈ R) : Calls Tryz.prog 53 [v0].toArray w (Bh (fun v : Value => v) (fun v => row 53 v l :: L) (fun v => R)) := by
 have hlen := Bv h0 hs
 refine Ag Tryz.func53 rfl Tryz.ntmps53 rfl hs ?_
 clear hs
 refine ZJ ?_
 refine Gb1 ?_
 refine Ga3 ?_
 refine JC.rowNil 53 (List UInt8) ?_
 refine Cn (γ := Nat × Value) (fun g => g.1 ≤ l.length) (fun g => row 53 g.2 (l.take g.1) :: L) (fun _ => R) (fun g => [(0, v0), (3, g.2), (6, v0), (7, vi (l.length : Int)), (8, vi (g.1 : Int))]) (fun g => l.length - g.1) (0, .slice none 0 0) (Nat.zero_le _) alT (fun w hs => hs) ?_
 rintro ⟨k, vs⟩ hk
 try simp only at hk ⊢
 refine ZC ?_
 refine cdy ?_ ?_
 ·intro ht9
  refine Gl ?_
  refine JC.open1 (xs := l) k mm (by omega) (fun _ u => ?_)
  refine Aa ?_
  refine Gb3 ?_
  refine rn2 ?_
  refine Aj Tryz.call80 rfl (fun w hs => Me hs mm) ?_; intro v14
  refine J.shut .hd ?_
  refine li [_] Ti rfl rd_sl ?_; intro v15
  refine ap Ti (hb := fun w hs => by have : maxN = 16777216 := rfl; have := hlen; simp only [List.length_cons, List.length_nil, List.length_take, List.length_append]; omega) (k := ?_); intro v16
  refine ZK ?_
  refine Br (k + 1, v16) (by show k + 1 ≤ l.length; omega) (by show l.length - (k + 1) < l.length - k; omega) alT (fun w hs => ?_)
  try simp only
  rw [J4 [] (by omega)]; exact Af hs
 ·intro ht9
  refine ZE ?_
  have hkl : k = l.length := by omega
  subst hkl
  exact Bz vs (hs := fun w hs => by rw [List.take_length] at hs; exact Af hs)
theorem Q7 {v0 v1 : Value} {l : Frames} {b : List UInt8} (hs : St (L) R w) (h0 : sl v0 l ∈ R) (h1 : sl v1 b ∈ R) : Calls Tryz.prog 57 [v0, v1].toArray w (Bh (fun v : Value => v) (fun v => row 53 v (C5 l b) :: L) (fun v => R)) := by
 have hlen := Bv h0 hs
 refine Ag Tryz.func57 rfl Tryz.ntmps57 rfl hs ?_
 clear hs
 refine Zaz ?_
 refine Aj Tryz.call53 rfl (fun w hs => Q8 hs mm) ?_; intro v7
 refine Gb1 ?_
 refine Ga3 ?_
 refine cdy ?_ ?_
 ·intro ht10
  refine ZA ?_
  refine Aj Tryz.call80 rfl (fun w hs => Me hs mm) ?_; intro v13
  refine J.shut .hd ?_
  refine li [_] Ti rfl rd_sl ?_; intro v14
  refine ap Ti (hb := fun w hs => by have : maxN = 16777216 := rfl; have := hlen; simp only [List.length_cons, List.length_nil, List.length_take, List.length_append]; omega) (k := ?_); intro v15
  refine ZK ?_
  have e : C5 l b = l ++ [b] := by unfold C5; rw [if_pos (by omega)]
  rw [e]
  exact Bz v15
 ·intro ht10
  refine ZE ?_
  have e : C5 l b = l := by unfold C5; rw [if_neg (by omega)]
  rw [e]
  exact Bz v7
def EB (e : Entry) : Prop := e.wf ∧ (0 ≤ e.sharers ∧ e.sharers < 16) ∧ (0 ≤ e.need ∧ e.need < 16) ∧ (0 ≤ e.who ∧ e.who < 4) ∧ (-1 ≤ e.owner ∧ e.owner < 4) ∧ 0 ≤ e.turn
def zEC : List Value := [vi 0, vi 0, vi 0, vi 0, vi 0, vi 0, .bool false, vi 0, vi 0, .slice none 0 0]
theorem Jd (id home : Int) : ∀ (l : List Line) (i : Int) (x : Line), Bx id home i (l ++ [x]) = Bx id home i l ++ if x.want ≠ 0 then [Co x id home (i + (l.length : Int))] else []
 | [], i, x => by simp only [List.nil_append, Bx, List.length_nil]; split <;> simp
 | a :: l, i, x => by
  have ih := Jd id home l (i + 1) x
  have e : i + 1 + (l.length : Int) = i + ((a :: l).length : Int) := by simp only [List.length_cons]; omega
  rw [e] at ih
  simp only [List.cons_append, Bx]
  split <;> simp [ih]
theorem Ns (id home : Int) : ∀ (l : List Line) (i : Int), (Bx id home i l).length ≤ l.length
 | [], i => Nat.le_refl _
 | a :: l, i => by
  have := Ns id home l (i + 1)
  simp only [Bx]; split <;> simp only [List.length_cons] <;> omega
def Ei (e : Entry) (line id : Int) (k : Nat) : List Msg := ((List.range k).filter (fun p => e.need.toNat.testBit p)).map fun (p : Nat) => (⟨4, id, (p : Int), line, 0, e.turn, 0, false⟩ : Msg)
theorem Se {e : Entry} {line id : Int} {k : Nat} (h : e.need.toNat.testBit k = true) : Ei e line id (k + 1) = Ei e line id k ++ [⟨4, id, (k : Int), line, 0, e.turn, 0, false⟩] := by
 exact ZdN
theorem Uu {e : Entry} {line id : Int} {k : Nat} (h : e.need.toNat.testBit k = false) : Ei e line id (k + 1) = Ei e line id k := by
 exact ZdN
theorem Sf (e : Entry) (line id : Int) (k : Nat) : (Ei e line id k).length ≤ k := by
 unfold Ei; rw [List.length_map]
 exact Nat.le_trans (List.length_filter_le ..) (by simp)
theorem Sg {e : Entry} {line id : Int} (h : e.phase = 2) : Ei e line id 4 = Ib e line id := by
 unfold Ei Ib
 rw [if_neg (by omega), if_pos h]
 show _ = List.map _ (List.filter _ ([0, 1, 2, 3].map (fun p : Nat => (p : Int))))
 rw [List.filter_map, List.map_map]
 rfl
def dX (m : List Int) (o : Op) : List Int := m.set o.line.toNat (Bb (m.getD o.line.toNat 0) o).1
theorem opv1 {v : Int} {o : Op} (h : o.kind = 1) : Bb v o = (v, v) := by unfold Bb; rw [if_pos h]
theorem opv2 {v : Int} {o : Op} (h : o.kind = 2) : Bb v o = (o.value, 0) := by unfold Bb; rw [if_neg (by omega), if_pos h]
theorem opv3 {v : Int} {o : Op} (h : o.kind = 3) : Bb v o = ((v + o.value) % 256, v) := by unfold Bb; rw [if_neg (by omega), if_neg (by omega), if_pos h]
theorem opv4 {v : Int} {o : Op} (h : o.kind = 4) : Bb v o = (v, 0) := by unfold Bb; rw [if_neg (by omega), if_neg (by omega), if_neg (by omega)]
def Km (v : Int) (o : Op) : List Int := (List.replicate (o.line + 1).toNat 0).set o.line.toNat v
theorem Nw {v : Int} {o : Op} (h : 0 ≤ o.line) : (Km v o).length = o.line.toNat + 1 := by unfold Km; rw [List.length_set, List.length_replicate]; omega
theorem Mn {v : Int} {o : Op} (h : 0 ≤ o.line) : (Km v o).getD o.line.toNat 0 = v := by
 unfold Km
 rw [List.getD_eq_getElem?_getD, List.getElem?_set_self (by rw [List.length_replicate]; omega)]; rfl
theorem tellDo {v : Int} {o : Op} (hk : 1 ≤ o.kind ∧ o.kind ≤ 4) (h : 0 ≤ o.line) (h2 : 0 ≤ o.value ∧ o.value ≤ 255) : Ds (Km v o) o = (dX (Km v o) o, (Bb v o).2, 0) := by
 have hl := Nw (v := v) h
 unfold Ds; rw [if_neg (by omega), if_neg (by omega), Mn h]; unfold dX; rw [Mn h]
theorem dX_at {m : List Int} {o : Op} (h : o.line.toNat < m.length) : (dX m o).getD o.line.toNat 0 = (Bb (m.getD o.line.toNat 0) o).1 := by
 unfold dX; rw [List.getD_eq_getElem?_getD, List.getElem?_set_self h]; rfl
theorem Aar : ∀ (s : _root_.Fin 16) (k : _root_.Fin 4), (s.val.testBit k.val = true → G3 (s.val : Int) (k.val : Int) = (s.val : Int) ∧ Gy (s.val : Int) (k.val : Int) = (s.val : Int) - ((2 ^ k.val : Nat) : Int)) ∧ (s.val.testBit k.val = false → G3 (s.val : Int) (k.val : Int) = (s.val : Int) + ((2 ^ k.val : Nat) : Int) ∧ Gy (s.val : Int) (k.val : Int) = (s.val : Int)) ∧ (0 ≤ G3 (s.val : Int) (k.val : Int) ∧ G3 (s.val : Int) (k.val : Int) < 16) ∧ (0 ≤ Gy (s.val : Int) (k.val : Int) ∧ Gy (s.val : Int) (k.val : Int) < 16) := by decide
theorem Er {s k : Int} (h0 : 0 ≤ s) (h1 : s < 16) (h2 : 0 ≤ k) (h3 : k < 4) : (s.toNat.testBit k.toNat = true → G3 s k = s ∧ Gy s k = s - ((2 ^ k.toNat : Nat) : Int)) ∧ (s.toNat.testBit k.toNat = false → G3 s k = s + ((2 ^ k.toNat : Nat) : Int) ∧ Gy s k = s) ∧ (0 ≤ G3 s k ∧ G3 s k < 16) ∧ (0 ≤ Gy s k ∧ Gy s k < 16) := by
 obtain ⟨a, rfl⟩ := Int.eq_ofNat_of_zero_le h0
 obtain ⟨b, rfl⟩ := Int.eq_ofNat_of_zero_le h2
 exact Aar ⟨a, by omega⟩ ⟨b, by omega⟩
theorem Hl (e : Entry) : (C7 e).last = e.last := by
 unfold C7; split
 ·rfl
 ·split <;> rfl
theorem F7 {e : Entry} (h : EB e) : EB (C7 e) := by
 obtain ⟨h1, h2, h3, h4, h5, h6⟩ := h
 obtain ⟨_, _, _, r⟩ := Er h2.1 h2.2 h4.1 h4.2
 unfold Entry.wf An at h1
 unfold C7 EB Entry.wf An
 split
 ·simp only; omega
 split
 ·simp only; omega
 ·simp only; omega
theorem Hv {L L' : List Chunk} {R : List Fact} {T : TypeId} {v : Value} {xs : List Int} {i : Nat} (hp : Pick L (row T v xs) L') (hi : i < xs.length) : Cj L R (ep v 1 i 0) [vi (xs.getD i 0)] := Xe hp (getD_some 0 hi)
theorem G7 {P : Program} {n : Nat} {Q : Exit → Act → World → Prop} {L : List Chunk} {R : List Fact} {al : List (Nat × Value)} {c : Code} {v : Value} {l : List Entry} (i : Int) (hm : sl v l ∈ R) (h0 : 0 ≤ i) (hi : i < l.length) (k : (Ah l i).wf → ∀ u, JC P n c Q L (cF v 10 i.toNat (Entry.cells u (Ah l i)) :: sl u (Ah l i).last :: R) al) : JC P n c Q L R al := JC.open1 i.toNat hm (by omega) k
theorem Hc {v : Value} {xs : List Int} (hm : sl v xs ∈ R) (hs : St L R w) : ∀ x ∈ xs, An x := by
 intro x hx
 obtain ⟨i, hi, rfl⟩ := List.getElem_of_mem hx
 obtain ⟨cs, m, hr⟩ := sl_rd hm (List.getElem?_eq_getElem hi) hs
 exact hr.2
end Go.Proofs.YtiofgjolhbgkiaaGreatDoor
namespace Go.Proofs.YtiofgjolhbgkiaaGreatDoor
namespace Abs
structure Ab where
 value : Int
 owner : Int
 phase : Int
 who : Int
 serial : Int
 alone : Int
 turn : Int
 last : Nat → Int
 sh : Nat → Int
 nd : Nat → Int
structure GI (n : Nat) (e : Ab) : Prop where
 own : -1 ≤ e.owner ∧ e.owner < n
 ph : 0 ≤ e.phase ∧ e.phase ≤ 3
 idle : e.phase = 0 → e.who = 0 ∧ e.serial = 0 ∧ e.alone = 0
 whor : e.phase ≠ 0 → 0 ≤ e.who ∧ e.who < n
 f1 : e.phase = 1 → 0 ≤ e.owner ∧ e.owner ≠ e.who
 f23 : 2 ≤ e.phase → e.owner = -1
 c2 : e.phase = 2 → e.alone = 1 ∧ ∃ p : Nat, p < n ∧ e.nd p = 1
 al : 0 ≤ e.alone ∧ e.alone ≤ 1
 tu : 0 ≤ e.turn ∧ e.turn ≤ 65535
 va : 0 ≤ e.value ∧ e.value ≤ 255
 se : 0 ≤ e.serial ∧ e.serial ≤ 65535
structure CI (e : Ab) (p : Nat) (l : Line) (V : Int) : Prop where
 st : 0 ≤ l.state ∧ l.state ≤ 3
 va : 0 ≤ l.value ∧ l.value ≤ 255
 wa : 0 ≤ l.want ∧ l.want ≤ 3
 se : 0 ≤ l.serial ∧ l.serial ≤ 65535
 ga : 0 ≤ l.gave ∧ l.gave ≤ l.seen ∧ l.seen ≤ e.turn
 gi : 0 ≤ l.given ∧ l.given ≤ 255
 la : 0 ≤ e.last p ∧ e.last p ≤ l.serial
 bits : 0 ≤ e.sh p ∧ e.sh p ≤ 1 ∧ 0 ≤ e.nd p ∧ e.nd p ≤ 1
 leav : l.state = 3 ↔ l.want = 3
 w1 : l.want = 1 → l.state = 0
 w2 : l.want = 2 → l.state ≤ 1
 taken : l.want = 1 ∨ l.want = 2 → e.last p = l.serial → e.phase ≠ 0 ∧ e.who = p
 back : l.want = 3 → e.last p = l.serial → e.owner ≠ p
 cur : e.phase ≠ 0 → e.who = p → e.serial = e.last p ∧
  ((l.serial = e.serial ∧ l.want = 1 + e.alone ∧ l.seen < e.turn) ∨
   ((l.serial ≠ e.serial ∨ l.want = 0) ∧ e.phase = 3 ∧ l.seen = e.turn ∧ (e.alone = 1 → 2 ≤ l.state) ∧ (e.alone = 0 → l.state ≤ 1)))
 own : e.owner = p → (2 ≤ l.state ∧ (e.phase = 1 → l.seen < e.turn)) ∨ (l.state < 2 ∧ e.phase = 1 ∧ l.gave = e.turn ∧ l.given = V ∧ (e.alone = 1 → l.state = 0))
 alo : l.state = 2 ∨ (l.state = 3 ∧ e.last p < l.serial) → (e.owner = p ∨ (e.phase = 3 ∧ e.who = p ∧ e.alone = 1)) ∧ l.value = V
 cop : l.state = 1 → (e.sh p = 1 ∨ e.owner = p ∨ (e.phase = 3 ∧ e.who = p ∧ l.seen = e.turn)) ∧ l.value = V
 shs : e.sh p = 1 → (l.state ≤ 1 ∨ (e.phase = 3 ∧ e.who = p ∧ e.alone = 1)) ∧ e.owner = -1
 ned : e.nd p = 1 → e.phase = 2 ∧ e.who ≠ p ∧ (l.seen = e.turn → l.state = 0)
 cle : e.phase = 2 → e.who ≠ p → e.nd p = e.sh p
 gra : e.phase = 3 → e.alone = 1 → e.who ≠ p → e.sh p = 0
 val : e.owner = -1 → (e.phase = 3 → e.alone = 1 → e.who = p ∧ l.seen < e.turn) → e.value = V
structure MI (e : Ab) (p : Nat) (l : Line) (m : Msg) : Prop where
 get : m.kind = 1 ∨ m.kind = 2 → m.serial ≤ l.serial ∧ (e.last p < m.serial → m.serial = l.serial ∧ l.want = m.kind)
 put : m.kind = 3 → m.serial ≤ l.serial ∧ (e.last p < m.serial → (m.serial = l.serial ∧ l.want = 3 ∧ m.value = l.value) ∨
  ((m.serial < l.serial ∨ l.want = 0) ∧ (e.owner ≠ p ∨ (e.phase = 1 ∧ l.gave = e.turn)) ∧ (e.phase = 0 ∨ e.who ≠ p)))
 inv : m.kind = 4 → m.turn ≤ e.turn ∧ (l.seen < m.turn → m.turn = e.turn ∧ e.phase = 2 ∧ e.nd p = 1)
 fet : m.kind = 5 ∨ m.kind = 6 → m.turn ≤ e.turn ∧ (l.seen < m.turn → m.turn = e.turn ∧ e.phase = 1 ∧ e.owner = p ∧ m.kind = 5 + e.alone)
 gra : m.kind = 7 → m.serial ≤ e.last p ∧ (m.serial = l.serial → l.want ≠ 0 → e.phase = 3 ∧ e.who = p ∧ m.turn = e.turn ∧ (m.alone = true ↔ e.alone = 1) ∧ m.value = e.value) ∧
  ((m.serial ≠ l.serial ∨ l.want = 0) → m.turn ≤ l.seen)
 gon : m.kind = 8 → m.turn ≤ l.seen
 dat : m.kind = 9 → m.turn ≤ l.seen ∧ (m.turn = e.turn → e.phase = 1 → e.owner = p → l.gave = e.turn ∧ m.value = l.given)
 tha : m.kind = 10 → m.turn ≤ l.seen
 tak : m.kind = 11 → m.serial ≤ e.last p
def upd {α : Type} (f : Nat → α) (p : Nat) (x : α) : Nat → α := fun q => if q = p then x else f q
end Abs
end Go.Proofs.YtiofgjolhbgkiaaGreatDoor
namespace Go.Proofs.YtiofgjolhbgkiaaGreatDoor
namespace Abs
set_option maxHeartbeats 2000000
section core
variable {n : Nat} {e : Ab} {p : Nat} {l : Line} {V : Int}
theorem Aap (hG : GI n e) (h : CI e p l V) (hw : l.want = 0) (hs : l.state ≠ 2) : CI e p { l with state := 0, value := 0 } V ∧ ∀ m, MI e p l m → MI e p { l with state := 0, value := 0 } m := by
 exact ZcL
theorem c_put (hG : GI n e) (h : CI e p l V) (hw : l.want = 0) (hs : l.state = 2) (hn : l.serial < 65535) : CI e p { l with state := 3, want := 3, serial := l.serial + 1 } V ∧ ∀ m, MI e p l m → MI e p { l with state := 3, want := 3, serial := l.serial + 1 } m := by
 exact ZcL
theorem c_ask {k : Int} (hG : GI n e) (h : CI e p l V) (hw : l.want = 0) (hk : k = 1 ∧ l.state = 0 ∨ k = 2 ∧ l.state ≤ 1) (hn : l.serial < 65535) : CI e p { l with want := k, serial := l.serial + 1 } V ∧ ∀ m, MI e p l m → MI e p { l with want := k, serial := l.serial + 1 } m := by
 rcases hk with ⟨rfl, hk⟩ | ⟨rfl, hk⟩ <;> refine ⟨?_, fun m hm => ?_⟩
 ·exact ZcH
 ·exact ZcM
 ·exact ZcH
 ·exact ZcM
theorem Agb {v : Int} (hG : GI n e) (h : CI e p l V) (hs : l.state = 2) (hv : 0 ≤ v ∧ v ≤ 255) : CI e p { l with value := v } v ∧ ∀ m, MI e p l m → MI e p { l with value := v } m := by
 exact ZcL
theorem Aao {q : Nat} {k : Line} {v : Int} (hG : GI n e) (h : CI e p l V) (hs : 2 ≤ l.state) (hl : l.state = 3 → e.last p < l.serial) (hq : q ≠ p) (hk : CI e q k V) : CI e q k v := by
 have ho : (e.owner = p ∨ (e.phase = 3 ∧ e.who = p ∧ e.alone = 1)) ∧ l.value = V := h.alo (by have := h.st; omega)
 have h1 := hk.own; have h2 := hk.alo; have h3 := hk.cop; have h4 := hk.val
 have h5 := h.own; have h6 := h.cur; have g1 := hG.f23; have g2 := hk.shs; have g3 := hk.gra; have g4 := hk.bits
 have g5 := hk.ga
 refine ⟨hk.st, hk.va, hk.wa, hk.se, hk.ga, hk.gi, hk.la, hk.bits, hk.leav, hk.w1, hk.w2, hk.taken, hk.back, hk.cur, ?_, ?_, ?_, hk.shs, hk.ned, hk.cle, hk.gra, ?_⟩
 ·clear h2 h3 h4; grind
 ·clear h1 h3 h4; grind
 ·clear h1 h2 h4; grind
 ·clear h1 h2 h3; grind
theorem c_inv {m : Msg} (hG : GI n e) (h : CI e p l V) (hm : MI e p l m) (hk : m.kind = 4) : CI e p (Dr l m.turn) V ∧ ∀ m', MI e p l m' → MI e p (Dr l m.turn) m' := by
 unfold Dr
 have := hm.inv hk
 split
 ·split
  ·exact ZcJ
  ·exact ZcJ
 ·exact ⟨h, fun _ h => h⟩
theorem Age {m : Msg} (hG : GI n e) (h : CI e p l V) (hm : MI e p l m) (hk : m.kind = 5 ∨ m.kind = 6) (hf : Ez l m.turn) :
  CI e p (C2 l m.kind m.turn) V ∧ (∀ m', MI e p l m' → MI e p (C2 l m.kind m.turn) m') ∧ l.value = V ∧ ∀ m' : Msg, m'.kind = 9 → m'.turn = m.turn → m'.value = l.value → MI e p (C2 l m.kind m.turn) m' := by
 obtain ⟨hf1, hf2, hf3⟩ := hf
 obtain ⟨g0, g1, g2, g3⟩ := (hm.fet hk).2 hf2
 have hown := hG.f1 g1
 have how : e.who ≠ p := by rw [← g2]; exact fun h => hown.2 h.symm
 have hse := h.ga
 have hl0 : l.want = 3 → e.last p < l.serial := by intro hw; have := h.back hw; have := h.la; grind
 have hv : l.value = V := (h.alo (by have := h.leav; have := h.st; grind)).2
 have h2 := h.own g2
 have hwant : l.want = 0 ∨ l.want = 3 := by have := h.wa; have := h.w1; have := h.w2; grind
 have hsh : e.sh p = 0 := by have := h.shs; have := h.bits; grind
 have hnd : e.nd p = 0 := by have := h.ned; have := h.bits; grind
 have hal := hG.al
 have hmt : m.turn = e.turn := g0
 rw [hmt]
 unfold C2
 have key : ∀ (st va wa : Int), (st = 0 ∨ st = 1 ∧ e.alone = 0) → wa = 0 → 0 ≤ va ∧ va ≤ 255 → (st = 1 → va = l.value) →
   CI e p ⟨st, va, wa, l.serial, e.turn, e.turn, l.value⟩ V ∧ (∀ m', MI e p l m' → MI e p ⟨st, va, wa, l.serial, e.turn, e.turn, l.value⟩ m') ∧ ∀ m' : Msg, m'.kind = 9 → m'.turn = e.turn → m'.value = l.value → MI e p ⟨st, va, wa, l.serial, e.turn, e.turn, l.value⟩ m' := by
  intro st va wa h1 h2 h3 h4
  refine ⟨?_, fun m' hm' => ?_, fun m' k1 k2 k3 => ?_⟩
  ·have k1 := h.se; have k2 := h.la; have k3 := h.va; have k4 := hG.tu; have k5 := h.bits
   constructor <;> (try simp only) <;> grind
  ·have k1 := hm'.get; have k2 := hm'.put; have k3 := hm'.inv; have k4 := hm'.fet; have k5 := hm'.gra; have k6 := hm'.gon; have k7 := hm'.dat; have k8 := hm'.tha; have k9 := hm'.tak
   constructor <;> (try simp only)
   ·clear k2 k3 k4 k5 k6 k7 k8 k9; grind
   ·clear k1 k3 k4 k5 k6 k7 k8 k9; grind
   ·clear k1 k2 k4 k5 k6 k7 k8 k9; grind
   ·clear k1 k2 k3 k5 k6 k7 k8 k9; grind
   ·clear k1 k2 k3 k4 k6 k7 k8 k9; grind
   ·clear k1 k2 k3 k4 k5 k7 k8 k9; grind
   ·clear k1 k2 k3 k4 k5 k6 k8 k9; grind
   ·clear k1 k2 k3 k4 k5 k6 k7 k9; grind
   ·clear k1 k2 k3 k4 k5 k6 k7 k8; grind
  ·constructor <;> (try simp only) <;> grind
 split
 ·obtain ⟨c1, c2, c3⟩ := key 0 0 0 (.inl rfl) rfl (by omega) (by omega)
  exact ⟨c1, c2, hv, c3⟩
 ·rename_i hw
  have hw0 : l.want = 0 := by omega
  split
  ·obtain ⟨c1, c2, c3⟩ := key 0 0 l.want (.inl rfl) hw0 (by omega) (by omega)
   exact ⟨c1, c2, hv, c3⟩
  ·obtain ⟨c1, c2, c3⟩ := key 1 l.value l.want (.inr ⟨rfl, by omega⟩) hw0 h.va (fun _ => rfl)
   exact ⟨c1, c2, hv, c3⟩
theorem Agc {m : Msg} (hG : GI n e) (h : CI e p l V) (hm : MI e p l m) (hk : m.kind = 11) (hw : l.want = 3) (hs : m.serial = l.serial) :
  CI e p { l with state := 0, value := 0, want := 0 } V ∧ ∀ m', MI e p l m' → MI e p { l with state := 0, value := 0, want := 0 } m' := by
 have h1 := hm.tak hk
 exact ZcJ
theorem Agd {m : Msg} {v : Int} (hG : GI n e) (h : CI e p l V) (hm : MI e p l m) (hk : m.kind = 7) (ha : Kc l m) (hv : 0 ≤ v ∧ v ≤ 255) (hsame : m.alone = false → v = m.value) :
    CI e p { l with state := if m.alone then 2 else 1, value := v, want := 0, seen := m.turn } v ∧ (∀ m', MI e p l m' → MI e p { l with state := if m.alone then 2 else 1, value := v, want := 0, seen := m.turn } m') ∧
    m.value = V ∧ (∀ (q : Nat) (k : Line), q ≠ p → CI e q k V → CI e q k v) ∧ ∀ m' : Msg, m'.kind = 10 → m'.turn = m.turn → MI e p { l with state := if m.alone then 2 else 1, value := v, want := 0, seen := m.turn } m' := by
 obtain ⟨ha1, ha2⟩ := ha
 have hne : l.want ≠ 0 := by omega
 obtain ⟨g1, g2, g3, g4, g5⟩ := (hm.gra hk).2.1 ha1 hne
 have hcur := h.cur (by omega) g2
 have hown := hG.f23 (by omega)
 have hst : l.state ≤ 1 := by have := h.w1; have := h.w2; grind
 have hse : e.last p = l.serial := by have := h.la; have := (hm.gra hk).1; omega
 have hse' : l.serial = e.serial := by have := hcur.1; omega
 have hseen : l.seen < e.turn := by have := hcur.2; grind
 have hal := hG.al
 have hV : e.value = V := h.val hown (fun _ _ => ⟨g2, hseen⟩)
 have hwa : l.want = 1 + e.alone := by have := hcur.2; grind
 have halone : m.alone = true ∧ e.alone = 1 ∨ m.alone = false ∧ e.alone = 0 := by
  cases h' : m.alone with
  | true => exact .inl ⟨rfl, g4.1 h'⟩
  | false => right; refine ⟨rfl, ?_⟩; have : ¬ e.alone = 1 := fun h1 => by have := g4.2 h1; rw [h'] at this; cases this
             omega
 have hvV : e.alone = 0 → v = V := by intro h0; rw [hsame (halone.elim (fun h' => by omega) (fun h' => h'.1)), g5, hV]
 have hnd : e.nd p = 0 := by have := h.ned; have := h.bits; grind
 have key : ∀ st : Int, st = 1 + e.alone → CI e p ⟨st, v, 0, l.serial, m.turn, l.gave, l.given⟩ v ∧ (∀ m', MI e p l m' → MI e p ⟨st, v, 0, l.serial, m.turn, l.gave, l.given⟩ m') ∧ ∀ m' : Msg, m'.kind = 10 → m'.turn = m.turn → MI e p ⟨st, v, 0, l.serial, m.turn, l.gave, l.given⟩ m' := by
  intro st h1
  refine ⟨?_, fun m' hm' => ?_, fun m' k1 k2 => ?_⟩
  ·have k1 := h.se; have k2 := h.la; have k3 := h.va; have k4 := hG.tu; have k5 := h.bits; have k6 := h.gi; have k7 := h.ga; have k8 := h.gra; have k9 := h.shs
   have k10 := hcur.1; have k11 := h.cop; have k12 := h.alo
   constructor <;> (try simp only) <;> grind
  ·have k1 := hm'.get; have k2 := hm'.put; have k3 := hm'.inv; have k4 := hm'.fet; have k5 := hm'.gra; have k6 := hm'.gon; have k7 := hm'.dat; have k8 := hm'.tha; have k9 := hm'.tak
   constructor <;> (try simp only)
   ·clear k2 k3 k4 k5 k6 k7 k8 k9; grind
   ·clear k1 k3 k4 k5 k6 k7 k8 k9; grind
   ·clear k1 k2 k4 k5 k6 k7 k8 k9; grind
   ·clear k1 k2 k3 k5 k6 k7 k8 k9; grind
   ·clear k1 k2 k3 k4 k6 k7 k8 k9; grind
   ·clear k1 k2 k3 k4 k5 k7 k8 k9; grind
   ·clear k1 k2 k3 k4 k5 k6 k8 k9; grind
   ·clear k1 k2 k3 k4 k5 k6 k7 k9; grind
   ·clear k1 k2 k3 k4 k5 k6 k7 k8; grind
  ·constructor <;> (try simp only) <;> grind
 have hst2 : (if m.alone = true then (2 : Int) else 1) = 1 + e.alone := by rcases halone with h | h <;> rw [h.1, h.2] <;> rfl
 obtain ⟨c1, c2, c3⟩ := key _ hst2
 refine ⟨c1, c2, by rw [g5, hV], fun q k hq hk' => ?_, c3⟩
 have h1 := hk'.own; have h2 := hk'.alo; have h3 := hk'.cop; have h4 := hk'.val; have h5 := hk'.gra; have h6 := hk'.bits
 refine ⟨hk'.st, hk'.va, hk'.wa, hk'.se, hk'.ga, hk'.gi, hk'.la, hk'.bits, hk'.leav, hk'.w1, hk'.w2, hk'.taken, hk'.back, hk'.cur, ?_, ?_, ?_, hk'.shs, hk'.ned, hk'.cle, hk'.gra, ?_⟩
 ·clear h2 h3 h4; grind
 ·clear h1 h3 h4; grind
 ·clear h1 h2 h4; grind
 ·clear h1 h2 h3; grind
end core
end Abs
end Go.Proofs.YtiofgjolhbgkiaaGreatDoor
namespace Go.Proofs.YtiofgjolhbgkiaaGreatDoor
namespace Abs
set_option maxHeartbeats 2000000
section home
variable {n : Nat} {e e' : Ab} {L : Nat → Line} {V : Int}
theorem Aei {m : Msg} {p : Nat} (hG : GI n e) (hC : ∀ q, q < n → CI e q (L q) V) (hp : p < n) (hM : MI e p (L p) m) (hk : m.kind = 1 ∨ m.kind = 2) (hms : 0 ≤ m.serial ∧ m.serial ≤ 65535) (h0 : e.phase = 0) (hs : e.last p < m.serial) (ht : e.turn < 65535)
  (f1 : e'.value = e.value) (f2 : e'.owner = e.owner) (f3 : e'.sh = e.sh) (f4 : e'.who = p) (f5 : e'.serial = m.serial) (f6 : e'.alone = m.kind - 1) (f7 : e'.turn = e.turn + 1) (f8 : e'.last = upd e.last p m.serial)
  (f9 : (0 ≤ e.owner ∧ e'.phase = 1 ∧ ∀ q, e'.nd q = 0) ∨ (e.owner < 0 ∧ m.kind = 2 ∧ e'.phase = 2 ∧ (∃ q : Nat, q < n ∧ e'.nd q = 1) ∧ (∀ q : Nat, e'.nd q = if q = p then 0 else e.sh q)) ∨
   (e.owner < 0 ∧ e'.phase = 3 ∧ (∀ q, e'.nd q = 0) ∧ (m.kind = 2 → ∀ q : Nat, q < n → q ≠ p → e.sh q = 0))) :
  GI n e' ∧ (∀ q, q < n → CI e' q (L q) V) ∧ ∀ q, q < n → ∀ m', MI e q (L q) m' → MI e' q (L q) m' := by
 have h1 := (hM.get hk).2 hs
 have hCp := hC p hp
 have hst : (L p).state ≤ 1 := by have := hCp.w1; have := hCp.w2; grind
 have hnow : e.owner ≠ p := by have := hCp.own; grind
 have how := hG.own
 have hval : e.owner < 0 → e.value = V := by intro h; exact hCp.val (by omega) (by omega)
 have hph : (0 ≤ e.owner ∧ e'.phase = 1) ∨ (e.owner < 0 ∧ m.kind = 2 ∧ e'.phase = 2) ∨ (e.owner < 0 ∧ e'.phase = 3) := by
  rcases f9 with ⟨g1, g2, _⟩ | ⟨g1, g2, g3, _⟩ | ⟨g1, g2, _⟩
  ·exact .inl ⟨g1, g2⟩
  ·exact .inr (.inl ⟨g1, g2, g3⟩)
  ·exact .inr (.inr ⟨g1, g2⟩)
 have hc2 : e'.phase = 2 → ∃ q : Nat, q < n ∧ e'.nd q = 1 := by
  intro h2
  rcases f9 with ⟨g1, g2, _⟩ | ⟨g1, g2, g3, g4, _⟩ | ⟨g1, g2, _⟩
  ·omega
  ·exact g4
  ·omega
 have hnp : e'.nd p = 0 := by
  rcases f9 with ⟨_, _, g⟩ | ⟨_, _, _, _, g⟩ | ⟨_, _, g, _⟩
  ·exact g p
  ·rw [g p, if_pos rfl]
  ·exact g p
 have hnq : ∀ q : Nat, q < n → q ≠ p → (e'.phase = 2 → e'.nd q = e.sh q) ∧ (e'.phase ≠ 2 → e'.nd q = 0) ∧ (e'.phase = 3 → m.kind = 2 → e.sh q = 0) := by
  intro q hq hqp
  rcases f9 with ⟨_, g1, g⟩ | ⟨_, _, g1, _, g⟩ | ⟨_, g1, g, g'⟩
  ·exact ⟨by omega, fun _ => g q, by omega⟩
  ·exact ⟨fun _ => by rw [g q, if_neg hqp], by omega, by omega⟩
  ·exact ⟨by omega, fun _ => g q, fun _ hk => g' hk q hq hqp⟩
 have hlp : e'.last p = m.serial := by rw [f8]; simp [upd]
 have hlq : ∀ q, q ≠ p → e'.last q = e.last q := fun q hqp => by rw [f8]; simp [upd, hqp]
 clear f8 f9
 refine ⟨?_, fun q hq => ?_, fun q hq m' hm' => ?_⟩
 ·constructor
  ·have g0 := hG.own; have g1 := hG.own; grind
  ·have g0 := hG.own; have g1 := hG.ph; grind
  ·have g0 := hG.own; have g1 := hG.idle; grind
  ·intro _; rw [f4]; clear hc2; omega
  ·have g0 := hG.own; have g1 := hG.f1; grind
  ·have g0 := hG.own; have g1 := hG.f23; grind
  ·intro h2; exact ⟨by clear hc2; grind, hc2 h2⟩
  ·have g0 := hG.own; have g1 := hG.al; grind
  ·have g0 := hG.own; have g1 := hG.tu; grind
  ·have g0 := hG.own; have g1 := hG.va; grind
  ·have g0 := hG.own; have g1 := hG.se; grind
 ·have hCq := hC q hq
  have hsh : e'.sh q = e.sh q := by rw [f3]
  clear f3 hc2
  by_cases hqp : q = p
  ·subst hqp
   clear hnq hlq
   have w0 := hCp.wa
   constructor
   ·exact hCp.st
   ·exact hCp.va
   ·exact hCp.wa
   ·exact hCp.se
   ·exact ZdU
   ·exact hCp.gi
   ·exact ZdV
   ·exact ZdK
   ·exact hCp.leav
   ·exact hCp.w1
   ·exact hCp.w2
   ·have c0 := hCp.taken; grind
   ·have c0 := hCp.back; have c1 := hCp.wa; grind
   ·have c0 := hCp.cur; have c1 := hCp.ga; grind
   ·have c0 := hCp.own; have c1 := hCp.st; grind
   ·have c0 := hCp.alo; have c1 := hCp.leav; grind
   ·have c0 := hCp.cop; grind
   ·have c0 := hCp.shs; grind
   ·have c0 := hCp.ned; have c1 := hCp.ga; grind
   ·exact ZdP
   ·exact ZdQ
   ·have c0 := hCp.val; have c1 := hCp.ga; grind
  ·have hn2 := hnq q hq hqp
   have hl2 := hlq q hqp
   clear hnq hlq hlp hnp hCp
   constructor
   ·exact hCq.st
   ·exact hCq.va
   ·exact hCq.wa
   ·exact hCq.se
   ·exact ZdW
   ·exact hCq.gi
   ·exact ZdX
   ·have c0 := hCq.bits; have c1 := hCq.bits; grind
   ·exact hCq.leav
   ·exact hCq.w1
   ·exact hCq.w2
   ·have c0 := hCq.taken; grind
   ·exact ZdL
   ·have c0 := hCq.cur; grind
   ·have c0 := hCq.own; have c1 := hCq.ga; grind
   ·have c0 := hCq.alo; grind
   ·have c0 := hCq.cop; grind
   ·have c0 := hCq.shs; grind
   ·have c0 := hCq.ned; have c1 := hCq.ga; have c2 := hCq.bits; grind
   ·exact ZdR
   ·have c0 := hCq.gra; grind
   ·have c0 := hCq.val; grind
 ·have hCq := hC q hq
  clear hc2 f3
  by_cases hqp : q = p
  ·subst hqp
   clear hnq hlq
   exact ZcP
  ·have hn2 := hnq q hq hqp
   have hl2 := hlq q hqp
   clear hnq hlq hlp hnp hCp
   exact ZcP
theorem h_put {m : Msg} {p : Nat} (hG : GI n e) (hC : ∀ q, q < n → CI e q (L q) V) (hp : p < n) (hM : MI e p (L p) m) (hk : m.kind = 3) (hmv : 0 ≤ m.value ∧ m.value ≤ 255) (h0 : e.phase = 0) (hs : e.last p < m.serial)
  (f3 : e'.sh = e.sh) (f4 : e'.who = e.who) (f5 : e'.serial = e.serial) (f6 : e'.alone = e.alone) (f7 : e'.turn = e.turn) (f8 : e'.last = upd e.last p m.serial) (f9 : e'.phase = e.phase) (f10 : e'.nd = e.nd)
  (f1 : (e.owner = p ∧ e'.owner = -1 ∧ e'.value = m.value) ∨ (e.owner ≠ p ∧ e'.owner = e.owner ∧ e'.value = e.value)) :
  GI n e' ∧ (∀ q, q < n → CI e' q (L q) V) ∧ ∀ q, q < n → ∀ m', MI e q (L q) m' → MI e' q (L q) m' := by
 have h1 := (hM.put hk).2 hs
 have h2 := (hM.put hk).1
 have hCp := hC p hp
 have how := hG.own
 have hA : e.owner = p → (L p).state = 3 ∧ (L p).want = 3 ∧ m.serial = (L p).serial ∧ m.value = V := by
  intro ho
  have hc : m.serial = (L p).serial ∧ (L p).want = 3 ∧ m.value = (L p).value := by grind
  have h3 := hCp.leav.2 hc.2.1
  exact ⟨h3, hc.2.1, hc.1, by rw [hc.2.2]; exact (hCp.alo (.inr ⟨h3, by omega⟩)).2⟩
 have hB : e.owner ≠ p → m.serial < (L p).serial ∨ (L p).want = 0 := by
  intro ho
  rcases h1 with h1 | h1
  ·exfalso
   have h3 := hCp.leav.2 h1.2.1
   have := (hCp.alo (.inr ⟨h3, by omega⟩)).1
   grind
  ·exact h1.1
 have hlp : e'.last p = m.serial := by rw [f8]; simp [upd]
 have hlq : ∀ q, q ≠ p → e'.last q = e.last q := fun q hqp => by rw [f8]; simp [upd, hqp]
 clear f8
 refine ⟨?_, fun q hq => ?_, fun q hq m' hm' => ?_⟩
 ·exact ZcD
 ·have hCq := hC q hq
  have hsh : e'.sh q = e.sh q := by rw [f3]
  have hnd : e'.nd q = e.nd q := by rw [f10]
  clear f3 f10
  by_cases hqp : q = p
  ·subst hqp
   clear hlq
   have l0 := hCp.leav
   have a0 := hCp.la
   constructor
   ·exact hCp.st
   ·exact hCp.va
   ·exact hCp.wa
   ·exact hCp.se
   ·exact ZdU
   ·exact hCp.gi
   ·exact ZdV
   ·exact ZdK
   ·exact hCp.leav
   ·exact hCp.w1
   ·exact hCp.w2
   ·have c0 := hCp.taken; have c1 := hCp.wa; grind
   ·have c0 := hCp.back; grind
   ·have c0 := hCp.cur; grind
   ·have c0 := hCp.own; have c1 := hCp.st; grind
   ·have c0 := hCp.alo; grind
   ·have c0 := hCp.cop; have c1 := hCp.cop; grind
   ·have c0 := hCp.shs; have c1 := hCp.st; grind
   ·have c0 := hCp.ned; grind
   ·exact ZdP
   ·exact ZdQ
   ·have c0 := hCp.val; have c1 := hCp.val; grind
  ·have hl2 := hlq q hqp
   clear hlq hlp hCp
   constructor
   ·exact hCq.st
   ·exact hCq.va
   ·exact hCq.wa
   ·exact hCq.se
   ·exact ZdW
   ·exact hCq.gi
   ·exact ZdX
   ·have c0 := hCq.bits; grind
   ·exact hCq.leav
   ·exact hCq.w1
   ·exact hCq.w2
   ·have c0 := hCq.taken; grind
   ·exact ZdL
   ·have c0 := hCq.cur; grind
   ·have c0 := hCq.own; grind
   ·have c0 := hCq.alo; grind
   ·have c0 := hCq.cop; grind
   ·have c0 := hCq.shs; grind
   ·have c0 := hCq.ned; grind
   ·exact ZdR
   ·have c0 := hCq.gra; grind
   ·have c0 := hCq.val; grind
 ·have hCq := hC q hq
  have hnd : e'.nd q = e.nd q := by rw [f10]
  clear f3 f10
  by_cases hqp : q = p
  ·subst hqp
   clear hlq
   exact ZcY
  ·have hl2 := hlq q hqp
   clear hlq hlp hCp
   exact ZcY
theorem h_data {m : Msg} {p : Nat} (hG : GI n e) (hC : ∀ q, q < n → CI e q (L q) V) (hp : p < n) (hM : MI e p (L p) m) (hk : m.kind = 9) (hmv : 0 ≤ m.value ∧ m.value ≤ 255) (h0 : e.phase = 1) (ht : m.turn = e.turn) (ho : e.owner = p)
  (f1 : e'.value = m.value) (f2 : e'.owner = -1) (f3 : ∀ q : Nat, e'.sh q = if q = p ∧ e.alone = 0 then 1 else e.sh q) (f4 : e'.who = e.who) (f5 : e'.serial = e.serial) (f6 : e'.alone = e.alone) (f7 : e'.turn = e.turn) (f8 : e'.last = e.last) (f9 : e'.phase = 3) (f10 : ∀ q, e'.nd q = 0) :
  GI n e' ∧ (∀ q, q < n → CI e' q (L q) V) ∧ ∀ q, q < n → ∀ m', MI e q (L q) m' → MI e' q (L q) m' := by
 have h1 := (hM.dat hk).2 ht h0 ho
 have hCp := hC p hp
 have hga := hCp.ga
 have hown := hCp.own ho
 have hmV : m.value = V ∧ (L p).state < 2 ∧ (L p).seen = e.turn ∧ (e.alone = 1 → (L p).state = 0) := by grind
 have hf := hG.f1 h0
 have hwp : e.who ≠ p := by rw [← ho]; exact fun h => hf.2 h.symm
 have hw0 : (L p).want ≠ 3 := by have := hCp.leav; have := hCp.st; grind
 have hal := hG.al
 have hsp : (e.alone = 0 → e'.sh p = 1) ∧ (e.alone ≠ 0 → e'.sh p = e.sh p) := by have := f3 p; grind
 have hsq : ∀ q, q ≠ p → e'.sh q = e.sh q := by intro q hq; have := f3 q; grind
 clear f3
 refine ⟨?_, fun q hq => ?_, fun q hq m' hm' => ?_⟩
 ·exact ZcD
 ·refine ZaL ?_;intro hCq hl
  have hnd := f10 q
  have b0 := hCq.bits
  have s0 := hCq.shs
  clear f10 f8
  by_cases hqp : q = p
  ·subst hqp
   clear hsq
   constructor
   ·exact hCp.st
   ·exact hCp.va
   ·exact hCp.wa
   ·exact hCp.se
   ·exact ZdU
   ·exact hCp.gi
   ·exact ZdV
   ·exact ZdK
   ·exact hCp.leav
   ·exact hCp.w1
   ·exact hCp.w2
   ·have c0 := hCp.taken; grind
   ·have c0 := hCp.back; grind
   ·have c0 := hCp.cur; have c1 := hCp.cur; grind
   ·have c0 := hCp.own; grind
   ·have c0 := hCp.alo; have c1 := hCp.st; have c2 := hCp.leav; grind
   ·have c0 := hCp.cop; grind
   ·have c0 := hCp.shs; grind
   ·have c0 := hCp.ned; grind
   ·exact ZdP
   ·exact ZdQ
   ·have c0 := hCp.val; grind
  ·have hs2 := hsq q hqp
   clear hsq hsp hCp
   constructor
   ·exact hCq.st
   ·exact hCq.va
   ·exact hCq.wa
   ·exact hCq.se
   ·exact ZdW
   ·exact hCq.gi
   ·exact ZdX
   ·have c0 := hCq.bits; grind
   ·exact hCq.leav
   ·exact hCq.w1
   ·exact hCq.w2
   ·have c0 := hCq.taken; have c1 := hCq.taken; grind
   ·exact ZdL
   ·have c0 := hCq.cur; have c1 := hCq.cur; grind
   ·have c0 := hCq.own; grind
   ·have c0 := hCq.alo; have c1 := hCq.alo; grind
   ·have c0 := hCq.cop; grind
   ·have c0 := hCq.shs; grind
   ·have c0 := hCq.ned; grind
   ·exact ZdR
   ·have c0 := hCq.gra; have c1 := hCq.gra; grind
   ·have c0 := hCq.val; grind
 ·refine ZaL ?_;intro hCq hl
  have hnd := f10 q
  clear f10 f8
  by_cases hqp : q = p
  ·subst hqp
   constructor
   ·have k0 := hm'.get; grind
   ·have k0 := hm'.put; have c0 := hCq.st; grind
   ·have k0 := hm'.inv; grind
   ·have k0 := hm'.fet; grind
   ·have k0 := hm'.gra; have c0 := hCq.taken; have c1 := hCq.cur; grind
   ·have k0 := hm'.gon; grind
   ·have k0 := hm'.dat; grind
   ·have k0 := hm'.tha; grind
   ·have k0 := hm'.tak; grind
  ·clear hCp
   constructor
   ·have k0 := hm'.get; grind
   ·have k0 := hm'.put; have c0 := hCq.st; grind
   ·have k0 := hm'.inv; grind
   ·have k0 := hm'.fet; grind
   ·exact Zdn
   ·have k0 := hm'.gon; grind
   ·have k0 := hm'.dat; grind
   ·have k0 := hm'.tha; grind
   ·have k0 := hm'.tak; grind
theorem Abw {m : Msg} {p : Nat} (hG : GI n e) (hC : ∀ q, q < n → CI e q (L q) V) (hp : p < n) (hM : MI e p (L p) m) (hk : m.kind = 8) (h0 : e.phase = 2) (ht : m.turn = e.turn) (ho : e.nd p = 1)
  (f1 : e'.value = e.value) (f2 : e'.owner = e.owner) (f3 : e'.sh = upd e.sh p 0) (f4 : e'.who = e.who) (f5 : e'.serial = e.serial) (f6 : e'.alone = e.alone) (f7 : e'.turn = e.turn) (f8 : e'.last = e.last)
  (f9 : (e'.phase = 2 ∧ (e'.nd = upd e.nd p 0) ∧ ∃ q : Nat, q < n ∧ e'.nd q = 1) ∨ (e'.phase = 3 ∧ (∀ q, e'.nd q = 0) ∧ ∀ q : Nat, q ≠ p → q < n → e.nd q = 0)) :
  GI n e' ∧ (∀ q, q < n → CI e' q (L q) V) ∧ ∀ q, q < n → ∀ m', MI e q (L q) m' → MI e' q (L q) m' := by
 have h1 := hM.gon hk
 have hCp := hC p hp
 have hga := hCp.ga
 have hned := hCp.ned ho
 have hst : (L p).state = 0 ∧ (L p).seen = e.turn ∧ e.who ≠ p := by grind
 have how := hG.f23 (by omega)
 have hal := (hG.c2 h0).1
 have hph : e'.phase = 2 ∨ e'.phase = 3 := by rcases f9 with ⟨g, _⟩ | ⟨g, _⟩ <;> omega
 have hc2 : e'.phase = 2 → ∃ q : Nat, q < n ∧ e'.nd q = 1 := by
  intro h2
  rcases f9 with ⟨_, _, g⟩ | ⟨g, _⟩
  ·exact g
  ·omega
 have hnp : e'.nd p = 0 := by
  rcases f9 with ⟨_, g, _⟩ | ⟨_, g, _⟩
  ·rw [g]; simp [upd]
  ·exact g p
 have hnq : ∀ q : Nat, q < n → q ≠ p → e'.nd q = e.nd q ∧ (e'.phase = 3 → e.nd q = 0) := by
  intro q hq hqp
  rcases f9 with ⟨g1, g, _⟩ | ⟨g1, g, g'⟩
  ·exact ⟨by rw [g]; simp [upd, hqp], by omega⟩
  ·exact ⟨by rw [g q, g' q hqp hq], fun _ => g' q hqp hq⟩
 have hsp : e'.sh p = 0 := by rw [f3]; simp [upd]
 have hsq : ∀ q, q ≠ p → e'.sh q = e.sh q := fun q hqp => by rw [f3]; simp [upd, hqp]
 clear f9 f3
 refine ⟨?_, fun q hq => ?_, fun q hq m' hm' => ?_⟩
 ·constructor
  ·have g0 := hG.own; have g1 := hG.own; grind
  ·have g0 := hG.own; have g1 := hG.ph; grind
  ·have g0 := hG.own; have g1 := hG.idle; grind
  ·have g0 := hG.own; have g1 := hG.whor; grind
  ·have g0 := hG.own; have g1 := hG.f1; grind
  ·have g0 := hG.own; have g1 := hG.f23; grind
  ·intro h2; exact ⟨by clear hc2; grind, hc2 h2⟩
  ·have g0 := hG.own; have g1 := hG.al; grind
  ·have g0 := hG.own; have g1 := hG.tu; grind
  ·have g0 := hG.own; have g1 := hG.va; grind
  ·have g0 := hG.own; have g1 := hG.se; grind
 ·refine ZaL ?_;intro hCq hl
  clear f8 hc2
  by_cases hqp : q = p
  ·subst hqp
   clear hnq hsq
   constructor
   ·exact hCp.st
   ·exact hCp.va
   ·exact hCp.wa
   ·exact hCp.se
   ·exact ZdU
   ·exact hCp.gi
   ·exact ZdV
   ·exact ZdK
   ·exact hCp.leav
   ·exact hCp.w1
   ·exact hCp.w2
   ·have c0 := hCp.taken; grind
   ·have c0 := hCp.back; grind
   ·have c0 := hCp.cur; grind
   ·have c0 := hCp.own; grind
   ·have c0 := hCp.alo; have c1 := hCp.st; grind
   ·have c0 := hCp.cop; grind
   ·have c0 := hCp.shs; grind
   ·have c0 := hCp.ned; grind
   ·exact ZdP
   ·exact ZdQ
   ·have c0 := hCp.val; grind
  ·have hn2 := hnq q hq hqp
   have hs2 := hsq q hqp
   have b0 := hCq.bits
   clear hnq hsq hCp
   constructor
   ·exact hCq.st
   ·exact hCq.va
   ·exact hCq.wa
   ·exact hCq.se
   ·exact ZdW
   ·exact hCq.gi
   ·exact ZdX
   ·have c0 := hCq.bits; grind
   ·exact hCq.leav
   ·exact hCq.w1
   ·exact hCq.w2
   ·have c0 := hCq.taken; grind
   ·exact ZdL
   ·have c0 := hCq.cur; have c1 := hCq.cur; grind
   ·have c0 := hCq.own; grind
   ·have c0 := hCq.alo; have c1 := hCq.alo; grind
   ·have c0 := hCq.cop; have c1 := hCq.cop; grind
   ·have c0 := hCq.shs; grind
   ·have c0 := hCq.ned; have c1 := hCq.ned; grind
   ·exact ZdR
   ·have c0 := hCq.gra; have c1 := hCq.cle; grind
   ·have c0 := hCq.val; grind
 ·refine ZaL ?_;intro hCq hl
  clear f8 hc2
  by_cases hqp : q = p
  ·subst hqp
   clear hnq hsq
   exact ZcW
  ·have hn2 := hnq q hq hqp
   clear hnq hsq hCp
   exact ZcW
theorem Rl {m : Msg} {p : Nat} (hG : GI n e) (hC : ∀ q, q < n → CI e q (L q) V) (hp : p < n) (hM : MI e p (L p) m) (hk : m.kind = 10) (h0 : e.phase = 3) (ht : m.turn = e.turn) (hw : e.who = p)
  (f1 : e'.value = e.value) (f4 : e'.who = 0) (f5 : e'.serial = 0) (f6 : e'.alone = 0) (f7 : e'.turn = e.turn) (f8 : e'.last = e.last) (f9 : e'.phase = 0) (f10 : ∀ q, e'.nd q = e.nd q)
  (f2 : (e.alone = 1 ∧ e'.owner = p ∧ ∀ q, e'.sh q = 0) ∨ (e.alone = 0 ∧ e'.owner = e.owner ∧ ∀ q : Nat, e'.sh q = if q = p then 1 else e.sh q)) :
  GI n e' ∧ (∀ q, q < n → CI e' q (L q) V) ∧ ∀ q, q < n → ∀ m', MI e q (L q) m' → MI e' q (L q) m' := by
 have h1 := hM.tha hk
 have hCp := hC p hp
 have hga := hCp.ga
 have hcur := hCp.cur (by omega) hw
 have hst : (L p).seen = e.turn ∧ (e.alone = 1 → 2 ≤ (L p).state) ∧ (e.alone = 0 → (L p).state ≤ 1) ∧ ((L p).serial ≠ e.serial ∨ (L p).want = 0) := by grind
 have how := hG.f23 (by omega)
 have hal := hG.al
 have ha2 : (e.alone = 1 ∧ e'.owner = p) ∨ (e.alone = 0 ∧ e'.owner = -1) := by
  rcases f2 with ⟨g1, g2, _⟩ | ⟨g1, g2, _⟩
  ·exact .inl ⟨g1, g2⟩
  ·exact .inr ⟨g1, by rw [g2]; exact how⟩
 have hsp : (e.alone = 1 → e'.sh p = 0) ∧ (e.alone = 0 → e'.sh p = 1) := by
  rcases f2 with ⟨g1, _, g⟩ | ⟨g1, _, g⟩
  ·exact ⟨fun _ => g p, by omega⟩
  ·exact ⟨by omega, fun _ => by rw [g p, if_pos rfl]⟩
 have hsq : ∀ q : Nat, q ≠ p → (e.alone = 1 → e'.sh q = 0) ∧ (e.alone = 0 → e'.sh q = e.sh q) := by
  intro q hqp
  rcases f2 with ⟨g1, _, g⟩ | ⟨g1, _, g⟩
  ·exact ⟨fun _ => g q, by omega⟩
  ·exact ⟨by omega, fun _ => by rw [g q, if_neg hqp]⟩
 clear f2
 refine ⟨?_, fun q hq => ?_, fun q hq m' hm' => ?_⟩
 ·exact ZcD
 ·refine ZaL ?_;intro hCq hl
  have hnd := f10 q
  have n0 := hCq.ned
  have b0 := hCq.bits
  clear f10 f8
  by_cases hqp : q = p
  ·subst hqp
   clear hsq
   have l0 := hCp.leav
   have s0 := hCp.st
   constructor
   ·exact hCp.st
   ·exact hCp.va
   ·exact hCp.wa
   ·exact hCp.se
   ·exact ZdU
   ·exact hCp.gi
   ·exact ZdV
   ·exact ZdK
   ·exact hCp.leav
   ·exact hCp.w1
   ·exact hCp.w2
   ·have c0 := hCp.taken; have c1 := hCp.wa; grind
   ·have c0 := hCp.back; have c1 := hCp.la; grind
   ·have c0 := hCp.cur; grind
   ·have c0 := hCp.own; have c1 := hCp.own; grind
   ·have c0 := hCp.alo; have c1 := hCp.alo; grind
   ·have c0 := hCp.cop; grind
   ·have c0 := hCp.shs; grind
   ·have c0 := hCp.ned; grind
   ·exact ZdP
   ·exact ZdQ
   ·have c0 := hCp.val; grind
  ·have hs2 := hsq q hqp
   clear hsq hsp hCp
   constructor
   ·exact hCq.st
   ·exact hCq.va
   ·exact hCq.wa
   ·exact hCq.se
   ·exact ZdW
   ·exact hCq.gi
   ·exact ZdX
   ·have c0 := hCq.bits; grind
   ·exact hCq.leav
   ·exact hCq.w1
   ·exact hCq.w2
   ·have c0 := hCq.taken; grind
   ·exact ZdL
   ·have c0 := hCq.cur; grind
   ·have c0 := hCq.own; grind
   ·have c0 := hCq.alo; grind
   ·have c0 := hCq.cop; have c1 := hCq.gra; grind
   ·have c0 := hCq.shs; have c1 := hCq.gra; grind
   ·have c0 := hCq.ned; grind
   ·exact ZdR
   ·have c0 := hCq.gra; grind
   ·have c0 := hCq.val; have c1 := hCq.val; grind
 ·refine ZaL ?_;intro hCq hl
  have hnd := f10 q
  have n0 := hCq.ned
  clear f10 f8
  by_cases hqp : q = p
  ·subst hqp
   have l0 := hCp.leav
   have s0 := hCp.st
   constructor
   ·have k0 := hm'.get; grind
   ·have k0 := hm'.put; have c0 := hCq.la; grind
   ·have k0 := hm'.inv; grind
   ·have k0 := hm'.fet; grind
   ·have k0 := hm'.gra; have c0 := hCq.la; have c1 := hCq.wa; have c2 := hCq.ga; grind
   ·have k0 := hm'.gon; grind
   ·have k0 := hm'.dat; grind
   ·have k0 := hm'.tha; grind
   ·have k0 := hm'.tak; grind
  ·clear hCp
   constructor
   ·have k0 := hm'.get; grind
   ·have k0 := hm'.put; grind
   ·have k0 := hm'.inv; grind
   ·have k0 := hm'.fet; grind
   ·have k0 := hm'.gra; have c0 := hCq.la; have c1 := hCq.wa; have c2 := hCq.taken; grind
   ·have k0 := hm'.gon; grind
   ·have k0 := hm'.dat; grind
   ·have k0 := hm'.tha; grind
   ·have k0 := hm'.tak; grind
end home
end Abs
end Go.Proofs.YtiofgjolhbgkiaaGreatDoor
namespace Go.Proofs.YtiofgjolhbgkiaaGreatDoor
open Abs
def D5 (s : Int) (p : Nat) : Int := if s.toNat.testBit p then 1 else 0
def ab (e : Entry) : Ab :=
  { value := e.value, owner := e.owner, phase := e.phase, who := e.who, serial := e.serial, alone := if e.alone then 1 else 0, turn := e.turn,
    last := fun p => e.last.getD p 0, sh := D5 e.sharers, nd := D5 e.need }
def ent (x : Chip) (i : Nat) : Entry := x.home.getD i A3
def cor (x : Chip) (p : Nat) : Core := x.cores.getD p Fw
def lin (x : Chip) (i p : Nat) : Line := (cor x p).lines.getD i zLine
def Oc (n : Nat) (m : Msg) : Nat := if m.dst = (n : Int) then m.src.toNat else m.dst.toNat
def Fk (k : Int) : Int := if k = 1 then 1 else if k = 4 then 3 else 2
structure CW (k : Core) (nl : Nat) : Prop where
 free : k.wait.kind = 0 → k.wait = zOp ∧ ∀ i, i < nl → (k.lines.getD i zLine).want = 0
 busy : k.wait.kind ≠ 0 → (1 ≤ k.wait.kind ∧ k.wait.kind ≤ 4) ∧ (0 ≤ k.wait.line ∧ k.wait.line < nl) ∧ (0 ≤ k.wait.value ∧ k.wait.value ≤ 255) ∧
  ∀ i, i < nl → (k.lines.getD i zLine).want = if (i : Int) = k.wait.line then Fk k.wait.kind else 0
def MX (n : Nat) (x : Chip) (m : Msg) : Prop := MI (ab (ent x m.line.toNat)) (Oc n m) (lin x m.line.toNat (Oc n m)) m
def Fv (n nl : Nat) : Config := ⟨(n : Int), (nl : Int)⟩
structure Inv (n nl : Nat) (x : Chip) (M : List Int) : Prop where
 n1 : 1 ≤ n ∧ n ≤ 4
 l1 : 1 ≤ nl ∧ nl ≤ 4
 nc : x.cores.length = n
 nh : x.home.length = nl
 ncl : ∀ p, p < n → (cor x p).lines.length = nl
 nla : ∀ i, i < nl → (ent x i).last.length = n
 ml : M.length = nl
 mv : ∀ i, i < nl → 0 ≤ M.getD i 0 ∧ M.getD i 0 ≤ 255
 bit : ∀ i, i < nl → (0 ≤ (ent x i).sharers ∧ (ent x i).sharers < (2 ^ n : Nat)) ∧ (0 ≤ (ent x i).need ∧ (ent x i).need < (2 ^ n : Nat))
 gi : ∀ i, i < nl → GI n (ab (ent x i))
 ci : ∀ i, i < nl → ∀ p, p < n → CI (ab (ent x i)) p (lin x i p) (M.getD i 0)
 cw : ∀ p, p < n → CW (cor x p) nl
 fr : x.frames.length ≤ 40
 mi : ∀ b ∈ x.frames, b.length = 12 ∧ ∀ m, Ae (Fv n nl) b = (m, 0) → MX n x m
section
variable {n nl : Nat} {x : Chip} {M : List Int}
theorem Inv.core {p i : Nat} {l' : Line} {w' : Op} {V' : Int} (h : Inv n nl x M) (hp : p < n) (hi : i < nl) (hl : CI (ab (ent x i)) p l' V') (ho : ∀ q, q < n → q ≠ p → CI (ab (ent x i)) q (lin x i q) (M.getD i 0) → CI (ab (ent x i)) q (lin x i q) V')
  (hm : ∀ m, MI (ab (ent x i)) p (lin x i p) m → MI (ab (ent x i)) p l' m) (hw : CW (Cg (cor x p) i l' w') nl) (hv : 0 ≤ V' ∧ V' ≤ 255) :
  Inv n nl ⟨x.cores.set p (Cg (cor x p) i l' w'), x.home, x.frames⟩ (M.set i V') := by
 have hpc : p < x.cores.length := by rw [h.nc]; exact hp
 have hcl := h.ncl p hp
 have hcor : ∀ q, cor ⟨x.cores.set p (Cg (cor x p) i l' w'), x.home, x.frames⟩ q = if q = p then Cg (cor x p) i l' w' else cor x q := fun q => Cx _ _ _ _ _ hpc
 have hlin : ∀ j q, lin ⟨x.cores.set p (Cg (cor x p) i l' w'), x.home, x.frames⟩ j q = if q = p ∧ j = i then l' else lin x j q := by
  intro j q
  unfold lin
  rw [hcor]
  by_cases hq : q = p
  ·subst hq
   rw [if_pos rfl]
   show ((cor x q).lines.set _ l').getD j zLine = _
   rw [Int.toNat_natCast, Cx _ _ _ _ _ (by rw [hcl]; exact hi)]
   by_cases hj : j = i
   ·rw [if_pos hj, if_pos ⟨rfl, hj⟩]
   ·rw [if_neg hj, if_neg (by simp [hj])]
  ·rw [if_neg hq, if_neg (by simp [hq])]
 have hM : ∀ j, (M.set i V').getD j 0 = if j = i then V' else M.getD j 0 := fun j => Cx _ _ _ _ _ (by rw [h.ml]; exact hi)
 refine ⟨h.n1, h.l1, by simp [h.nc], h.nh, ?_, h.nla, by simp [h.ml], ?_, h.bit, h.gi, ?_, ?_, h.fr, ?_⟩
 ·intro q hq
  rw [hcor]
  split
  ·show ((cor x p).lines.set _ l').length = nl
   rw [List.length_set]; exact hcl
  ·exact h.ncl q hq
 ·intro j hj
  rw [hM]; split
  ·exact hv
  ·exact h.mv j hj
 ·intro j hj q hq
  rw [hlin, hM]
  by_cases hji : j = i
  ·subst hji
   rw [if_pos rfl]
   by_cases hqp : q = p
   ·subst hqp; rw [if_pos ⟨rfl, rfl⟩]; exact hl
   ·rw [if_neg (by simp [hqp])]; exact ho q hq hqp (h.ci j hj q hq)
  ·rw [if_neg (by simp [hji]), if_neg hji]; exact h.ci j hj q hq
 ·intro q hq
  rw [hcor]; split
  ·exact hw
  ·exact h.cw q hq
 ·intro b hb
  obtain ⟨h1, h2⟩ := h.mi b hb
  refine ⟨h1, fun m hmp => ?_⟩
  have h3 := h2 m hmp
  unfold MX at h3 ⊢
  rw [hlin]
  show MI (ab (ent x m.line.toNat)) _ _ m
  split
  ·rename_i hc
   rw [hc.1, hc.2] at h3 ⊢
   exact hm m h3
  ·exact h3
theorem Inv.home {i : Nat} {e' : Entry} (h : Inv n nl x M) (hi : i < nl) (hla : e'.last.length = n) (hb : (0 ≤ e'.sharers ∧ e'.sharers < (2 ^ n : Nat)) ∧ (0 ≤ e'.need ∧ e'.need < (2 ^ n : Nat)))
  (hg : GI n (ab e') ∧ (∀ q, q < n → CI (ab e') q (lin x i q) (M.getD i 0)) ∧ ∀ q, q < n → ∀ m, MI (ab (ent x i)) q (lin x i q) m → MI (ab e') q (lin x i q) m) :
  Inv n nl ⟨x.cores, x.home.set i e', x.frames⟩ M := by
 have hic : i < x.home.length := by rw [h.nh]; exact hi
 have hent : ∀ j, ent ⟨x.cores, x.home.set i e', x.frames⟩ j = if j = i then e' else ent x j := fun q => Cx _ _ _ _ _ hic
 obtain ⟨hg1, hg2, hg3⟩ := hg
 refine ⟨h.n1, h.l1, h.nc, by simp [h.nh], h.ncl, ?_, h.ml, h.mv, ?_, ?_, ?_, h.cw, h.fr, ?_⟩
 ·intro j hj; rw [hent]; split
  ·exact hla
  ·exact h.nla j hj
 ·intro j hj; rw [hent]; split
  ·exact hb
  ·exact h.bit j hj
 ·intro j hj; rw [hent]; split
  ·exact hg1
  ·exact h.gi j hj
 ·intro j hj q hq
  rw [hent]
  show CI _ q (lin x j q) _
  by_cases hji : j = i
  ·subst hji; rw [if_pos rfl]; exact hg2 q hq
  ·rw [if_neg hji]; exact h.ci j hj q hq
 ·intro b hb
  obtain ⟨h1, h2⟩ := h.mi b hb
  refine ⟨h1, fun m hmp => ?_⟩
  have h3 := h2 m hmp
  have hw := Hg (Hk hmp).2.2.2.2.1
  have hpe : Oc n m < n := by
   unfold Oc
   have h4 : m.src = (n : Int) ↔ ¬ m.dst = (n : Int) := by
    have := hw.2.2.2.2.2.2
    simp only [Fv] at this
    by_cases h : m.src = (n : Int) <;> by_cases h' : m.dst = (n : Int) <;> simp_all
   have h5 := hw.2.1
   simp only [Fv] at h5
   split
   ·have : ¬ m.src = (n : Int) := by rename_i hd; intro hs; exact h4.1 hs hd
    omega
   ·omega
  unfold MX at h3 ⊢
  rw [hent]
  show MI _ _ (lin x m.line.toNat _) m
  split
  ·rename_i hc
   rw [hc] at h3 ⊢
   exact hg3 _ hpe m h3
  ·exact h3
theorem Inv.frames {f : Frames} (h : Inv n nl x M) (hl : f.length ≤ 40) (hf : ∀ b ∈ f, b.length = 12 ∧ ∀ m, Ae (Fv n nl) b = (m, 0) → MX n x m) : Inv n nl ⟨x.cores, x.home, f⟩ M :=
 ⟨h.n1, h.l1, h.nc, h.nh, h.ncl, h.nla, h.ml, h.mv, h.bit, h.gi, h.ci, h.cw, hl, hf⟩
theorem Inv.send {b : List UInt8} (h : Inv n nl x M) (hb : b.length = 12 ∧ ∀ m, Ae (Fv n nl) b = (m, 0) → MX n x m) : Inv n nl ⟨x.cores, x.home, C5 x.frames b⟩ M := by
 unfold C5
 have := h.fr
 split
 ·refine h.frames (by simp; omega) fun b' hb' => ?_
  rcases List.mem_append.1 hb' with e | e
  ·exact h.mi b' e
  ·rw [List.mem_singleton.1 e]; exact hb
 ·exact h
theorem Inv.msg {m : Msg} (h : Inv n nl x M) (hw : Bi (Fv n nl) m = 0) (hm : MX n x m) : (Bd m).length = 12 ∧ ∀ m', Ae (Fv n nl) (Bd m) = (m', 0) → MX n x m' := by
 refine ⟨Oj m, fun m' h' => ?_⟩
 have h1 := h.n1; have h2 := h.l1
 rw [Pw hw (by simp only [Fv]; omega) (by simp only [Fv]; omega)] at h'
 cases h'; exact hm
theorem Inv.way {ms : List Msg} : ∀ {x : Chip}, Inv n nl x M → (∀ m ∈ ms, Bi (Fv n nl) m = 0 ∧ MX n x m) → Inv n nl ⟨x.cores, x.home, way x.frames ms⟩ M := by
 induction ms with
 | nil => intro x h _; exact h
 | cons m ms ih =>
  intro x h hm
  have h1 := hm m (List.mem_cons_self ..)
  have h2 := h.send (h.msg h1.1 h1.2)
  exact ih h2 fun m' hm' => hm m' (List.mem_cons_of_mem _ hm')
theorem Inv.erase (h : Inv n nl x M) (k : Nat) : Inv n nl ⟨x.cores, x.home, x.frames.eraseIdx k⟩ M := by
 have := h.fr
 refine h.frames (Nat.le_trans (List.length_eraseIdx_le _ _) h.fr) fun b hb => h.mi b (List.mem_of_mem_eraseIdx hb)
theorem Kw {l : Frames} {k : Int} (h : ¬ (k < 0 ∨ (l.length : Int) ≤ k)) : Cq l k ∈ l := by
 unfold Cq
 rw [List.getD_eq_getElem?_getD, List.getElem?_eq_getElem (by omega)]
 exact List.getElem_mem _
theorem Inv.spoil {k bit : Int} (h : Inv n nl x M) (h1 : ¬ (k < 0 ∨ (x.frames.length : Int) ≤ k)) (h2 : (Ae (Fv n nl) (Cq x.frames k)).2 = 0) (h3 : 0 ≤ bit) (h4 : bit < 8 * ((Cq x.frames k).length : Int)) :
  Inv n nl ⟨x.cores, x.home, x.frames.set k.toNat (Eh (Cq x.frames k) bit)⟩ M := by
 refine h.frames (by rw [List.length_set]; exact h.fr) fun b hb => ?_
 rcases List.mem_or_eq_of_mem_set hb with e | e
 ·exact h.mi b e
 ·subst e
  have hl := (h.mi _ (Kw h1)).1
  refine ⟨by rw [Qu]; exact hl, fun m hm => ?_⟩
  have hp : Ae (Fv n nl) (Cq x.frames k) = ((Ae (Fv n nl) (Cq x.frames k)).1, 0) := by rw [← h2]
  rw [R7 hp h3 (by rw [hl] at h4; exact h4)] at hm
  cases hm
end
set_option maxHeartbeats 1000000
set_option maxRecDepth 8000
variable {L : List Chunk} {R : List Fact} {w : World}
structure KB (c : Core) : Prop where
 n : c.lines.length ≤ 4
 v : ∀ i, i < c.lines.length → 0 ≤ (c.lines.getD i zLine).value ∧ (c.lines.getD i zLine).value ≤ 255
 w : CW c c.lines.length
theorem U7 {v : Int} {o : Op} (hv : An v) : An (Bb v o).2 := by
 unfold Bb; split
 ·exact hv
 split
 ·unfold An; simp only; omega
 split
 ·exact hv
 ·unfold An; simp only; omega
theorem KB.wait {c : Core} (h : KB c) (i : Int) (hi : i.toNat < c.lines.length) (hw : (Bq c i).want ≠ 0) : (1 ≤ c.wait.kind ∧ c.wait.kind ≤ 4) ∧ (0 ≤ c.wait.line ∧ c.wait.line < c.lines.length) ∧ (0 ≤ c.wait.value ∧ c.wait.value ≤ 255) := by
 have hb := h.w.busy (fun h0 => hw ((h.w.free h0).2 i.toNat hi))
 exact ⟨hb.1, hb.2.1, hb.2.2.1⟩
theorem KB.wwf {c : Core} (h : KB c) : c.wait.wf := by
 by_cases h0 : c.wait.kind = 0
 ·rw [(h.w.free h0).1]; unfold Op.wf An zOp; simp only; omega
 ·obtain ⟨h1, h2, h3, _⟩ := h.w.busy h0
  have := h.n
  unfold Op.wf An; omega
theorem Rk {c : Core} {id home : Int} {m : Msg} (h : m.line < 0 ∨ (c.lines.length : Int) ≤ m.line) : Ac c id home m = (c, [], []) := by unfold Ac; rw [if_pos h]
end Go.Proofs.YtiofgjolhbgkiaaGreatDoor
namespace Go.Proofs.YtiofgjolhbgkiaaGreatDoor
open Abs
def D9 (M : List Int) : List Done → List Int → Prop
 | [], M' => M' = M
 | d :: r, M' => (1 ≤ d.op.kind ∧ d.op.kind ≤ 4) ∧ (0 ≤ d.op.line ∧ d.op.line < M.length) ∧ (0 ≤ d.op.value ∧ d.op.value ≤ 255) ∧
  d.value = (if d.op.kind = 4 then 0 else (Bb (M.getD d.op.line.toNat 0) d.op).2) ∧ D9 (M.set d.op.line.toNat (Bb (M.getD d.op.line.toNat 0) d.op).1) r M'
theorem Kv {v : Int} {o : Op} (hv : 0 ≤ v ∧ v ≤ 255) (ho : 0 ≤ o.value ∧ o.value ≤ 255) : 0 ≤ (Bb v o).1 ∧ (Bb v o).1 ≤ 255 := by
 unfold Bb
 split
 ·exact hv
 ·split
  ·exact ho
  ·split
   ·simp only; omega
   ·exact hv
theorem Gb {v : Int} {o : Op} (h : o.kind = 1 ∨ o.kind = 4) : (Bb v o).1 = v := by
 unfold Bb
 rcases h with h | h <;> simp [h]
section
variable {n nl : Nat} {x : Chip} {M : List Int}
theorem Em {α : Type} (l : List α) (i : Nat) (d : α) (h : i < l.length) : l.set i (l.getD i d) = l := by
 apply List.ext_getElem?
 intro j
 by_cases hj : j = i
 ·subst hj; rw [List.getElem?_set_self h, List.getD_eq_getElem?_getD, List.getElem?_eq_getElem h]; rfl
 ·rw [List.getElem?_set_ne (Ne.symm hj)]
theorem Inv.same (h : Inv n nl x M) (i : Nat) (hi : i < nl) : M.set i (M.getD i 0) = M := Em _ _ _ (by rw [h.ml]; exact hi)
theorem G4 (h : Inv n nl x M) {p i : Nat} (hp : p < n) (hi : i < nl) {kind serial turn value : Int} {al : Bool} (hk : 1 ≤ kind ∧ kind ≤ 11) (hs : 0 ≤ serial ∧ serial ≤ 65535) (ht : 0 ≤ turn ∧ turn ≤ 65535) (hv : 0 ≤ value ∧ value ≤ 255) :
  Bi (Fv n nl) ⟨kind, p, n, i, serial, turn, value, al⟩ = 0 :=
 Qt hk (by simp only [Fv]; omega) (by simp only [Fv]; omega) hs ht hv (by simp only [Fv]; intro h; have h' := h.2 trivial; omega)
theorem Mm (h : Inv n nl x M) {p i : Nat} (hp : p < n) (hi : i < nl) {kind serial turn value : Int} {al : Bool} (hk : 1 ≤ kind ∧ kind ≤ 11) (hs : 0 ≤ serial ∧ serial ≤ 65535) (ht : 0 ≤ turn ∧ turn ≤ 65535) (hv : 0 ≤ value ∧ value ≤ 255) :
  Bi (Fv n nl) ⟨kind, n, p, i, serial, turn, value, al⟩ = 0 :=
 Qt hk (by simp only [Fv]; omega) (by simp only [Fv]; omega) hs ht hv (by simp only [Fv]; intro h; have h' := h.1 trivial; omega)
theorem Ku {p i : Nat} {kind serial turn value : Int} {al : Bool} : Oc n ⟨kind, p, n, i, serial, turn, value, al⟩ = p := by simp [Oc]
theorem Ob {p i : Nat} (hp : p < n) {kind serial turn value : Int} {al : Bool} : Oc n ⟨kind, n, p, i, serial, turn, value, al⟩ = p := by
 unfold Oc
 rw [if_neg (by simp only; omega)]; simp
theorem Rb {p i : Nat} {l' : Line} {w' : Op} (h : Inv n nl x M) (hp : p < n) (hi : i < nl) {fr : Frames} : lin ⟨x.cores.set p (Cg (cor x p) i l' w'), x.home, fr⟩ i p = l' := by
 unfold lin cor
 rw [Cx _ _ _ _ _ (by rw [h.nc]; exact hp), if_pos rfl]
 show ((cor x p).lines.set _ l').getD i zLine = l'
 rw [Int.toNat_natCast, Cx _ _ _ _ _ (by rw [h.ncl p hp]; exact hi), if_pos rfl]
theorem Afs {k : Core} {i : Nat} {l' : Line} {o : Op} (hl : k.lines.length = nl) (h : CW k nl) (h0 : k.wait.kind = 0) (hi : i < nl) (ho : (1 ≤ o.kind ∧ o.kind ≤ 4) ∧ o.line = i ∧ (0 ≤ o.value ∧ o.value ≤ 255)) (hw : l'.want = Fk o.kind) : CW (Cg k i l' o) nl := by
 constructor
 ·intro h'; exact absurd h' (by show o.kind ≠ 0; omega)
 ·intro _
  refine ⟨ho.1, ?_, ho.2.2, fun j hj => ?_⟩
  ·show 0 ≤ o.line ∧ o.line < nl; omega
  ·show ((k.lines.set _ l').getD j zLine).want = if (j : Int) = o.line then _ else _
   rw [Int.toNat_natCast, Cx _ _ _ _ _ (by rw [hl]; exact hi), ho.2.1]
   by_cases hj' : j = i
   ·rw [if_pos hj', if_pos (by rw [hj'])]; exact hw
   ·rw [if_neg hj', if_neg (by omega)]; exact (h.free h0).2 j hj
theorem Gu {k : Core} {i : Nat} {l' : Line} (hl : k.lines.length = nl) (h : CW k nl) (hi : i < nl) (h0 : k.wait.kind = 0 ∨ k.wait.line = i) (hw : l'.want = 0) : CW (Cg k i l' zOp) nl := by
 constructor
 ·intro _
  refine ⟨rfl, fun j hj => ?_⟩
  show ((k.lines.set _ l').getD j zLine).want = 0
  rw [Int.toNat_natCast, Cx _ _ _ _ _ (by rw [hl]; exact hi)]
  by_cases hj' : j = i
  ·rw [if_pos hj']; exact hw
  ·rw [if_neg hj']
   by_cases h00 : k.wait.kind = 0
   ·exact (h.free h00).2 j hj
   ·have := (h.busy h00).2.2.2 j hj
    rw [this, if_neg (by omega)]
 ·intro h'; exact absurd rfl h'
theorem Nb {k : Core} {i : Nat} {l' : Line} (hl : k.lines.length = nl) (h : CW k nl) (hi : i < nl) (hw : l'.want = (k.lines.getD i zLine).want) : CW (Cg k i l' k.wait) nl := by
 have hg : ∀ j, ((Cg k i l' k.wait).lines.getD j zLine).want = (k.lines.getD j zLine).want := by
  intro j
  show ((k.lines.set _ l').getD j zLine).want = _
  rw [Int.toNat_natCast, Cx _ _ _ _ _ (by rw [hl]; exact hi)]
  by_cases hj' : j = i
  ·rw [if_pos hj', hj']; exact hw
  ·rw [if_neg hj']
 constructor
 ·intro h0
  exact ⟨(h.free h0).1, fun j hj => by rw [hg]; exact (h.free h0).2 j hj⟩
 ·intro h0
  obtain ⟨h1, h2, h3, h4⟩ := h.busy h0
  exact ⟨h1, h2, h3, fun j hj => by rw [hg]; exact h4 j hj⟩
theorem Qe {k : Core} {i : Nat} (h : CW k nl) (hi : i < nl) (hw : (k.lines.getD i zLine).want ≠ 0) : k.wait.kind ≠ 0 ∧ k.wait.line = i ∧ (k.lines.getD i zLine).want = Fk k.wait.kind := by
 have h0 : k.wait.kind ≠ 0 := fun h0 => hw ((h.free h0).2 i hi)
 have h1 := (h.busy h0).2.2.2 i hi
 by_cases he : (i : Int) = k.wait.line
 ·rw [if_pos he] at h1; exact ⟨h0, he.symm, h1⟩
 ·rw [if_neg he] at h1; exact absurd h1 hw
theorem Vn {p : Nat} {o : Op} (h : Inv n nl x M) (hp : p < n) (hok : (Ak (cor x p) p n o).2.2.2 = 0) :
  ∃ M', Inv n nl (Ch x p (Ak (cor x p) p n o).1 (Ak (cor x p) p n o).2.1) M' ∧ D9 M (Ak (cor x p) p n o).2.2.1 M' := by
 have hcl := h.ncl p hp
 have hcw := h.cw p hp
 unfold Ak at hok ⊢
 split at hok
 ·cases hok
 split at hok
 ·cases hok
 split at hok
 ·cases hok
 rename_i k1 k2 k3
 rw [if_neg k1, if_neg k2, if_neg k3]
 obtain ⟨i, hi⟩ : ∃ i : Nat, o.line = i := ⟨o.line.toNat, by omega⟩
 have hin : i < nl := by omega
 have hlat : Bq (cor x p) o.line = lin x i p := by unfold Bq lin; rw [hi, Int.toNat_natCast]
 rw [hlat] at k3 ⊢
 have hci := h.ci i hin p hp
 have hgi := h.gi i hin
 have hw0 : (lin x i p).want = 0 := (hcw.free (by omega)).2 i hin
 have hval := h.mv i hin
 have hov : 0 ≤ o.value ∧ o.value ≤ 255 := by omega
 by_cases hd : By (lin x i p) o = true
 ·rw [if_pos hd]
  unfold Ch
  simp only [Int.toNat_natCast, way, hi]
  by_cases h4 : o.kind = 4
  ·have hs : (lin x i p).state ≠ 2 := by unfold By at hd; rw [if_pos h4] at hd; simpa using hd
   have hb : A6 (lin x i p) o = { lin x i p with state := 0, value := 0 } := by unfold A6; rw [if_pos h4, if_neg hs]
   have ht : Ea (lin x i p) o = 0 := by unfold Ea; rw [if_pos h4]
   rw [hb, ht]
   obtain ⟨c1, c2⟩ := Aap hgi hci hw0 hs
   have hI := h.core (w' := zOp) hp hin c1 (fun _ _ _ hh => hh) c2 (Gu hcl hcw hin (.inl (by omega)) hw0) hval
   refine ⟨_, hI, ?_, ?_, hov, ?_, ?_⟩
   ·show 1 ≤ o.kind ∧ o.kind ≤ 4; omega
   ·show 0 ≤ o.line ∧ o.line < M.length; rw [h.ml]; omega
   ·show (0 : Int) = _; rw [if_pos h4]
   ·show D9 _ [] _
    simp only [D9, hi, Int.toNat_natCast]
    rw [Gb (.inr h4)]
  ·have hs : (lin x i p).state = 2 ∨ (lin x i p).state = 1 ∧ o.kind = 1 := by unfold By at hd; rw [if_neg h4] at hd; simpa using hd
   have hb : A6 (lin x i p) o = { lin x i p with value := (Bb (lin x i p).value o).1 } := by unfold A6; rw [if_neg h4, if_pos hs]
   have ht : Ea (lin x i p) o = (Bb (lin x i p).value o).2 := by unfold Ea; rw [if_neg h4]
   have hV : (lin x i p).value = M.getD i 0 := by
    rcases hs with hs | hs
    ·exact (hci.alo (.inl hs)).2
    ·exact (hci.cop hs.1).2
   rw [hb, ht]
   have hr := Kv (o := o) hci.va hov
   have hI : Inv n nl ⟨x.cores.set p (Cg (cor x p) i { lin x i p with value := (Bb (lin x i p).value o).1 } zOp), x.home, x.frames⟩ (M.set i (Bb (lin x i p).value o).1) := by
    rcases hs with hs | hs
    ·obtain ⟨c1, c2⟩ := Agb hgi hci hs hr
     exact h.core (w' := zOp) hp hin c1 (fun q hq hqp hh => Aao hgi hci (by omega) (by omega) hqp hh) c2 (Gu hcl hcw hin (.inl (by omega)) hw0) hr
    ·have e : (Bb (lin x i p).value o).1 = (lin x i p).value := Gb (.inl hs.2)
     rw [e]
     exact h.core (w' := zOp) hp hin (by show CI _ p (lin x i p) (lin x i p).value; rw [hV]; exact hci) (fun _ _ _ hh => by rw [hV]; exact hh) (fun _ hm => hm) (Gu hcl hcw hin (.inl (by omega)) hw0) hci.va
   refine ⟨_, hI, ?_, ?_, hov, ?_, ?_⟩
   ·show 1 ≤ o.kind ∧ o.kind ≤ 4; omega
   ·show 0 ≤ o.line ∧ o.line < M.length; rw [h.ml]; omega
   ·show (Bb (lin x i p).value o).2 = _; rw [if_neg h4]; simp only [hi, Int.toNat_natCast]; rw [hV]
   ·show D9 _ [] _
    simp only [D9, hi, Int.toNat_natCast]
    rw [hV]
 ·rw [if_neg hd]
  unfold Ch
  simp only [Int.toNat_natCast, hi]
  -- it asks
  have key : ∃ l', A6 (lin x i p) o = l' ∧ CI (ab (ent x i)) p l' (M.getD i 0) ∧ (∀ m, MI (ab (ent x i)) p (lin x i p) m → MI (ab (ent x i)) p l' m) ∧ l'.want = Fk o.kind ∧ l'.serial = (lin x i p).serial + 1 := by
   by_cases h4 : o.kind = 4
   ·have hs : (lin x i p).state = 2 := by unfold By at hd; rw [if_pos h4] at hd; simpa using hd
    obtain ⟨c1, c2⟩ := c_put hgi hci hw0 hs (by omega)
    refine ⟨_, rfl, ?_⟩
    have hb : A6 (lin x i p) o = { lin x i p with state := 3, want := 3, serial := (lin x i p).serial + 1 } := by unfold A6; rw [if_pos h4, if_pos hs]
    rw [hb]
    exact ⟨c1, c2, by simp [Fk, h4], rfl⟩
   ·have hs : ¬ ((lin x i p).state = 2 ∨ (lin x i p).state = 1 ∧ o.kind = 1) := by unfold By at hd; rw [if_neg h4] at hd; simpa using hd
    have hst := hci.st
    have hlv := hci.leav
    have hkk : (if o.kind = 1 then (1 : Int) else 2) = Fk o.kind := by unfold Fk; split <;> first | rfl | rw [if_neg h4]
    obtain ⟨c1, c2⟩ := c_ask (k := if o.kind = 1 then 1 else 2) hgi hci hw0 (by split <;> omega) (by omega)
    refine ⟨_, rfl, ?_⟩
    have hb : A6 (lin x i p) o = { lin x i p with want := if o.kind = 1 then 1 else 2, serial := (lin x i p).serial + 1 } := by unfold A6; rw [if_neg h4, if_neg hs]
    rw [hb]
    exact ⟨c1, c2, hkk, rfl⟩
  obtain ⟨l', hb, c1, c2, c3, c4⟩ := key
  rw [hb]
  have hI := h.core (w' := o) hp hin c1 (fun _ _ _ hh => hh) c2 (Afs hcl hcw (by omega) hin ⟨by omega, hi, hov⟩ c3) hval
  rw [h.same i hin] at hI
  refine ⟨M, ?_, rfl⟩
  refine hI.way fun m hm => ?_
  rw [List.mem_singleton.1 hm]
  have hwr : 1 ≤ l'.want ∧ l'.want ≤ 3 := by rw [c3]; unfold Fk; split <;> (try split) <;> omega
  refine ⟨G4 h hp hin (by omega) c1.se ⟨by omega, by omega⟩ (by have := c1.va; split <;> omega), ?_⟩
  unfold MX
  have hpe : Oc n (Co l' p n i) = p := Ku
  rw [hpe]
  show MI (ab (ent x _)) p (lin _ _ p) _
  rw [show ((Co l' p n i).line).toNat = i from Int.toNat_natCast i, Rb h hp hin]
  have hla := hci.la
  have e1 : (Co l' p n i).kind = l'.want := rfl
  have e2 : (Co l' p n i).serial = l'.serial := rfl
  have e3 : (Co l' p n i).value = if l'.want = 3 then l'.value else 0 := rfl
  constructor <;> rw [e1] <;> (try rw [e2]) <;> (try rw [e3])
  ·intro hk; exact ⟨Int.le_refl _, fun _ => ⟨rfl, rfl⟩⟩
  ·intro hk; exact ⟨Int.le_refl _, fun _ => .inl ⟨rfl, hk, by rw [if_pos hk]⟩⟩
  all_goals intro hk; omega
theorem MX.said {p i : Nat} {l' : Line} {w' : Op} (h : Inv n nl x M) (hp : p < n) (hi : i < nl) {kind serial turn value : Int} {al : Bool} (hm : MI (ab (ent x i)) p l' ⟨kind, p, n, i, serial, turn, value, al⟩) {fr : Frames} :
  MX n ⟨x.cores.set p (Cg (cor x p) i l' w'), x.home, fr⟩ ⟨kind, p, n, i, serial, turn, value, al⟩ := by
 unfold MX
 rw [Ku]
 show MI (ab (ent x ((i : Int).toNat))) p (lin _ ((i : Int).toNat) p) _
 rw [Int.toNat_natCast, Rb h hp hi]
 exact hm
theorem MX.saidSame {p i : Nat} (hp : p < n) {kind serial turn value : Int} {al : Bool} (hm : MI (ab (ent x i)) p (lin x i p) ⟨kind, p, n, i, serial, turn, value, al⟩) : MX n x ⟨kind, p, n, i, serial, turn, value, al⟩ := by
 unfold MX
 rw [Ku]
 show MI (ab (ent x ((i : Int).toNat))) p (lin _ ((i : Int).toNat) p) _
 rw [Int.toNat_natCast]
 exact hm
theorem MX.told {p i : Nat} {e' : Entry} (h : Inv n nl x M) (hp : p < n) (hi : i < nl) {kind serial turn value : Int} {al : Bool} (hm : MI (ab e') p (lin x i p) ⟨kind, n, p, i, serial, turn, value, al⟩) {fr : Frames} :
  MX n ⟨x.cores, x.home.set i e', fr⟩ ⟨kind, n, p, i, serial, turn, value, al⟩ := by
 unfold MX
 rw [Ob hp]
 show MI (ab ((x.home.set i e').getD ((i : Int).toNat) A3)) p (lin x ((i : Int).toNat) p) _
 rw [Int.toNat_natCast, Cx _ _ _ _ _ (by rw [h.nh]; exact hi), if_pos rfl]
 exact hm
theorem Ys {p : Nat} {m : Msg} (h : Inv n nl x M) (hp : p < n) (hd : m.dst = p) (hs : m.src = n) (hl : 0 ≤ m.line ∧ m.line < nl) (hr : (0 ≤ m.serial ∧ m.serial ≤ 65535) ∧ (0 ≤ m.turn ∧ m.turn ≤ 65535) ∧ (0 ≤ m.value ∧ m.value ≤ 255)) (hm : MX n x m) :
  ∃ M', Inv n nl (Ch x p (Ac (cor x p) p n m).1 (Ac (cor x p) p n m).2.1) M' ∧ D9 M (Ac (cor x p) p n m).2.2 M' := by
 have hcl := h.ncl p hp
 have hcw := h.cw p hp
 obtain ⟨i, hi⟩ : ∃ i : Nat, m.line = i := ⟨m.line.toNat, by omega⟩
 have hin : i < nl := by omega
 have hlat : Bq (cor x p) m.line = lin x i p := by unfold Bq lin; rw [hi, Int.toNat_natCast]
 have hci := h.ci i hin p hp
 have hgi := h.gi i hin
 have hval := h.mv i hin
 have hMI : MI (ab (ent x i)) p (lin x i p) m := by
  unfold MX at hm
  have : Oc n m = p := by unfold Oc; rw [if_neg (by omega), hd]; simp
  rw [this, hi, Int.toNat_natCast] at hm
  exact hm
 have hsame : Inv n nl (Ch x p (cor x p) []) M := by
  unfold Ch
  simp only [Int.toNat_natCast, way]
  have : x.cores.set p (cor x p) = x.cores := Em _ _ _ (by rw [h.nc]; exact hp)
  rw [this]; exact h
 have hsaid : ∀ m', Bi (Fv n nl) m' = 0 → MX n x m' → Inv n nl (Ch x p (cor x p) [m']) M := by
  intro m' h1 h2
  unfold Ch
  simp only [Int.toNat_natCast]
  have : x.cores.set p (cor x p) = x.cores := Em _ _ _ (by rw [h.nc]; exact hp)
  rw [this]
  exact h.way fun m'' hm'' => by rw [List.mem_singleton.1 hm'']; exact ⟨h1, h2⟩
 unfold Ac
 rw [if_neg (by rw [hcl]; omega)]
 rw [hlat]
 by_cases k4 : m.kind = 4
 ·rw [if_pos k4]
  obtain ⟨c1, c2⟩ := c_inv hgi hci hMI k4
  have hwant : (Dr (lin x i p) m.turn).want = (lin x i p).want := by unfold Dr; split <;> (try split) <;> rfl
  have hI := h.core (w' := (cor x p).wait) hp hin c1 (fun _ _ _ hh => hh) c2 (Nb hcl hcw hin hwant) hval
  rw [h.same i hin] at hI
  refine ⟨M, ?_, rfl⟩
  unfold Ch
  refine Zbm ?_
  refine ⟨G4 h hp hin (by omega) (by omega) hr.2.1 (by omega), MX.said h hp hin ?_⟩
  have hseen : m.turn ≤ (Dr (lin x i p) m.turn).seen := by unfold Dr; split <;> (try split) <;> first | exact Int.le_refl _ | omega
  constructor <;> simp only <;> intro hk <;> first | omega | exact hseen
 rw [if_neg k4]
 by_cases k5 : m.kind = 5 ∨ m.kind = 6
 ·rw [if_pos k5]
  by_cases hf : Ez (lin x i p) m.turn
  ·rw [if_pos hf]
   obtain ⟨c1, c2, c3, c4⟩ := Age hgi hci hMI k5 hf
   by_cases hw : (lin x i p).want = 3
   ·rw [if_pos hw, if_pos hw]
    obtain ⟨w1, w2, w3⟩ := Qe hcw hin (by show (lin x i p).want ≠ 0; omega)
    have hwant : (C2 (lin x i p) m.kind m.turn).want = 0 := by unfold C2; rw [if_pos hw]
    have hI := h.core (w' := zOp) hp hin c1 (fun _ _ _ hh => hh) c2 (Gu hcl hcw hin (.inr w2) hwant) hval
    rw [h.same i hin] at hI
    obtain ⟨b1, b2, b3, b4⟩ := hcw.busy w1
    have hk4 : (cor x p).wait.kind = 4 := by
     exact Zdv
    refine ⟨M, ?_, b1, by rw [h.ml]; exact b2, b3, by show (0 : Int) = _; rw [if_pos hk4], ?_⟩
    ·unfold Ch
     refine Zbm ?_
     exact ⟨G4 h hp hin (by omega) (by omega) hr.2.1 hci.va, MX.said h hp hin (c4 _ rfl rfl rfl)⟩
    ·exact ZdD
   ·rw [if_neg hw, if_neg hw]
    have hwant : (C2 (lin x i p) m.kind m.turn).want = (lin x i p).want := by unfold C2; rw [if_neg hw]; split <;> rfl
    have hI := h.core (w' := (cor x p).wait) hp hin c1 (fun _ _ _ hh => hh) c2 (Nb hcl hcw hin hwant) hval
    rw [h.same i hin] at hI
    refine ⟨M, ?_, rfl⟩
    unfold Ch
    refine Zbm ?_
    exact ⟨G4 h hp hin (by omega) (by omega) hr.2.1 hci.va, MX.said h hp hin (c4 _ rfl rfl rfl)⟩
  ·rw [if_neg hf]
   split
   ·rename_i hg
    refine ⟨M, hsaid _ ?_ ?_, rfl⟩
    ·rw [hi]; exact G4 h hp hin (by omega) (by omega) (by rw [← hg.1]; exact hr.2.1) hci.gi
    ·rw [hi]; refine MX.saidSame hp ?_
     have := hci.ga
     constructor <;> simp only <;> intro hk <;> first | omega | exact ⟨this.2.1, fun a b c => ⟨a, trivial⟩⟩
   ·exact ⟨M, hsame, rfl⟩
 rw [if_neg k5]
 by_cases k7 : m.kind = 7
 ·rw [if_pos k7]
  by_cases hse : (lin x i p).serial < m.serial
  ·rw [if_pos hse]; exact ⟨M, hsame, rfl⟩
  rw [if_neg hse]
  by_cases ha : Kc (lin x i p) m
  ·rw [if_pos ha]
   have hwne : (lin x i p).want ≠ 0 := by have := ha.2; omega
   obtain ⟨w1, w2, w3⟩ := Qe hcw hin hwne
   obtain ⟨b1, b2, b3, b4⟩ := hcw.busy w1
   have w3' : (lin x i p).want = Fk (cor x p).wait.kind := w3
   have hnk4 : (cor x p).wait.kind ≠ 4 := by
    intro e; rw [e] at w3'; simp [Fk] at w3'; have := ha.2; omega
   have hload : m.alone = false → (Bb m.value (cor x p).wait).1 = m.value := by
    intro hal
    have h2 := ha.2
    rw [hal] at h2
    have : (lin x i p).want = 1 := by simpa using h2
    refine Gb (.inl ?_)
    rw [this] at w3'
    unfold Fk at w3'; split at w3' <;> (try split at w3') <;> first | assumption | omega
   have hv := Kv (o := (cor x p).wait) hr.2.2 b3
   obtain ⟨c1, c2, c3, c4, c5⟩ := Agd (v := (Bb m.value (cor x p).wait).1) hgi hci hMI k7 ha hv hload
   have hI := h.core (w' := zOp) hp hin c1 (fun q _ hq hh => c4 q _ hq hh) c2 (Gu hcl hcw hin (.inr w2) rfl) hv
   refine ⟨M.set i (Bb m.value (cor x p).wait).1, ?_, b1, by rw [h.ml]; exact b2, b3, ?_, ?_⟩
   ·unfold Ch
    refine Zbm ?_
    exact ⟨G4 h hp hin (by omega) (by omega) hr.2.1 (by omega), MX.said h hp hin (c5 _ rfl rfl)⟩
   ·show (Bb m.value (cor x p).wait).2 = _
    rw [if_neg hnk4, w2, Int.toNat_natCast, c3]
   ·show D9 _ [] _
    simp only [D9]
    rw [w2, Int.toNat_natCast, c3]
  ·rw [if_neg ha]
   refine ⟨M, hsaid _ ?_ ?_, rfl⟩
   ·rw [hi]; exact G4 h hp hin (by omega) (by omega) hr.2.1 (by omega)
   ·rw [hi]; refine MX.saidSame hp ?_
    have hg := hMI.gra k7
    have hseen : m.turn ≤ (lin x i p).seen := by
     by_cases hc : m.serial = (lin x i p).serial ∧ (lin x i p).want ≠ 0
     ·obtain ⟨g1, g2, g3, g4, g5⟩ := hg.2.1 hc.1 hc.2
      have hcur := hci.cur (by omega) g2
      exfalso
      apply ha
      refine ⟨hc.1, ?_⟩
      have hse' : (ab (ent x i)).serial = (lin x i p).serial := by have := hci.la; omega
      cases hal : m.alone with
      | true => right; have := g4.1 hal; exact ⟨by omega, rfl⟩
      | false =>
       left
       have hnot : ¬ (ab (ent x i)).alone = 1 := fun h1 => by have := g4.2 h1; rw [hal] at this; cases this
       have := hgi.al
       exact ⟨by omega, rfl⟩
     ·exact hg.2.2 (by omega)
    constructor <;> simp only <;> intro hk <;> first | omega | exact hseen
 rw [if_neg k7]
 split
 ·rename_i hk
  obtain ⟨k11, hw, hse⟩ := hk
  obtain ⟨c1, c2⟩ := Agc hgi hci hMI k11 hw hse
  obtain ⟨w1, w2, w3⟩ := Qe hcw hin (by show (lin x i p).want ≠ 0; omega)
  obtain ⟨b1, b2, b3, b4⟩ := hcw.busy w1
  have hk4 : (cor x p).wait.kind = 4 := by
   exact Zdv
  have hI := h.core (w' := zOp) hp hin c1 (fun _ _ _ hh => hh) c2 (Gu hcl hcw hin (.inr w2) rfl) hval
  rw [h.same i hin] at hI
  refine ⟨M, ?_, b1, by rw [h.ml]; exact b2, b3, by show (0 : Int) = _; rw [if_pos hk4], ?_⟩
  ·unfold Ch
   simp only [Int.toNat_natCast, hi, way]
   exact hI
  ·exact ZdD
 ·exact ⟨M, hsame, rfl⟩
end
end Go.Proofs.YtiofgjolhbgkiaaGreatDoor
namespace Go.Proofs.YtiofgjolhbgkiaaGreatDoor
open Abs
theorem Afw : ∀ (s : Fin 16) (p q : Fin 4), (Gy (s.val : Int) (p.val : Int)).toNat.testBit q.val = (decide (q ≠ p) && s.val.testBit q.val) := by decide
theorem Ws : ∀ (s : Fin 16) (p : Fin 4), 0 ≤ Gy (s.val : Int) (p.val : Int) ∧ Gy (s.val : Int) (p.val : Int) ≤ s.val := by decide
theorem Acs : ∀ (s : Fin 16) (p q : Fin 4), (G3 (s.val : Int) (p.val : Int)).toNat.testBit q.val = (decide (q = p) || s.val.testBit q.val) := by decide
theorem Uq : ∀ (n : Fin 5) (s : Fin 16) (p : Fin 4), p.val < n.val → s.val < 2 ^ n.val → 0 ≤ G3 (s.val : Int) (p.val : Int) ∧ G3 (s.val : Int) (p.val : Int) < (2 ^ n.val : Nat) := by decide
theorem Xm : ∀ (s : Fin 16), (∀ q : Fin 4, s.val.testBit q.val = false) → s.val = 0 := by decide
theorem high (s : Int) (h : 0 ≤ s ∧ s < 16) (q : Nat) (hq : 4 ≤ q) : s.toNat.testBit q = false := by
 apply Nat.testBit_lt_two_pow
 have : 2 ^ 4 ≤ 2 ^ q := Nat.pow_le_pow_right (by omega) hq
 omega
theorem Ht (s : Int) (h : 0 ≤ s ∧ s < 16) (q : Nat) (hq : 4 ≤ q) : D5 s q = 0 := by unfold D5; rw [high s h q hq]; rfl
theorem Dz (q : Nat) : D5 0 q = 0 := by simp [D5]
theorem Ue {s : Int} (h : 0 ≤ s ∧ s < 16) : ∃ f : Fin 16, (f.val : Int) = s := ⟨⟨s.toNat, by omega⟩, by simp only; omega⟩
theorem Jc {s : Int} {p : Nat} (h : 0 ≤ s ∧ s < 16) (hp : p < 4) : D5 (Gy s p) = upd (D5 s) p 0 := by
 obtain ⟨f, rfl⟩ := Ue h
 funext q
 have hr := Ws f ⟨p, hp⟩
 simp only at hr
 by_cases hq : q < 4
 ·have := Afw f ⟨p, hp⟩ ⟨q, hq⟩
  simp only at this
  unfold D5 upd
  rw [this]
  by_cases hqp : q = p
  ·subst hqp; simp
  ·simp [hqp]
 ·rw [Ht _ (by omega) _ (by omega)]
  unfold upd
  rw [if_neg (by omega), Ht _ (by omega) _ (by omega)]
theorem Pb {s : Int} {p : Nat} (h : 0 ≤ s ∧ s < 16) (hp : p < 4) (q : Nat) : D5 (G3 s p) q = if q = p then 1 else D5 s q := by
 obtain ⟨f, rfl⟩ := Ue h
 have hr : 0 ≤ G3 (f.val : Int) (p : Int) ∧ G3 (f.val : Int) (p : Int) < 16 := Uq 4 f ⟨p, hp⟩ hp f.isLt
 by_cases hq : q < 4
 ·have := Acs f ⟨p, hp⟩ ⟨q, hq⟩
  simp only at this
  unfold D5
  rw [this]
  by_cases hqp : q = p
  ·subst hqp; simp
  ·simp [hqp]
 ·rw [Ht _ (by omega) _ (by omega), if_neg (by omega), Ht _ (by omega) _ (by omega)]
theorem Rx {s : Int} {p n : Nat} (hn : n ≤ 4) (h : 0 ≤ s ∧ s < (2 ^ n : Nat)) (hp : p < 4) : 0 ≤ Gy s p ∧ Gy s p < (2 ^ n : Nat) := by
 have : (2 ^ n : Nat) ≤ 2 ^ 4 := Nat.pow_le_pow_right (by omega) hn
 obtain ⟨f, rfl⟩ := Ue (s := s) (by omega)
 have hr := Ws f ⟨p, hp⟩
 simp only at hr
 omega
theorem Abn {s : Int} {p n : Nat} (hn : n ≤ 4) (h : 0 ≤ s ∧ s < (2 ^ n : Nat)) (hp : p < n) : 0 ≤ G3 s p ∧ G3 s p < (2 ^ n : Nat) := by
 have : (2 ^ n : Nat) ≤ 2 ^ 4 := Nat.pow_le_pow_right (by omega) hn
 obtain ⟨f, rfl⟩ := Ue (s := s) (by omega)
 exact Uq ⟨n, by omega⟩ f ⟨p, by omega⟩ hp (by simp only; omega)
theorem J9 {s : Int} {n : Nat} (hn : n ≤ 4) (h : 0 ≤ s ∧ s < (2 ^ n : Nat)) : 0 ≤ s ∧ s < 16 := by
 have : (2 ^ n : Nat) ≤ 2 ^ 4 := Nat.pow_le_pow_right (by omega) hn
 omega
theorem Lj {s : Int} (h : 0 ≤ s ∧ s < 16) (hb : ∀ q, q < 4 → D5 s q = 0) : s = 0 := by
 obtain ⟨f, rfl⟩ := Ue h
 have := Xm f fun q => by
  have := hb q.val q.isLt
  unfold D5 at this
  simp only [Int.toNat_natCast] at this
  cases ht : f.val.testBit q.val with
  | false => rfl
  | true => simp [ht] at this
 omega
theorem Pa {s : Int} {n : Nat} (hn : n ≤ 4) (h : 0 ≤ s ∧ s < (2 ^ n : Nat)) (h0 : s ≠ 0) : ∃ q : Nat, q < n ∧ D5 s q = 1 := by
 apply Classical.byContradiction
 intro hno
 apply h0
 refine Lj (J9 hn h) fun q _ => ?_
 by_cases hq : q < n
 ·have : ¬ D5 s q = 1 := fun he => hno ⟨q, hq, he⟩
  unfold D5 at this ⊢
  split <;> rename_i hb
  ·rw [if_pos hb] at this; exact absurd rfl this
  ·rfl
 ·unfold D5
  rw [Nat.testBit_lt_two_pow (show s.toNat < 2 ^ q by have : 2 ^ n ≤ 2 ^ q := Nat.pow_le_pow_right (by omega) (by omega); omega)]
  rfl
theorem Vt (s : Int) (p : Nat) : M0 s p = true ↔ D5 s p = 1 := by
 unfold M0 D5
 rw [Int.toNat_natCast]
 cases s.toNat.testBit p <;> simp
section
variable {n nl : Nat} {x : Chip} {M : List Int}
theorem Pk (h : Inv n nl x M) {i : Nat} (hi : i < nl) : ∀ m ∈ Ib (ent x i) i n, Bi (Fv n nl) m = 0 ∧ MX n x m := by
 intro m hm
 have hg := h.gi i hi
 have hn := h.n1
 have hto : ∀ {p : Nat} {kind serial turn value : Int} {al : Bool}, p < n → MI (ab (ent x i)) p (lin x i p) ⟨kind, n, p, i, serial, turn, value, al⟩ → MX n x ⟨kind, n, p, i, serial, turn, value, al⟩ := by
  intro p kind serial turn value al hp hmi
  unfold MX
  rw [Ob hp]
  show MI (ab (ent x ((i : Int).toNat))) p (lin x ((i : Int).toNat) p) _
  rw [Int.toNat_natCast]; exact hmi
 unfold Ib at hm
 by_cases h1 : (ent x i).phase = 1
 ·rw [if_pos h1] at hm
  rw [List.mem_singleton.1 hm]
  have hf := hg.f1 h1
  have how := hg.own
  obtain ⟨p, hp⟩ : ∃ p : Nat, (ent x i).owner = p := ⟨(ent x i).owner.toNat, by show _ = _; have := hf.1; show (ent x i).owner = _; simp only [ab] at this; omega⟩
  have hpn : p < n := by have := how.2; simp only [ab] at this; omega
  rw [hp]
  refine ⟨Mm h hpn hi (by split <;> omega) (by omega) hg.tu (by omega), hto hpn ?_⟩
  have ha : (if (ent x i).alone = true then (6 : Int) else 5) = 5 + (ab (ent x i)).alone := by simp only [ab]; split <;> rfl
  rw [ha]
  have hal := hg.al
  constructor <;> simp only <;> intro hk <;> first | omega | exact ⟨Int.le_refl _, fun _ => ⟨rfl, h1, hp, trivial⟩⟩
 rw [if_neg h1] at hm
 by_cases h2 : (ent x i).phase = 2
 ·rw [if_pos h2] at hm
  obtain ⟨q, hq, rfl⟩ := List.mem_map.1 hm
  obtain ⟨hq1, hq2⟩ := List.mem_filter.1 hq
  obtain ⟨p, rfl⟩ : ∃ p : Nat, q = p := ⟨q.toNat, by simp at hq1; omega⟩
  have hb := (Vt _ _).1 hq2
  have hpn : p < n := by
   apply Classical.byContradiction
   intro hge
   have hbit := (h.bit i hi).2
   unfold D5 at hb
   rw [Nat.testBit_lt_two_pow (show (ent x i).need.toNat < 2 ^ p by have : 2 ^ n ≤ 2 ^ p := Nat.pow_le_pow_right (by omega) (by omega); omega)] at hb
   simp at hb
  refine ⟨Mm h hpn hi (by omega) (by omega) hg.tu (by omega), hto hpn ?_⟩
  constructor <;> simp only <;> intro hk <;> first | omega | exact ⟨Int.le_refl _, fun _ => ⟨rfl, h2, hb⟩⟩
 rw [if_neg h2] at hm
 by_cases h3 : (ent x i).phase = 3
 ·rw [if_pos h3] at hm
  rw [List.mem_singleton.1 hm]
  have hw := hg.whor (by show (ent x i).phase ≠ 0; omega)
  simp only [ab] at hw
  obtain ⟨p, hp⟩ : ∃ p : Nat, (ent x i).who = p := ⟨(ent x i).who.toNat, by omega⟩
  have hpn : p < n := by omega
  have hci := h.ci i hi p hpn
  have hcur := hci.cur (by show (ent x i).phase ≠ 0; omega) hp
  rw [hp]
  refine ⟨Mm h hpn hi (by omega) hg.se hg.tu hg.va, hto hpn ?_⟩
  constructor <;> simp only <;> intro hk <;> first | omega | skip
  refine ⟨by have := hcur.1; simp only [ab] at this ⊢; omega, fun e1 e2 => ⟨h3, hp, rfl, ?_, rfl⟩, fun hn' => ?_⟩
  ·simp only [ab]; cases (ent x i).alone <;> simp
  ·rcases hcur.2 with ⟨d1, d2, d3⟩ | ⟨d1, d2, d3, d4⟩
   ·have hal := hg.al
    simp only [ab] at d1 d2 hal
    omega
   ·simp only [ab] at d3 ⊢; omega
 ·rw [if_neg h3] at hm; cases hm
theorem Pm (h : Inv n nl x M) : ∀ (k : Nat) (l : List Entry), x.home.drop k = l → ∀ m ∈ C4 n k l, Bi (Fv n nl) m = 0 ∧ MX n x m := by
 intro k l
 induction l generalizing k with
 | nil => intro _ m hm; cases hm
 | cons e l ih =>
  intro hd m hm
  have hk : k < x.home.length := by
   apply Classical.byContradiction
   intro hge
   rw [List.drop_of_length_le (by omega)] at hd; cases hd
  rw [List.drop_eq_getElem_cons hk] at hd
  injection hd with he hd
  simp only [C4] at hm
  rcases List.mem_append.1 hm with hm | hm
  ·have : ent x k = e := by unfold ent; rw [List.getD_eq_getElem?_getD, List.getElem?_eq_getElem hk, he]; rfl
   rw [← this] at hm
   exact Pk h (by rw [← h.nh]; exact hk) m hm
  ·exact ih (k + 1) hd m (by push_cast; exact hm)
theorem Mv (h : Inv n nl x M) : Inv n nl ⟨x.cores, x.home, way x.frames (Fp x.home n)⟩ M :=
 h.way fun m hm => Pm h 0 x.home rfl m hm
theorem ask_ok (h : Inv n nl x M) {p i : Nat} (hp : p < n) (hi : i < nl) (hw : (lin x i p).want ≠ 0) : Bi (Fv n nl) (Co (lin x i p) p n i) = 0 ∧ MX n x (Co (lin x i p) p n i) := by
 have hci := h.ci i hi p hp
 have hwa := hci.wa
 refine ⟨G4 h hp hi (by omega) hci.se ⟨by omega, by omega⟩ (by have := hci.va; split <;> omega), MX.saidSame hp ?_⟩
 constructor <;> simp only <;> intro hk <;> first | exact ⟨Int.le_refl _, fun _ => ⟨trivial, trivial⟩⟩ | exact ⟨Int.le_refl _, fun _ => .inl ⟨trivial, hk, by rw [if_pos hk]⟩⟩ | omega
theorem Nt (h : Inv n nl x M) {p : Nat} (hp : p < n) : ∀ (k : Nat) (l : List Line), (cor x p).lines.drop k = l → ∀ m ∈ Bx p n k l, Bi (Fv n nl) m = 0 ∧ MX n x m := by
 intro k l
 induction l generalizing k with
 | nil => intro _ m hm; cases hm
 | cons e l ih =>
  intro hd m hm
  have hk : k < (cor x p).lines.length := by
   apply Classical.byContradiction
   intro hge
   rw [List.drop_of_length_le (by omega)] at hd; cases hd
  rw [List.drop_eq_getElem_cons hk] at hd
  injection hd with he hd
  have hlin : lin x k p = e := by unfold lin; rw [List.getD_eq_getElem?_getD, List.getElem?_eq_getElem hk, he]; rfl
  simp only [Bx] at hm
  split at hm
  ·rename_i hw
   rcases List.mem_cons.1 hm with hm | hm
   ·rw [hm, ← hlin]
    exact ask_ok h hp (by rw [← h.ncl p hp]; exact hk) (by rw [hlin]; exact hw)
   ·exact ih (k + 1) hd m (by push_cast; exact hm)
  ·exact ih (k + 1) hd m (by push_cast; exact hm)
theorem Mw (h : Inv n nl x M) {p : Nat} (hp : p < n) : Inv n nl ⟨x.cores, x.home, way x.frames (E8 (cor x p) p n)⟩ M :=
 h.way fun m hm => Nt h hp 0 _ rfl m hm
theorem Afo (h : Inv n nl x M) {i : Nat} (hi : i < nl) (e' : Entry) (fr : Frames) : ent ⟨x.cores, x.home.set i e', fr⟩ i = e' := by
 unfold ent
 rw [Cx _ _ _ _ _ (by rw [h.nh]; exact hi), if_pos rfl]
theorem Inv.homeSays {i : Nat} {e' : Entry} (h : Inv n nl x M) (hi : i < nl) (hI : Inv n nl ⟨x.cores, x.home.set i e', x.frames⟩ M) : Inv n nl ⟨x.cores, x.home.set i e', Go.Proofs.YtiofgjolhbgkiaaGreatDoor.way x.frames (Ib e' i n)⟩ M := by
 have := Pk hI hi
 rw [Afo h hi] at this
 exact hI.way this
end
end Go.Proofs.YtiofgjolhbgkiaaGreatDoor
namespace Go.Proofs.YtiofgjolhbgkiaaGreatDoor
open Abs
section
variable {n nl : Nat} {x : Chip} {M : List Int}
theorem R3 (e : Entry) : (ab e).alone = 1 ↔ e.alone = true := by simp only [ab]; cases e.alone <;> simp
theorem Pg (e : Entry) : (ab e).alone = 0 ↔ e.alone = false := by simp only [ab]; cases e.alone <;> simp
theorem Aec {p i : Nat} {m : Msg} (h : Inv n nl x M) (hp : p < n) (hi : i < nl) (hs : m.src = p) (hms : 0 ≤ m.serial ∧ m.serial ≤ 65535) (hM : MI (ab (ent x i)) p (lin x i p) m) (hk : m.kind = 1 ∨ m.kind = 2) (h0 : (ent x i).phase = 0)
  (hl : Fb (ent x i) m.src < m.serial) (ht : (ent x i).turn < 65535) : Inv n nl ⟨x.cores, x.home.set i (O0 (ent x i) m), x.frames⟩ M := by
 have hn := h.n1
 have hb := h.bit i hi
 have hgi := h.gi i hi
 have hlast : (ent x i).last.getD p 0 < m.serial := by unfold Fb at hl; rw [hs, Int.toNat_natCast] at hl; exact hl
 have hla := h.nla i hi
 have hlu : (fun q => ((ent x i).last.set p m.serial).getD q 0) = upd (ab (ent x i)).last p m.serial := by
  funext q; rw [Cx _ _ _ _ _ (by rw [hla]; exact hp)]; rfl
 have hclr := Rx (by omega) hb.1 (show p < 4 by omega)
 have hbc := Jc (J9 (by omega) hb.1) (show p < 4 by omega)
 have hal : (if (m.kind == 2) = true then (1 : Int) else 0) = m.kind - 1 := by rcases hk with hk | hk <;> simp [hk]
 unfold O0 C7
 simp only [hs, Int.toNat_natCast]
 by_cases ho : 0 ≤ (ent x i).owner
 ·rw [if_pos ho]
  refine Zc3 ?_
  exact Aei hgi (h.ci i hi) hp hM hk hms h0 hlast ht rfl rfl rfl rfl rfl hal rfl hlu (.inl ⟨ho, rfl, fun q => Dz q⟩)
 ·rw [if_neg ho]
  by_cases hc : (m.kind == 2) = true ∧ Gy (ent x i).sharers p ≠ 0
  ·rw [if_pos hc]
   refine h.home hi (by simpa using hla) ⟨hb.1, hclr⟩ ?_
   refine Aei hgi (h.ci i hi) hp hM hk hms h0 hlast ht rfl rfl rfl rfl rfl hal rfl hlu (.inr (.inl ⟨by simp only [ab]; omega, by simpa using hc.1, rfl, Pa (by omega) hclr hc.2, fun q => ?_⟩))
   show D5 (Gy (ent x i).sharers p) q = _
   rw [hbc]; rfl
  ·rw [if_neg hc]
   refine Zc3 ?_
   refine Aei hgi (h.ci i hi) hp hM hk hms h0 hlast ht rfl rfl rfl rfl rfl hal rfl hlu (.inr (.inr ⟨by simp only [ab]; omega, rfl, fun q => Dz q, fun hk2 q hq hqp => ?_⟩))
   have hz : Gy (ent x i).sharers p = 0 := Classical.byContradiction fun hz => hc ⟨by simp [hk2], hz⟩
   have := congrFun hbc q
   exact ZdH
theorem Aeb {p i : Nat} {m : Msg} (h : Inv n nl x M) (hp : p < n) (hi : i < nl) (hs : m.src = p) (hms : 0 ≤ m.serial ∧ m.serial ≤ 65535) (hmv : 0 ≤ m.value ∧ m.value ≤ 255) (hM : MI (ab (ent x i)) p (lin x i p) m) (hk : m.kind = 3) (h0 : (ent x i).phase = 0) :
  Inv n nl ⟨x.cores, x.home.set i (H5 (ent x i) m), x.frames⟩ M ∧ m.serial ≤ (H5 (ent x i) m).last.getD p 0 := by
 have hb := h.bit i hi
 have hgi := h.gi i hi
 have hla := h.nla i hi
 have hlu : (fun q => ((ent x i).last.set p m.serial).getD q 0) = upd (ab (ent x i)).last p m.serial := by
  funext q; rw [Cx _ _ _ _ _ (by rw [hla]; exact hp)]; rfl
 have hlast : Fb (ent x i) m.src = (ent x i).last.getD p 0 := by unfold Fb; rw [hs, Int.toNat_natCast]
 unfold H5
 simp only [hs, Int.toNat_natCast] at hlast ⊢
 rw [hlast]
 by_cases hl : (ent x i).last.getD p 0 < m.serial
 ·rw [if_pos hl]
  by_cases ho : (ent x i).owner = p
  ·rw [if_pos ho]
   refine ⟨h.home hi (by simpa using hla) hb ?_, ?_⟩
   ·exact h_put hgi (h.ci i hi) hp hM hk hmv h0 hl rfl rfl rfl rfl rfl hlu rfl rfl (.inl ⟨ho, rfl, rfl⟩)
   ·exact ZdG
  ·rw [if_neg ho]
   refine ⟨h.home hi (by simpa using hla) hb ?_, ?_⟩
   ·exact h_put hgi (h.ci i hi) hp hM hk hmv h0 hl rfl rfl rfl rfl rfl hlu rfl rfl (.inr ⟨ho, rfl, rfl⟩)
   ·exact ZdG
 ·rw [if_neg hl]
  have : x.home.set i (ent x i) = x.home := Em _ _ _ (by rw [h.nh]; exact hi)
  rw [this]
  exact ⟨h, by omega⟩
theorem Yu {p i : Nat} {m : Msg} (h : Inv n nl x M) (hp : p < n) (hi : i < nl) (hs : m.src = p) (hmv : 0 ≤ m.value ∧ m.value ≤ 255) (hM : MI (ab (ent x i)) p (lin x i p) m) (hk : m.kind = 9) (h0 : (ent x i).phase = 1) (ht : m.turn = (ent x i).turn) (ho : m.src = (ent x i).owner) :
  Inv n nl ⟨x.cores, x.home.set i (Ii (ent x i) m), x.frames⟩ M := by
 have hn := h.n1
 have hb := h.bit i hi
 have hgi := h.gi i hi
 have hla := h.nla i hi
 have hop : (ent x i).owner = p := by rw [← ho]; exact hs
 have hf := hgi.f1 h0
 have hsh0 : ∀ q, q < n → D5 (ent x i).sharers q = 0 := by
  intro q hq
  have h1 := (h.ci i hi q hq).shs
  have h2 := (h.ci i hi q hq).bits
  simp only [ab] at h1 h2 hf
  omega
 have hz : (ent x i).sharers = 0 := by
  refine Lj (J9 (by omega) hb.1) fun q _ => ?_
  by_cases hq : q < n
  ·exact hsh0 q hq
  ·unfold D5
   refine Zc0 ?_
   rfl
 have hpos : 0 < 2 ^ n := Nat.two_pow_pos n
 unfold Ii C7
 simp only
 rw [if_neg (by omega)]
 have hclr0 : ∀ w : Int, Gy 0 w = 0 := by intro w; unfold Gy M0; simp
 have hc : ¬ ((ent x i).alone = true ∧ Gy (if (ent x i).alone = true then (ent x i).sharers else G3 (ent x i).sharers (ent x i).owner) (ent x i).who ≠ 0) := by
  rintro ⟨h1, h2⟩
  rw [if_pos h1, hz, hclr0] at h2
  exact h2 rfl
 rw [if_neg hc]
 refine h.home hi hla ⟨?_, ⟨by simp only; omega, by simp only; omega⟩⟩ ?_
 ·simp only
  split
  ·exact hb.1
  ·rw [hop]; exact Abn (by omega) hb.1 hp
 ·refine h_data hgi (h.ci i hi) hp hM hk hmv h0 ht hop rfl rfl (fun q => ?_) rfl rfl rfl rfl rfl rfl (fun q => Dz q)
  show D5 (if (ent x i).alone = true then (ent x i).sharers else G3 (ent x i).sharers (ent x i).owner) q = if q = p ∧ (ab (ent x i)).alone = 0 then 1 else D5 (ent x i).sharers q
  have ha0 := Pg (ent x i)
  have hbs := Pb (J9 (by omega) hb.1) (show p < 4 by omega) q
  rw [hop]
  cases hal : (ent x i).alone with
  | true => rw [hal] at ha0; simp only [Bool.true_eq_false, iff_false] at ha0; simp [ha0]
  | false => rw [hal] at ha0; simp only [iff_true] at ha0; simp [ha0, hbs]
theorem Yt {p i : Nat} {m : Msg} (h : Inv n nl x M) (hp : p < n) (hi : i < nl) (hs : m.src = p) (hM : MI (ab (ent x i)) p (lin x i p) m) (hk : m.kind = 8) (h0 : (ent x i).phase = 2) (ht : m.turn = (ent x i).turn) (ho : M0 (ent x i).need m.src = true) :
  Inv n nl ⟨x.cores, x.home.set i (if (Ct (ent x i) m).need = 0 then C7 (Ct (ent x i) m) else Ct (ent x i) m), x.frames⟩ M := by
 have hn := h.n1
 have hb := h.bit i hi
 have hgi := h.gi i hi
 have hla := h.nla i hi
 have hnd : D5 (ent x i).need p = 1 := by rw [hs] at ho; exact (Vt _ _).1 ho
 have hc1 := Rx (by omega) hb.1 (show p < 4 by omega)
 have hc2 := Rx (by omega) hb.2 (show p < 4 by omega)
 have hb1 := Jc (J9 (by omega) hb.1) (show p < 4 by omega)
 have hb2 := Jc (J9 (by omega) hb.2) (show p < 4 by omega)
 have hown := hgi.f23 (by show 2 ≤ (ent x i).phase; omega)
 simp only [ab] at hown
 have hal := (hgi.c2 h0).1
 rw [R3] at hal
 unfold Ct
 simp only [hs]
 by_cases hz : Gy (ent x i).need p = 0
 ·rw [if_pos hz]
  have hrest : ∀ q : Nat, q ≠ p → q < n → D5 (ent x i).need q = 0 := by
   intro q hqp hq
   have := congrFun hb2 q
   exact ZdH
  have hpw : (ent x i).who ≠ p := ((h.ci i hi p hp).ned hnd).2.1
  have hsh : ∀ q, q < n → (ent x i).who ≠ q → q ≠ p → D5 (ent x i).sharers q = 0 := by
   intro q hq hqw hqp
   have := (h.ci i hi q hq).cle h0 hqw
   simp only [ab] at this
   rw [← this]; exact hrest q hqp hq
  have hw := hgi.whor (by show (ent x i).phase ≠ 0; omega)
  simp only [ab] at hw
  obtain ⟨w, hw'⟩ : ∃ w : Nat, (ent x i).who = w := ⟨(ent x i).who.toNat, by omega⟩
  have hcc : Gy (Gy (ent x i).sharers p) (ent x i).who = 0 := by
   rw [hw']
   have hc3 := Rx (by omega) hc1 (show w < 4 by omega)
   refine Lj (J9 (by omega) hc3) fun q hq4 => ?_
   rw [Jc (J9 (by omega) hc1) (by omega), hb1]
   unfold upd
   split
   ·rfl
   ·split
    ·rfl
    ·by_cases hq : q < n
     ·exact hsh q hq (by omega) (by assumption)
     ·unfold D5
      refine Zc0 ?_
      rfl
  have hne : C7 { ent x i with need := Gy (ent x i).need p, sharers := Gy (ent x i).sharers p } = { ent x i with need := 0, sharers := Gy (ent x i).sharers p, phase := 3 } := by
   unfold C7
   simp only
   rw [if_neg (by omega), if_neg (by rintro ⟨_, h2⟩; exact h2 hcc)]
  rw [hne]
  refine h.home hi hla ⟨hc1, ⟨by simp only; omega, by have : 0 < 2 ^ n := Nat.two_pow_pos n; simp only; omega⟩⟩ ?_
  exact Abw hgi (h.ci i hi) hp hM hk h0 ht hnd rfl rfl hb1 rfl rfl rfl rfl rfl (.inr ⟨rfl, fun q => Dz q, fun q h1 h2 => hrest q h1 h2⟩)
 ·rw [if_neg hz]
  refine h.home hi hla ⟨hc1, hc2⟩ ?_
  exact Abw hgi (h.ci i hi) hp hM hk h0 ht hnd rfl rfl hb1 rfl rfl rfl rfl rfl (.inl ⟨h0, hb2, Pa (by omega) hc2 hz⟩)
theorem S2 {p i : Nat} {m : Msg} (h : Inv n nl x M) (hp : p < n) (hi : i < nl) (hs : m.src = p) (hM : MI (ab (ent x i)) p (lin x i p) m) (hk : m.kind = 10) (h0 : (ent x i).phase = 3) (ht : m.turn = (ent x i).turn) (ho : m.src = (ent x i).who) :
  Inv n nl ⟨x.cores, x.home.set i (Fq (ent x i)), x.frames⟩ M := by
 have hn := h.n1
 have hb := h.bit i hi
 have hgi := h.gi i hi
 have hla := h.nla i hi
 have hwp : (ent x i).who = p := by rw [← ho]; exact hs
 have hpos : 0 < 2 ^ n := Nat.two_pow_pos n
 unfold Fq
 split
 ·rename_i hal
  refine h.home hi hla ⟨⟨by simp only; omega, by simp only; omega⟩, hb.2⟩ ?_
  exact Rl hgi (h.ci i hi) hp hM hk h0 ht hwp rfl rfl rfl rfl rfl rfl rfl (fun q => rfl) (.inl ⟨(R3 _).2 hal, hwp, fun q => Dz q⟩)
 ·rename_i hal
  refine h.home hi hla ⟨by simp only; rw [hwp]; exact Abn (by omega) hb.1 hp, hb.2⟩ ?_
  refine Rl hgi (h.ci i hi) hp hM hk h0 ht hwp rfl rfl rfl rfl rfl rfl rfl (fun q => rfl) (.inr ⟨(Pg _).2 (by simpa using hal), rfl, fun q => ?_⟩)
  show D5 (G3 (ent x i).sharers (ent x i).who) q = _
  rw [hwp, Pb (J9 (by omega) hb.1) (by omega)]; rfl
theorem Om {p : Nat} {m : Msg} (h : Inv n nl x M) (hp : p < n) (hs : m.src = p) (hd : m.dst = n) (hl : 0 ≤ m.line ∧ m.line < nl) (hr : (0 ≤ m.serial ∧ m.serial ≤ 65535) ∧ (0 ≤ m.turn ∧ m.turn ≤ 65535) ∧ (0 ≤ m.value ∧ m.value ≤ 255)) (hm : MX n x m) :
  Inv n nl ⟨x.cores, (Am x.home n m).1, way x.frames (Am x.home n m).2⟩ M := by
 obtain ⟨i, hi⟩ : ∃ i : Nat, m.line = i := ⟨m.line.toNat, by omega⟩
 have hin : i < nl := by omega
 have hen : Ah x.home m.line = ent x i := by unfold Ah ent; rw [hi, Int.toNat_natCast]
 have hla := h.nla i hin
 have hMI : MI (ab (ent x i)) p (lin x i p) m := by
  unfold MX at hm
  have : Oc n m = p := by unfold Oc; rw [if_pos hd, hs]; simp
  rw [this, hi, Int.toNat_natCast] at hm
  exact hm
 have hsame : x.home.set i (ent x i) = x.home := Em _ _ _ (by rw [h.nh]; exact hin)
 unfold Am
 rw [hen, if_neg (by rw [h.nh, hla]; omega)]
 simp only [hi, Int.toNat_natCast]
 unfold Ad
 by_cases k1 : m.kind = 1 ∨ m.kind = 2
 ·rw [if_pos k1]
  by_cases hc : (ent x i).phase ≠ 0 ∨ m.serial ≤ Fb (ent x i) m.src ∨ 65535 ≤ (ent x i).turn
  ·rw [if_pos hc]; simp only [way]; rw [hsame]; exact h
  ·rw [if_neg hc, hi]
   exact h.homeSays hin (Aec h hp hin hs hr.1 hMI k1 (by omega) (by omega) (by omega))
 rw [if_neg k1]
 by_cases k3 : m.kind = 3
 ·rw [if_pos k3]
  by_cases hc : (ent x i).phase ≠ 0
  ·rw [if_pos hc]; simp only [way]; rw [hsame]; exact h
  ·rw [if_neg hc]
   obtain ⟨hI, hle⟩ := Aeb h hp hin hs hr.1 hr.2.2 hMI k3 (by omega)
   refine hI.way fun m' hm' => ?_
   rw [List.mem_singleton.1 hm', hs, hi]
   refine ⟨Mm h hp hin (by omega) hr.1 (by omega) (by omega), MX.told h hp hin ?_⟩
   constructor <;> simp only <;> intro hk <;> first | omega | exact hle
 rw [if_neg k3]
 by_cases k9 : m.kind = 9 ∧ m.turn = (ent x i).turn ∧ (ent x i).phase = 1 ∧ m.src = (ent x i).owner
 ·rw [if_pos k9, hi]
  exact h.homeSays hin (Yu h hp hin hs hr.2.2 hMI k9.1 k9.2.2.1 k9.2.1 k9.2.2.2)
 rw [if_neg k9]
 by_cases k8 : m.kind = 8 ∧ m.turn = (ent x i).turn ∧ (ent x i).phase = 2 ∧ M0 (ent x i).need m.src = true
 ·rw [if_pos k8]
  have hI := Yt h hp hin hs hMI k8.1 k8.2.2.1 k8.2.1 k8.2.2.2
  by_cases hz : (Ct (ent x i) m).need = 0
  ·rw [if_pos hz] at hI ⊢; rw [hi]; exact h.homeSays hin hI
  ·rw [if_neg hz] at hI ⊢; exact hI
 rw [if_neg k8]
 by_cases k10 : m.kind = 10 ∧ m.turn = (ent x i).turn ∧ (ent x i).phase = 3 ∧ m.src = (ent x i).who
 ·rw [if_pos k10]
  exact S2 h hp hin hs hMI k10.1 k10.2.2.1 k10.2.1 k10.2.2.2
 ·rw [if_neg k10]; simp only [way]; rw [hsame]; exact h
theorem Acc (h : Inv n nl x M) : Ar x = Fv n nl := by unfold Ar Fv A9; rw [h.nc, h.nh]
theorem Ng {p : Nat} : Aq x p = cor x p := by unfold Aq cor; rw [Int.toNat_natCast]
theorem Oo {b : List UInt8} (h : Inv n nl x M) (hb : b.length = 12 ∧ ∀ m, Ae (Fv n nl) b = (m, 0) → MX n x m) :
  ∃ M', Inv n nl (Be x b).1 M' ∧ D9 M (Be x b).2 M' := by
 unfold Be
 rw [Acc h]
 have hnc : A9 x = n := by unfold A9; rw [h.nc]
 rw [hnc]
 by_cases he : (Ae (Fv n nl) b).2 ≠ 0
 ·rw [if_pos he]; exact ⟨M, h, rfl⟩
 rw [if_neg he]
 have hpar : Ae (Fv n nl) b = ((Ae (Fv n nl) b).1, 0) := by
  have : (Ae (Fv n nl) b).2 = 0 := Classical.byContradiction he
  rw [← this]
 have hm := hb.2 _ hpar
 obtain ⟨w1, w2, w3, w4, w5, w6, w7⟩ := Hg (Hk hpar).2.2.2.2.1
 generalize (Ae (Fv n nl) b).1 = m at hm w1 w2 w3 w4 w5 w6 w7 ⊢
 simp only [Fv] at w2 w3 w7
 by_cases hd : m.dst = (n : Int)
 ·rw [if_pos hd]
  have hs : ¬ m.src = (n : Int) := fun hs => w7 ⟨fun _ => hd, fun _ => hs⟩
  obtain ⟨p, hp⟩ : ∃ p : Nat, m.src = p := ⟨m.src.toNat, by omega⟩
  exact ⟨M, Om h (by omega) hp hd w3 ⟨w4, w5, w6⟩ hm, rfl⟩
 ·rw [if_neg hd]
  have hs : m.src = (n : Int) := Classical.byContradiction fun hs => w7 ⟨fun h => absurd h hs, fun h => absurd h hd⟩
  obtain ⟨p, hp⟩ : ∃ p : Nat, m.dst = p := ⟨m.dst.toNat, by omega⟩
  rw [hp, Ng]
  exact Ys h (by omega) hp hs w3 ⟨w4, w5, w6⟩ hm
theorem On {s : Step} (h : Inv n nl x M) (hok : (Al x s).2.2 = 0) : ∃ M', Inv n nl (Al x s).1 M' ∧ D9 M (Al x s).2.1 M' := by
 have hnc : A9 x = n := by unfold A9; rw [h.nc]
 have hcf := Acc h
 unfold Al at hok ⊢
 rw [hnc] at hok ⊢
 rw [hcf] at hok ⊢
 by_cases k1 : s.kind = 1
 ·rw [if_pos k1] at hok ⊢
  split at hok
  ·cases hok
  rename_i hnode
  rw [if_neg hnode]
  obtain ⟨p, hp⟩ : ∃ p : Nat, s.node = p := ⟨s.node.toNat, by omega⟩
  have hpn : p < n := by omega
  rw [hp, Ng] at hok ⊢
  split at hok
  ·rename_i hz; exact absurd hok hz
  rename_i hz
  rw [if_neg hz]
  exact Vn h hpn (Classical.byContradiction hz)
 rw [if_neg k1] at hok ⊢
 by_cases k2 : s.kind = 2
 ·rw [if_pos k2] at hok ⊢
  split at hok
  ·cases hok
  rename_i hf
  rw [if_neg hf]
  exact Oo (h.erase _) (h.mi _ (Kw hf))
 rw [if_neg k2] at hok ⊢
 by_cases k3 : s.kind = 3
 ·rw [if_pos k3] at hok ⊢
  split at hok
  ·cases hok
  rename_i hf
  rw [if_neg hf]
  exact ⟨M, h.erase _, rfl⟩
 rw [if_neg k3] at hok ⊢
 by_cases k4 : s.kind = 4
 ·rw [if_pos k4] at hok ⊢
  split at hok
  ·cases hok
  rename_i hf
  rw [if_neg hf]
  exact ⟨M, h.send (h.mi _ (Kw hf)), rfl⟩
 rw [if_neg k4] at hok ⊢
 by_cases k5 : s.kind = 5
 ·rw [if_pos k5] at hok ⊢
  split at hok
  ·cases hok
  rename_i hf
  rw [if_neg hf]
  split at hok
  ·cases hok
  rename_i hq
  rw [if_neg hq]
  split at hok
  ·rename_i hz; exact absurd hok hz
  rename_i hz
  rw [if_neg hz]
  have hf' : ¬ (s.n < 0 ∨ (x.frames.length : Int) ≤ s.n) := hf
  unfold Bn at hz ⊢
  rw [if_neg hf'] at hz ⊢
  split at hz
  ·exact absurd (show (3 : Int) ≠ 0 by decide) hz
  rename_i hbit
  rw [if_neg hbit]
  exact ⟨M, h.spoil hf' (Classical.byContradiction hq) (by omega) (by omega), rfl⟩
 rw [if_neg k5] at hok ⊢
 by_cases k6 : s.kind = 6
 ·rw [if_pos k6] at hok ⊢
  split at hok
  ·cases hok
  rename_i hnode
  rw [if_neg hnode]
  by_cases hh : s.node = (n : Int)
  ·rw [if_pos hh, hh]; exact ⟨M, Mv h, rfl⟩
  ·rw [if_neg hh]
   obtain ⟨p, hp⟩ : ∃ p : Nat, s.node = p := ⟨s.node.toNat, by omega⟩
   rw [hp, Ng]
   exact ⟨M, Mw h (by omega), rfl⟩
 ·rw [if_neg k6] at hok; cases hok
end
end Go.Proofs.YtiofgjolhbgkiaaGreatDoor
namespace Go.Proofs.YtiofgjolhbgkiaaGreatDoor
open Abs
section
variable {n nl : Nat} {x : Chip} {M : List Int}
theorem E5 {α : Type} (k i : Nat) (a d : α) (h : i < k) : (List.replicate k a).getD i d = a := by
 rw [List.getD_eq_getElem?_getD, List.getElem?_replicate, if_pos h]; rfl
theorem H0 {α : Type} (k i : Nat) (a : α) : (List.replicate k a).getD i a = a := by
 rw [List.getD_eq_getElem?_getD, List.getElem?_replicate]; split <;> rfl
def Gp (n nl : Nat) : Chip := ⟨List.replicate n ⟨List.replicate nl zLine, zOp⟩, List.replicate nl { A3 with last := List.replicate n 0 }, []⟩
theorem Vm (hn : 1 ≤ n ∧ n ≤ 4) (hl : 1 ≤ nl ∧ nl ≤ 4) : Inv n nl (Gp n nl) (List.replicate nl 0) := by
 have hcor : ∀ p, p < n → cor (Gp n nl) p = ⟨List.replicate nl zLine, zOp⟩ := fun p hp => E5 _ _ _ _ hp
 have hlin : ∀ i p, i < nl → p < n → lin (Gp n nl) i p = zLine := by
  intro i p hi hp; unfold lin; rw [hcor p hp]; exact E5 _ _ _ _ hi
 have hent : ∀ i, i < nl → ent (Gp n nl) i = { A3 with last := List.replicate n 0 } := fun i hi => E5 _ _ _ _ hi
 have hpos : 0 < 2 ^ n := Nat.two_pow_pos n
 have hM : ∀ i, (List.replicate nl (0 : Int)).getD i 0 = 0 := fun i => H0 _ _ _
 refine ⟨hn, hl, by simp [Gp], by simp [Gp], ?_, ?_, by simp, ?_, ?_, ?_, ?_, ?_, by simp [Gp], ?_⟩
 ·intro p hp; rw [hcor p hp]; simp
 ·intro i hi; rw [hent i hi]; simp
 ·intro i hi; rw [hM]; omega
 ·intro i hi; rw [hent i hi]; simp only [A3]; omega
 ·intro i hi; rw [hent i hi]
  have h1 : ∀ q, D5 0 q = 0 := fun q => Dz q
  constructor <;> simp only [ab, A3] <;> first | omega | (intro h; omega) | simp
 ·intro i hi p hp
  rw [hent i hi, hlin i p hi hp, hM]
  have h1 : D5 0 p = 0 := Dz p
  have h2 : (List.replicate n (0 : Int)).getD p 0 = 0 := H0 _ _ _
  constructor <;> simp only [ab, A3, zLine] <;> (try rw [h1]) <;> (try rw [h2]) <;> first | omega | simp
 ·intro p hp
  rw [hcor p hp]
  constructor
  ·intro _; exact ⟨rfl, fun i hi => by rw [E5 _ _ _ _ hi]; rfl⟩
  ·intro h; exact absurd rfl h
 ·intro b hb; cases hb
theorem Ty {c : Config} (h : (Bu c).2 = 0) : ∃ n nl : Nat, (1 ≤ n ∧ n ≤ 4) ∧ (1 ≤ nl ∧ nl ≤ 4) ∧ c = Fv n nl ∧ Bu c = (Gp n nl, 0) := by
 unfold Bu at h ⊢
 split at h
 ·cases h
 rename_i hc
 have hc0 : Dy c = 0 := Classical.byContradiction hc
 unfold Dy at hc0
 split at hc0
 ·cases hc0
 rename_i hr
 refine ⟨c.cores.toNat, c.lines.toNat, by omega, by omega, ?_, ?_⟩
 ·unfold Fv; cases c; simp only [Config.mk.injEq]; simp only at hr; omega
 ·rw [if_neg hc]; rfl
theorem I7 {M M' M'' : List Int} : ∀ {a b : List Done}, D9 M a M' → D9 M' b M'' → D9 M (a ++ b) M''
 | [], b, h1, h2 => by rw [show M' = M from h1] at h2; exact h2
 | d :: a, b, ⟨h1, h2, h3, h4, h5⟩, h6 => ⟨h1, h2, h3, h4, I7 h5 h6⟩
theorem Gf : ∀ (l : List Step) {x : Chip} {M : List Int}, Inv n nl x M → ∃ M', Inv n nl (Cd x l).1 M' ∧ D9 M (Cd x l).2 M'
 | [], x, M, h => ⟨M, h, rfl⟩
 | s :: r, x, M, h => by
  simp only [Cd]
  split
  ·rename_i hok
   obtain ⟨M1, h1, d1⟩ := On h hok
   obtain ⟨M2, h2, d2⟩ := Gf r h1
   exact ⟨M2, h2, I7 d1 d2⟩
  ·exact Gf r h
end
set_option maxHeartbeats 1000000
set_option maxRecDepth 8000
variable {L : List Chunk} {R : List Fact} {w : World}
theorem Y0 {α : Type} {l : List α} {d : α} {P : α → Prop} (h : ∀ i, i < l.length → P (l.getD i d)) : ∀ x ∈ l, P x := by
 intro x hx
 obtain ⟨i, hi, rfl⟩ := List.getElem_of_mem hx
 have := h i hi
 rwa [List.getD_eq_getElem?_getD, List.getElem?_eq_getElem hi] at this
section
variable {n nl : Nat} {x : Chip} {M : List Int}
open Abs
theorem Inv.kb (h : Inv n nl x M) {p : Nat} (hp : p < n) : KB (cor x p) := by
 have h1 := h.ncl p hp
 have h2 := h.l1
 refine ⟨by omega, fun i hi => (h.ci i (by omega) p hp).va, by rw [h1]; exact h.cw p hp⟩
theorem Inv.eb (h : Inv n nl x M) {i : Nat} (hi : i < nl) : EB (ent x i) := by
 have hg := h.gi i hi
 have hb := h.bit i hi
 have hn := h.n1
 have b1 := J9 hn.2 hb.1
 have b2 := J9 hn.2 hb.2
 have w : 0 ≤ (ent x i).who ∧ (ent x i).who < 4 := by
  by_cases h0 : (ent x i).phase = 0
  ·have := (hg.idle h0).1; simp only [ab] at this; omega
  ·have := hg.whor h0; simp only [ab] at this; omega
 have o := hg.own; have ph := hg.ph; have tu := hg.tu; have va := hg.va; have se := hg.se
 simp only [ab] at o ph tu va se
 unfold EB Entry.wf An
 omega
theorem Inv.ebd (h : Inv n nl x M) {i : Nat} (hi : i < nl) : ((ent x i).turn ≤ 65535) ∧ (0 ≤ (ent x i).serial ∧ (ent x i).serial ≤ 65535) ∧ (0 ≤ (ent x i).value ∧ (ent x i).value ≤ 255) := by
 have hg := h.gi i hi
 exact ⟨hg.tu.2, hg.se, hg.va⟩
def LB (l : Line) : Prop := (0 ≤ l.value ∧ l.value ≤ 255) ∧ (0 ≤ l.want ∧ l.want ≤ 3) ∧ (0 ≤ l.serial ∧ l.serial ≤ 65535) ∧ (0 ≤ l.gave ∧ l.gave ≤ 65535) ∧ (0 ≤ l.given ∧ l.given ≤ 255) ∧ (0 ≤ l.seen ∧ l.seen ≤ 65535) ∧ (0 ≤ l.state ∧ l.state ≤ 3)
theorem Inv.lb (h : Inv n nl x M) {i p : Nat} (hi : i < nl) (hp : p < n) : LB (lin x i p) := by
 have hc := h.ci i hi p hp
 have ht := (h.gi i hi).tu
 have h1 := hc.ga
 exact ⟨hc.va, hc.wa, hc.se, by omega, hc.gi, by omega, hc.st⟩
end
theorem Ack {l : Line} (h : LB l) {id home i : Int} (h1 : 0 ≤ id ∧ id ≤ 15) (h2 : 0 ≤ home ∧ home ≤ 15) (h3 : 0 ≤ i ∧ i ≤ 255) : MsgIn (Co l id home i) := by
 unfold Co MsgIn; unfold LB at h; simp only; split <;> omega
theorem Kk {kind id home i t v : Int} (h1 : 0 ≤ id ∧ id ≤ 15) (h2 : 0 ≤ home ∧ home ≤ 15) (h3 : 0 ≤ i ∧ i ≤ 255) (hk : 0 ≤ kind ∧ kind ≤ 255) (ht : 0 ≤ t ∧ t ≤ 65535) (hv : 0 ≤ v ∧ v ≤ 255) : MsgIn (Bm kind id home i t v) := by
 unfold Bm MsgIn; simp only; omega
theorem Aas {c : Core} {id home : Int} {o : Op} (h1 : 0 ≤ id ∧ id ≤ 15) (h2 : 0 ≤ home ∧ home ≤ 15) (hl : c.lines.length ≤ 4) (hb : ∀ i, i < c.lines.length → LB (c.lines.getD i zLine)) : ∀ m ∈ (Ak c id home o).2.1, MsgIn m := by
 unfold Ak
 split
 ·intro m hm; cases hm
 split
 ·intro m hm; cases hm
 split
 ·intro m hm; cases hm
 rename_i k1 k2 k3
 split
 ·intro m hm; cases hm
 ·intro m hm
  rw [List.mem_singleton.1 hm]
  have hL : LB (Bq c o.line) := hb o.line.toNat (by omega)
  refine Ack ?_ h1 h2 (by omega)
  unfold LB at hL ⊢
  unfold A6
  split
  ·split <;> simp only <;> omega
  split
  ·exfalso
   rename_i h3 h4 h5
   apply h3
   unfold By
   rw [if_neg h4]
   simp; omega
  ·split <;> simp only <;> omega
theorem Aeh {c : Core} {id home : Int} {m : Msg} (h1 : 0 ≤ id ∧ id ≤ 15) (h2 : 0 ≤ home ∧ home ≤ 15) (hl : c.lines.length ≤ 4) (hb : ∀ i, i < c.lines.length → LB (c.lines.getD i zLine)) (ht : 0 ≤ m.turn ∧ m.turn ≤ 65535) : ∀ a ∈ (Ac c id home m).2.1, MsgIn a := by
 unfold Ac
 split
 ·exact Zdw
 rename_i k1
 have hL : LB (Bq c m.line) := hb m.line.toNat (by omega)
 have h3 : 0 ≤ m.line ∧ m.line ≤ 255 := by omega
 unfold LB at hL
 split
 ·exact Zdg
 split
 ·split
  ·exact Zdg
  split
  ·intro a ha; rw [List.mem_singleton.1 ha]; exact Kk h1 h2 h3 (by omega) (by omega) (by omega)
  ·exact Zdw
 split
 ·split
  ·exact Zdw
  split
  ·exact Zdg
  ·exact Zdg
 split
 ·exact Zdw
 ·exact Zdw
theorem says_in {e : Entry} {i id : Int} (he : EB e) (ht : e.turn ≤ 65535) (hs : 0 ≤ e.serial ∧ e.serial ≤ 65535) (hv : 0 ≤ e.value ∧ e.value ≤ 255) (hp : e.phase = 1 → 0 ≤ e.owner) (hi : 0 ≤ i ∧ i ≤ 255) (hd : 0 ≤ id ∧ id ≤ 15) : ∀ a ∈ Ib e i id, MsgIn a := by
 unfold Ib
 unfold EB at he
 split
 ·rename_i h1
  have := hp h1
  intro a ha; rw [List.mem_singleton.1 ha]; unfold MsgIn; simp only; split <;> omega
 split
 ·intro a ha
  obtain ⟨p, hp, rfl⟩ := List.mem_map.1 ha
  have h4 := (List.mem_filter.1 hp).1
  have : 0 ≤ p ∧ p ≤ 3 := by
   simp only [List.mem_cons, List.not_mem_nil, or_false] at h4; omega
  unfold MsgIn; simp only; omega
 split
 ·exact ZdY
 ·exact Zdw
theorem Mt {e : Entry} : (C7 e).phase = 1 → 0 ≤ (C7 e).owner := by
 unfold C7; split
 ·intro _; assumption
 split
 ·intro h; simp at h
 ·intro h; simp at h
theorem Jk (e : Entry) : (C7 e).turn = e.turn ∧ (C7 e).serial = e.serial ∧ (C7 e).value = e.value ∧ (C7 e).owner = e.owner ∧ (C7 e).last = e.last := by
 unfold C7; split
 ·simp
 split <;> simp
theorem P7 {l : List Entry} {id : Int} {m : Msg} (hd : 0 ≤ id ∧ id ≤ 15) (hl : l.length ≤ 4) (hb : ∀ i, i < l.length → EB (l.getD i A3) ∧ (l.getD i A3).turn ≤ 65535 ∧ (0 ≤ (l.getD i A3).serial ∧ (l.getD i A3).serial ≤ 65535) ∧ (0 ≤ (l.getD i A3).value ∧ (l.getD i A3).value ≤ 255) ∧ (l.getD i A3).last.length ≤ 4)
  (hs : 0 ≤ m.serial ∧ m.serial ≤ 65535) (hv : 0 ≤ m.value ∧ m.value ≤ 255) : ∀ a ∈ (Am l id m).2, MsgIn a := by
 unfold Am
 split
 ·exact Zdw
 rename_i k
 obtain ⟨h1, h2, h3, h4, h5⟩ := hb m.line.toNat (by omega)
 change EB (Ah l m.line) at h1
 change (Ah l m.line).turn ≤ 65535 at h2
 change 0 ≤ (Ah l m.line).serial ∧ (Ah l m.line).serial ≤ 65535 at h3
 change 0 ≤ (Ah l m.line).value ∧ (Ah l m.line).value ≤ 255 at h4
 change (Ah l m.line).last.length ≤ 4 at h5
 have hi : 0 ≤ m.line ∧ m.line ≤ 255 := by omega
 have hE := h1
 unfold EB Entry.wf An at hE
 simp only
 generalize Ah l m.line = e at h1 h2 h3 h4 h5 hE k
 unfold Ad
 split
 ·split
  ·exact Zdw
  ·rename_i k2
   have hX : EB { e with last := e.last.set m.src.toNat m.serial, who := m.src, serial := m.serial, alone := m.kind == 2, turn := e.turn + 1 } := by unfold EB Entry.wf An; simp only; omega
   have hr := Jk { e with last := e.last.set m.src.toNat m.serial, who := m.src, serial := m.serial, alone := m.kind == 2, turn := e.turn + 1 }
   simp only at hr
   unfold O0
   exact says_in (F7 hX) (by rw [hr.1]; omega) (by rw [hr.2.1]; exact hs) (by rw [hr.2.2.1]; exact h4) Mt hi hd
 split
 ·split
  ·exact Zdw
  ·exact ZdY
 split
 ·rename_i k3
  have hs4 : 0 ≤ (if e.alone = true then e.sharers else G3 e.sharers e.owner) ∧ (if e.alone = true then e.sharers else G3 e.sharers e.owner) < 16 := by
   split
   ·omega
   ·obtain ⟨_, _, r, _⟩ := Er hE.2.1.1 hE.2.1.2 (show 0 ≤ e.owner by omega) hE.2.2.2.2.1.2; exact r
  have hX : EB { e with value := m.value, sharers := if e.alone then e.sharers else G3 e.sharers e.owner, owner := -1 } := by
   exact Zd9
  have hr := Jk { e with value := m.value, sharers := if e.alone then e.sharers else G3 e.sharers e.owner, owner := -1 }
  simp only at hr
  unfold Ii
  exact says_in (F7 hX) (by rw [hr.1]; exact h2) (by rw [hr.2.1]; exact h3) (by rw [hr.2.2.1]; exact hv) Mt hi hd
 split
 ·split
  ·have c1 := (Er hE.2.1.1 hE.2.1.2 (show 0 ≤ m.src by omega) (show m.src < 4 by omega)).2.2.2
   have c2 := (Er hE.2.2.1.1 hE.2.2.1.2 (show 0 ≤ m.src by omega) (show m.src < 4 by omega)).2.2.2
   have hX : EB (Ct e m) := by
    unfold Ct EB Entry.wf An; simp only; omega
   have hr := Jk (Ct e m)
   exact says_in (F7 hX) (by rw [hr.1]; exact h2) (by rw [hr.2.1]; exact h3) (by rw [hr.2.2.1]; exact h4) Mt hi hd
  ·exact Zdw
 split
 ·exact Zdw
 ·exact Zdw
theorem Qv {id home : Int} (h1 : 0 ≤ id ∧ id ≤ 15) (h2 : 0 ≤ home ∧ home ≤ 15) : ∀ (l : List Line) (i : Int), 0 ≤ i → i + l.length ≤ 256 → (∀ x ∈ l, LB x) → ∀ a ∈ Bx id home i l, MsgIn a
 | [], _, _, _, _ => fun a ha => by cases ha
 | x :: l, i, h0, hn, hb => by
  intro a ha
  simp only [List.length_cons] at hn
  have ih := Qv h1 h2 l (i + 1) (by omega) (by omega) (fun y hy => hb y (.tail _ hy))
  simp only [Bx] at ha
  split at ha
  ·rcases List.mem_cons.1 ha with e | e
   ·rw [e]; exact Ack (hb x (.head _)) h1 h2 (by omega)
   ·exact ih a e
  ·exact ih a ha
theorem Lw : ∀ (a b : List Msg) (f : Frames), way f (a ++ b) = way (way f a) b
 | [], _, _ => rfl
 | _ :: a, b, _ => Lw a b _
theorem Ix (id : Int) : ∀ (l : List Entry) (i : Int) (x : Entry), C4 id i (l ++ [x]) = C4 id i l ++ Ib x (i + l.length) id
 | [], i, x => by simp [C4]
 | a :: l, i, x => by
  have ih := Ix id l (i + 1) x
  have e : i + 1 + (l.length : Int) = i + ((a :: l).length : Int) := by simp only [List.length_cons]; omega
  rw [e] at ih
  simp only [List.cons_append, C4, ih, List.append_assoc]
theorem Iw {α : Type} {l : List α} {i : Nat} {d : α} : l.set i (l.getD i d) = l := by
 by_cases h : i < l.length
 ·rw [List.getD_eq_getElem?_getD, List.getElem?_eq_getElem h]; exact List.set_getElem_self h
 ·exact List.set_eq_of_length_le (by omega)
theorem q_mx {P : Program} {n : Nat} {L : List Chunk} {R : List Fact} {al : List (Nat × Value)} {d : Nat} {x : Operand} {T ty : TypeId} {pos : String} {aft : Array Edge} {a : Int} (hx : ev n al x = some (vi a)) (h0 : 0 ≤ a) : Ao P n al L R ⟨some d, .call { callee := .builtin .max, args := #[x, .const (.int .i64 0)], argTypes := #[T, T] }, ty, pos, aft, none⟩ (vi a) :=
 ⟨rfl, fun ρ w h _ => by
  have hx' := h x (by simp [Op.operands, Call.operands]) _ hx
  have hc' := h (.const (.int .i64 0)) (by simp [Op.operands, Call.operands]) _ rfl
  simp [execOp, resolve, invoke, builtin, hx', hc', Builtin.max_, Builtin.max2, show ¬ (a < 0) from by omega]⟩
theorem Afh {a : Int} (hs : St (L) R w) (h0 : 0 ≤ a) (h1 : a ≤ 16777216) : Calls Tryz.prog 83 [vi a].toArray w (Bh (fun v : Value => v) (fun v => row 3 v (List.replicate a.toNat (0 : Int)) :: L) (fun v => R)) := by
 refine Ag Tryz.func83 rfl Tryz.ntmps83 rfl hs ?_
 clear hs
 refine Zaz ?_
 refine ob (q_mx (a := a) rfl h0) ?_
 refine U0 (α := Int) (x0 := 0) (zc := [vi 0]) Oz rfl (by decide) rfl rfl rfl (fun j => ⟨rfl, by unfold An; omega⟩) h0 h1 ?_; intro v5
 refine Ga1 ?_
 exact Bz v5
theorem Afi {v0 : Value} {m : List Int} {o : Op} (hs : St (L) R w) (h0 : sl v0 m ∈ R) : Calls Tryz.prog 84 [v0, .agg o.cells.toArray].toArray w (Bh (fun v : Value => .tuple #[v, vi (Ds m o).2.1, vi (Ds m o).2.2]) (fun v => L) (fun v => sl v (Ds m o).1 :: R)) := by
 have hlen := Bv h0 hs
 refine Ag Tryz.func84 rfl Tryz.ntmps84 rfl hs ?_
 clear hs
 refine Gm ?_
 refine bx ?_; intro b3
 refine Ga3 ?_
 rcases (show (o.kind < 1) ∨ (¬ o.kind < 1 ∧ 4 < o.kind) ∨ (1 ≤ o.kind ∧ o.kind ≤ 4) from by omega) with hc | hc | hc
 ·refine Zay ?_
  refine Gd6 ?_
  exact ZdI
 ·refine ZaV ?_
  refine Gd2 ?_
  exact ZdI
 ·refine Zah ?_
  refine Gc2 ?_
  rcases (show (o.line < 0) ∨ (0 ≤ o.line ∧ (m.length : Int) ≤ o.line) ∨ (0 ≤ o.line ∧ o.line < (m.length : Int) ∧ o.value < 0) ∨ (0 ≤ o.line ∧ o.line < (m.length : Int) ∧ 255 < o.value) ∨ (0 ≤ o.line ∧ o.line < (m.length : Int) ∧ 0 ≤ o.value ∧ o.value ≤ 255) from by omega) with hc | hc | hc | hc | hc
  ·refine Zay ?_
   refine Gc18 ?_
   exact ZdE
  ·refine ZA ?_
   refine Bj ?_
   refine Zac ?_
   refine J8 ?_
   refine Gc12 ?_
   exact ZdE
  ·refine ZA ?_
   refine Bj ?_
   refine Zac ?_
   refine Eo ?_
   refine ZF ?_
   refine Fm ?_
   refine Gc7 ?_
   exact ZdE
  ·refine ZA ?_
   refine Bj ?_
   refine Zac ?_
   refine Eo ?_
   refine Za4 ?_
   refine J7 ?_
   refine Gc2 ?_
   exact ZdE
  ·refine ZA ?_
   refine Bj ?_
   refine Zac ?_
   refine Eo ?_
   refine Zat ?_
   refine Gc2 ?_
   refine JC.rowNil 3 Int ?_
   refine kp [0, 3, 4, 5, 6, 7, 39, 40] ?_
   refine ZB ?_
   refine ap Oz (hb := fun w hs => by have := Bv h0 hs; have : maxN = 16777216 := rfl; simp; omega) (k := ?_); intro v40
   refine Ga1 ?_
   refine JC.open0 (xs := m) (v := v0) o.line.toNat mm (by omega) (fun hw => ?_)
   have hw9 : An (m.getD o.line.toNat 0) := hw
   refine Aa ?_
   refine Gb6 ?_
   refine Ga2 ?_
   rcases (show (o.kind = 1) ∨ (o.kind = 2) ∨ (o.kind = 3) ∨ (o.kind = 4) from by omega) with hc | hc | hc | hc
   ·refine Aa ?_
    refine Df ?_
    refine Gd1 ?_
    refine Ga5 ?_
    have er : Ds m o = (m, m.getD o.line.toNat 0, 0) := by unfold Ds; rw [if_neg (by omega), if_neg (by omega), opv1 hc]; exact congrArg (·, _) Iw
    exact Zdk
   ·refine Aa ?_
    refine ZD ?_
    refine Df ?_
    refine Gd1 ?_
    refine rn6 ?_
    refine F9 (xs := m) Tryz.sizeOf3 rfl rfl pkk (getD_some 0 (by omega)) (by unfold An at hw9 ⊢; omega) ?_
    refine Gm ?_
    refine Ga4 ?_
    have er : Ds m o = ((m.set o.line.toNat o.value), 0, 0) := by unfold Ds; rw [if_neg (by omega), if_neg (by omega), opv2 hc]
    exact Zdk
   ·refine Aa ?_
    refine Zas ?_
    refine Gd1 ?_
    refine rn6 ?_
    refine ob (Fl (a := m.getD o.line.toNat 0) (b := o.value) b_addw) ?_
    refine ob (Fl (b := 255) Aba) ?_
    rw [R5]
    refine rn1 ?_
    refine F9 (xs := m) Tryz.sizeOf3 rfl rfl pkk (getD_some 0 (by omega)) (by unfold An at hw9 ⊢; omega) ?_
    refine Gm ?_
    refine Ga5 ?_
    have er : Ds m o = ((m.set o.line.toNat ((m.getD o.line.toNat 0 + o.value) % 256)), m.getD o.line.toNat 0, 0) := by unfold Ds; rw [if_neg (by omega), if_neg (by omega), opv3 hc]
    exact Zdk
   ·refine Aa ?_
    refine ZD ?_
    refine ZD ?_
    refine ZD ?_
    refine Ga4 ?_
    have er : Ds m o = (m, 0, 0) := by unfold Ds; rw [if_neg (by omega), if_neg (by omega), opv4 hc]; exact congrArg (·, _) Iw
    exact Zdk
theorem Tu {v0 : Value} {xs : List Line} (hs : St (L) R w) (h0 : sl v0 xs ∈ R) : Calls Tryz.prog 81 [v0].toArray w (Bh (fun v : Value => v) (fun v => row 120 v xs :: L) (fun v => R)) := by
 refine Ag Tryz.func81 rfl Tryz.ntmps81 rfl hs ?_
 clear hs
 refine Zaz ?_
 refine ob (Adl Tryz.underlying91 (D8 h0)) ?_
 refine Gl ?_
 refine Cb (b := ?b1) ?e1 ?_ ?_; case e1 => exact rfl
 ·intro ht4
  refine JC.nilOf ht4 h0 (fun hx => ?_)
  refine ZC ?_
  exact Bz (.slice none 0 0) (hs := fun w hs => by rw [hx]; exact Af (hs.rowNil 120 Line))
 ·intro ht4
  refine Gm ?_
  refine liO ([] : List Line) Afm rfl (fun j h => Ux) ?_; intro v5
  refine rn1 ?_
  refine ap Afm (hb := fun w hs => by have := Bv h0 hs; have : maxN = 16777216 := rfl; simp; omega) (k := ?_); intro v7
  refine Ga1 ?_
  exact Bz v7
theorem Wt {v0 : Value} {xs : List Int} (hs : St (L) R w) (h0 : sl v0 xs ∈ R) : Calls Tryz.prog 79 [v0].toArray w (Bh (fun v : Value => v) (fun v => row 3 v xs :: L) (fun v => R)) := by
 refine Ag Tryz.func79 rfl Tryz.ntmps79 rfl hs ?_
 clear hs
 refine Zaz ?_
 refine ob (Adl Tryz.underlying107 (D8 h0)) ?_
 refine Gl ?_
 refine Cb (b := ?b1) ?e1 ?_ ?_; case e1 => exact rfl
 ·intro ht4
  refine JC.nilOf ht4 h0 (fun hx => ?_)
  refine ZC ?_
  exact Bz (.slice none 0 0) (hs := fun w hs => by rw [hx]; exact Af (hs.rowNil 3 Int))
 ·intro ht4
  refine Gm ?_
  refine liO ([] : List Int) Oz rfl (fun j h => Ux) ?_; intro v5
  refine rn1 ?_
  refine ap Oz (hb := fun w hs => by have := Bv h0 hs; have : maxN = 16777216 := rfl; simp; omega) (k := ?_); intro v7
  refine Ga1 ?_
  exact Bz v7
def pr (p : Prop) : Fact := ⟨fun _ => p, fun _ _ _ h => h⟩
theorem St.pr {p : Prop} (h : p) (hs : St L R w) : St L (pr p :: R) w := by
 obtain ⟨m, j, hd, hm, hj, hst, hr⟩ := hs
 exact ⟨m, j, hd, hm, hj, hst, fun q hq => by
  rcases List.mem_cons.1 hq with e | e
  ·rw [e]; exact h
  ·exact hr q e⟩
theorem Ga {p : Prop} (hm : pr p ∈ R) (hs : St L R w) : p := hs.fact hm
theorem Hs {P : Program} {γ δ : Type} {f : FuncId} {args : Array Value} {w : World} {val : γ → Value} {val2 : δ → Value} {L : γ → List Chunk} {R : γ → List Fact} {L2 : δ → List Chunk} {R2 : δ → List Fact} (h : Calls P f args w (Bh val L R)) (hk : ∀ g w', St (L g) (R g) w' → ∃ d, val g = val2 d ∧ St (L2 d) (R2 d) w') : Calls P f args w (Bh val2 L2 R2) := by
 refine h.mono ?_
 rintro e w' ⟨g, rfl, hs'⟩
 obtain ⟨d, h1, h2⟩ := hk g w' hs'
 exact ⟨d, by rw [h1], h2⟩
structure EV where
 e : Entry
 u : Value
instance instEncEV : Enc EV where
 sz := 10
 rd x cs _ := cs = x.e.cells x.u ∧ x.e.wf ∧ x.u.oneCell' = true
 mono _ _ _ _ _ h := h
 len x cs _ h := by rw [h.1]; rfl
 one x cs _ h := by have := h.2.2; rw [h.1]; simp [Entry.cells, Value.oneCell'] at this ⊢; exact this
def Hy (x : EV) : Chunk := row 3 x.u x.e.last
def Yk (x : EV) : Fact := sl x.u x.e.last
theorem Jl {L : List Chunk} {w : World} : ∀ (l : List EV) {R : List Fact}, St (l.map Hy ++ L) R w → St L (l.map Yk ++ R) w
 | [], _, hs => hs
 | x :: l, R, hs => by
  have h1 : St (row 3 x.u x.e.last :: (l.map Hy ++ L)) R w := hs
  have h2 := Jl l h1.shut
  exact h2.sub .refl (fun f hf => by
   simp only [List.map_cons, List.cons_append, List.mem_append, List.mem_cons] at hf ⊢
   rcases hf with e | e | e
   ·exact .inr (.inl e)
   ·exact .inl e
   ·exact .inr (.inr e))
theorem U5 {α : Type} : ∀ (l : List α) (i : Nat) (hi : i < l.length), l.Perm (l[i] :: l.eraseIdx i)
 | x :: l, 0, _ => .refl _
 | x :: l, i + 1, hi => ((U5 l i (by simpa using hi)).cons x).trans (.swap ..)
theorem Yj {l : List EV} {i : Nat} (hi : i < l.length) (hs : St (l.map Hy ++ L) R w) : St (Hy l[i] :: ((l.eraseIdx i).map Hy ++ L)) R w := by
 refine hs.perm ?_
 have h := (U5 l i hi).map Hy
 exact h.append_right L
theorem Sn {T : TypeId} {v : Value} {l : List EV} {i : Nat} (hi : i < l.length) (hf : ∀ (k : Nat) x, k ≠ i → l[k]? = some x → Yk x ∈ R) (hs : St (row T v l :: L) R w) : St (foc T v (l.map EV.e) i (Entry.cells l[i].u l[i].e) :: L) R w := by
 obtain ⟨m, j, hd, hm, hj, ⟨m1, m2, hd', h1, h2, hc, hst⟩, hr⟩ := hs
 obtain ⟨rs, r1, r2, r3⟩ := Jf hc
 have hir : i < rs.length := by rw [r2]; exact hi
 refine ⟨m, j, hd, hm, hj, ⟨m1, m2, hd', h1, h2, ⟨rs, r1, by rw [r2]; simp, ⟨rs[i], List.getElem?_eq_getElem hir, ?_⟩, fun k e r hk he hkr => ?_⟩, hst⟩, hr⟩
 ·exact (r3 i l[i] rs[i] (List.getElem?_eq_getElem hi) (List.getElem?_eq_getElem hir)).1
 ·rw [List.getElem?_map] at he
  obtain ⟨x, hx, hxe⟩ := Option.map_eq_some_iff.1 he
  have h3 := r3 k x r hx hkr
  refine ⟨x.u, ?_, ?_, ?_⟩
  ·rw [← hxe]; exact h3.1
  ·rw [← hxe]; exact hr _ (hf k x hk hx)
  ·rw [← hxe]; exact h3.2.1
theorem So {T : TypeId} {v : Value} {l : List EV} (hf : ∀ x ∈ l, Yk x ∈ R) (hs : St (row T v l :: L) R w) : St (row T v (l.map EV.e) :: L) R w := by
 obtain ⟨m, j, hd, hm, hj, ⟨m1, m2, hd', h1, h2, hc, hst⟩, hr⟩ := hs
 obtain ⟨rs, r1, r2, r3⟩ := Jf hc
 refine ⟨m, j, hd, hm, hj, ⟨m1, m2, hd', h1, h2, Pq (xs := l.map EV.e) (rs := rs) r1 (by rw [r2]; simp) (fun k e r he hkr => ?_), hst⟩, hr⟩
 exact Zdd
theorem Lb {v : Value} {l : List EV} (hs : St (row 109 v l :: (l.map Hy ++ L)) R w) : St L (sl v (l.map EV.e) :: R) w := by
 have h1 : St (l.map Hy ++ (row 109 v l :: L)) R w := hs.perm List.perm_middle.symm
 have h2 := So (fun x hx => List.mem_append.2 (.inl (List.mem_map.2 ⟨x, hx, rfl⟩))) (Jl l h1)
 exact h2.shut.sub .refl (fun f hf => by
  rcases List.mem_cons.1 hf with e | e
  ·exact List.mem_cons.2 (.inl e)
  ·exact List.mem_cons.2 (.inr (List.mem_append.2 (.inr e))))
theorem Ih {v : Value} {l : List EV} {es : List Entry} (i : Nat) (he : l.map EV.e = es) (hi : i < es.length) (hs : St (row 109 v l :: (l.map Hy ++ L)) R w) : ∃ u, (es.getD i A3).wf ∧ u.oneCell' = true ∧ St (foc 109 v es i (Entry.cells u (es.getD i A3)) :: row 3 u (es.getD i A3).last :: L) R w := by
 subst he
 have hil : i < l.length := by simpa using hi
 have e1 : (l.map EV.e).getD i A3 = l[i].e := by rw [List.getD_eq_getElem?_getD, List.getElem?_map, List.getElem?_eq_getElem hil]; rfl
 refine ⟨l[i].u, ?_⟩
 rw [e1]
 have hw : l[i].e.wf ∧ l[i].u.oneCell' = true := by
  obtain ⟨m, j, hd, hm, hj, ⟨m1, m2, hd', h1, h2, hc, hst⟩, hr⟩ := hs
  obtain ⟨rs, r1, r2, r3⟩ := Jf hc
  exact (r3 i l[i] rs[i] (List.getElem?_eq_getElem hil) (List.getElem?_eq_getElem (by rw [r2]; exact hil))).2
 refine ⟨hw.1, hw.2, ?_⟩
 have h1 : St (l.map Hy ++ (row 109 v l :: L)) R w := hs.perm List.perm_middle.symm
 have h2 := Yj hil h1
 have h3 : St ((l.eraseIdx i).map Hy ++ (Hy l[i] :: row 109 v l :: L)) R w := h2.perm List.perm_middle.symm
 have h4 := Jl _ h3
 have h5 : St (row 109 v l :: Hy l[i] :: L) ((l.eraseIdx i).map Yk ++ R) w := h4.perm (.swap ..)
 have h6 := Sn hil (fun k x hk hx => List.mem_append.2 (.inl (List.mem_map.2 ⟨x, ?_, rfl⟩))) h5
 ·exact h6.sub .refl (fun f hf => List.mem_append.2 (.inr hf))
 ·obtain ⟨hkl, hkx⟩ := List.getElem?_eq_some_iff.1 hx
  rw [← hkx]
  exact List.mem_eraseIdx_iff_getElem.2 ⟨k, hkl, hk, rfl⟩
theorem Gr {v0 : Value} {l : List Entry} (hs : St (L) R w) (h0 : sl v0 l ∈ R) : Calls Tryz.prog 52 [v0].toArray w (Bh (fun g : Value × List EV => g.1) (fun g => row 109 g.1 g.2 :: (g.2.map Hy ++ L)) (fun g => pr (g.2.map EV.e = l) :: R)) := by
 have hlen := Bv h0 hs
 refine Ag Tryz.func52 rfl Tryz.ntmps52 rfl hs ?_
 clear hs
 refine ZJ ?_
 refine Gb1 ?_
 refine Ga3 ?_
 refine JC.rowNil 109 EV ?_
 refine Cn (γ := Nat × Value × List EV) (fun g => g.1 ≤ l.length ∧ g.2.2.map EV.e = l.take g.1) (fun g => row 109 g.2.1 g.2.2 :: (g.2.2.map Hy ++ L)) (fun _ => R) (fun g => [(3, g.2.1), (6, v0), (7, vi (l.length : Int)), (8, vi (g.1 : Int))]) (fun g => l.length - g.1) (0, .slice none 0 0, []) ⟨Nat.zero_le _, by simp⟩ alT (fun w hs => hs) ?_
 rintro ⟨k, vs, xs⟩ ⟨hk, hx⟩
 try simp only at hk hx ⊢
 have hxl : xs.length = k := by
  have := congrArg List.length hx
  simp at this; omega
 refine ZC ?_
 refine cdy ?_ ?_
 ·intro ht9
  refine Gl ?_
  refine JC.open1 (xs := l) (v := v0) k mm (by omega) (fun hwE u => ?_)
  refine JC.know (p := u.oneCell' = true) (fun w hs => isSlice.one (hs.fact (.tail _ (.head _)))) (fun honeu => ?_)
  refine ZA ?_
  refine al_ (cs := zEC) Tryz.zeroValue109 ?_; intro b5
  refine s_B (cs := Entry.cells u (l.getD k A3)) Tryz.sizeOf109 ?_
  refine ZP ?_
  refine Aj Tryz.call79 rfl (fun w hs => Wt (xs := (l.getD k A3).last) hs mm) ?_; intro v14
  refine J.know (p := v14.oneCell' = true) (fun w hs => A8 .hd hs) (fun honev => ?_)
  refine rn1 ?_
  refine ZH ?_
  refine rn2 ?_
  refine li (α := EV) [⟨(l.getD k A3), v14⟩] Z2 rfl (fun j hj => ⟨⟨_, rfl, rfl, hwE, honev⟩, trivial⟩) ?_; intro v18
  refine ap Z2 (hb := fun w hs => by have : maxN = 16777216 := rfl; simp only [List.length_cons, List.length_nil]; omega) (k := ?_); intro v19
  refine ZK ?_
  refine Br (k + 1, v19, xs ++ [⟨(l.getD k A3), v14⟩]) ⟨by show k + 1 ≤ l.length; omega, by rw [List.map_append, hx, J4 A3 (by omega)]; rfl⟩ (by show l.length - (k + 1) < l.length - k; omega) alT (fun w hs => ?_)
  try simp only
  have h9 : St (row 109 v19 (xs ++ [⟨(l.getD k A3), v14⟩]) :: row 3 v14 (l.getD k A3).last :: (xs.map Hy ++ L)) R w := Af hs
  refine h9.perm (.cons _ ?_)
  rw [List.map_append, List.append_assoc]
  exact List.perm_middle.symm
 ·intro ht9
  refine ZE ?_
  have hkl : k = l.length := by omega
  rw [hkl, List.take_length] at hx
  exact Bz (vs, xs) (hs := fun w hs => St.pr hx (Af hs))
theorem Rj {v0 : Value} {l : List Entry} (hs : St (L) R w) (h0 : sl v0 l ∈ R) : Calls Tryz.prog 52 [v0].toArray w (Bh (fun v : Value => v) (fun _ => L) (fun v => sl v l :: R)) :=
 Hs (Gr hs h0) (fun g w' hs' => ⟨g.1, rfl, by
  have h1 : g.2.map EV.e = l := Ga (.head _) hs'
  have h2 := Lb hs'
  rw [h1] at h2
  exact h2.sub .refl (fun f hf => by
   rcases List.mem_cons.1 hf with e | e
   ·exact List.mem_cons.2 (.inl e)
   ·exact List.mem_cons.2 (.inr (.tail _ e)))⟩)
def Iq (s : Int) : Int := if s = 0 then 0 else if s < 2 then 1 else if s < 4 then 2 else if s < 8 then 3 else 4
theorem q_ixS {P : Program} {n : Nat} {L : List Chunk} {R : List Fact} {al : List (Nat × Value)} {d : Nat} {x y : Operand} {T ty : TypeId} {pos : String} {aft : Array Edge} {s : ByteArray} {k : IntKind} {i : Int} {b : UInt8} (ht : P.underlying T = some .string) (hx : ev n al x = some (.string s)) (hy : ev n al y = some (.int k i)) (h0 : 0 ≤ i) (hb : s[i.toNat]? = some b) : Ao P n al L R ⟨some d, .index T x y, ty, pos, aft, none⟩ (vb b) :=
 ⟨rfl, fun ρ w h _ => by
  show (Instr.index T (ρ x) (ρ y) >>= fun v => Pure.pure (Next.value v)).run P w = _
  rw [h x (by simp [Op.operands]) _ hx, h y (by simp [Op.operands]) _ hy]
  simp [Instr.index, asIntOf, Ci ht, h0, hb]⟩
theorem len64 {s : Int} (hs : St (L) R w) (h0 : 0 ≤ s) (h1 : s < 16) : Calls Tryz.prog 114 [.int .u64 s].toArray w (Bh (fun _ : Unit => vi (Iq s)) (fun _ => L) (fun _ => R)) := by
 refine Ag Tryz.func114 rfl Tryz.ntmps114 rfl hs ?_
 clear hs
 refine Zaz ?_
 refine Eo ?_
 refine Zaw ?_
 refine Eo ?_
 refine Zaw ?_
 refine Eo ?_
 refine Gmc ?_
 refine rn2 ?_
 refine ob (Au (v := .int .u8 s) Tryz.underlying165 Tryz.underlying5 rfl (by rcases (show s = 0 ∨ s = 1 ∨ s = 2 ∨ s = 3 ∨ s = 4 ∨ s = 5 ∨ s = 6 ∨ s = 7 ∨ s = 8 ∨ s = 9 ∨ s = 10 ∨ s = 11 ∨ s = 12 ∨ s = 13 ∨ s = 14 ∨ s = 15 by omega) with h | h | h | h | h | h | h | h | h | h | h | h | h | h | h | h <;> subst h <;> rfl)) ?_
 refine ob (q_ixS (b := u8 (Iq s)) Tryz.underlying9 rfl rfl h0 (by rcases (show s = 0 ∨ s = 1 ∨ s = 2 ∨ s = 3 ∨ s = 4 ∨ s = 5 ∨ s = 6 ∨ s = 7 ∨ s = 8 ∨ s = 9 ∨ s = 10 ∨ s = 11 ∨ s = 12 ∨ s = 13 ∨ s = 14 ∨ s = 15 by omega) with h | h | h | h | h | h | h | h | h | h | h | h | h | h | h | h <;> subst h <;> kernel_rfl)) ?_
 refine ob (Au (v := vi (Iq s)) Tryz.underlying5 Tryz.underlying3 rfl (by rcases (show s = 0 ∨ s = 1 ∨ s = 2 ∨ s = 3 ∨ s = 4 ∨ s = 5 ∨ s = 6 ∨ s = 7 ∨ s = 8 ∨ s = 9 ∨ s = 10 ∨ s = 11 ∨ s = 12 ∨ s = 13 ∨ s = 14 ∨ s = 15 by omega) with h | h | h | h | h | h | h | h | h | h | h | h | h | h | h | h <;> subst h <;> rfl)) ?_
 refine ob (Su (a := 0) (b := Iq s) (by exact rfl) (by exact rfl) (by unfold Iq; omega) (by unfold Iq; omega)) ?_
 rw [Int.zero_add]
 refine Ga1 ?_
 exact Bz ()
theorem Agj {s : Int} (hs : St (L) R w) (h0 : 0 ≤ s) (h1 : s < 16) : Calls Tryz.prog 112 [.int .u64 s].toArray w (Bh (fun _ : Unit => vi (Iq s)) (fun _ => L) (fun _ => R)) := by
 refine Ag Tryz.func112 rfl Tryz.ntmps112 rfl hs ?_
 clear hs
 refine Gm ?_
 refine Zav ?_
 refine Aj Tryz.call114 rfl (fun w hs => len64 hs h0 h1) ?_; intro _
 refine Ga1 ?_
 exact Bz ()
section
variable {P : Program} {n : Nat} {Q : Exit → Act → World → Prop} {Sh : Rho → (Nat → Bool) → List Chunk} {R0 : List Fact} {al0 : List (Nat × Value)}
variable {ops : Array Oper} {i : Nat} {rest : List Oper} {its : List Item} {d : Nat} {x y : Operand} {T ty : TypeId} {pos : String} {aft : Array Edge}
theorem V5 {γ : Type} [Gh γ] {val : γ → Value} {F : γ → List Fact} {C : γ → List Chunk} {f : FuncId} {args : List Operand} {ts : Array TypeId} {vs : Rho → List Value} (hf : ∀ args w, (callFunc f args).run P w = .ok (.enter f args) w)
  (ha : ∀ ρ, evL n (Dt its al0 ρ) args = some (vs ρ)) (hc : ∀ ρ L' R' w, Deps ops R0 its i ρ R' → St L' R' w → Calls P f (vs ρ).toArray w (Bh val (fun g => C g ++ L') (fun g => F g ++ R'))) (hSh : Hz ops Sh i)
  (k : DJ P n ops Q Sh R0 al0 (i + 1) rest (⟨i, some d, fun ρ => val (Gh.dec (ρ i)), fun ρ => F (Gh.dec (ρ i)), fun ρ => C (Gh.dec (ρ i))⟩ :: its)) :
  DJ P n ops Q Sh R0 al0 i (⟨some d, .call { callee := .value (.func f), args := args.toArray, argTypes := ts }, ty, pos, aft, none⟩ :: rest) its :=
 Z4 (C := C) rfl rfl hSh (fun ρ S a L' R' w K h hK => by
  unfold Oper.wp
  rw [I5 hf rfl, Oper.upon_enter, List.map_toArray, Ft h.agree (fun x hx => by simp [Op.operands, Call.operands, hx]) (ha ρ)]
  refine (hc ρ _ _ w ⟨h.base, h.deps⟩ h.st).mono ?_
  rintro e w' ⟨g, rfl, hs'⟩
  exact hK g w' hs') k
end
theorem F4 {u : Value} {c : Core} (hs : St (L) R w) (hu : sl u c.lines ∈ R) : Calls Tryz.prog 54 [.agg (c.cells u).toArray].toArray w (Bh (fun v : Value => .agg (Core.cells v c).toArray) (fun v => row 120 v c.lines :: L) (fun v => R)) := by
 have hone0 : u.oneCell' = true := isSlice.one (hs.fact hu)
 refine Ag Tryz.func54 rfl Tryz.ntmps54 rfl hs ?_
 clear hs
 refine Gm ?_
 refine bx ?_; intro b1
 refine al_ (cs := [.slice none 0 0, vi 0, vi 0, vi 0]) Tryz.zeroValue93 ?_; intro b2
 refine Gl ?_
 refine cq_ (blk b2 93 [.slice none 0 0, vi 0, vi 0, vi 0] :: blk b1 93 (c.cells u) :: L) ?_
 refine jd_ (fun ρ S => blk b2 93 (bif S 6 then [(Gh.dec (γ := Value) (ρ 2)), vi c.wait.kind, vi c.wait.line, vi c.wait.value] else [.slice none 0 0, vi 0, vi 0, vi 0]) :: blk b1 93 (c.cells u) :: L) ?_
 refine dn2 ?_
 refine V5 (γ := Value) (val := fun v => v) (F := fun v => [pr (v.oneCell' = true)]) (C := fun v => [row 120 v c.lines]) Tryz.call81 (fun _ => rfl) (fun ρ L R w hd hs => Hs (Tu (xs := c.lines) hs (hd.base mm)) (fun v w hs => ⟨v, rfl, St.pr (A8 .hd hs) hs⟩)) (fun ρ g S hS hA => by have u6 : upS S 2 6 = S 6 := rfl; have h6 : S 6 = false := hA 6 ⟨0, rfl⟩; simp only [u6, h6, cond_false]) ?_
 refine dn2 ?_
 refine e_pd (v := fun ρ => .agg ([(Gh.dec (γ := Value) (ρ 2)), vi c.wait.kind, vi c.wait.line, vi c.wait.value]).toArray) (fun ρ S R' L' w hd hs => by have h1 : ((Gh.dec (γ := Value) (ρ 2))).oneCell' = true := hs.fact (hd.dep (it := ⟨2, _, _, _, _⟩) (by repeat (first | exact List.Mem.head _ | refine List.Mem.tail _ ?_)) ⟨9, rfl⟩ (List.Mem.head _)); exact E6 Lq) (Ind.gh (h := fun g => Value.agg ([(Gh.dec (γ := Value) g), vi c.wait.kind, vi c.wait.line, vi c.wait.value]).toArray) 2 3 rfl) (fun _ _ _ _ _ => rfl) ?_
 refine es_ 93 0 [] [] (fun ρ => b2) (fun ρ => [.slice none 0 0, vi 0, vi 0, vi 0]) (fun ρ => [(Gh.dec (γ := Value) (ρ 2)), vi c.wait.kind, vi c.wait.line, vi c.wait.value]) Tryz.sizeOf93 (h1 := (fun ρ R w L' hd hs => Ec (hs.fact (hd.dep (it := ⟨2, _, _, _, _⟩) (by repeat (first | exact List.Mem.head _ | refine List.Mem.tail _ ?_)) ⟨9, rfl⟩ (List.Mem.head _)) : ((Gh.dec (γ := Value) (ρ 2))).oneCell' = true) (by repeat (first | exact Ie | refine Ec rfl ?_)))) ?_
 refine dnl ?_; intro ρ
 refine JX.conseq (L' := row 120 (Gh.dec (γ := Value) (ρ 2)) c.lines :: blk b2 93 [(Gh.dec (γ := Value) (ρ 2)), vi c.wait.kind, vi c.wait.line, vi c.wait.value] :: blk b1 93 (c.cells u) :: L) (fun w hs => Af hs) ?_
 generalize (Gh.dec (γ := Value) (ρ 2)) = v5
 refine Gl ?_
 exact Sp v5 Tryz.isAgg93 Tryz.sizeOf93
theorem Ep {LX : List Chunk} {R : List Fact} {w : World} {vL vo vd : Value} {bk : Nat} {q : Op} {id home : Int} {ms : List Msg} {kind line serial turn value : Int} (hs : St (blk bk 123 [vL, vi q.kind, vi q.line, vi q.value, vi id, vi home, vo, vd] :: row 128 vo ms :: LX) R w) (hn : ms.length ≤ 1000) (hwf : (⟨kind, id, home, line, serial, turn, value, false⟩ : Msg).wf) : Calls Tryz.prog 90 [bp bk 0, vi kind, vi line, vi serial, vi turn, vi value].toArray w (Bh (fun v : Value => .tuple #[]) (fun v => blk bk 123 [vL, vi q.kind, vi q.line, vi q.value, vi id, vi home, v, vd] :: row 128 v (ms ++ [(⟨kind, id, home, line, serial, turn, value, false⟩ : Msg)]) :: LX) (fun v => R)) := by
 refine Ag Tryz.func90 rfl Tryz.ntmps90 rfl hs ?_
 clear hs
 refine cq_ (blk bk 123 [vL, vi q.kind, vi q.line, vi q.value, vi id, vi home, vo, vd] :: row 128 vo ms :: LX) ?_
 refine jd_ (fun ρ S => blk bk 123 (bif S 23 then [vL, vi q.kind, vi q.line, vi q.value, vi id, vi home, (Gh.dec (γ := Value) (ρ 20)), vd] else [vL, vi q.kind, vi q.line, vi q.value, vi id, vi home, vo, vd]) :: (bif S 20 then row 128 (Gh.dec (γ := Value) (ρ 20)) (ms ++ [(⟨kind, id, home, line, serial, turn, value, false⟩ : Msg)]) else row 128 vo ms) :: (LX)) ?_
 refine dn4 ?_
 refine H6 (v := vo) (fun ρ S hS hB hA => by have h23 : S 23 = false := hA 23 ⟨0, rfl⟩; simp only [h23, cond_false]; exact Cp (hc := Bg pkk (by repeat (first | exact rfl | refine Cr rfl ?_))) Tryz.isAgg96) (fun _ _ _ _ _ => rfl) ?_
 refine dn4 ?_
 refine H6 (v := vi id) (fun ρ S hS hB hA => by have h23 : S 23 = false := hA 23 ⟨0, rfl⟩; simp only [h23, cond_false]; exact Cp (hc := Bg pkk (by repeat (first | exact rfl | refine Cr rfl ?_))) Tryz.isAgg3) (fun _ _ _ _ _ => rfl) ?_
 refine dn3 ?_
 refine H6 (v := vi home) (fun ρ S hS hB hA => by have h23 : S 23 = false := hA 23 ⟨0, rfl⟩; simp only [h23, cond_false]; exact Cp (hc := Bg pkk (by repeat (first | exact rfl | refine Cr rfl ?_))) Tryz.isAgg3) (fun _ _ _ _ _ => rfl) ?_
 refine dn4 ?_
 first | refine epc (fun _ _ => Du Cv) ?_ | refine epc (fun _ _ => E6 Cv) ?_ | refine epp (fun _ _ => Du Cv) ?_ | refine epp (fun _ _ => E6 Cv) ?_
 refine Jq ([(⟨kind, id, home, line, serial, turn, value, false⟩ : Msg)] : List Msg) Lc rfl (fun _ => rfl) rfl (fun _ => rfl) rfl rfl (fun ρ R hd => Uz hwf) (fun _ _ _ _ _ => rfl) ?_
 refine Dx (e := 128) (xs := ms) (ys := [(⟨kind, id, home, line, serial, turn, value, false⟩ : Msg)]) (v := vo) Lc (fun _ => rfl) (fun _ => rfl) rfl (by decide) (fun ρ R hd => (hd.dep (it := ⟨19, _, _, _, _⟩) (by repeat (first | exact List.Mem.head _ | refine List.Mem.tail _ ?_)) ⟨9, rfl⟩ (List.Mem.head _))) (by have : maxN = 16777216 := rfl; simp only [List.length_cons, List.length_nil]; omega) (fun ρ g S hS hB hA => ?_) ?_
 ·have ui : upS S 20 20 = true := rfl; have u23 : upS S 20 23 = S 23 := rfl; have h23 : S 23 = false := hA 23 ⟨0, rfl⟩; have rs : (Gh.dec (γ := Value) (Rho.set ρ 20 (Gh.enc g) 20)) = g := rfl
  simp only [ui, hS, u23, h23, rs, cond_true, cond_false]
  exact pex
 refine dn2 ?_
 refine Cy (T0 := 123) (f := 6) (vs := fun ρ => [vL, vi q.kind, vi q.line, vi q.value, vi id, vi home, vo, vd]) (v := fun ρ => (Gh.dec (γ := Value) (ρ 20))) (fun ρ => bk) Tryz.sizeOf96 (fun _ => rfl) (fun _ => rfl) (fun ρ S R w L9 hB hd hs => by have h20 : S 20 = true := hB 20 ⟨9, rfl⟩; simp only [h20, cond_true] at hs; exact A8 pkk hs) (fun _ => rfl) (fun ρ g S hS hB hA => ?_) ?_
 ·have ui : upS S 23 23 = true := rfl; have u20 : upS S 23 20 = S 20 := rfl; have r20 : Rho.set ρ 23 g 20 = ρ 20 := rfl
  simp only [ui, hS, u20, r20, cond_true, cond_false]
  exact pex
 refine dnl ?_; intro ρ
 refine xq_ (blk bk 123 [vL, vi q.kind, vi q.line, vi q.value, vi id, vi home, (Gh.dec (γ := Value) (ρ 20)), vd] :: row 128 (Gh.dec (γ := Value) (ρ 20)) (ms ++ [(⟨kind, id, home, line, serial, turn, value, false⟩ : Msg)]) :: (LX)) ?_
 generalize (Gh.dec (γ := Value) (ρ 19)) = v31
 generalize (Gh.dec (γ := Value) (ρ 20)) = v32
 refine Ax (.inl rfl) (fun B w hs => Gx rfl _ w) (fun w hs => ⟨v32, rfl, Af hs⟩)
end Go.Proofs.YtiofgjolhbgkiaaGreatDoor
