/- This file proves parts of what its law needs: each part is told ahead of it. No conditions. -/
import Derived.Test.YtbigiimomnfpdaaGreatTM1
import Derived.Test.YtbigiimomnfpdaaGreatTM2
import Derived.Lib.Builder
import Derived.Lib.UnsafeStr
import Derived.Laws.Externs
import Derived.Laws.StructEq
set_option linter.unusedVariables false
set_option linter.unusedSimpArgs false
set_option maxHeartbeats 1000000
set_option maxRecDepth 8000
namespace Go.Proofs.YtbigiimomnfpdaaGreat
open Go
class CFo (T f : Nat) (off : outParam Nat) : Prop where
 h : A3 Tryz.prog T f off
class CAg (T : Nat) : Prop where
 h : ∀ w, (isAgg T).run Tryz.prog w = .ok true w
class CNa (T : Nat) : Prop where
 h : ∀ w, (isAgg T).run Tryz.prog w = .ok false w
class CSz (T : Nat) (sz : outParam Nat) : Prop where
 h : ∀ w, (sizeOf T).run Tryz.prog w = .ok sz w
class CSo (T : Nat) (e sz : outParam Nat) : Prop where
 h : Dd Tryz.prog T e sz
class CUs (T : Nat) (e : outParam Nat) : Prop where
 h : Tryz.prog.underlying T = some (.slice e)
class CSt (T : Nat) (zc : outParam (List Value)) (pl : outParam (List (Nat × Nat))) : Prop where
 h : Dm Tryz.prog T zc pl
instance : CNa 3 := ⟨Tryz.isAgg3⟩
instance : CSz 3 1 := ⟨Tryz.sizeOf3⟩
instance : CNa 4 := ⟨Tryz.isAgg4⟩
instance : CSz 4 1 := ⟨Tryz.sizeOf4⟩
instance : CNa 5 := ⟨Tryz.isAgg5⟩
instance : CFo 23 0 0 := ⟨Ahy⟩
instance : CFo 23 1 1 := ⟨Ahx⟩
instance : CSt 23 (Tryz.t23.zero.getD undef).cells.toList [(0, 1), (1, 1)] := ⟨st_23⟩
instance : CAg 23 := ⟨Tryz.isAgg23⟩
instance : CSz 23 2 := ⟨Tryz.sizeOf23⟩
instance : CSo 24 38 7 := ⟨so_24⟩
instance : CUs 24 38 := ⟨Tryz.underlying24⟩
instance : CSo 25 36 3 := ⟨so_25⟩
instance : CUs 25 36 := ⟨Tryz.underlying25⟩
instance : CNa 26 := ⟨Tryz.isAgg26⟩
instance : CSz 26 1 := ⟨Tryz.sizeOf26⟩
instance : CSo 26 57 4 := ⟨P1⟩
instance : CUs 26 57 := ⟨Tryz.underlying26⟩
instance : CNa 27 := ⟨Tryz.isAgg27⟩
instance : CSz 27 1 := ⟨Tryz.sizeOf27⟩
instance : CSo 27 62 10 := ⟨Oq⟩
instance : CUs 27 62 := ⟨Tryz.underlying27⟩
instance : CNa 28 := ⟨Tryz.isAgg28⟩
instance : CSz 28 1 := ⟨Tryz.sizeOf28⟩
instance : CSo 28 71 1 := ⟨Oo⟩
instance : CUs 28 71 := ⟨Tryz.underlying28⟩
instance : CFo 30 0 0 := ⟨Ahw⟩
instance : CFo 30 1 1 := ⟨Ahv⟩
instance : CFo 30 2 2 := ⟨Ahu⟩
instance : CSt 30 (Tryz.t30.zero.getD undef).cells.toList [(0, 1), (1, 1), (2, 1)] := ⟨Ie⟩
instance : CAg 30 := ⟨Tryz.isAgg30⟩
instance : CSz 30 3 := ⟨Tryz.sizeOf30⟩
instance : CNa 31 := ⟨Tryz.isAgg31⟩
instance : CFo 36 0 0 := ⟨Hw⟩
instance : CFo 36 1 1 := ⟨Aht⟩
instance : CFo 36 2 2 := ⟨Ahs⟩
instance : CAg 36 := ⟨Tryz.isAgg36⟩
instance : CSz 36 3 := ⟨Tryz.sizeOf36⟩
instance : CFo 38 0 0 := ⟨Ahr⟩
instance : CFo 38 1 1 := ⟨Ahq⟩
instance : CFo 38 2 2 := ⟨Ahp⟩
instance : CFo 38 3 3 := ⟨Aho⟩
instance : CFo 38 4 4 := ⟨Ahn⟩
instance : CSt 38 (Tryz.t38.zero.getD undef).cells.toList [(0, 1), (1, 1), (2, 1), (3, 1), (4, 3)] := ⟨st_38⟩
instance : CAg 38 := ⟨Tryz.isAgg38⟩
instance : CSz 38 7 := ⟨Tryz.sizeOf38⟩
instance : CNa 39 := ⟨Tryz.isAgg39⟩
instance : CSz 39 1 := ⟨Tryz.sizeOf39⟩
instance : CFo 41 0 0 := ⟨Ahm⟩
instance : CFo 41 1 1 := ⟨Ahl⟩
instance : CFo 41 2 2 := ⟨Ahk⟩
instance : CSt 41 (Tryz.t41.zero.getD undef).cells.toList [(0, 1), (1, 1), (2, 1)] := ⟨Rw⟩
instance : CAg 41 := ⟨Tryz.isAgg41⟩
instance : CSz 41 3 := ⟨Tryz.sizeOf41⟩
instance : CSo 46 30 3 := ⟨Aet⟩
instance : CUs 46 30 := ⟨Tryz.underlying46⟩
instance : CNa 55 := ⟨Tryz.isAgg55⟩
instance : CSo 55 92 7 := ⟨Ma⟩
instance : CUs 55 92 := ⟨Tryz.underlying55⟩
instance : CFo 57 0 0 := ⟨Ahj⟩
instance : CFo 57 1 1 := ⟨Ahi⟩
instance : CSt 57 (Tryz.t57.zero.getD undef).cells.toList [(0, 1), (1, 3)] := ⟨Hn⟩
instance : CAg 57 := ⟨Tryz.isAgg57⟩
instance : CSz 57 4 := ⟨Tryz.sizeOf57⟩
instance : CNa 58 := ⟨Tryz.isAgg58⟩
instance : CSz 58 1 := ⟨Tryz.sizeOf58⟩
instance : CSo 58 3 1 := ⟨Wc⟩
instance : CUs 58 3 := ⟨Tryz.underlying58⟩
instance : CFo 62 0 0 := ⟨Ahh⟩
instance : CFo 62 1 1 := ⟨Ahg⟩
instance : CFo 62 2 2 := ⟨Ahf⟩
instance : CFo 62 3 3 := ⟨Ahe⟩
instance : CFo 62 4 4 := ⟨Ahd⟩
instance : CFo 62 5 5 := ⟨Ahc⟩
instance : CFo 62 6 6 := ⟨Ahb⟩
instance : CFo 62 7 7 := ⟨M8⟩
instance : CFo 62 8 8 := ⟨Aha⟩
instance : CFo 62 9 9 := ⟨Agz⟩
instance : CSt 62 (Tryz.t62.zero.getD undef).cells.toList [(0, 1), (1, 1), (2, 1), (3, 1), (4, 1), (5, 1), (6, 1), (7, 1), (8, 1), (9, 1)] := ⟨st_62⟩
instance : CAg 62 := ⟨Tryz.isAgg62⟩
instance : CSz 62 10 := ⟨Tryz.sizeOf62⟩
instance : CNa 64 := ⟨Tryz.isAgg64⟩
instance : CSo 64 76 8 := ⟨so_64⟩
instance : CUs 64 76 := ⟨Tryz.underlying64⟩
instance : CNa 71 := ⟨Tryz.isAgg71⟩
instance : CUs 71 5 := ⟨Tryz.underlying71⟩
instance : CFo 76 0 0 := ⟨Agy⟩
instance : CFo 76 1 1 := ⟨Agx⟩
instance : CFo 76 2 2 := ⟨Agw⟩
instance : CFo 76 3 3 := ⟨Agv⟩
instance : CFo 76 4 4 := ⟨Agu⟩
instance : CFo 76 5 5 := ⟨Agt⟩
instance : CFo 76 6 6 := ⟨Ags⟩
instance : CFo 76 7 7 := ⟨Agr⟩
instance : CSt 76 (Tryz.t76.zero.getD undef).cells.toList [(0, 1), (1, 1), (2, 1), (3, 1), (4, 1), (5, 1), (6, 1), (7, 1)] := ⟨D8⟩
instance : CAg 76 := ⟨Tryz.isAgg76⟩
instance : CSz 76 8 := ⟨Tryz.sizeOf76⟩
instance : CNa 85 := ⟨Tryz.isAgg85⟩
instance : CSz 85 1 := ⟨Tryz.sizeOf85⟩
instance : CFo 87 0 0 := ⟨Agq⟩
instance : CFo 87 1 1 := ⟨Agp⟩
instance : CFo 89 0 0 := ⟨Ago⟩
instance : CFo 92 0 0 := ⟨Agn⟩
instance : CFo 92 1 1 := ⟨Agm⟩
instance : CFo 92 2 2 := ⟨Agl⟩
instance : CFo 92 3 3 := ⟨Agk⟩
instance : CFo 92 4 4 := ⟨Agj⟩
instance : CFo 92 5 5 := ⟨Agi⟩
instance : CFo 92 6 6 := ⟨Agh⟩
instance : CAg 92 := ⟨Tryz.isAgg92⟩
instance : CSz 92 7 := ⟨Tryz.sizeOf92⟩
instance : CSt 119 (Tryz.t119.zero.getD undef).cells.toList [(0, 1), (1, 3), (4, 1)] := ⟨Fw⟩
instance : CFo 137 0 0 := ⟨Abu⟩
instance : CFo 137 1 4 := ⟨Abt⟩
instance : CFo 137 2 5 := ⟨Abr⟩
instance : CFo 137 3 6 := ⟨Abq⟩
instance : CFo 137 4 7 := ⟨Abp⟩
instance : CSt 137 (Tryz.t137.zero.getD undef).cells.toList [(0, 4), (4, 1), (5, 1), (6, 1), (7, 1)] := ⟨st_137⟩
instance : CAg 150 := ⟨Tryz.isAgg150⟩
instance : CSz 150 2 := ⟨Tryz.sizeOf150⟩
instance : CSo 151 150 2 := ⟨so_151⟩
instance : CUs 151 150 := ⟨Tryz.underlying151⟩
instance : CNa 159 := ⟨Tryz.isAgg159⟩
instance : CFo 162 0 0 := ⟨Abo⟩
instance : CFo 162 1 1 := ⟨Abn⟩
instance : CFo 162 2 2 := ⟨Abm⟩
instance : CFo 162 3 3 := ⟨Abl⟩
instance : CSt 162 (Tryz.t162.zero.getD undef).cells.toList [(0, 1), (1, 1), (2, 1), (3, 1)] := ⟨st_162⟩
section
variable {n : Nat} {Q : Exit → Act → World → Prop} {ops : Array Oper} {rest : List Oper} {L : List Chunk} {R : List Fact} {al al' : List (Nat × Value)} {d k : Nat} {x y z : Operand} {T ty U : TypeId} {pos : String} {aft : Array Edge} {v : Value} {l l' : List Oper}
theorem kmv (h : A2 Tryz.prog n al L R ⟨some d, .move x, ty, pos, aft, none⟩ v) : A2 Tryz.prog n al L R ⟨some d, .move x, ty, pos, aft, none⟩ v := h
theorem kas (h : A2 Tryz.prog n al L R ⟨some d, .assign x, ty, pos, aft, none⟩ v) : A2 Tryz.prog n al L R ⟨some d, .assign x, ty, pos, aft, none⟩ v := h
theorem kfa {i : Nat} (h : A2 Tryz.prog n al L R ⟨some d, .fieldAddr T x i, ty, pos, aft, none⟩ v) : A2 Tryz.prog n al L R ⟨some d, .fieldAddr T x i, ty, pos, aft, none⟩ v := h
theorem kld (h : A2 Tryz.prog n al L R ⟨some d, .load T x, ty, pos, aft, none⟩ v) : A2 Tryz.prog n al L R ⟨some d, .load T x, ty, pos, aft, none⟩ v := h
theorem knc (h : A2 Tryz.prog n al L R ⟨some d, .nilCheck x, ty, pos, aft, none⟩ v) : A2 Tryz.prog n al L R ⟨some d, .nilCheck x, ty, pos, aft, none⟩ v := h
theorem kpk (h : A2 Tryz.prog n al L R ⟨some d, .pick x y z, ty, pos, aft, none⟩ v) : A2 Tryz.prog n al L R ⟨some d, .pick x y z, ty, pos, aft, none⟩ v := h
theorem kix (h : A2 Tryz.prog n al L R ⟨some d, .indexAddr T x y, ty, pos, aft, none⟩ v) : A2 Tryz.prog n al L R ⟨some d, .indexAddr T x y, ty, pos, aft, none⟩ v := h
theorem kxt {i : Nat} (h : A2 Tryz.prog n al L R ⟨some d, .extract x i, ty, pos, aft, none⟩ v) : A2 Tryz.prog n al L R ⟨some d, .extract x i, ty, pos, aft, none⟩ v := h
theorem kun (h : A2 Tryz.prog n al L R ⟨some d, .unOp .not T x, ty, pos, aft, none⟩ v) : A2 Tryz.prog n al L R ⟨some d, .unOp .not T x, ty, pos, aft, none⟩ v := h
theorem kle (h : A2 Tryz.prog n al L R ⟨some d, .call { callee := .builtin .len, args := #[x], argTypes := #[T] }, ty, pos, aft, none⟩ v) : A2 Tryz.prog n al L R ⟨some d, .call { callee := .builtin .len, args := #[x], argTypes := #[T] }, ty, pos, aft, none⟩ v := h
theorem kbd {ps : Array (Nat × Operand)} (h : A2 Tryz.prog n al L R ⟨some d, .build T ps, ty, pos, aft, none⟩ v) : A2 Tryz.prog n al L R ⟨some d, .build T ps, ty, pos, aft, none⟩ v := h
theorem kbe (h : A2 Tryz.prog n al L R ⟨some d, .binOp .eql T x y U, ty, pos, aft, none⟩ v) : A2 Tryz.prog n al L R ⟨some d, .binOp .eql T x y U, ty, pos, aft, none⟩ v := h
theorem kbn (h : A2 Tryz.prog n al L R ⟨some d, .binOp .neq T x y U, ty, pos, aft, none⟩ v) : A2 Tryz.prog n al L R ⟨some d, .binOp .neq T x y U, ty, pos, aft, none⟩ v := h
theorem kbl (h : A2 Tryz.prog n al L R ⟨some d, .binOp .lss T x y U, ty, pos, aft, none⟩ v) : A2 Tryz.prog n al L R ⟨some d, .binOp .lss T x y U, ty, pos, aft, none⟩ v := h
theorem kbg (h : A2 Tryz.prog n al L R ⟨some d, .binOp .gtr T x y U, ty, pos, aft, none⟩ v) : A2 Tryz.prog n al L R ⟨some d, .binOp .gtr T x y U, ty, pos, aft, none⟩ v := h
theorem kbh (h : A2 Tryz.prog n al L R ⟨some d, .binOp .geq T x y U, ty, pos, aft, none⟩ v) : A2 Tryz.prog n al L R ⟨some d, .binOp .geq T x y U, ty, pos, aft, none⟩ v := h
theorem kba (h : A2 Tryz.prog n al L R ⟨some d, .binOp .add T x y U, ty, pos, aft, none⟩ v) : A2 Tryz.prog n al L R ⟨some d, .binOp .add T x y U, ty, pos, aft, none⟩ v := h
theorem kbu (h : A2 Tryz.prog n al L R ⟨some d, .binOp .mul T x y U, ty, pos, aft, none⟩ v) : A2 Tryz.prog n al L R ⟨some d, .binOp .mul T x y U, ty, pos, aft, none⟩ v := h
structure Run (n : Nat) (ops : Array Oper) (Q : Exit → Act → World → Prop) (L : List Chunk) (R : List Fact) (k : Nat) (l : List Oper) (al : List (Nat × Value)) (l' : List Oper) (al' : List (Nat × Value)) : Prop where
 go : J Tryz.prog n ops Q l' L R al' → J Tryz.prog n ops Q l L R al
theorem R0 : Run n ops Q L R 0 l al l al := ⟨fun h => h⟩
theorem Rc {op : Oper} (hp : A2 Tryz.prog n al L R op v) (hd : op.dst = some d) (h : Run n ops Q L R k rest ((d, v) :: al) l' al') : Run n ops Q L R (k + 1) (op :: rest) al l' al' := ⟨fun kk => ob hp (h.go kk) hd⟩
theorem Rgy {dst : Option Tmp} {op : Go.Op} {i : Nat} {b : Bool} {m : List Oper} (hv : gv n al m i = some b) (h : Run n m.toArray Q L R (k + 1) (⟨dst, op, ty, pos, aft, none⟩ :: rest) al l' al') : Run n m.toArray Q L R (k + 1) (⟨dst, op, ty, pos, aft, some (i, b)⟩ :: rest) al l' al' := ⟨fun kk => J.guardYes hv (h.go kk)⟩
theorem Rgn {op : Go.Op} {i : Nat} {b : Bool} {m : List Oper} (hv : gv n al m i = some (!b)) (h : Run n m.toArray Q L R k rest ((d, undef) :: al) l' al') : Run n m.toArray Q L R (k + 1) (⟨some d, op, ty, pos, aft, some (i, b)⟩ :: rest) al l' al' := ⟨fun kk => J.guardNo hv (h.go kk)⟩
theorem RgU {op : Go.Op} {i : Nat} {b : Bool} {m : List Oper} (hv : gu n al m i = true) (h : Run n m.toArray Q L R k rest ((d, undef) :: al) l' al') : Run n m.toArray Q L R (k + 1) (⟨some d, op, ty, pos, aft, some (i, b)⟩ :: rest) al l' al' := ⟨fun kk => J.guardUndef hv (h.go kk)⟩
theorem mr (h : Run n ops Q L R k l al l' al' := by repeat (first | exact R0 | (apply Rc; (focus (first | (apply kmv; exact Ls) | (apply kas; exact Df) | (apply kfa; first | exact Y5 CFo.h | exact Y4 CFo.h) | (apply kld; first | exact Cz CNa.h | exact Y3 CAg.h CSz.h | exact Fc _ CAg.h CSz.h | exact q_lNc _ CAg.h CSz.h | exact q_lNf _ CAg.h CSz.h) | (apply knc; first | exact q_nb | exact q_ne) | (apply kpk; first | exact Eo | exact Adt) | (apply kix; first | exact Fn CSo.h | exact Im CSo.h) | (apply kxt; exact q_x) | (apply kun; first | exact N6 | exact O2) | (apply kle; exact Nq CUs.h) | (apply kbd; first | exact Dx CSt.h | exact Fd CSt.h) | (apply kbe; exact E6 Rp) | (apply kbn; exact E6 Rn) | (apply kbl; exact E6 K3) | (apply kbm; exact E6 V3) | (apply kbg; exact E6 Ro) | (apply kbh; exact E6 Ps) | (apply kba; first | exact E9 | exact Fx) | (apply kbs; exact Qf) | (apply kbu; exact Np))); (focus exact rfl)) | (apply Rgy; (focus exact rfl)) | (apply Rgn; (focus exact rfl)) | (apply RgU; (focus exact rfl)))) : Run n ops Q L R k l al l' al' := h
theorem rn1 (kk : J Tryz.prog n ops Q l' L R al') (h : Run n ops Q L R 1 l al l' al' := by exact mr) : J Tryz.prog n ops Q l L R al := h.go kk
theorem rn2 (kk : J Tryz.prog n ops Q l' L R al') (h : Run n ops Q L R 2 l al l' al' := by exact mr) : J Tryz.prog n ops Q l L R al := h.go kk
theorem rn3 (kk : J Tryz.prog n ops Q l' L R al') (h : Run n ops Q L R 3 l al l' al' := by exact mr) : J Tryz.prog n ops Q l L R al := h.go kk
theorem rn4 (kk : J Tryz.prog n ops Q l' L R al') (h : Run n ops Q L R 4 l al l' al' := by exact mr) : J Tryz.prog n ops Q l L R al := h.go kk
theorem rn5 (kk : J Tryz.prog n ops Q l' L R al') (h : Run n ops Q L R 5 l al l' al' := by exact mr) : J Tryz.prog n ops Q l L R al := h.go kk
theorem rn6 (kk : J Tryz.prog n ops Q l' L R al') (h : Run n ops Q L R 6 l al l' al' := by exact mr) : J Tryz.prog n ops Q l L R al := h.go kk
theorem rn7 (kk : J Tryz.prog n ops Q l' L R al') (h : Run n ops Q L R 7 l al l' al' := by exact mr) : J Tryz.prog n ops Q l L R al := h.go kk
theorem rn8 (kk : J Tryz.prog n ops Q l' L R al') (h : Run n ops Q L R 8 l al l' al' := by exact mr) : J Tryz.prog n ops Q l L R al := h.go kk
theorem rn9 (kk : J Tryz.prog n ops Q l' L R al') (h : Run n ops Q L R 9 l al l' al' := by exact mr) : J Tryz.prog n ops Q l L R al := h.go kk
theorem rn10 (kk : J Tryz.prog n ops Q l' L R al') (h : Run n ops Q L R 10 l al l' al' := by exact mr) : J Tryz.prog n ops Q l L R al := h.go kk
theorem Aew (kk : J Tryz.prog n ops Q l' L R al') (h : Run n ops Q L R 12 l al l' al' := by exact mr) : J Tryz.prog n ops Q l L R al := h.go kk
theorem rn13 (kk : J Tryz.prog n ops Q l' L R al') (h : Run n ops Q L R 13 l al l' al' := by exact mr) : J Tryz.prog n ops Q l L R al := h.go kk
theorem rn15 (kk : J Tryz.prog n ops Q l' L R al') (h : Run n ops Q L R 15 l al l' al' := by exact mr) : J Tryz.prog n ops Q l L R al := h.go kk
theorem Adp (kk : J Tryz.prog n ops Q l' L R al') (h : Run n ops Q L R 32 l al l' al' := by exact mr) : J Tryz.prog n ops Q l L R al := h.go kk
variable {Sh : Rho → (Nat → Bool) → List Chunk} {R0' : List Fact} {al0 : List (Nat × Value)} {its its' : List Item} {i i' : Nat}
structure DRun (n : Nat) (ops : Array Oper) (Q : Exit → Act → World → Prop) (Sh : Rho → (Nat → Bool) → List Chunk) (R0 : List Fact) (al0 : List (Nat × Value)) (k i : Nat) (l : List Oper) (its : List Item) (i' : Nat) (l' : List Oper) (its' : List Item) : Prop where
 go : DJ Tryz.prog n ops Q Sh R0 al0 i' l' its' → DJ Tryz.prog n ops Q Sh R0 al0 i l its
theorem D0 : DRun n ops Q Sh R0' al0 0 i l its i l its := ⟨fun h => h⟩
theorem Dc {op : Oper} (hp : ∀ ρ S, A2 Tryz.prog n (Eh its al0 ρ) (Sh ρ S) R0' op v) (hSh : Jw ops Sh i) (hd : op.dst = some d) (h : DRun n ops Q Sh R0' al0 k (i + 1) rest (⟨i, some d, fun _ => v, fun _ => [], fun _ => []⟩ :: its) i' l' its') : DRun n ops Q Sh R0' al0 (k + 1) i (op :: rest) its i' l' its' := ⟨fun kk => Jy hp hSh (h.go kk) hd⟩
theorem Dp {op : Oper} {v : Rho → Value} (hp : ∀ ρ S, A2 Tryz.prog n (Eh its al0 ρ) (Sh ρ S) R0' op (v ρ)) (hi : Ind ops i v) (hSh : Jw ops Sh i) (hd : op.dst = some d) (h : DRun n ops Q Sh R0' al0 k (i + 1) rest (⟨i, some d, v, fun _ => [], fun _ => []⟩ :: its) i' l' its') : DRun n ops Q Sh R0' al0 (k + 1) i (op :: rest) its i' l' its' := ⟨fun kk => e_p hp hi hSh (h.go kk) hd⟩
theorem Dgc {op : Go.Op} {q : Nat} {b : Bool} {m : List Oper} (hv : ∀ ρ, gv n (Eh its al0 ρ) m q = some b) (hp : ∀ ρ S, A2 Tryz.prog n (Eh its al0 ρ) (Sh ρ S) R0' ⟨some d, op, ty, pos, aft, none⟩ v) (hSh : ∀ ρ g S, S i = false → Sh (Rho.set ρ i g) (upS S i) = Sh ρ S) (h : DRun n m.toArray Q Sh R0' al0 k (i + 1) rest (⟨i, some d, fun _ => v, fun _ => [], fun _ => []⟩ :: its) i' l' its') : DRun n m.toArray Q Sh R0' al0 (k + 1) i (⟨some d, op, ty, pos, aft, some (q, b)⟩ :: rest) its i' l' its' := ⟨fun kk => dj (dgy (dc hp (h.go kk) rfl hSh) hv)⟩
theorem Dgn {op : Go.Op} {q : Nat} {b : Bool} {m : List Oper} (hv : ∀ ρ, gv n (Eh its al0 ρ) m q = some (!b)) (hSh : ∀ ρ g S, S i = false → Sh (Rho.set ρ i g) (upS S i) = Sh ρ S) (h : DRun n m.toArray Q Sh R0' al0 k (i + 1) rest (⟨i, some d, fun _ => undef, fun _ => [], fun _ => []⟩ :: its) i' l' its') : DRun n m.toArray Q Sh R0' al0 (k + 1) i (⟨some d, op, ty, pos, aft, some (q, b)⟩ :: rest) its i' l' its' := ⟨fun kk => dj (dgn (h.go kk) hv hSh)⟩
theorem Dgu {op : Go.Op} {q : Nat} {b : Bool} {m : List Oper} (hv : ∀ ρ, gu n (Eh its al0 ρ) m q = true) (hSh : ∀ ρ g S, S i = false → Sh (Rho.set ρ i g) (upS S i) = Sh ρ S) (h : DRun n m.toArray Q Sh R0' al0 k (i + 1) rest (⟨i, some d, fun _ => undef, fun _ => [], fun _ => []⟩ :: its) i' l' its') : DRun n m.toArray Q Sh R0' al0 (k + 1) i (⟨some d, op, ty, pos, aft, some (q, b)⟩ :: rest) its i' l' its' := ⟨fun kk => dj (dgu (h.go kk) hv hSh)⟩
theorem mdr (h : DRun n ops Q Sh R0' al0 k i l its i' l' its' := by repeat (first | exact D0 | (apply Dc; (focus (intro _ _; first | (apply kmv; exact Ls) | (apply kas; exact Df) | (apply kfa; first | exact Y5 CFo.h | exact Y4 CFo.h) | (apply kld; first | exact Cz CNa.h | exact Y3 CAg.h CSz.h | exact Fc _ CAg.h CSz.h | exact q_lNc _ CAg.h CSz.h | exact q_lNf _ CAg.h CSz.h) | (apply knc; first | exact q_nb | exact q_ne) | (apply kpk; first | exact Eo | exact Adt) | (apply kix; first | exact Fn CSo.h | exact Im CSo.h) | (apply kxt; exact q_x) | (apply kun; first | exact N6 | exact O2) | (apply kle; exact Nq CUs.h) | (apply kbd; first | exact Dx CSt.h | exact Fd CSt.h) | (apply kbe; exact E6 Rp) | (apply kbn; exact E6 Rn) | (apply kbl; exact E6 K3) | (apply kbm; exact E6 V3) | (apply kbg; exact E6 Ro) | (apply kbh; exact E6 Ps) | (apply kba; first | exact E9 | exact Fx) | (apply kbs; exact Qf) | (apply kbu; exact Np))); (focus exact (fun _ _ _ _ _ => rfl)); (focus exact rfl)) | (apply Dgc; (focus exact (fun _ => rfl)); (focus (intro _ _; first | (apply kmv; exact Ls) | (apply kas; exact Df) | (apply kfa; first | exact Y5 CFo.h | exact Y4 CFo.h) | (apply kld; first | exact Cz CNa.h | exact Y3 CAg.h CSz.h | exact Fc _ CAg.h CSz.h | exact q_lNc _ CAg.h CSz.h | exact q_lNf _ CAg.h CSz.h) | (apply knc; first | exact q_nb | exact q_ne) | (apply kpk; first | exact Eo | exact Adt) | (apply kix; first | exact Fn CSo.h | exact Im CSo.h) | (apply kxt; exact q_x) | (apply kun; first | exact N6 | exact O2) | (apply kle; exact Nq CUs.h) | (apply kbd; first | exact Dx CSt.h | exact Fd CSt.h) | (apply kbe; exact E6 Rp) | (apply kbn; exact E6 Rn) | (apply kbl; exact E6 K3) | (apply kbm; exact E6 V3) | (apply kbg; exact E6 Ro) | (apply kbh; exact E6 Ps) | (apply kba; first | exact E9 | exact Fx) | (apply kbs; exact Qf) | (apply kbu; exact Np))); (focus exact (fun _ _ _ _ => rfl))) | (apply Dgn; (focus exact (fun _ => rfl)); (focus exact (fun _ _ _ _ => rfl))) | (apply Dgu; (focus exact (fun _ => rfl)); (focus exact (fun _ _ _ _ => rfl))) | (apply Dp; (focus (intro _ _; first | (apply kmv; exact Ls) | (apply kas; exact Df) | (apply kfa; first | exact Y5 CFo.h | exact Y4 CFo.h) | (apply kld; first | exact Cz CNa.h | exact Y3 CAg.h CSz.h | exact Fc _ CAg.h CSz.h | exact q_lNc _ CAg.h CSz.h | exact q_lNf _ CAg.h CSz.h) | (apply knc; first | exact q_nb | exact q_ne) | (apply kpk; first | exact Eo | exact Adt) | (apply kix; first | exact Fn CSo.h | exact Im CSo.h) | (apply kxt; exact q_x) | (apply kun; first | exact N6 | exact O2) | (apply kle; exact Nq CUs.h) | (apply kbd; first | exact Dx CSt.h | exact Fd CSt.h) | (apply kbe; exact E6 Rp) | (apply kbn; exact E6 Rn) | (apply kbl; exact E6 K3) | (apply kbm; exact E6 V3) | (apply kbg; exact E6 Ro) | (apply kbh; exact E6 Ps) | (apply kba; first | exact E9 | exact Fx) | (apply kbs; exact Qf) | (apply kbu; exact Np))); (focus exact (fun _ _ _ _ _ => rfl)); (focus exact (fun _ _ _ _ _ => rfl)); (focus exact rfl)))) : DRun n ops Q Sh R0' al0 k i l its i' l' its' := h
theorem dn1 (kk : DJ Tryz.prog n ops Q Sh R0' al0 i' l' its') (h : DRun n ops Q Sh R0' al0 1 i l its i' l' its' := by exact mdr) : DJ Tryz.prog n ops Q Sh R0' al0 i l its := h.go kk
theorem dn2 (kk : DJ Tryz.prog n ops Q Sh R0' al0 i' l' its') (h : DRun n ops Q Sh R0' al0 2 i l its i' l' its' := by exact mdr) : DJ Tryz.prog n ops Q Sh R0' al0 i l its := h.go kk
theorem dn3 (kk : DJ Tryz.prog n ops Q Sh R0' al0 i' l' its') (h : DRun n ops Q Sh R0' al0 3 i l its i' l' its' := by exact mdr) : DJ Tryz.prog n ops Q Sh R0' al0 i l its := h.go kk
theorem dn4 (kk : DJ Tryz.prog n ops Q Sh R0' al0 i' l' its') (h : DRun n ops Q Sh R0' al0 4 i l its i' l' its' := by exact mdr) : DJ Tryz.prog n ops Q Sh R0' al0 i l its := h.go kk
theorem dn5 (kk : DJ Tryz.prog n ops Q Sh R0' al0 i' l' its') (h : DRun n ops Q Sh R0' al0 5 i l its i' l' its' := by exact mdr) : DJ Tryz.prog n ops Q Sh R0' al0 i l its := h.go kk
theorem dn6 (kk : DJ Tryz.prog n ops Q Sh R0' al0 i' l' its') (h : DRun n ops Q Sh R0' al0 6 i l its i' l' its' := by exact mdr) : DJ Tryz.prog n ops Q Sh R0' al0 i l its := h.go kk
theorem dn7 (kk : DJ Tryz.prog n ops Q Sh R0' al0 i' l' its') (h : DRun n ops Q Sh R0' al0 7 i l its i' l' its' := by exact mdr) : DJ Tryz.prog n ops Q Sh R0' al0 i l its := h.go kk
theorem dn8 (kk : DJ Tryz.prog n ops Q Sh R0' al0 i' l' its') (h : DRun n ops Q Sh R0' al0 8 i l its i' l' its' := by exact mdr) : DJ Tryz.prog n ops Q Sh R0' al0 i l its := h.go kk
theorem dn9 (kk : DJ Tryz.prog n ops Q Sh R0' al0 i' l' its') (h : DRun n ops Q Sh R0' al0 9 i l its i' l' its' := by exact mdr) : DJ Tryz.prog n ops Q Sh R0' al0 i l its := h.go kk
theorem Xv (kk : DJ Tryz.prog n ops Q Sh R0' al0 i' l' its') (h : DRun n ops Q Sh R0' al0 10 i l its i' l' its' := by exact mdr) : DJ Tryz.prog n ops Q Sh R0' al0 i l its := h.go kk
theorem Aed (kk : DJ Tryz.prog n ops Q Sh R0' al0 i' l' its') (h : DRun n ops Q Sh R0' al0 11 i l its i' l' its' := by exact mdr) : DJ Tryz.prog n ops Q Sh R0' al0 i l its := h.go kk
theorem dn12 (kk : DJ Tryz.prog n ops Q Sh R0' al0 i' l' its') (h : DRun n ops Q Sh R0' al0 12 i l its i' l' its' := by exact mdr) : DJ Tryz.prog n ops Q Sh R0' al0 i l its := h.go kk
theorem dn13 (kk : DJ Tryz.prog n ops Q Sh R0' al0 i' l' its') (h : DRun n ops Q Sh R0' al0 13 i l its i' l' its' := by exact mdr) : DJ Tryz.prog n ops Q Sh R0' al0 i l its := h.go kk
theorem dn14 (kk : DJ Tryz.prog n ops Q Sh R0' al0 i' l' its') (h : DRun n ops Q Sh R0' al0 14 i l its i' l' its' := by exact mdr) : DJ Tryz.prog n ops Q Sh R0' al0 i l its := h.go kk
theorem dn15 (kk : DJ Tryz.prog n ops Q Sh R0' al0 i' l' its') (h : DRun n ops Q Sh R0' al0 15 i l its i' l' its' := by exact mdr) : DJ Tryz.prog n ops Q Sh R0' al0 i l its := h.go kk
theorem dn16 (kk : DJ Tryz.prog n ops Q Sh R0' al0 i' l' its') (h : DRun n ops Q Sh R0' al0 16 i l its i' l' its' := by exact mdr) : DJ Tryz.prog n ops Q Sh R0' al0 i l its := h.go kk
theorem dn18 (kk : DJ Tryz.prog n ops Q Sh R0' al0 i' l' its') (h : DRun n ops Q Sh R0' al0 18 i l its i' l' its' := by exact mdr) : DJ Tryz.prog n ops Q Sh R0' al0 i l its := h.go kk
theorem dn19 (kk : DJ Tryz.prog n ops Q Sh R0' al0 i' l' its') (h : DRun n ops Q Sh R0' al0 19 i l its i' l' its' := by exact mdr) : DJ Tryz.prog n ops Q Sh R0' al0 i l its := h.go kk
theorem dn27 (kk : DJ Tryz.prog n ops Q Sh R0' al0 i' l' its') (h : DRun n ops Q Sh R0' al0 27 i l its i' l' its' := by exact mdr) : DJ Tryz.prog n ops Q Sh R0' al0 i l its := h.go kk
theorem dn29 (kk : DJ Tryz.prog n ops Q Sh R0' al0 i' l' its') (h : DRun n ops Q Sh R0' al0 29 i l its i' l' its' := by exact mdr) : DJ Tryz.prog n ops Q Sh R0' al0 i l its := h.go kk
end
structure Hold (p : Prop) : Prop where
 h : p
theorem sc {p q : Prop} (k : p) (h : Hold p → q := by intro h; (first | refine s_b CSz.h ?_ | refine s_f CSz.h ?_); intro cs hcs; simp only [Nat.zero_add, Nat.add_zero, Nat.reduceAdd, List.set_cons_zero, List.set_cons_succ, Config.cells, Msg.cells, Line.cells, Op.cells, Done.cells, Step.cells, Core.cells, Entry.cells, Chip.cells, El0.cs, El1.cs] at hcs; subst hcs; exact h.h) : q := h ⟨k⟩
theorem bm {n : Nat} {Q : Exit → Act → World → Prop} {id id' : Nat} {L : List Chunk} {R : List Fact} {al : List (Nat × Value)} (h : JX n Q (.exit id') L R al) (hne : Nat.beq id' id = false := by with_unfolding_all exact rfl) : JX n (Exit.inBlock id Q) (.exit id') L R al := Ep hne h
theorem Gl {p q : Prop} (k : p) (h : Hold p → q := by intro h; (repeat (with_reducible first | refine J.nil ?_ | refine Av ?_ | refine Bm ?_ | refine Du ?_ | refine Jj ?_ | refine Ei ?_ | refine Dr ?_ | refine Em ?_ | refine E8 ?_ | refine Gz ?_ | refine Dq ?_ | refine Ds ?_ | refine bm ?_)); exact h.h) : q := h ⟨k⟩
theorem Glc {p q : Prop} (k : p) (h : Hold p → q := by intro h; (repeat (first | (with_reducible first | refine J.nil ?_ | refine Av ?_ | refine Bm ?_ | refine Du ?_ | refine Jj ?_ | refine Ei ?_ | refine Dr ?_ | refine Em ?_ | refine E8 ?_ | refine Gz ?_ | refine Dq ?_ | refine Ds ?_ | refine bm ?_) | refine cF_ ?_ | refine cT ?_)); exact h.h) : q := h ⟨k⟩
theorem Gmc {p q : Prop} (k : p) (h : Hold p → q := by intro h; (repeat (first | (with_reducible first | refine J.nil ?_ | refine Av ?_ | refine Bm ?_ | refine Du ?_ | refine Jj ?_ | refine Ei ?_ | refine Dr ?_ | refine Em ?_ | refine E8 ?_ | refine Gz ?_ | refine Dq ?_ | refine Ds ?_ | refine bm ?_) | refine cF_ ?_ | refine cT ?_)); refine Aa ?_; exact h.h) : q := h ⟨k⟩
theorem Gm {p q : Prop} (k : p) (h : Hold p → q := by intro h; (repeat (with_reducible first | refine J.nil ?_ | refine Av ?_ | refine Bm ?_ | refine Du ?_ | refine Jj ?_ | refine Ei ?_ | refine Dr ?_ | refine Em ?_ | refine E8 ?_ | refine Gz ?_ | refine Dq ?_ | refine Ds ?_ | refine bm ?_)); refine Aa ?_; exact h.h) : q := h ⟨k⟩
section
variable {n : Nat} {Q : Exit → Act → World → Prop} {ops : Array Oper} {rest : List Oper} {L : List Chunk} {R : List Fact} {al al' : List (Nat × Value)} {d k : Nat} {x y z : Operand} {T ty U : TypeId} {pos : String} {aft : Array Edge} {v : Value} {l l' : List Oper}
variable {p : Prop}
theorem Ga1 (kk : p) (h : Run n ops Q L R 1 l al l' al' := by exact mr) (hg : Hold p → J Tryz.prog n ops Q l' L R al' := by intro h; exact Gl h.h) : J Tryz.prog n ops Q l L R al := h.go (hg ⟨kk⟩)
theorem Ga2 (kk : p) (h : Run n ops Q L R 2 l al l' al' := by exact mr) (hg : Hold p → J Tryz.prog n ops Q l' L R al' := by intro h; exact Gl h.h) : J Tryz.prog n ops Q l L R al := h.go (hg ⟨kk⟩)
theorem Ga3 (kk : p) (h : Run n ops Q L R 3 l al l' al' := by exact mr) (hg : Hold p → J Tryz.prog n ops Q l' L R al' := by intro h; exact Gl h.h) : J Tryz.prog n ops Q l L R al := h.go (hg ⟨kk⟩)
theorem Ga4 (kk : p) (h : Run n ops Q L R 4 l al l' al' := by exact mr) (hg : Hold p → J Tryz.prog n ops Q l' L R al' := by intro h; exact Gl h.h) : J Tryz.prog n ops Q l L R al := h.go (hg ⟨kk⟩)
theorem Ga5 (kk : p) (h : Run n ops Q L R 5 l al l' al' := by exact mr) (hg : Hold p → J Tryz.prog n ops Q l' L R al' := by intro h; exact Gl h.h) : J Tryz.prog n ops Q l L R al := h.go (hg ⟨kk⟩)
theorem Ga6 (kk : p) (h : Run n ops Q L R 6 l al l' al' := by exact mr) (hg : Hold p → J Tryz.prog n ops Q l' L R al' := by intro h; exact Gl h.h) : J Tryz.prog n ops Q l L R al := h.go (hg ⟨kk⟩)
theorem Ga7 (kk : p) (h : Run n ops Q L R 7 l al l' al' := by exact mr) (hg : Hold p → J Tryz.prog n ops Q l' L R al' := by intro h; exact Gl h.h) : J Tryz.prog n ops Q l L R al := h.go (hg ⟨kk⟩)
theorem Ga8 (kk : p) (h : Run n ops Q L R 8 l al l' al' := by exact mr) (hg : Hold p → J Tryz.prog n ops Q l' L R al' := by intro h; exact Gl h.h) : J Tryz.prog n ops Q l L R al := h.go (hg ⟨kk⟩)
theorem Ga9 (kk : p) (h : Run n ops Q L R 9 l al l' al' := by exact mr) (hg : Hold p → J Tryz.prog n ops Q l' L R al' := by intro h; exact Gl h.h) : J Tryz.prog n ops Q l L R al := h.go (hg ⟨kk⟩)
theorem Ga10 (kk : p) (h : Run n ops Q L R 10 l al l' al' := by exact mr) (hg : Hold p → J Tryz.prog n ops Q l' L R al' := by intro h; exact Gl h.h) : J Tryz.prog n ops Q l L R al := h.go (hg ⟨kk⟩)
theorem Ga11 (kk : p) (h : Run n ops Q L R 11 l al l' al' := by exact mr) (hg : Hold p → J Tryz.prog n ops Q l' L R al' := by intro h; exact Gl h.h) : J Tryz.prog n ops Q l L R al := h.go (hg ⟨kk⟩)
theorem Ga12 (kk : p) (h : Run n ops Q L R 12 l al l' al' := by exact mr) (hg : Hold p → J Tryz.prog n ops Q l' L R al' := by intro h; exact Gl h.h) : J Tryz.prog n ops Q l L R al := h.go (hg ⟨kk⟩)
theorem Ga13 (kk : p) (h : Run n ops Q L R 13 l al l' al' := by exact mr) (hg : Hold p → J Tryz.prog n ops Q l' L R al' := by intro h; exact Gl h.h) : J Tryz.prog n ops Q l L R al := h.go (hg ⟨kk⟩)
theorem Ga15 (kk : p) (h : Run n ops Q L R 15 l al l' al' := by exact mr) (hg : Hold p → J Tryz.prog n ops Q l' L R al' := by intro h; exact Gl h.h) : J Tryz.prog n ops Q l L R al := h.go (hg ⟨kk⟩)
theorem Ga16 (kk : p) (h : Run n ops Q L R 16 l al l' al' := by exact mr) (hg : Hold p → J Tryz.prog n ops Q l' L R al' := by intro h; exact Gl h.h) : J Tryz.prog n ops Q l L R al := h.go (hg ⟨kk⟩)
theorem Ga17 (kk : p) (h : Run n ops Q L R 17 l al l' al' := by exact mr) (hg : Hold p → J Tryz.prog n ops Q l' L R al' := by intro h; exact Gl h.h) : J Tryz.prog n ops Q l L R al := h.go (hg ⟨kk⟩)
theorem Ga18 (kk : p) (h : Run n ops Q L R 18 l al l' al' := by exact mr) (hg : Hold p → J Tryz.prog n ops Q l' L R al' := by intro h; exact Gl h.h) : J Tryz.prog n ops Q l L R al := h.go (hg ⟨kk⟩)
theorem Ga19 (kk : p) (h : Run n ops Q L R 19 l al l' al' := by exact mr) (hg : Hold p → J Tryz.prog n ops Q l' L R al' := by intro h; exact Gl h.h) : J Tryz.prog n ops Q l L R al := h.go (hg ⟨kk⟩)
theorem Ga22 (kk : p) (h : Run n ops Q L R 22 l al l' al' := by exact mr) (hg : Hold p → J Tryz.prog n ops Q l' L R al' := by intro h; exact Gl h.h) : J Tryz.prog n ops Q l L R al := h.go (hg ⟨kk⟩)
theorem Ga27 (kk : p) (h : Run n ops Q L R 27 l al l' al' := by exact mr) (hg : Hold p → J Tryz.prog n ops Q l' L R al' := by intro h; exact Gl h.h) : J Tryz.prog n ops Q l L R al := h.go (hg ⟨kk⟩)
theorem Ga32 (kk : p) (h : Run n ops Q L R 32 l al l' al' := by exact mr) (hg : Hold p → J Tryz.prog n ops Q l' L R al' := by intro h; exact Gl h.h) : J Tryz.prog n ops Q l L R al := h.go (hg ⟨kk⟩)
theorem Gb1 (kk : p) (h : Run n ops Q L R 1 l al l' al' := by exact mr) (hg : Hold p → J Tryz.prog n ops Q l' L R al' := by intro h; exact Gm h.h) : J Tryz.prog n ops Q l L R al := h.go (hg ⟨kk⟩)
theorem Gb2 (kk : p) (h : Run n ops Q L R 2 l al l' al' := by exact mr) (hg : Hold p → J Tryz.prog n ops Q l' L R al' := by intro h; exact Gm h.h) : J Tryz.prog n ops Q l L R al := h.go (hg ⟨kk⟩)
theorem Gb3 (kk : p) (h : Run n ops Q L R 3 l al l' al' := by exact mr) (hg : Hold p → J Tryz.prog n ops Q l' L R al' := by intro h; exact Gm h.h) : J Tryz.prog n ops Q l L R al := h.go (hg ⟨kk⟩)
theorem Gb4 (kk : p) (h : Run n ops Q L R 4 l al l' al' := by exact mr) (hg : Hold p → J Tryz.prog n ops Q l' L R al' := by intro h; exact Gm h.h) : J Tryz.prog n ops Q l L R al := h.go (hg ⟨kk⟩)
theorem Gb5 (kk : p) (h : Run n ops Q L R 5 l al l' al' := by exact mr) (hg : Hold p → J Tryz.prog n ops Q l' L R al' := by intro h; exact Gm h.h) : J Tryz.prog n ops Q l L R al := h.go (hg ⟨kk⟩)
theorem Gb6 (kk : p) (h : Run n ops Q L R 6 l al l' al' := by exact mr) (hg : Hold p → J Tryz.prog n ops Q l' L R al' := by intro h; exact Gm h.h) : J Tryz.prog n ops Q l L R al := h.go (hg ⟨kk⟩)
theorem Gb7 (kk : p) (h : Run n ops Q L R 7 l al l' al' := by exact mr) (hg : Hold p → J Tryz.prog n ops Q l' L R al' := by intro h; exact Gm h.h) : J Tryz.prog n ops Q l L R al := h.go (hg ⟨kk⟩)
theorem Gc1 (kk : p) (h : Run n ops Q L R 1 l al l' al' := by exact mr) (hg : Hold p → J Tryz.prog n ops Q l' L R al' := by intro h; exact Glc h.h) : J Tryz.prog n ops Q l L R al := h.go (hg ⟨kk⟩)
theorem Gc2 (kk : p) (h : Run n ops Q L R 2 l al l' al' := by exact mr) (hg : Hold p → J Tryz.prog n ops Q l' L R al' := by intro h; exact Glc h.h) : J Tryz.prog n ops Q l L R al := h.go (hg ⟨kk⟩)
theorem Gc3 (kk : p) (h : Run n ops Q L R 3 l al l' al' := by exact mr) (hg : Hold p → J Tryz.prog n ops Q l' L R al' := by intro h; exact Glc h.h) : J Tryz.prog n ops Q l L R al := h.go (hg ⟨kk⟩)
theorem Gc4 (kk : p) (h : Run n ops Q L R 4 l al l' al' := by exact mr) (hg : Hold p → J Tryz.prog n ops Q l' L R al' := by intro h; exact Glc h.h) : J Tryz.prog n ops Q l L R al := h.go (hg ⟨kk⟩)
theorem Gc5 (kk : p) (h : Run n ops Q L R 5 l al l' al' := by exact mr) (hg : Hold p → J Tryz.prog n ops Q l' L R al' := by intro h; exact Glc h.h) : J Tryz.prog n ops Q l L R al := h.go (hg ⟨kk⟩)
theorem Gc6 (kk : p) (h : Run n ops Q L R 6 l al l' al' := by exact mr) (hg : Hold p → J Tryz.prog n ops Q l' L R al' := by intro h; exact Glc h.h) : J Tryz.prog n ops Q l L R al := h.go (hg ⟨kk⟩)
theorem Gc7 (kk : p) (h : Run n ops Q L R 7 l al l' al' := by exact mr) (hg : Hold p → J Tryz.prog n ops Q l' L R al' := by intro h; exact Glc h.h) : J Tryz.prog n ops Q l L R al := h.go (hg ⟨kk⟩)
theorem Gc8 (kk : p) (h : Run n ops Q L R 8 l al l' al' := by exact mr) (hg : Hold p → J Tryz.prog n ops Q l' L R al' := by intro h; exact Glc h.h) : J Tryz.prog n ops Q l L R al := h.go (hg ⟨kk⟩)
theorem Gc10 (kk : p) (h : Run n ops Q L R 10 l al l' al' := by exact mr) (hg : Hold p → J Tryz.prog n ops Q l' L R al' := by intro h; exact Glc h.h) : J Tryz.prog n ops Q l L R al := h.go (hg ⟨kk⟩)
theorem Gc11 (kk : p) (h : Run n ops Q L R 11 l al l' al' := by exact mr) (hg : Hold p → J Tryz.prog n ops Q l' L R al' := by intro h; exact Glc h.h) : J Tryz.prog n ops Q l L R al := h.go (hg ⟨kk⟩)
theorem Gc12 (kk : p) (h : Run n ops Q L R 12 l al l' al' := by exact mr) (hg : Hold p → J Tryz.prog n ops Q l' L R al' := by intro h; exact Glc h.h) : J Tryz.prog n ops Q l L R al := h.go (hg ⟨kk⟩)
theorem Gc13 (kk : p) (h : Run n ops Q L R 13 l al l' al' := by exact mr) (hg : Hold p → J Tryz.prog n ops Q l' L R al' := by intro h; exact Glc h.h) : J Tryz.prog n ops Q l L R al := h.go (hg ⟨kk⟩)
theorem Gc14 (kk : p) (h : Run n ops Q L R 14 l al l' al' := by exact mr) (hg : Hold p → J Tryz.prog n ops Q l' L R al' := by intro h; exact Glc h.h) : J Tryz.prog n ops Q l L R al := h.go (hg ⟨kk⟩)
theorem Gc15 (kk : p) (h : Run n ops Q L R 15 l al l' al' := by exact mr) (hg : Hold p → J Tryz.prog n ops Q l' L R al' := by intro h; exact Glc h.h) : J Tryz.prog n ops Q l L R al := h.go (hg ⟨kk⟩)
theorem Gc17 (kk : p) (h : Run n ops Q L R 17 l al l' al' := by exact mr) (hg : Hold p → J Tryz.prog n ops Q l' L R al' := by intro h; exact Glc h.h) : J Tryz.prog n ops Q l L R al := h.go (hg ⟨kk⟩)
theorem Gc18 (kk : p) (h : Run n ops Q L R 18 l al l' al' := by exact mr) (hg : Hold p → J Tryz.prog n ops Q l' L R al' := by intro h; exact Glc h.h) : J Tryz.prog n ops Q l L R al := h.go (hg ⟨kk⟩)
theorem Gc19 (kk : p) (h : Run n ops Q L R 19 l al l' al' := by exact mr) (hg : Hold p → J Tryz.prog n ops Q l' L R al' := by intro h; exact Glc h.h) : J Tryz.prog n ops Q l L R al := h.go (hg ⟨kk⟩)
theorem Gc21 (kk : p) (h : Run n ops Q L R 21 l al l' al' := by exact mr) (hg : Hold p → J Tryz.prog n ops Q l' L R al' := by intro h; exact Glc h.h) : J Tryz.prog n ops Q l L R al := h.go (hg ⟨kk⟩)
theorem Gc24 (kk : p) (h : Run n ops Q L R 24 l al l' al' := by exact mr) (hg : Hold p → J Tryz.prog n ops Q l' L R al' := by intro h; exact Glc h.h) : J Tryz.prog n ops Q l L R al := h.go (hg ⟨kk⟩)
theorem Gc28 (kk : p) (h : Run n ops Q L R 28 l al l' al' := by exact mr) (hg : Hold p → J Tryz.prog n ops Q l' L R al' := by intro h; exact Glc h.h) : J Tryz.prog n ops Q l L R al := h.go (hg ⟨kk⟩)
theorem Gc31 (kk : p) (h : Run n ops Q L R 31 l al l' al' := by exact mr) (hg : Hold p → J Tryz.prog n ops Q l' L R al' := by intro h; exact Glc h.h) : J Tryz.prog n ops Q l L R al := h.go (hg ⟨kk⟩)
theorem Gd1 (kk : p) (h : Run n ops Q L R 1 l al l' al' := by exact mr) (hg : Hold p → J Tryz.prog n ops Q l' L R al' := by intro h; exact Gmc h.h) : J Tryz.prog n ops Q l L R al := h.go (hg ⟨kk⟩)
theorem Gd2 (kk : p) (h : Run n ops Q L R 2 l al l' al' := by exact mr) (hg : Hold p → J Tryz.prog n ops Q l' L R al' := by intro h; exact Gmc h.h) : J Tryz.prog n ops Q l L R al := h.go (hg ⟨kk⟩)
theorem Gd3 (kk : p) (h : Run n ops Q L R 3 l al l' al' := by exact mr) (hg : Hold p → J Tryz.prog n ops Q l' L R al' := by intro h; exact Gmc h.h) : J Tryz.prog n ops Q l L R al := h.go (hg ⟨kk⟩)
theorem Gd4 (kk : p) (h : Run n ops Q L R 4 l al l' al' := by exact mr) (hg : Hold p → J Tryz.prog n ops Q l' L R al' := by intro h; exact Gmc h.h) : J Tryz.prog n ops Q l L R al := h.go (hg ⟨kk⟩)
theorem Gd5 (kk : p) (h : Run n ops Q L R 5 l al l' al' := by exact mr) (hg : Hold p → J Tryz.prog n ops Q l' L R al' := by intro h; exact Gmc h.h) : J Tryz.prog n ops Q l L R al := h.go (hg ⟨kk⟩)
theorem Gd6 (kk : p) (h : Run n ops Q L R 6 l al l' al' := by exact mr) (hg : Hold p → J Tryz.prog n ops Q l' L R al' := by intro h; exact Gmc h.h) : J Tryz.prog n ops Q l L R al := h.go (hg ⟨kk⟩)
theorem Gd7 (kk : p) (h : Run n ops Q L R 7 l al l' al' := by exact mr) (hg : Hold p → J Tryz.prog n ops Q l' L R al' := by intro h; exact Gmc h.h) : J Tryz.prog n ops Q l L R al := h.go (hg ⟨kk⟩)
theorem Gd8 (kk : p) (h : Run n ops Q L R 8 l al l' al' := by exact mr) (hg : Hold p → J Tryz.prog n ops Q l' L R al' := by intro h; exact Gmc h.h) : J Tryz.prog n ops Q l L R al := h.go (hg ⟨kk⟩)
theorem Gd10 (kk : p) (h : Run n ops Q L R 10 l al l' al' := by exact mr) (hg : Hold p → J Tryz.prog n ops Q l' L R al' := by intro h; exact Gmc h.h) : J Tryz.prog n ops Q l L R al := h.go (hg ⟨kk⟩)
theorem Gd11 (kk : p) (h : Run n ops Q L R 11 l al l' al' := by exact mr) (hg : Hold p → J Tryz.prog n ops Q l' L R al' := by intro h; exact Gmc h.h) : J Tryz.prog n ops Q l L R al := h.go (hg ⟨kk⟩)
theorem Gd16 (kk : p) (h : Run n ops Q L R 16 l al l' al' := by exact mr) (hg : Hold p → J Tryz.prog n ops Q l' L R al' := by intro h; exact Gmc h.h) : J Tryz.prog n ops Q l L R al := h.go (hg ⟨kk⟩)
theorem jd_ {id : Nat} (Sh : Rho → (Nat → Bool) → List Chunk) (k : DJ Tryz.prog n l.toArray Q Sh R al 0 l []) (hsl : Ot l.toArray = true := by kernel_rfl) (hed : K1 l.toArray = true := by kernel_rfl) (hL : ∀ ρ, Sh ρ (fun _ => false) = L := by exact fun _ => rfl) : JC Tryz.prog n (.region id l.toArray true) Q L R al := Sl Afp hsl hed Sh hL k
theorem Bq {id : Nat} (k : DJ Tryz.prog n l.toArray Q (fun _ _ => L) R al 0 l []) (hsl : Ot l.toArray = true := by kernel_rfl) (hed : K1 l.toArray = true := by kernel_rfl) : JC Tryz.prog n (.region id l.toArray true) Q L R al := Sl Afp hsl hed (fun _ _ => L) (fun _ => rfl) k
variable {Sh : Rho → (Nat → Bool) → List Chunk} {R0 : List Fact} {al0 : List (Nat × Value)} {its : List Item} {i : Nat} {q : Rho → Prop}
theorem dnl (k : ∀ ρ, q ρ) (h : ∀ ρ, Hold (q ρ) → JX n Q .normal (F4 its ρ ++ Sh ρ (fun j => Nat.blt j i)) (facts its ρ ++ R0) (Eh its al0 ρ) := by intro ρ h; simp only [F4, facts, Eh, List.append_nil, List.nil_append, List.cons_append]; exact h.h) : DJ Tryz.prog n ops Q Sh R0 al0 i [] its := d_nilC fun ρ => h ρ ⟨k ρ⟩
theorem dtl {o : Oper} (k : ∀ ρ, q ρ) (ht : K5 ops i = true := by kernel_rfl) (h : ∀ ρ, Hold (q ρ) → J Tryz.prog n ops Q (o :: rest) (F4 its ρ ++ Sh ρ (fun j => Nat.blt j i)) (facts its ρ ++ R0) (Eh its al0 ρ) := by intro ρ h; simp only [F4, facts, Eh, List.append_nil, List.nil_append, List.cons_append]; exact h.h) : DJ Tryz.prog n ops Q Sh R0 al0 i (o :: rest) its := Xw ht fun ρ => h ρ ⟨k ρ⟩
theorem djc {op : Oper} (hp : ∀ ρ S, A2 Tryz.prog n (Eh its al0 ρ) (Sh ρ S) R0 op v) (k : DJ Tryz.prog n ops Q Sh R0 al0 (i + 1) rest (⟨i, some d, fun _ => v, fun _ => [], fun _ => []⟩ :: its)) (hd : op.dst = some d := by exact rfl) (hSh : ∀ ρ g S, S i = false → Sh (Rho.set ρ i g) (upS S i) = Sh ρ S := by exact fun _ _ _ _ => rfl) : DJ Tryz.prog n ops Q Sh R0 al0 i (op :: rest) its := dj (dc hp k hd hSh)
theorem epc {op : Oper} (hp : ∀ ρ S, A2 Tryz.prog n (Eh its al0 ρ) (Sh ρ S) R0 op v) (k : DJ Tryz.prog n ops Q Sh R0 al0 (i + 1) rest (⟨i, some d, fun _ => v, fun _ => [], fun _ => []⟩ :: its)) (hSh : Jw ops Sh i := by exact fun _ _ _ _ _ => rfl) (hd : op.dst = some d := by exact rfl) : DJ Tryz.prog n ops Q Sh R0 al0 i (op :: rest) its := Jy hp hSh k hd
theorem epp {op : Oper} {v : Rho → Value} (hp : ∀ ρ S, A2 Tryz.prog n (Eh its al0 ρ) (Sh ρ S) R0 op (v ρ)) (k : DJ Tryz.prog n ops Q Sh R0 al0 (i + 1) rest (⟨i, some d, v, fun _ => [], fun _ => []⟩ :: its)) (hi : Ind ops i v := by first | exact Ind.const _ | exact fun _ _ _ _ _ => rfl | exact Ind.self | exact Ind.gh _ 3 rfl) (hSh : Jw ops Sh i := by exact fun _ _ _ _ _ => rfl) (hd : op.dst = some d := by exact rfl) : DJ Tryz.prog n ops Q Sh R0 al0 i (op :: rest) its := e_p hp hi hSh k hd
def befs (ops : Array Oper) (i : Nat) (l : List Nat) : Bool := l.all fun j => Nn ops 9 j i
def afts (ops : Array Oper) (i : Nat) (l : List Nat) : Bool := l.all fun j => Nn ops 9 i j
def AllS (S : Nat → Bool) (b : Bool) : List Nat → Prop
 | [] => True
 | j :: r => S j = b ∧ AllS S b r
theorem AllS.mk {S : Nat → Bool} {b : Bool} : ∀ {l : List Nat}, (∀ j, j ∈ l → S j = b) → AllS S b l
 | [], _ => trivial
 | j :: r, h => ⟨h j (.head _), AllS.mk fun j hj => h j (.tail _ hj)⟩
theorem Rho.at_ne {ρ : Rho} {i j : Nat} {g : G} (h : Nat.beq j i = false) : Rho.set ρ i g j = ρ j := by
 have : j ≠ i := fun e => by rw [e, Nat.beq_refl] at h; cases h
 simp [Rho.set, this]
theorem upS_at {S : Nat → Bool} {i : Nat} : upS S i i = true := by simp [upS]
theorem upS_no {S : Nat → Bool} {i j : Nat} (h : Nat.beq j i = false) : upS S i j = S j := by simp [upS, h]
theorem es_ (T0 : TypeId) (f : Nat) (bz az : List Nat) (bb : Rho → Nat) (vs us : Rho → List Value) {v : Rho → Value} {sz : Nat} (hsz : ∀ w, (sizeOf T).run Tryz.prog w = .ok sz w) (k : DJ Tryz.prog n ops Q Sh R0 al0 (i + 1) rest (⟨i, none, fun _ => undef, fun _ => [], fun _ => []⟩ :: its)) (hx : ∀ ρ, ev n (Eh its al0 ρ) x = some (bp (bb ρ) f) := by exact fun _ => rfl) (hy : ∀ ρ, ev n (Eh its al0 ρ) y = some (v ρ) := by exact fun _ => rfl) (hv : ∀ ρ, (v ρ).cells = (us ρ).toArray := by exact fun _ => rfl) (hl : ∀ ρ, (us ρ).length = sz := by exact fun _ => rfl)
  (h1 : ∀ ρ R' w L', Deps ops R0 its i ρ R' → St L' R' w → ∀ u ∈ us ρ, u.oneCell' = true := by exact fun _ _ _ _ _ _ => by first | (intro u hu; revert u hu; simp [Value.oneCell', Config.cells, Msg.cells, Line.cells, Op.cells, Done.cells, Step.cells]; done) | (repeat (first | exact Dy | refine Bl (by first | exact rfl | assumption) ?_))) (hf : ∀ ρ, Nat.ble (f + sz) (vs ρ).length = true := by exact fun _ => rfl) (hb : befs ops i bz = true := by kernel_rfl) (ha : afts ops i az = true := by kernel_rfl)
  (hSh : ∀ ρ g S, S i = false → AllS S true bz → AllS S false az → ∃ L1, (Sh ρ S).Perm (blk (bb ρ) T0 (vs ρ) :: L1) ∧ (Sh (Rho.set ρ i g) (upS S i)).Perm (blk (bb ρ) T0 ((vs ρ).take f ++ us ρ ++ (vs ρ).drop (f + sz)) :: L1) := by intro ρ g S hS hB hA; simp only [AllS, and_true] at hB hA; simp +decide only [upS_at, upS_no, Rho.at_ne, hS, hB, hA, cond_true, cond_false]; exact Pos.ex (by repeat (first | exact .hd | exact .hc | apply Pos.tl | apply Pos.ap))) : DJ Tryz.prog n ops Q Sh R0 al0 i (⟨none, .store T x y, ty, pos, aft, none⟩ :: rest) its :=
 Ail bb hsz hx hy hv hl h1 hf (fun ρ g S hS hB hA => hSh ρ g S hS (AllS.mk fun j hj => hB j ⟨9, List.all_eq_true.1 hb j hj⟩) (AllS.mk fun j hj => hA j ⟨9, List.all_eq_true.1 ha j hj⟩)) k
end
section
variable {P : Program} {n : Nat} {L L' L1 : List Chunk} {R : List Fact} {al : List (Nat × Value)} {γ : Type} {val : γ → Value} {Lf : γ → List Chunk} {Rf : γ → List Fact} {fn : Func} {e : Exit} {t u s r : Nat} {v v1 v2 v3 v4 : Value} {ty : TypeId} {sz b : Nat} {cs : List Value} {T0 : TypeId} {Q : Exit → Act → World → Prop} {c : Code}
theorem cq_ (L' : List Chunk) (k : JC P n c Q L' R al) (h : ∀ w, St L R w → St L' R w := by exact fun w hs => Ag hs) : JC P n c Q L R al := JC.conseq h k
theorem xq_ (L' : List Chunk) (k : JX n Q e L' R al) (h : ∀ w, St L R w → St L' R w := by exact fun w hs => hs) : JX n Q e L R al := JX.conseq h k
theorem Bb (g : γ) (he : e = .normal ∨ e = .ret := by first | exact .inr rfl | exact .inl rfl) (hf : fn.results = #[.tmp t] := by exact rfl) (h0 : ev n al (.tmp t) = some v1 := by exact rfl) (hv : v1 = val g := by rfl) (hs : ∀ w, St L R w → St (Lf g) (Rf g) w := by exact fun w hs => Ag hs) : JX n (bodyPost P fn (Bs val Lf Rf)) e L R al := Bg he (fun B w _ => Adq hf h0 B w) (fun w h => ⟨g, hv, hs w h⟩)
theorem Mh (g : γ) (hT : ∀ w, (isAgg ty).run P w = .ok true w) (hsz : ∀ w, (sizeOf ty).run P w = .ok sz w) (he : e = .normal ∨ e = .ret := by first | exact .inr rfl | exact .inl rfl) (hf : fn.results = #[.cell t ty] := by exact rfl) (h0 : ev n al (.tmp t) = some (bp b 0) := by exact rfl)  (hp : Pick L (blk b T0 cs) L1 := by exact pkk) (hl : cs.length = sz := by exact rfl) (hv : (.agg cs.toArray) = val g := by rfl) (hs : ∀ w, St L R w → St (Lf g) (Rf g) w := by exact fun w hs => Ag hs) : JX n (bodyPost P fn (Bs val Lf Rf)) e L R al := Bg he (fun B w hw => resC1 hf h0  hT hsz hp hl B w hw) (fun w h => ⟨g, hv, hs w h⟩)
theorem Ce (g : γ) (he : e = .normal ∨ e = .ret := by first | exact .inr rfl | exact .inl rfl) (hf : fn.results = #[.tmp t, .tmp u] := by exact rfl) (h0 : ev n al (.tmp t) = some v1 := by exact rfl) (h1 : ev n al (.tmp u) = some v2 := by exact rfl) (hv : (.tuple #[v1, v2]) = val g := by rfl) (hs : ∀ w, St L R w → St (Lf g) (Rf g) w := by exact fun w hs => Ag hs) : JX n (bodyPost P fn (Bs val Lf Rf)) e L R al := Bg he (fun B w _ => res2 hf h0 h1 B w) (fun w h => ⟨g, hv, hs w h⟩)
theorem Fr (g : γ) (hT : ∀ w, (isAgg ty).run P w = .ok true w) (hsz : ∀ w, (sizeOf ty).run P w = .ok sz w) (he : e = .normal ∨ e = .ret := by first | exact .inr rfl | exact .inl rfl) (hf : fn.results = #[.cell t ty, .tmp u] := by exact rfl) (h0 : ev n al (.tmp t) = some (bp b 0) := by exact rfl) (h1 : ev n al (.tmp u) = some v2 := by exact rfl) (hp : Pick L (blk b T0 cs) L1 := by exact pkk) (hl : cs.length = sz := by exact rfl) (hv : (.tuple #[.agg cs.toArray, v2]) = val g := by rfl) (hs : ∀ w, St L R w → St (Lf g) (Rf g) w := by exact fun w hs => Ag hs) : JX n (bodyPost P fn (Bs val Lf Rf)) e L R al := Bg he (fun B w hw => resC2 hf h0 h1 hT hsz hp hl B w hw) (fun w h => ⟨g, hv, hs w h⟩)
theorem Ga (g : γ) (he : e = .normal ∨ e = .ret := by first | exact .inr rfl | exact .inl rfl) (hf : fn.results = #[.tmp t, .tmp u, .tmp s] := by exact rfl) (h0 : ev n al (.tmp t) = some v1 := by exact rfl) (h1 : ev n al (.tmp u) = some v2 := by exact rfl) (h2 : ev n al (.tmp s) = some v3 := by exact rfl) (hv : (.tuple #[v1, v2, v3]) = val g := by rfl) (hs : ∀ w, St L R w → St (Lf g) (Rf g) w := by exact fun w hs => Ag hs) : JX n (bodyPost P fn (Bs val Lf Rf)) e L R al := Bg he (fun B w _ => res3 hf h0 h1 h2 B w) (fun w h => ⟨g, hv, hs w h⟩)
theorem Cj (g : γ) (hT : ∀ w, (isAgg ty).run P w = .ok true w) (hsz : ∀ w, (sizeOf ty).run P w = .ok sz w) (he : e = .normal ∨ e = .ret := by first | exact .inr rfl | exact .inl rfl) (hf : fn.results = #[.cell t ty, .tmp u, .tmp s] := by exact rfl) (h0 : ev n al (.tmp t) = some (bp b 0) := by exact rfl) (h1 : ev n al (.tmp u) = some v2 := by exact rfl) (h2 : ev n al (.tmp s) = some v3 := by exact rfl) (hp : Pick L (blk b T0 cs) L1 := by exact pkk) (hl : cs.length = sz := by exact rfl) (hv : (.tuple #[.agg cs.toArray, v2, v3]) = val g := by rfl) (hs : ∀ w, St L R w → St (Lf g) (Rf g) w := by exact fun w hs => Ag hs) : JX n (bodyPost P fn (Bs val Lf Rf)) e L R al := Bg he (fun B w hw => resC3 hf h0 h1 h2 hT hsz hp hl B w hw) (fun w h => ⟨g, hv, hs w h⟩)
theorem E5 (g : γ) (hT : ∀ w, (isAgg ty).run P w = .ok true w) (hsz : ∀ w, (sizeOf ty).run P w = .ok sz w) (he : e = .normal ∨ e = .ret := by first | exact .inr rfl | exact .inl rfl) (hf : fn.results = #[.cell t ty, .tmp u, .tmp s, .tmp r] := by exact rfl) (h0 : ev n al (.tmp t) = some (bp b 0) := by exact rfl) (h1 : ev n al (.tmp u) = some v2 := by exact rfl) (h2 : ev n al (.tmp s) = some v3 := by exact rfl) (h3 : ev n al (.tmp r) = some v4 := by exact rfl) (hp : Pick L (blk b T0 cs) L1 := by exact pkk) (hl : cs.length = sz := by exact rfl) (hv : (.tuple #[.agg cs.toArray, v2, v3, v4]) = val g := by rfl) (hs : ∀ w, St L R w → St (Lf g) (Rf g) w := by exact fun w hs => Ag hs) : JX n (bodyPost P fn (Bs val Lf Rf)) e L R al := Bg he (fun B w hw => resC4 hf h0 h1 h2 h3 hT hsz hp hl B w hw) (fun w h => ⟨g, hv, hs w h⟩)
end
section
variable {P : Program} {n : Nat} {ops : Array Oper} {Q : Exit → Act → World → Prop} {rest : List Oper} {L : List Chunk} {R : List Fact} {al : List (Nat × Value)} {d : Nat} {x y : Operand} {T U ty : TypeId} {pos : String} {aft : Array Edge} {k k' : IntKind} {a b : Int}
theorem Cf (kk : J P n ops Q rest L R ((d, .bool true) :: al)) (hx : ev n al x = some (.int k a) := by exact rfl) (hy : ev n al y = some (.int k b) := by exact rfl) (h : a = b := by omega) : J P n ops Q (⟨some d, .binOp .eql T x y U, ty, pos, aft, none⟩ :: rest) L R al := ob (Am hx hy (Ba h)) kk
theorem Aw (kk : J P n ops Q rest L R ((d, .bool false) :: al)) (hx : ev n al x = some (.int k a) := by exact rfl) (hy : ev n al y = some (.int k b) := by exact rfl) (h : a ≠ b := by omega) : J P n ops Q (⟨some d, .binOp .eql T x y U, ty, pos, aft, none⟩ :: rest) L R al := ob (Am hx hy (Bh h)) kk
theorem Hr (kk : J P n ops Q rest L R ((d, .bool true) :: al)) (hx : ev n al x = some (.int k a) := by exact rfl) (hy : ev n al y = some (.int k b) := by exact rfl) (h : a ≠ b := by omega) : J P n ops Q (⟨some d, .binOp .neq T x y U, ty, pos, aft, none⟩ :: rest) L R al := ob (Am hx hy (E4 h)) kk
theorem H9 (kk : J P n ops Q rest L R ((d, .bool false) :: al)) (hx : ev n al x = some (.int k a) := by exact rfl) (hy : ev n al y = some (.int k b) := by exact rfl) (h : a = b := by omega) : J P n ops Q (⟨some d, .binOp .neq T x y U, ty, pos, aft, none⟩ :: rest) L R al := ob (Am hx hy (C0 h)) kk
theorem D5 (kk : J P n ops Q rest L R ((d, .bool true) :: al)) (hx : ev n al x = some (.int k a) := by exact rfl) (hy : ev n al y = some (.int k b) := by exact rfl) (h : a < b := by omega) : J P n ops Q (⟨some d, .binOp .lss T x y U, ty, pos, aft, none⟩ :: rest) L R al := ob (Am hx hy (Nh h)) kk
theorem Bc (kk : J P n ops Q rest L R ((d, .bool false) :: al)) (hx : ev n al x = some (.int k a) := by exact rfl) (hy : ev n al y = some (.int k b) := by exact rfl) (h : ¬ a < b := by omega) : J P n ops Q (⟨some d, .binOp .lss T x y U, ty, pos, aft, none⟩ :: rest) L R al := ob (Am hx hy (Ca h)) kk
theorem Afl (kk : J P n ops Q rest L R ((d, .bool true) :: al)) (hx : ev n al x = some (.int k a) := by exact rfl) (hy : ev n al y = some (.int k b) := by exact rfl) (h : a ≤ b := by omega) : J P n ops Q (⟨some d, .binOp .leq T x y U, ty, pos, aft, none⟩ :: rest) L R al := ob (Am hx hy (Pq h)) kk
theorem Se (kk : J P n ops Q rest L R ((d, .bool false) :: al)) (hx : ev n al x = some (.int k a) := by exact rfl) (hy : ev n al y = some (.int k b) := by exact rfl) (h : ¬ a ≤ b := by omega) : J P n ops Q (⟨some d, .binOp .leq T x y U, ty, pos, aft, none⟩ :: rest) L R al := ob (Am hx hy (Ju h)) kk
theorem Fo (kk : J P n ops Q rest L R ((d, .bool true) :: al)) (hx : ev n al x = some (.int k a) := by exact rfl) (hy : ev n al y = some (.int k b) := by exact rfl) (h : b < a := by omega) : J P n ops Q (⟨some d, .binOp .gtr T x y U, ty, pos, aft, none⟩ :: rest) L R al := ob (Am hx hy (K4 h)) kk
theorem Dz (kk : J P n ops Q rest L R ((d, .bool false) :: al)) (hx : ev n al x = some (.int k a) := by exact rfl) (hy : ev n al y = some (.int k b) := by exact rfl) (h : ¬ b < a := by omega) : J P n ops Q (⟨some d, .binOp .gtr T x y U, ty, pos, aft, none⟩ :: rest) L R al := ob (Am hx hy (Pr h)) kk
theorem G8 (kk : J P n ops Q rest L R ((d, .bool true) :: al)) (hx : ev n al x = some (.int k a) := by exact rfl) (hy : ev n al y = some (.int k b) := by exact rfl) (h : b ≤ a := by omega) : J P n ops Q (⟨some d, .binOp .geq T x y U, ty, pos, aft, none⟩ :: rest) L R al := ob (Am hx hy (Iw h)) kk
theorem Di (kk : J P n ops Q rest L R ((d, .bool false) :: al)) (hx : ev n al x = some (.int k a) := by exact rfl) (hy : ev n al y = some (.int k b) := by exact rfl) (h : ¬ b ≤ a := by omega) : J P n ops Q (⟨some d, .binOp .geq T x y U, ty, pos, aft, none⟩ :: rest) L R al := ob (Am hx hy (Cc h)) kk
theorem meT {A B : Prop} (h : A := by first | exact congrArg (fun b => some (Value.bool b)) (decide_eq_true (by omega)).symm | exact congrArg (fun b => some (Value.bool b)) (by simp; omega)) (g : B := by exact alT) : A ∧ B := ⟨h, g⟩
theorem meF {A B : Prop} (h : A := by first | exact congrArg (fun b => some (Value.bool b)) (decide_eq_false (by omega)).symm | exact congrArg (fun b => some (Value.bool b)) (by simp; omega)) (g : B := by exact alT) : A ∧ B := ⟨h, g⟩
theorem cdy {t : Nat} {a b : Code} {p : Prop} {hd : Decidable p} (hT : p → JC P n a Q L R ((t, .bool true) :: al)) (hF : ¬ p → JC P n b Q L R ((t, .bool false) :: al)) (hc : ev n al (.tmp t) = some (.bool (decide p)) := by exact rfl) : JC P n (.cond (.tmp t) a b) Q L R al := cdx hc hT hF
theorem pex {l l' : List Chunk} {x x' : Chunk} {L1 : List Chunk} (h : Pos l l' x x' L1 := by repeat (first | exact .hd | exact .hc | apply Pos.tl | apply Pos.ap)) : ∃ L1, l.Perm (x :: L1) ∧ l'.Perm (x' :: L1) := h.ex
end
section
variable {n : Nat} {Q : Exit → Act → World → Prop} {ops : Array Oper} {rest : List Oper} {d : Nat} {x y : Operand} {ty : TypeId} {pos : String} {aft : Array Edge} {Sh : Rho → (Nat → Bool) → List Chunk} {R0 : List Fact} {al0 : List (Nat × Value)} {its : List Item} {i : Nat} {v : Value}
theorem djm (kk : DJ Tryz.prog n ops Q Sh R0 al0 (i + 1) rest (⟨i, some d, fun _ => v, fun _ => [], fun _ => []⟩ :: its)) (hx : ∀ (ρ : Rho) (_ : Nat → Bool), ev n (Eh its al0 ρ) x = some v := by exact fun _ _ => rfl) (hSh : ∀ ρ g S, S i = false → Sh (Rho.set ρ i g) (upS S i) = Sh ρ S := by exact fun _ _ _ _ => rfl) : DJ Tryz.prog n ops Q Sh R0 al0 i (⟨some d, .move x, ty, pos, aft, none⟩ :: rest) its := djc (fun ρ S => Ls (hx ρ S)) kk rfl hSh
theorem djf {c : Operand} (kk : DJ Tryz.prog n ops Q Sh R0 al0 (i + 1) rest (⟨i, some d, fun _ => v, fun _ => [], fun _ => []⟩ :: its)) (hc : ∀ (ρ : Rho) (_ : Nat → Bool), ev n (Eh its al0 ρ) c = some (.bool false) := by exact fun _ _ => rfl) (hy : ∀ (ρ : Rho) (_ : Nat → Bool), ev n (Eh its al0 ρ) y = some v := by exact fun _ _ => rfl) (hSh : ∀ ρ g S, S i = false → Sh (Rho.set ρ i g) (upS S i) = Sh ρ S := by exact fun _ _ _ _ => rfl) : DJ Tryz.prog n ops Q Sh R0 al0 i (⟨some d, .pick c x y, ty, pos, aft, none⟩ :: rest) its := djc (fun ρ S => Adt (hc ρ S) (hy ρ S)) kk rfl hSh
theorem epg (j f : Nat) (kk : DJ Tryz.prog n ops Q Sh R0 al0 (i + 1) rest (⟨i, some d, fun ρ => Gh.dec (γ := Value) (ρ j), fun _ => [], fun _ => []⟩ :: its)) (hx : ∀ (ρ : Rho) (_ : Nat → Bool), ev n (Eh its al0 ρ) x = some (Gh.dec (γ := Value) (ρ j)) := by exact fun _ _ => rfl) (hj : Nn ops f j i = true := by exact rfl) (hSh : Jw ops Sh i := by exact fun _ _ _ _ _ => rfl) : DJ Tryz.prog n ops Q Sh R0 al0 i (⟨some d, .assign x, ty, pos, aft, none⟩ :: rest) its := e_p (fun ρ S => Df (hx ρ S)) (Ind.gh (h := fun g => ((Gh.dec (γ := Value) g) : Value)) j f hj) hSh kk rfl
end
structure KpZ (q : Prop) : Prop where
  out : q
def BkZ (p q : Prop) : Prop := KpZ q → p
theorem Zah {p q : Prop} (k : q) (h : BkZ p q := by
 intro kZ
 refine Bq ?_
 refine dn2 ?_
 exact kZ.out) : p := h ⟨k⟩
theorem Zb8 {p q : Prop} (k : q) (h : BkZ p q := by
 intro kZ
 refine Zah ?_
 refine djc (fun _ _ => Am rfl rfl (Ca (by omega))) ?_
 refine djm ?_
 refine dn4 ?_
 exact kZ.out) : p := h ⟨k⟩
theorem ZbR {p q : Prop} (k : q) (h : BkZ p q := by
 intro kZ
 refine Ey (v := v0) m.line mm (by omega) (by omega) (fun hEw u => ?_)
 have hE : EB (Ad l m.line) := hb m.line.toNat (by omega)
 have hE0 := hE
 unfold EB Entry.wf Ao at hE0
 have hL : (Ad l m.line).last.length ≤ 4 := hla m.line.toNat (by omega)
 refine JC.know (p := u.oneCell' = true) (fun w hs => isSlice.one (hs.fact (.tail _ (.head _)))) (fun hone => ?_)
 refine JC.know (p := ∀ x ∈ (Ad l m.line).last, Ao x) (fun w hs => E0 (.tail _ (.head _)) hs) (fun hlin => ?_)
 refine Zb8 ?_
 revert hEw u hE hE0 hL hone hlin
 exact kZ.out) : p := h ⟨k⟩
theorem Zd0 {p q : Prop} (k : q) (h : BkZ p q := by
 intro kZ
 refine JC.conseq (L' := foc 62 g13.1 l m.line.toNat (Entry.cells uo (Ah (Ad l m.line) id m).1) :: row 3 uo (Ah (Ad l m.line) id m).1.last :: blk b51 162 [ep g13.1 10 m.line.toNat 0, vi m.line, vi id, .slice none 0 0] :: row 76 (.slice none 0 0) (Ah (Ad l m.line) id m).2 :: L) (fun w hs => by rw [eh]; exact Ag hs) ?_
 exact kZ.out) : p := h ⟨k⟩
theorem Zc1 {p q : Prop} (k : q) (h : BkZ p q := by
 intro kZ
 have hEB : EB (Ah (Ad l m.line) id m).1 := Ee hE hm (by omega)
 refine JC.shut (v := uo) (xs := (Ah (Ad l m.line) id m).1.last) pkk ?_
 refine JC.unfocus (Ah (Ad l m.line) id m).1 pkk (Dw mm hEB.1) ?_
 refine JC.shut (v := g13.1) pkk ?_
 revert hEB
 exact kZ.out) : p := h ⟨k⟩
theorem ZaK {p q : Prop} (k : q) (h : BkZ p q := by
 intro kZ
 refine Bq ?_
 refine dn7 ?_
 exact kZ.out) : p := h ⟨k⟩
theorem Zc2 {p q : Prop} (k : q) (h : BkZ p q := by
 intro kZ
 have er : Ak l id m = (l.set m.line.toNat (Ah (Ad l m.line) id m).1, (Ah (Ad l m.line) id m).2) := by unfold Ak; rw [if_neg (by omega)]
 rw [er]
 revert er
 exact kZ.out) : p := h ⟨k⟩
theorem ZbS {p q : Prop} (k : q) (h : BkZ p q := by
 intro kZ
 refine Zd0 ?_
 refine Zc1 ?_;intro hEB
 refine ZaK ?_
 refine dnl ?_; intro ρ
 refine Gl ?_
 refine Zc2 ?_;intro er
 revert hEB ρ er
 exact kZ.out) : p := h ⟨k⟩
theorem Zbr {p q : Prop} (k : q) (h : BkZ p q := by
 intro kZ
 have hvb := Fy (v := (Ac c q.line).value) (o := q) (hk.v q.line.toNat (by omega)) (by omega)
 revert hvb
 exact kZ.out) : p := h ⟨k⟩
theorem ZU {p q : Prop} (k : q) (h : BkZ p q := by
 intro kZ
 refine JC.slNil Msg ?_
 exact kZ.out) : p := h ⟨k⟩
theorem ZbT {p q : Prop} (k : q) (h : BkZ p q := by
 intro kZ
 refine Zbr ?_;intro hvb
 refine ZU ?_
 refine cq_ (blk b8 57 [.slice none 0 0, vi 0, vi 0, vi 0] :: blk b4 57 (c.cells u) :: blk b12 92 [vi (Ac c q.line).state, vi (Ax (Ac c q.line).value q).1, vi (Ac c q.line).want, vi (Ac c q.line).serial, vi (Ac c q.line).seen, vi (Ac c q.line).gave, vi (Ac c q.line).given] :: blk b7 36 q.cells :: L) ?_
 refine jd_ (fun ρ S => blk b8 57 (bif S 10 then [Gh.dec (γ := Value) (ρ 4), vi c.wait.kind, vi c.wait.line, vi c.wait.value] else [.slice none 0 0, vi 0, vi 0, vi 0]) :: blk b4 57 (c.cells u) :: blk b12 92 [vi (Ac c q.line).state, vi (Ax (Ac c q.line).value q).1, vi (Ac c q.line).want, vi (Ac c q.line).serial, vi (Ac c q.line).seen, vi (Ac c q.line).gave, vi (Ac c q.line).given] :: blk b7 36 q.cells :: L) ?_
 refine dn4 ?_
 refine Bu (γ := Value) (val := fun v => .agg (Core.cells v (A6 c q.line ({ (Ac c q.line) with value := (Ax (Ac c q.line).value q).1 }) c.wait)).toArray) (F := fun v => [sl v (c.lines.set q.line.toNat ({ (Ac c q.line) with value := (Ax (Ac c q.line).value q).1 }))]) Tryz.call51 (fun _ => rfl) (fun ρ L R w hd hs => Bt (l := { (Ac c q.line) with value := (Ax (Ac c q.line).value q).1 }) hs (hd.base mm) hXw (by omega)) (fun ρ g S hS hA => by have u10 : upS S 4 10 = S 10 := rfl; have h10 : S 10 = false := hA 10 ⟨0, rfl⟩; simp only [u10, h10, cond_false]) ?_
 refine dn4 ?_
 refine Fe ([⟨id, q, (Ax (Ac c q.line).value q).2⟩] : List Done) Gq rfl (fun _ => rfl) rfl (fun _ => rfl) rfl rfl (fun ρ R hd => F2 ⟨hid, hq.1, hq.2.1, hq.2.2, by unfold Ao; simp only; omega⟩) (fun _ _ _ _ _ => rfl) ?_
 revert hvb
 exact kZ.out) : p := h ⟨k⟩
theorem ZJ {p q : Prop} (k : q) (h : BkZ p q := by
 intro kZ
 refine Gm ?_
 refine rn2 ?_
 exact kZ.out) : p := h ⟨k⟩
theorem Zb9 {p q : Prop} (k : q) (h : BkZ p q := by
 intro kZ
 refine ZJ ?_
 refine Aw ?_
 refine rn3 ?_
 refine gy ?_
 refine Aw ?_
 refine Gd2 ?_
 refine rn2 ?_
 refine Aw ?_
 refine Gc1 ?_
 refine kp [5, 6, 7, 8, 9, 10, 11, 76, 77, 78, 79, 80, 81, 82, 83, 84, 85, 86, 87, 88, 89, 90, 91, 92, 93, 94, 95, 96, 97, 98] ?_
 refine Zah ?_
 exact kZ.out) : p := h ⟨k⟩
theorem ZaA {p q : Prop} (k : q) (h : BkZ p q := by
 intro kZ
 refine djc (fun _ _ => Am rfl rfl (Bh (by omega))) ?_
 exact kZ.out) : p := h ⟨k⟩
theorem Zaa {p q : Prop} (k : q) (h : BkZ p q := by
 intro kZ
 refine djf ?_
 refine djm ?_
 exact kZ.out) : p := h ⟨k⟩
theorem ZaL {p q : Prop} (k : q) (h : BkZ p q := by
 intro kZ
 refine ZaA ?_
 refine djm ?_
 refine dn1 ?_
 refine Zaa ?_
 refine dn5 ?_
 refine Zaa ?_
 exact kZ.out) : p := h ⟨k⟩
theorem ZT {p q : Prop} (k : q) (h : BkZ p q := by
 intro kZ
 refine djc (fun _ _ => Df) ?_
 refine dnl ?_; intro ρ
 revert ρ
 exact kZ.out) : p := h ⟨k⟩
theorem ZaY {p q : Prop} (k : q) (h : BkZ p q := by
 intro kZ
 refine dn7 ?_
 refine djf ?_
 refine ZT ?_;intro ρ
 refine Glc ?_
 revert ρ
 exact kZ.out) : p := h ⟨k⟩
theorem ZbU {p q : Prop} (k : q) (h : BkZ p q := by
 intro kZ
 refine dnl ?_; intro ρ
 refine Zb9 ?_
 refine ZaL ?_
 refine ZaY ?_;intro ρ
 refine Zah ?_
 revert ρ
 exact kZ.out) : p := h ⟨k⟩
theorem Zc3 {p q : Prop} (k : q) (h : BkZ p q := by
 intro kZ
 refine Gl ?_
 refine cq_ (row 92 vL (Ae ⟨ls, q⟩ id home m).1.lines :: blk b18 137 [vL, vi (Ae ⟨ls, q⟩ id home m).1.wait.kind, vi (Ae ⟨ls, q⟩ id home m).1.wait.line, vi (Ae ⟨ls, q⟩ id home m).1.wait.value, vi id, vi home, g1, g2] :: row 76 g1 (Ae ⟨ls, q⟩ id home m).2.1 :: row 119 g2 (Ae ⟨ls, q⟩ id home m).2.2 :: blk b8 57 [.slice none 0 0, vi 0, vi 0, vi 0] :: L) ?_
 refine JC.shut (v := vL) (xs := (Ae ⟨ls, q⟩ id home m).1.lines) .hd ?_
 refine JC.shut (v := g1) (xs := (Ae ⟨ls, q⟩ id home m).2.1) pkk ?_
 refine JC.shut (v := g2) (xs := (Ae ⟨ls, q⟩ id home m).2.2) pkk ?_
 refine cq_ (blk b8 57 [.slice none 0 0, vi 0, vi 0, vi 0] :: blk b18 137 [vL, vi (Ae ⟨ls, q⟩ id home m).1.wait.kind, vi (Ae ⟨ls, q⟩ id home m).1.wait.line, vi (Ae ⟨ls, q⟩ id home m).1.wait.value, vi id, vi home, g1, g2] :: L) ?_
 refine jd_ (fun ρ S => blk b8 57 (bif S 12 then [vL, vi (Ae ⟨ls, q⟩ id home m).1.wait.kind, vi (Ae ⟨ls, q⟩ id home m).1.wait.line, vi (Ae ⟨ls, q⟩ id home m).1.wait.value] else [.slice none 0 0, vi 0, vi 0, vi 0]) :: blk b18 137 [vL, vi (Ae ⟨ls, q⟩ id home m).1.wait.kind, vi (Ae ⟨ls, q⟩ id home m).1.wait.line, vi (Ae ⟨ls, q⟩ id home m).1.wait.value, vi id, vi home, g1, g2] :: L) ?_
 refine dn3 ?_
 refine Jy (v := .agg ([vL, vi (Ae ⟨ls, q⟩ id home m).1.wait.kind, vi (Ae ⟨ls, q⟩ id home m).1.wait.line, vi (Ae ⟨ls, q⟩ id home m).1.wait.value]).toArray) (fun _ _ => Fc (b := b18) (f := 0) (vs := [vL, vi (Ae ⟨ls, q⟩ id home m).1.wait.kind, vi (Ae ⟨ls, q⟩ id home m).1.wait.line, vi (Ae ⟨ls, q⟩ id home m).1.wait.value, vi id, vi home, g1, g2]) 4 Tryz.isAgg57 Tryz.sizeOf57) (fun _ _ _ _ _ => rfl) ?_
 refine dn8 ?_
 refine es_ 57 0 [] [] (fun ρ => b8) (fun ρ => [.slice none 0 0, vi 0, vi 0, vi 0]) (fun ρ => [vL, vi (Ae ⟨ls, q⟩ id home m).1.wait.kind, vi (Ae ⟨ls, q⟩ id home m).1.wait.line, vi (Ae ⟨ls, q⟩ id home m).1.wait.value]) Tryz.sizeOf57 ?_
 refine dn2 ?_
 refine dnl ?_; intro ρ
 refine xq_ (blk b8 57 [vL, vi (Ae ⟨ls, q⟩ id home m).1.wait.kind, vi (Ae ⟨ls, q⟩ id home m).1.wait.line, vi (Ae ⟨ls, q⟩ id home m).1.wait.value] :: blk b18 137 [vL, vi (Ae ⟨ls, q⟩ id home m).1.wait.kind, vi (Ae ⟨ls, q⟩ id home m).1.wait.line, vi (Ae ⟨ls, q⟩ id home m).1.wait.value, vi id, vi home, g1, g2] :: L) ?_
 refine Gl ?_
 revert ρ
 exact kZ.out) : p := h ⟨k⟩
theorem ZbV {p q : Prop} (k : q) (h : BkZ p q := by
 intro kZ
 refine Zbr ?_;intro hvb
 refine ZU ?_
 refine cq_ (blk b8 57 [.slice none 0 0, vi 0, vi 0, vi 0] :: blk b4 57 (c.cells u) :: blk b12 92 [vi 0, vi 0, vi (Ac c q.line).want, vi (Ac c q.line).serial, vi (Ac c q.line).seen, vi (Ac c q.line).gave, vi (Ac c q.line).given] :: blk b7 36 q.cells :: L) ?_
 refine jd_ (fun ρ S => blk b8 57 (bif S 10 then [Gh.dec (γ := Value) (ρ 4), vi c.wait.kind, vi c.wait.line, vi c.wait.value] else [.slice none 0 0, vi 0, vi 0, vi 0]) :: blk b4 57 (c.cells u) :: blk b12 92 [vi 0, vi 0, vi (Ac c q.line).want, vi (Ac c q.line).serial, vi (Ac c q.line).seen, vi (Ac c q.line).gave, vi (Ac c q.line).given] :: blk b7 36 q.cells :: L) ?_
 refine dn4 ?_
 refine Bu (γ := Value) (val := fun v => .agg (Core.cells v (A6 c q.line ({ (Ac c q.line) with state := 0, value := 0 }) c.wait)).toArray) (F := fun v => [sl v (c.lines.set q.line.toNat ({ (Ac c q.line) with state := 0, value := 0 }))]) Tryz.call51 (fun _ => rfl) (fun ρ L R w hd hs => Bt (l := { (Ac c q.line) with state := 0, value := 0 }) hs (hd.base mm) hXw (by omega)) (fun ρ g S hS hA => by have u10 : upS S 4 10 = S 10 := rfl; have h10 : S 10 = false := hA 10 ⟨0, rfl⟩; simp only [u10, h10, cond_false]) ?_
 refine dn4 ?_
 refine Fe ([⟨id, q, 0⟩] : List Done) Gq rfl (fun _ => rfl) rfl (fun _ => rfl) rfl rfl (fun ρ R hd => F2 ⟨hid, hq.1, hq.2.1, hq.2.2, by unfold Ao; simp only; omega⟩) (fun _ _ _ _ _ => rfl) ?_
 revert hvb
 exact kZ.out) : p := h ⟨k⟩
theorem ZbA {p q : Prop} (k : q) (h : BkZ p q := by
 intro kZ
 refine bx ?_; intro b7
 refine al_ (cs := [.slice none 0 0, vi 0, vi 0, vi 0]) Tryz.zeroValue57 ?_; intro b8
 revert b7 b8
 exact kZ.out) : p := h ⟨k⟩
theorem Zd1 {p q : Prop} (k : q) (h : BkZ p q := by
 intro kZ
 refine rn1 ?_
 refine An Tryz.call67 rfl (fun w hs => G4 (u := u) (c := ⟨ls, q⟩) hs mm) ?_; intro vL
 refine J.know (p := vL.oneCell' = true) (fun w hs => Bx .hd hs) (fun honeV => ?_)
 refine rn3 ?_
 revert vL honeV
 exact kZ.out) : p := h ⟨k⟩
theorem ZbW {p q : Prop} (k : q) (h : BkZ p q := by
 intro kZ
 refine Gm ?_
 refine bx ?_; intro b4
 refine ZbA ?_;intro b7 b8
 refine Gb2 ?_
 refine Zd1 ?_;intro vL honeV
 refine bx ?_; intro b18
 refine Ga1 ?_
 refine cq_ (row 92 vL ls :: blk b18 137 [vL, vi q.kind, vi q.line, vi q.value, vi id, vi home, .slice none 0 0, .slice none 0 0] :: blk b8 57 [.slice none 0 0, vi 0, vi 0, vi 0] :: blk b7 76 m.cells :: blk b4 57 [u, vi q.kind, vi q.line, vi q.value] :: L) ?_
 revert b4 b7 b8 vL honeV b18
 exact kZ.out) : p := h ⟨k⟩
theorem Zar {p q : Prop} (k : q) (h : BkZ p q := by
 intro kZ
 refine Aa ?_
 refine rn6 ?_
 exact kZ.out) : p := h ⟨k⟩
theorem ZG {p q : Prop} (k : q) (h : BkZ p q := by
 intro kZ
 refine Gb1 ?_
 refine Ga2 ?_
 exact kZ.out) : p := h ⟨k⟩
theorem Zbs {p q : Prop} (k : q) (h : BkZ p q := by
 intro kZ
 refine Gm ?_
 refine bx ?_; intro b4
 refine bx ?_; intro b5
 refine bx ?_; intro b6
 refine ZbA ?_;intro b7 b8
 refine Gb2 ?_
 refine rn2 ?_
 refine Bc ?_
 refine rn6 ?_
 refine gy ?_
 refine Di ?_
 refine Gc1 ?_
 refine Hq (c := c) (v := u) m.line mm (by omega) (by omega) (fun hlw => ?_)
 refine Zar ?_
 refine al_ (cs := zLine.cells) Tryz.zeroValue92 ?_; intro b11
 refine s_B (cs := (Ac c m.line).cells) Tryz.sizeOf92 ?_
 refine Gm ?_
 refine C6 (vs := [bp b5 0, bp b6 0, bp b7 0]) rfl ?_
 refine Gb1 ?_
 refine C6 (vs := [bp b5 0, bp b4 0]) rfl ?_
 refine ZG ?_
 refine kp [4, 5, 7, 8, 9, 10, 11, 12, 13, 43, 44, 45] ?_
 refine Aa ?_
 revert b4 b5 b6 b7 b8 hlw b11
 exact kZ.out) : p := h ⟨k⟩
theorem ZaZ {p q : Prop} (k : q) (h : BkZ p q := by
 intro kZ
 have hn := h.n1
 have hnl := h.l1
 have hnc := h.nc
 have hnh := h.nh
 have hfr := h.fr
 have honec : cv.oneCell' = true := isSlice.one (hs.fact hc)
 have honeh : hv.oneCell' = true := isSlice.one (hs.fact hh)
 have honef : fv.oneCell' = true := isSlice.one (hs.fact hf)
 have hsw0 := hsw
 unfold Step.wf Ao at hsw0
 have hop : s.op.wf := by unfold Op.wf Ao; omega
 have hsn : Ao s.node := by unfold Ao; omega
 have hsN : Ao s.n := by unfold Ao; omega
 have hsb : Ao s.bit := by unfold Ao; omega
 have hn64 : Ao (x.cores.length : Int) := by unfold Ao; omega
 have hcw : (Ap x).wf := by unfold Ap Bk Config.wf Ao; simp only; omega
 refine Ai Tryz.func10 rfl Tryz.ntmps10 rfl hs ?_
 revert hn hnl hnc hnh hfr honec honeh honef hsw0 hop hsn hsN hsb hn64 hcw
 exact kZ.out) : p := h ⟨k⟩
theorem ZL {p q : Prop} (k : q) (h : BkZ p q := by
 intro kZ
 refine Aa ?_
 refine rn3 ?_
 exact kZ.out) : p := h ⟨k⟩
theorem ZV {p q : Prop} (k : q) (h : BkZ p q := by
 intro kZ
 refine JC.rowNil 76 Msg ?_
 exact kZ.out) : p := h ⟨k⟩
theorem Zba {p q : Prop} (k : q) (h : BkZ p q := by
 intro kZ
 refine dc (fun _ _ => Am rfl rfl (Cc (show ¬ ((Ad l m.line).last.length : Int) ≤ m.src by omega))) ?_
 refine djf ?_
 refine dnl ?_; intro ρ
 refine Glc ?_
 refine JC.know (p := EpAll g13.1 10 m.line.toNat) (fun w hs => Y6 (α := Entry) (xs := l) pkk w hs) (fun hA => ?_)
 have honeE : (ep g13.1 10 m.line.toNat 0).oneCell' = true := hA.one
 refine kp [1, 5, 6, 7, 8, 9, 42, 43, 44, 45] ?_
 refine ZL ?_
 refine ob (Im (v := g13.1) (i := m.line) Oq (hl := Dj (α := Entry) (xs := l) pkk)) ?_
 refine Gb1 ?_
 refine rn5 ?_
 refine bx ?_; intro b51
 refine Ga1 ?_
 refine ZV ?_
 revert ρ hA honeE b51
 exact kZ.out) : p := h ⟨k⟩
theorem ZbX {p q : Prop} (k : q) (h : BkZ p q := by
 intro kZ
 refine dn1 ?_
 refine epg 9 0 ?_
 refine dn1 ?_
 refine dnl ?_; intro ρ
 refine xq_ (blk b8 57 [Gh.dec (γ := Value) (ρ 4), vi c.wait.kind, vi c.wait.line, vi c.wait.value] :: blk b4 57 (c.cells u) :: blk b12 92 [vi (Ac c q.line).state, vi (Ax (Ac c q.line).value q).1, vi (Ac c q.line).want, vi (Ac c q.line).serial, vi (Ac c q.line).seen, vi (Ac c q.line).gave, vi (Ac c q.line).given] :: blk b7 36 q.cells :: L) ?_
 generalize (Gh.dec (γ := Value) (ρ 4)) = v126
 generalize (Gh.dec (γ := Value) (ρ 9)) = v131
 refine Gl ?_
 have eb : A1 (Ac c q.line) q = { (Ac c q.line) with value := (Ax (Ac c q.line).value q).1 } := by unfold A1; rw [if_neg (by omega), if_pos (by omega)]
 have ed : A8 (Ac c q.line) q = true := by unfold A8; split <;> simp <;> omega
 have hz : c.wait = zOp := (hk.w.free (by omega)).1
 have et : Bv (Ac c q.line) q = (Ax (Ac c q.line).value q).2 := by unfold Bv; rw [if_neg (by omega)]
 have er : Aj c id home q = (A6 c q.line ({ (Ac c q.line) with value := (Ax (Ac c q.line).value q).1 }) c.wait, [], [⟨id, q, (Ax (Ac c q.line).value q).2⟩], 0) := by unfold Aj; rw [if_neg (by omega), if_neg (by omega), if_neg (by omega), ed, if_pos rfl, eb, et, hz]
 rw [er]
 revert ρ v126 v131 eb ed hz et er
 exact kZ.out) : p := h ⟨k⟩
theorem ZW {p q : Prop} (k : q) (h : BkZ p q := by
 intro kZ
 refine Aa ?_
 refine Ga1 ?_
 exact kZ.out) : p := h ⟨k⟩
theorem Za5 {p q : Prop} (k : q) (h : BkZ p q := by
 intro kZ
 refine kp [0, 1, 4, 5, 6, 7, 14, 15, 16, 17, 18, 19, 20, 21, 22, 23, 24, 25, 26, 27, 28, 29, 30, 31, 32, 33, 34, 35, 36, 37, 38, 39, 40, 41, 42, 43, 44, 45, 46, 47, 48, 49, 50, 51, 52, 53, 54, 55, 56, 57, 58, 59, 60, 61, 62, 63, 64, 65, 66, 67, 68, 69, 70, 71, 72, 73, 74, 75, 76, 77, 78, 79, 80, 81, 82, 83, 84, 85, 86, 87, 88, 89, 90, 91, 92, 93, 94] ?_
 refine ZW ?_
 exact kZ.out) : p := h ⟨k⟩
theorem ZbY {p q : Prop} (k : q) (h : BkZ p q := by
 intro kZ
 refine dn1 ?_
 refine epg 9 0 ?_
 refine dn1 ?_
 refine dnl ?_; intro ρ
 refine xq_ (blk b8 57 [Gh.dec (γ := Value) (ρ 4), vi c.wait.kind, vi c.wait.line, vi c.wait.value] :: blk b4 57 (c.cells u) :: blk b12 92 [vi 0, vi 0, vi (Ac c q.line).want, vi (Ac c q.line).serial, vi (Ac c q.line).seen, vi (Ac c q.line).gave, vi (Ac c q.line).given] :: blk b7 36 q.cells :: L) ?_
 generalize (Gh.dec (γ := Value) (ρ 4)) = v126
 generalize (Gh.dec (γ := Value) (ρ 9)) = v131
 refine Gl ?_
 have eb : A1 (Ac c q.line) q = { (Ac c q.line) with state := 0, value := 0 } := by unfold A1; rw [if_pos (by omega), if_neg (by omega)]
 have ed : A8 (Ac c q.line) q = true := by unfold A8; split <;> simp <;> omega
 have hz : c.wait = zOp := (hk.w.free (by omega)).1
 have et : Bv (Ac c q.line) q = 0 := by unfold Bv; rw [if_pos (by omega)]
 have er : Aj c id home q = (A6 c q.line ({ (Ac c q.line) with state := 0, value := 0 }) c.wait, [], [⟨id, q, 0⟩], 0) := by unfold Aj; rw [if_neg (by omega), if_neg (by omega), if_neg (by omega), ed, if_pos rfl, eb, et, hz]
 rw [er]
 revert ρ v126 v131 eb ed hz et er
 exact kZ.out) : p := h ⟨k⟩
theorem ZbB {p q : Prop} (k : q) (h : BkZ p q := by
 intro kZ
 refine epg 4 0 ?_
 refine epg 9 0 ?_
 refine dnl ?_; intro ρ
 revert ρ
 exact kZ.out) : p := h ⟨k⟩
theorem Zd2 {p q : Prop} (k : q) (h : BkZ p q := by
 intro kZ
 refine s_B (cs := (Bd ({ (Ad l m.line) with last := ((Ad l m.line).last.set m.src.toNat m.serial), who := m.src, serial := m.serial, alone := m.kind == 2, turn := (Ad l m.line).turn + 1 })).cells v46) Tryz.sizeOf62 ?_
 refine Gl ?_
 have er : Ak l id m = (l.set m.line.toNat (Bd ({ (Ad l m.line) with last := ((Ad l m.line).last.set m.src.toNat m.serial), who := m.src, serial := m.serial, alone := m.kind == 2, turn := (Ad l m.line).turn + 1 })), Fm (Bd ({ (Ad l m.line) with last := ((Ad l m.line).last.set m.src.toNat m.serial), who := m.src, serial := m.serial, alone := m.kind == 2, turn := (Ad l m.line).turn + 1 })) m.line id) := E1 (by omega) (by unfold Ah; rw [if_pos (by omega), if_neg (by unfold Eg; omega)]; rfl)
 refine cq_ (blk b8 62 ((Bd ({ (Ad l m.line) with last := ((Ad l m.line).last.set m.src.toNat m.serial), who := m.src, serial := m.serial, alone := m.kind == 2, turn := (Ad l m.line).turn + 1 })).cells v46) :: blk b5 76 m.cells :: L) ?_
 refine jd_ (fun ρ S => blk b8 62 ((Bd ({ (Ad l m.line) with last := ((Ad l m.line).last.set m.src.toNat m.serial), who := m.src, serial := m.serial, alone := m.kind == 2, turn := (Ad l m.line).turn + 1 })).cells v46) :: blk b5 76 m.cells :: L) ?_
 refine dn4 ?_
 refine Bu (γ := Value) (val := fun v => v) (F := fun v => [sl v (l.set m.line.toNat (Bd ({ (Ad l m.line) with last := ((Ad l m.line).last.set m.src.toNat m.serial), who := m.src, serial := m.serial, alone := m.kind == 2, turn := (Ad l m.line).turn + 1 })))]) Tryz.call59 (fun _ => rfl) (fun ρ L R w hd hs => Ch (e := Bd ({ (Ad l m.line) with last := ((Ad l m.line).last.set m.src.toNat m.serial), who := m.src, serial := m.serial, alone := m.kind == 2, turn := (Ad l m.line).turn + 1 })) (u := v46) hs (hd.base mm) (by rw [D1]; exact hd.base mm) (C8 hX).1 (by omega)) (fun _ _ _ _ _ => rfl) ?_
 refine dn4 ?_
 refine Bu (γ := Value) (val := fun v => v) (F := fun v => [sl v (Fm (Bd ({ (Ad l m.line) with last := ((Ad l m.line).last.set m.src.toNat m.serial), who := m.src, serial := m.serial, alone := m.kind == 2, turn := (Ad l m.line).turn + 1 })) m.line id)]) Tryz.call23 (fun _ => rfl) (fun ρ L R w hd hs => Ij (e := Bd ({ (Ad l m.line) with last := ((Ad l m.line).last.set m.src.toNat m.serial), who := m.src, serial := m.serial, alone := m.kind == 2, turn := (Ad l m.line).turn + 1 })) (u := v46) hs (C8 hX) (by assumption) hm.2.2.2.1 hid) (fun _ _ _ _ _ => rfl) ?_
 refine ZbB ?_;intro ρ
 refine xq_ (blk b8 62 ((Bd ({ (Ad l m.line) with last := ((Ad l m.line).last.set m.src.toNat m.serial), who := m.src, serial := m.serial, alone := m.kind == 2, turn := (Ad l m.line).turn + 1 })).cells v46) :: blk b5 76 m.cells :: L) ?_
 generalize (Gh.dec (γ := Value) (ρ 4)) = v287
 generalize (Gh.dec (γ := Value) (ρ 9)) = v292
 refine Gl ?_
 rw [er]
 revert er ρ v287 v292
 exact kZ.out) : p := h ⟨k⟩
theorem Za6 {p q : Prop} (k : q) (h : BkZ p q := by
 intro kZ
 refine dnl ?_; intro ρ
 refine Gmc ?_
 revert ρ
 exact kZ.out) : p := h ⟨k⟩
theorem Zbb {p q : Prop} (k : q) (h : BkZ p q := by
 intro kZ
 refine dc (fun _ _ => Am rfl rfl (Cc (show ¬ ((Ad l m.line).last.length : Int) ≤ m.src by omega))) ?_
 refine djf ?_
 refine Za6 ?_;intro ρ
 refine rn5 ?_
 refine al_ (cs := zEC) Tryz.zeroValue62 ?_; intro b8
 refine s_B (cs := Entry.cells u (Ad l m.line)) Tryz.sizeOf62 ?_
 refine Gl ?_
 refine kp [0, 1, 5, 6, 7, 8, 9, 43, 44, 45, 46] ?_
 refine Aa ?_
 refine liO ([] : List Int) Ea rfl (fun j h => Gb) ?_; intro v43
 refine rn2 ?_
 revert ρ b8 v43
 exact kZ.out) : p := h ⟨k⟩
theorem Zd3 {p q : Prop} (k : q) (h : BkZ p q := by
 intro kZ
 refine kp [2, 3, 4, 5, 16, 17, 18, 19, 20, 21, 22, 23, 24, 25, 26, 27, 28, 29, 30, 31, 32, 33, 34, 35, 36, 37, 38, 39, 40, 41, 42, 43, 44, 45, 46, 47, 48, 49, 50, 51, 52, 53, 54, 55, 56, 57, 58, 59, 60, 61, 62, 63, 64, 65, 66, 67, 68, 69, 70] ?_
 exact kZ.out) : p := h ⟨k⟩
theorem Za7 {p q : Prop} (k : q) (h : BkZ p q := by
 intro kZ
 refine Zd3 ?_
 refine ZL ?_
 exact kZ.out) : p := h ⟨k⟩
theorem ZD {p q : Prop} (k : q) (h : BkZ p q := by
 intro kZ
 refine Aa ?_
 refine rn2 ?_
 exact kZ.out) : p := h ⟨k⟩
theorem Zbt {p q : Prop} (k : q) (h : BkZ p q := by
 intro kZ
 refine ob (Dx (cs := zOp.cells) Ok) ?_
 exact kZ.out) : p := h ⟨k⟩
theorem Zd4 {p q : Prop} (k : q) (h : BkZ p q := by
 intro kZ
 refine Iu (γ := Value) (val := fun v => v) (F := fun v => [sl v [(⟨id, c.wait, 0⟩ : Done)]]) (caps := [bp b5 0, bp b4 0]) (vs := []) (fun _ => rfl) Tryz.call62 (fun _ => rfl) (fun ρ S L R w hs hd => Agf hs (A0 pkk rfl) (Pt (f := 1) (sz := 3) (vs := c.cells u) pkk) hid hk.wwf) (fun _ _ _ _ _ => rfl) ?_
 exact kZ.out) : p := h ⟨k⟩
theorem Zd5 {p q : Prop} (k : q) (h : BkZ p q := by
 intro kZ
 refine An Tryz.call51 rfl (fun w hs => Bt (l := { (Ac c m.line) with seen := m.turn, gave := m.turn, given := (Ac c m.line).value, state := 0, value := 0, want := 0 }) hs mm hXw (by omega)) ?_; intro v138
 refine J.know (p := v138.oneCell' = true) (fun w hs => isSlice.one (hs.fact (List.Mem.head _))) (fun hone138 => ?_)
 refine al_ (cs := [.slice none 0 0, vi 0, vi 0, vi 0]) Tryz.zeroValue57 ?_; intro b15
 refine s_B (cs := [v138, vi c.wait.kind, vi c.wait.line, vi c.wait.value]) Tryz.sizeOf57 ?_
 refine Gm ?_
 refine Zbt ?_
 refine rn1 ?_
 refine s_N [v138, vi 0, vi 0, vi 0] Tryz.sizeOf36 ?_
 refine Gl ?_
 refine cq_ (blk b8 57 [.slice none 0 0, vi 0, vi 0, vi 0] :: blk b15 57 [v138, vi 0, vi 0, vi 0] :: blk b4 57 (c.cells u) :: blk b5 3 [vi id] :: L) ?_
 refine jd_ (fun ρ S => blk b8 57 (bif S 4 then [v138, vi 0, vi 0, vi 0] else [.slice none 0 0, vi 0, vi 0, vi 0]) :: blk b15 57 [v138, vi 0, vi 0, vi 0] :: blk b4 57 (c.cells u) :: blk b5 3 [vi id] :: L) ?_
 refine dn3 ?_
 refine Zd4 ?_
 refine es_ 57 0 [] [] (fun ρ => b8) (fun ρ => [.slice none 0 0, vi 0, vi 0, vi 0]) (fun ρ => [v138, vi 0, vi 0, vi 0]) Tryz.sizeOf57 ?_
 refine dn1 ?_
 refine epg 3 0 ?_
 refine dnl ?_; intro ρ
 refine xq_ (blk b8 57 [v138, vi 0, vi 0, vi 0] :: blk b15 57 [v138, vi 0, vi 0, vi 0] :: blk b4 57 (c.cells u) :: blk b5 3 [vi id] :: L) ?_
 generalize (Gh.dec (γ := Value) (ρ 3)) = v144
 refine Gl ?_
 have ef : Cw (Ac c m.line) m.kind m.turn = { (Ac c m.line) with seen := m.turn, gave := m.turn, given := (Ac c m.line).value, state := 0, value := 0, want := 0 } := by unfold Cw; rw [if_pos (by omega)]
 have er : Ae c id home m = (A6 c m.line ({ (Ac c m.line) with seen := m.turn, gave := m.turn, given := (Ac c m.line).value, state := 0, value := 0, want := 0 }) zOp, [Bj 9 id home m.line m.turn (Ac c m.line).value], [⟨id, c.wait, 0⟩]) := by unfold Ae; rw [if_neg (by omega)]; rw [if_neg (by omega), if_pos (by omega)]; rw [if_pos (by unfold D2; omega), ef, if_pos (by omega), if_pos (by omega)]
 rw [er]
 revert v138 hone138 b15 ρ v144 ef er
 exact kZ.out) : p := h ⟨k⟩
theorem Zbc {p q : Prop} (k : q) (h : BkZ p q := by
 intro kZ
 have honec : cv.oneCell' = true := isSlice.one (hs.fact hcv)
 have honeh : hv.oneCell' = true := isSlice.one (hs.fact hhv)
 revert honec honeh
 exact kZ.out) : p := h ⟨k⟩
theorem Zbd {p q : Prop} (k : q) (h : BkZ p q := by
 intro kZ
 have hnc := h.nc
 have hnh := h.nh
 have hn1 := h.n1
 have hn2 := h.l1
 refine Zbc ?_;intro honec honeh
 have honef : fv.oneCell' = true := isSlice.one (hs.fact hfv)
 have hn64 : Ao (x.cores.length : Int) := by unfold Ao; omega
 have hop : s.op.wf := ⟨hsn.2.2.2.2.1, hsn.2.2.2.2.2.1, hsn.2.2.2.2.2.2⟩
 refine Ai Tryz.func16 rfl Tryz.ntmps16 rfl hs ?_
 revert hnc hnh hn1 hn2 honec honeh honef hn64 hop
 exact kZ.out) : p := h ⟨k⟩
theorem Zd6 {p q : Prop} (k : q) (h : BkZ p q := by
 intro kZ
 refine cq_ (blk b8 62 [vi (Ad l m.line).value, vi (Ad l m.line).owner, vi (Ad l m.line).sharers, vi (Ad l m.line).phase, vi (Ad l m.line).who, vi (Ad l m.line).serial, .bool (Ad l m.line).alone, vi (Ad l m.line).turn, vi (Ad l m.line).need, u] :: blk b5 76 m.cells :: L) ?_
 exact kZ.out) : p := h ⟨k⟩
theorem Zd7 {p q : Prop} (k : q) (h : BkZ p q := by
 intro kZ
 refine dc (fun _ _ => Am rfl rfl (Cc (by omega))) ?_
 refine djf ?_
 refine Za6 ?_;intro ρ
 refine rn6 ?_
 refine Et (xs := (Ad l m.line).last) Tryz.sizeOf3 rfl rfl pkk (getD_some 0 (by omega)) hm.2.2.2.2.1 ?_
 refine Gl ?_
 refine JC.shut (v := v46) pkk ?_
 refine JC.know (p := v46.oneCell' = true) (fun w hs => isSlice.one (hs.fact (List.Mem.head _))) (fun hone9 => ?_)
 refine kp [0, 1, 5, 6, 7, 8, 9, 48, 78, 79, 80, 81, 82, 83, 84, 85, 86, 87, 88, 89, 90, 91, 92, 93] ?_
 refine Zd6 ?_
 refine jd_ (fun ρ S => blk b8 62 (bif S 20 then [vi (Ad l m.line).value, vi (Ad l m.line).owner, vi (Ad l m.line).sharers, vi (Ad l m.line).phase, vi m.src, vi m.serial, .bool (decide (m.kind = 2)), vi ((Ad l m.line).turn + 1), vi (Ad l m.line).need, v46] else (bif S 18 then [vi (Ad l m.line).value, vi (Ad l m.line).owner, vi (Ad l m.line).sharers, vi (Ad l m.line).phase, vi m.src, vi m.serial, .bool (decide (m.kind = 2)), vi (Ad l m.line).turn, vi (Ad l m.line).need, v46] else (bif S 16 then [vi (Ad l m.line).value, vi (Ad l m.line).owner, vi (Ad l m.line).sharers, vi (Ad l m.line).phase, vi m.src, vi m.serial, .bool (Ad l m.line).alone, vi (Ad l m.line).turn, vi (Ad l m.line).need, v46] else (bif S 14 then [vi (Ad l m.line).value, vi (Ad l m.line).owner, vi (Ad l m.line).sharers, vi (Ad l m.line).phase, vi m.src, vi (Ad l m.line).serial, .bool (Ad l m.line).alone, vi (Ad l m.line).turn, vi (Ad l m.line).need, v46] else (bif S 12 then [vi (Ad l m.line).value, vi (Ad l m.line).owner, vi (Ad l m.line).sharers, vi (Ad l m.line).phase, vi (Ad l m.line).who, vi (Ad l m.line).serial, .bool (Ad l m.line).alone, vi (Ad l m.line).turn, vi (Ad l m.line).need, v46] else [vi (Ad l m.line).value, vi (Ad l m.line).owner, vi (Ad l m.line).sharers, vi (Ad l m.line).phase, vi (Ad l m.line).who, vi (Ad l m.line).serial, .bool (Ad l m.line).alone, vi (Ad l m.line).turn, vi (Ad l m.line).need, u]))))) :: blk b5 76 m.cells :: L) ?_
 refine dn9 ?_
 revert ρ hone9
 exact kZ.out) : p := h ⟨k⟩
theorem Zc4 {p q : Prop} (k : q) (h : BkZ p q := by
 intro kZ
 refine JC.slNil Core ?_
 refine JC.slNil Entry ?_
 refine JC.slNil (List UInt8) ?_
 exact kZ.out) : p := h ⟨k⟩
theorem ZK {p q : Prop} (k : q) (h : BkZ p q := by
 intro kZ
 refine JC.slNil Done ?_
 exact kZ.out) : p := h ⟨k⟩
theorem Zai {p q : Prop} (k : q) (h : BkZ p q := by
 intro kZ
 refine Zc4 ?_
 refine ZK ?_
 exact kZ.out) : p := h ⟨k⟩
theorem ZbC {p q : Prop} (k : q) (h : BkZ p q := by
 intro kZ
 refine dn8 ?_
 refine es_ 57 0 [] [] (fun ρ => b8) (fun ρ => [.slice none 0 0, vi 0, vi 0, vi 0]) (fun ρ => [vL, vi q.kind, vi q.line, vi q.value]) Tryz.sizeOf57 ?_
 exact kZ.out) : p := h ⟨k⟩
theorem Zc5 {p q : Prop} (k : q) (h : BkZ p q := by
 intro kZ
 refine cq_ (blk b8 57 [.slice none 0 0, vi 0, vi 0, vi 0] :: blk b18 137 [vL, vi q.kind, vi q.line, vi q.value, vi id, vi home, v74, .slice none 0 0] :: L) ?_
 refine jd_ (fun ρ S => blk b8 57 (bif S 12 then [vL, vi q.kind, vi q.line, vi q.value] else [.slice none 0 0, vi 0, vi 0, vi 0]) :: blk b18 137 [vL, vi q.kind, vi q.line, vi q.value, vi id, vi home, v74, .slice none 0 0] :: L) ?_
 refine dn3 ?_
 refine Jy (v := .agg ([vL, vi q.kind, vi q.line, vi q.value]).toArray) (fun _ _ => Fc (b := b18) (f := 0) (vs := [vL, vi q.kind, vi q.line, vi q.value, vi id, vi home, v74, .slice none 0 0]) 4 Tryz.isAgg57 Tryz.sizeOf57) (fun _ _ _ _ _ => rfl) ?_
 refine ZbC ?_
 refine dn2 ?_
 refine dnl ?_; intro ρ
 refine xq_ (blk b8 57 [vL, vi q.kind, vi q.line, vi q.value] :: blk b18 137 [vL, vi q.kind, vi q.line, vi q.value, vi id, vi home, v74, .slice none 0 0] :: L) ?_
 refine Gl ?_
 revert ρ
 exact kZ.out) : p := h ⟨k⟩
theorem ZbD {p q : Prop} (k : q) (h : BkZ p q := by
 intro kZ
 refine Gm ?_
 refine bx ?_; intro b2
 refine bx ?_; intro b3
 revert b2 b3
 exact kZ.out) : p := h ⟨k⟩
theorem Zc6 {p q : Prop} (k : q) (h : BkZ p q := by
 intro kZ
 refine al_ (cs := [.slice none 0 0, .slice none 0 0, .slice none 0 0]) Tryz.zeroValue30 ?_; intro b4
 revert b4
 exact kZ.out) : p := h ⟨k⟩
theorem ZaM {p q : Prop} (k : q) (h : BkZ p q := by
 intro kZ
 refine ZbD ?_;intro b2 b3
 refine Zc6 ?_;intro b4
 refine Gb2 ?_
 revert b2 b3 b4
 exact kZ.out) : p := h ⟨k⟩
theorem ZaN {p q : Prop} (k : q) (h : BkZ p q := by
 intro kZ
 refine s_B (cs := [.slice none 0 0, .slice none 0 0, .slice none 0 0]) Tryz.sizeOf30 ?_
 refine Ga2 ?_
 exact kZ.out) : p := h ⟨k⟩
theorem ZI {p q : Prop} (k : q) (h : BkZ p q := by
 intro kZ
 refine Gm ?_
 refine rn1 ?_
 exact kZ.out) : p := h ⟨k⟩
theorem Zd8 {p q : Prop} (k : q) (h : BkZ p q := by
 intro kZ
 refine dn1 ?_
 refine es_ 62 4 [12] [16, 18, 20] (fun ρ => b8) (fun ρ => [vi (Ad l m.line).value, vi (Ad l m.line).owner, vi (Ad l m.line).sharers, vi (Ad l m.line).phase, vi (Ad l m.line).who, vi (Ad l m.line).serial, .bool (Ad l m.line).alone, vi (Ad l m.line).turn, vi (Ad l m.line).need, v46]) (fun ρ => [vi m.src]) Tryz.sizeOf3 ?_
 refine dn1 ?_
 refine es_ 62 5 [12, 14] [18, 20] (fun ρ => b8) (fun ρ => [vi (Ad l m.line).value, vi (Ad l m.line).owner, vi (Ad l m.line).sharers, vi (Ad l m.line).phase, vi m.src, vi (Ad l m.line).serial, .bool (Ad l m.line).alone, vi (Ad l m.line).turn, vi (Ad l m.line).need, v46]) (fun ρ => [vi m.serial]) Tryz.sizeOf3 ?_
 refine dn1 ?_
 refine es_ 62 6 [12, 14, 16] [20] (fun ρ => b8) (fun ρ => [vi (Ad l m.line).value, vi (Ad l m.line).owner, vi (Ad l m.line).sharers, vi (Ad l m.line).phase, vi m.src, vi m.serial, .bool (Ad l m.line).alone, vi (Ad l m.line).turn, vi (Ad l m.line).need, v46]) (fun ρ => [.bool (decide (m.kind = 2))]) Tryz.sizeOf4 ?_
 refine dn1 ?_
 refine es_ 62 7 [12, 14, 16, 18] [] (fun ρ => b8) (fun ρ => [vi (Ad l m.line).value, vi (Ad l m.line).owner, vi (Ad l m.line).sharers, vi (Ad l m.line).phase, vi m.src, vi m.serial, .bool (decide (m.kind = 2)), vi (Ad l m.line).turn, vi (Ad l m.line).need, v46]) (fun ρ => [vi ((Ad l m.line).turn + 1)]) Tryz.sizeOf3 ?_
 refine dnl ?_; intro ρ
 refine xq_ (blk b8 62 [vi (Ad l m.line).value, vi (Ad l m.line).owner, vi (Ad l m.line).sharers, vi (Ad l m.line).phase, vi m.src, vi m.serial, .bool (decide (m.kind = 2)), vi ((Ad l m.line).turn + 1), vi (Ad l m.line).need, v46] :: blk b5 76 m.cells :: L) ?_
 refine ZI ?_
 have hX : EB ({ (Ad l m.line) with last := ((Ad l m.line).last.set m.src.toNat m.serial), who := m.src, serial := m.serial, alone := m.kind == 2, turn := (Ad l m.line).turn + 1 }) := by unfold EB Entry.wf Ao; simp only; omega
 revert ρ hX
 exact kZ.out) : p := h ⟨k⟩
theorem Zd9 {p q : Prop} (k : q) (h : BkZ p q := by
 intro kZ
 have er : Ak l id m = (l.set m.line.toNat (Bd ({ (Ad l m.line) with value := m.value, sharers := (Ad l m.line).sharers, owner := -1 })), Fm (Bd ({ (Ad l m.line) with value := m.value, sharers := (Ad l m.line).sharers, owner := -1 })) m.line id) := E1 (by omega) (by unfold Ah; rw [if_neg (by omega), if_neg (by omega), if_pos (by omega)]; unfold G2; rw [ed])
 refine cq_ (blk b8 62 ((Bd ({ (Ad l m.line) with value := m.value, sharers := (Ad l m.line).sharers, owner := -1 })).cells u) :: blk b5 76 m.cells :: L) ?_
 refine jd_ (fun ρ S => blk b8 62 ((Bd ({ (Ad l m.line) with value := m.value, sharers := (Ad l m.line).sharers, owner := -1 })).cells u) :: blk b5 76 m.cells :: L) ?_
 refine dn4 ?_
 refine Bu (γ := Value) (val := fun v => v) (F := fun v => [sl v (l.set m.line.toNat (Bd ({ (Ad l m.line) with value := m.value, sharers := (Ad l m.line).sharers, owner := -1 })))]) Tryz.call59 (fun _ => rfl) (fun ρ L R w hd hs => Ch (e := Bd ({ (Ad l m.line) with value := m.value, sharers := (Ad l m.line).sharers, owner := -1 })) (u := u) hs (hd.base mm) (by rw [D1]; exact hd.base mm) (C8 hX).1 (by omega)) (fun _ _ _ _ _ => rfl) ?_
 refine dn4 ?_
 refine Bu (γ := Value) (val := fun v => v) (F := fun v => [sl v (Fm (Bd ({ (Ad l m.line) with value := m.value, sharers := (Ad l m.line).sharers, owner := -1 })) m.line id)]) Tryz.call23 (fun _ => rfl) (fun ρ L R w hd hs => Ij (e := Bd ({ (Ad l m.line) with value := m.value, sharers := (Ad l m.line).sharers, owner := -1 })) (u := u) hs (C8 hX) (by assumption) hm.2.2.2.1 hid) (fun _ _ _ _ _ => rfl) ?_
 refine ZbB ?_;intro ρ
 refine xq_ (blk b8 62 ((Bd ({ (Ad l m.line) with value := m.value, sharers := (Ad l m.line).sharers, owner := -1 })).cells u) :: blk b5 76 m.cells :: L) ?_
 generalize (Gh.dec (γ := Value) (ρ 4)) = v287
 generalize (Gh.dec (γ := Value) (ρ 9)) = v292
 refine Gl ?_
 rw [er]
 revert er ρ v287 v292
 exact kZ.out) : p := h ⟨k⟩
theorem ZM {p q : Prop} (k : q) (h : BkZ p q := by
 intro kZ
 refine rn4 ?_
 refine gy ?_
 exact kZ.out) : p := h ⟨k⟩
theorem ZB {p q : Prop} (k : q) (h : BkZ p q := by
 intro kZ
 refine Aa ?_
 refine rn1 ?_
 exact kZ.out) : p := h ⟨k⟩
theorem Zc7 {p q : Prop} (k : q) (h : BkZ p q := by
 intro kZ
 refine Aa ?_
 refine ob (Dx (cs := [.slice none 0 0, vi 0, vi 0, vi 0]) Hn) ?_
 refine s_B Tryz.sizeOf57 ?_
 refine Ga3 ?_
 exact kZ.out) : p := h ⟨k⟩
theorem Zc8 {p q : Prop} (k : q) (h : BkZ p q := by
 intro kZ
 refine Glc ?_
 refine kp [5, 6, 7, 8, 9, 10, 11, 178, 179, 180, 181, 182, 183, 184, 185, 186, 187, 188, 189, 190, 191, 192, 193, 194, 195, 196, 197, 198, 199, 200] ?_
 refine Zah ?_
 exact kZ.out) : p := h ⟨k⟩
theorem ZbE {p q : Prop} (k : q) (h : BkZ p q := by
 intro kZ
 refine djc (fun _ _ => Am rfl rfl (Ba (by omega))) ?_
 refine djm ?_
 refine dn1 ?_
 refine djc (fun _ _ => Eo) ?_
 refine djm ?_
 exact kZ.out) : p := h ⟨k⟩
theorem ZbZ {p q : Prop} (k : q) (h : BkZ p q := by
 intro kZ
 refine ZaL ?_
 refine dn9 ?_
 refine djf ?_
 refine ZT ?_;intro ρ
 refine Zc8 ?_
 refine ZbE ?_
 revert ρ
 exact kZ.out) : p := h ⟨k⟩
theorem ZF {p q : Prop} (k : q) (h : BkZ p q := by
 intro kZ
 refine Aw ?_
 refine Gd1 ?_
 exact kZ.out) : p := h ⟨k⟩
theorem ZdA {p q : Prop} (k : q) (h : BkZ p q := by
 intro kZ
 refine cq_ (blk b8 57 [.slice none 0 0, vi 0, vi 0, vi 0] :: blk b4 57 (c.cells u) :: blk b11 92 (Ac c m.line).cells :: blk b5 3 [vi id] :: blk b6 3 [vi home] :: blk b7 76 m.cells :: L) ?_
 exact kZ.out) : p := h ⟨k⟩
theorem ZdB {p q : Prop} (k : q) (h : BkZ p q := by
 intro kZ
 refine Gl ?_
 refine ZK ?_
 refine ZdA ?_
 refine jd_ (fun ρ S => blk b8 57 (bif S 7 then (c.cells u) else [.slice none 0 0, vi 0, vi 0, vi 0]) :: blk b4 57 (c.cells u) :: blk b11 92 (Ac c m.line).cells :: blk b5 3 [vi id] :: blk b6 3 [vi home] :: blk b7 76 m.cells :: L) ?_
 refine dn6 ?_
 refine Iu (γ := Value) (val := fun v => v) (F := fun v => [sl v [Bj 9 id home m.line (Ac c m.line).gave (Ac c m.line).given]]) (caps := [bp b5 0, bp b6 0, bp b7 0]) (vs := [vi 9, vi (Ac c m.line).gave, vi (Ac c m.line).given]) (fun _ => rfl) Tryz.call61 (fun _ => rfl) (fun ρ S L R w hs hd => Qy hs (A0 pkk rfl) (A0 pkk rfl) (A0 pkk rfl) (by unfold Ao; omega) hlw.2.2.2.2.2.1 hlw.2.2.2.2.2.2 hid hhome hm.2.2.2.1) (fun _ _ _ _ _ => rfl) ?_
 refine es_ 57 0 [] [] (fun ρ => b8) (fun ρ => [.slice none 0 0, vi 0, vi 0, vi 0]) (fun ρ => (c.cells u)) Tryz.sizeOf57 ?_
 refine epg 6 0 ?_
 refine dn1 ?_
 refine dnl ?_; intro ρ
 refine xq_ (blk b8 57 (c.cells u) :: blk b4 57 (c.cells u) :: blk b11 92 (Ac c m.line).cells :: blk b5 3 [vi id] :: blk b6 3 [vi home] :: blk b7 76 m.cells :: L) ?_
 generalize (Gh.dec (γ := Value) (ρ 6)) = v87
 refine Gl ?_
 have er : Ae c id home m = (c, [Bj 9 id home m.line (Ac c m.line).gave (Ac c m.line).given], []) := by unfold Ae; rw [if_neg (by omega)]; rw [if_neg (by omega), if_pos (by omega)]; rw [if_neg (by unfold D2; omega), if_pos (by omega)]
 rw [er]
 revert ρ v87 er
 exact kZ.out) : p := h ⟨k⟩
theorem ZX {p q : Prop} (k : q) (h : BkZ p q := by
 intro kZ
 refine dc (fun _ _ => Am rfl rfl (Cc (by omega))) ?_
 refine Zaa ?_
 refine dn2 ?_
 exact kZ.out) : p := h ⟨k⟩
theorem Zab {p q : Prop} (k : q) (h : BkZ p q := by
 intro kZ
 refine ob (Ar Tryz.underlying3 Tryz.underlying5 rfl (Bz _)) ?_
 exact kZ.out) : p := h ⟨k⟩
theorem ZA {p q : Prop} (k : q) (h : BkZ p q := by
 intro kZ
 refine Gm ?_
 refine Ga1 ?_
 exact kZ.out) : p := h ⟨k⟩
theorem ZdC {p q : Prop} (k : q) (h : BkZ p q := by
 intro kZ
 refine dn1 ?_
 refine es_ 92 5 [] [9, 11] (fun ρ => b11) (fun ρ => [vi (Ac c m.line).state, vi (Ac c m.line).value, vi (Ac c m.line).want, vi (Ac c m.line).serial, vi (Ac c m.line).seen, vi (Ac c m.line).gave, vi (Ac c m.line).given]) (fun ρ => [vi m.turn]) Tryz.sizeOf3 ?_
 refine dn1 ?_
 refine es_ 92 4 [7] [11] (fun ρ => b11) (fun ρ => [vi (Ac c m.line).state, vi (Ac c m.line).value, vi (Ac c m.line).want, vi (Ac c m.line).serial, vi (Ac c m.line).seen, vi m.turn, vi (Ac c m.line).given]) (fun ρ => [vi m.turn]) Tryz.sizeOf3 ?_
 refine dn1 ?_
 refine es_ 92 6 [7, 9] [] (fun ρ => b11) (fun ρ => [vi (Ac c m.line).state, vi (Ac c m.line).value, vi (Ac c m.line).want, vi (Ac c m.line).serial, vi m.turn, vi m.turn, vi (Ac c m.line).given]) (fun ρ => [vi (Ac c m.line).value]) Tryz.sizeOf3 ?_
 refine dnl ?_; intro ρ
 refine xq_ (blk b11 92 [vi (Ac c m.line).state, vi (Ac c m.line).value, vi (Ac c m.line).want, vi (Ac c m.line).serial, vi m.turn, vi m.turn, vi (Ac c m.line).value] :: blk b8 57 [.slice none 0 0, vi 0, vi 0, vi 0] :: blk b4 57 (c.cells u) :: blk b5 3 [vi id] :: blk b6 3 [vi home] :: blk b7 76 m.cells :: L) ?_
 refine Gm ?_
 refine rn5 ?_
 refine By (caps := [bp b5 0, bp b6 0, bp b7 0]) (vs := [vi 9, vi m.turn, vi (Ac c m.line).value]) rfl Tryz.call61 rfl (fun w hs => Qy hs (A0 pkk rfl) (A0 pkk rfl) (A0 pkk rfl) (by unfold Ao; omega) hm.2.2.2.2.2.1 hlw.2.1 hid hhome hm.2.2.2.1) ?_; intro v118
 refine Ga1 ?_
 revert ρ v118
 exact kZ.out) : p := h ⟨k⟩
theorem ZdD {p q : Prop} (k : q) (h : BkZ p q := by
 intro kZ
 refine J.know (p := v212.oneCell' = true) (fun w hs => isSlice.one (hs.fact (List.Mem.head _))) (fun hone212 => ?_)
 refine al_ (cs := [.slice none 0 0, vi 0, vi 0, vi 0]) Tryz.zeroValue57 ?_; intro b20
 refine s_B (cs := [v212, vi c.wait.kind, vi c.wait.line, vi c.wait.value]) Tryz.sizeOf57 ?_
 refine Gm ?_
 refine Zbt ?_
 refine rn1 ?_
 refine s_N [v212, vi 0, vi 0, vi 0] Tryz.sizeOf36 ?_
 refine Gl ?_
 have hto : Ao (Ax m.value c.wait).2 := Ms hm.2.2.2.2.2.2
 refine cq_ (blk b8 57 [.slice none 0 0, vi 0, vi 0, vi 0] :: blk b20 57 [v212, vi 0, vi 0, vi 0] :: blk b17 36 c.wait.cells :: blk b5 3 [vi id] :: L) ?_
 refine jd_ (fun ρ S => blk b8 57 (bif S 7 then [v212, vi 0, vi 0, vi 0] else [.slice none 0 0, vi 0, vi 0, vi 0]) :: blk b20 57 [v212, vi 0, vi 0, vi 0] :: blk b17 36 c.wait.cells :: blk b5 3 [vi id] :: L) ?_
 refine dn6 ?_
 refine Fe ([⟨id, c.wait, (Ax m.value c.wait).2⟩] : List Done) Gq rfl (fun _ => rfl) rfl (fun _ => rfl) rfl rfl (fun ρ R hd => F2 ⟨hid, hk.wwf.1, hk.wwf.2.1, hk.wwf.2.2, hto⟩) (fun _ _ _ _ _ => rfl) ?_
 refine es_ 57 0 [] [] (fun ρ => b8) (fun ρ => [.slice none 0 0, vi 0, vi 0, vi 0]) (fun ρ => [v212, vi 0, vi 0, vi 0]) Tryz.sizeOf57 ?_
 refine dn1 ?_
 refine epg 6 0 ?_
 refine dnl ?_; intro ρ
 refine xq_ (blk b8 57 [v212, vi 0, vi 0, vi 0] :: blk b20 57 [v212, vi 0, vi 0, vi 0] :: blk b17 36 c.wait.cells :: blk b5 3 [vi id] :: L) ?_
 generalize (Gh.dec (γ := Value) (ρ 6)) = v221
 refine Gl ?_
 revert hone212 b20 hto ρ v221
 exact kZ.out) : p := h ⟨k⟩
theorem ZbF {p q : Prop} (k : q) (h : BkZ p q := by
 intro kZ
 refine djc (fun _ _ => Am rfl rfl (Ba (by omega))) ?_
 exact kZ.out) : p := h ⟨k⟩
theorem Zac {p q : Prop} (k : q) (h : BkZ p q := by
 intro kZ
 refine dc (fun _ _ => Am rfl rfl (Ca (by omega))) ?_
 refine Zaa ?_
 refine dn9 ?_
 exact kZ.out) : p := h ⟨k⟩
theorem Zca {p q : Prop} (k : q) (h : BkZ p q := by
 intro kZ
 refine Gl ?_
 refine Zc1 ?_;intro hEB
 refine ZaK ?_
 refine dnl ?_; intro ρ
 refine Gl ?_
 refine Zc2 ?_;intro er
 revert hEB ρ er
 exact kZ.out) : p := h ⟨k⟩
theorem ZaB {p q : Prop} (k : q) (h : BkZ p q := by
 intro kZ
 have hone0 : u.oneCell' = true := isSlice.one (hs.fact hu)
 revert hone0
 exact kZ.out) : p := h ⟨k⟩
theorem Zbe {p q : Prop} (k : q) (h : BkZ p q := by
 intro kZ
 have hid0 := hid
 have hhome0 := hhome
 unfold Ao at hid0 hhome0
 revert hid0 hhome0
 exact kZ.out) : p := h ⟨k⟩
theorem Zbf {p q : Prop} (k : q) (h : BkZ p q := by
 intro kZ
 have hlen := Be hu hs
 refine ZaB ?_;intro hone0
 have hn4 : ls.length ≤ 4 := hk.n
 have hm0 := hm
 unfold Msg.wf Ao at hm0
 refine Zbe ?_;intro hid0 hhome0
 refine Ai Tryz.func76 rfl Tryz.ntmps76 rfl hs ?_
 revert hlen hone0 hn4 hm0 hid0 hhome0
 exact kZ.out) : p := h ⟨k⟩
theorem Zbg {p q : Prop} (k : q) (h : BkZ p q := by
 intro kZ
 refine J.know (p := cY.oneCell' = true ∧ hY.oneCell' = true ∧ fY.oneCell' = true) (fun w hs => ⟨Bx .hd hs, isSlice.one (hs.fact (mm (f := sl hY x.home))), isSlice.one (hs.fact (mm (f := sl fY x.frames)))⟩) (fun h12 => ?_)
 revert h12
 exact kZ.out) : p := h ⟨k⟩
theorem ZdE {p q : Prop} (k : q) (h : BkZ p q := by
 intro kZ
 refine Gl ?_
 refine cq_ (blk b11 92 [vi (Ac c m.line).state, vi (Ac c m.line).value, vi (Ac c m.line).want, vi (Ac c m.line).serial, vi (Ac c m.line).seen, vi (Ac c m.line).gave, vi (Ac c m.line).given] :: blk b8 57 [.slice none 0 0, vi 0, vi 0, vi 0] :: blk b4 57 (c.cells u) :: blk b5 3 [vi id] :: blk b6 3 [vi home] :: blk b7 76 m.cells :: L) ?_
 refine jd_ (fun ρ S => blk b11 92 (bif S 11 then [vi (Ac c m.line).state, vi (Ac c m.line).value, vi (Ac c m.line).want, vi (Ac c m.line).serial, vi m.turn, vi m.turn, vi (Ac c m.line).value] else (bif S 9 then [vi (Ac c m.line).state, vi (Ac c m.line).value, vi (Ac c m.line).want, vi (Ac c m.line).serial, vi m.turn, vi m.turn, vi (Ac c m.line).given] else (bif S 7 then [vi (Ac c m.line).state, vi (Ac c m.line).value, vi (Ac c m.line).want, vi (Ac c m.line).serial, vi (Ac c m.line).seen, vi m.turn, vi (Ac c m.line).given] else [vi (Ac c m.line).state, vi (Ac c m.line).value, vi (Ac c m.line).want, vi (Ac c m.line).serial, vi (Ac c m.line).seen, vi (Ac c m.line).gave, vi (Ac c m.line).given]))) :: blk b8 57 [.slice none 0 0, vi 0, vi 0, vi 0] :: blk b4 57 (c.cells u) :: blk b5 3 [vi id] :: blk b6 3 [vi home] :: blk b7 76 m.cells :: L) ?_
 refine dn5 ?_
 exact kZ.out) : p := h ⟨k⟩
theorem ZC {p q : Prop} (k : q) (h : BkZ p q := by
 intro kZ
 refine Gm ?_
 refine Ga2 ?_
 exact kZ.out) : p := h ⟨k⟩
theorem ZbG {p q : Prop} (k : q) (h : BkZ p q := by
 intro kZ
 refine Bc ?_
 refine rn6 ?_
 refine gy ?_
 refine Di ?_
 exact kZ.out) : p := h ⟨k⟩
theorem ZZ {p q : Prop} (k : q) (h : BkZ p q := by
 intro kZ
 refine djc (fun _ _ => Eo) ?_
 exact kZ.out) : p := h ⟨k⟩
theorem Zc9 {p q : Prop} (k : q) (h : BkZ p q := by
 intro kZ
 refine Zd6 ?_
 refine jd_ (fun ρ S => blk b8 62 [vi (Ad l m.line).value, vi (Ad l m.line).owner, vi (Ad l m.line).sharers, vi (Ad l m.line).phase, vi (Ad l m.line).who, vi (Ad l m.line).serial, .bool (Ad l m.line).alone, vi (Ad l m.line).turn, vi (Ad l m.line).need, u] :: blk b5 76 m.cells :: L) ?_
 refine dn4 ?_
 exact kZ.out) : p := h ⟨k⟩
theorem ZN {p q : Prop} (k : q) (h : BkZ p q := by
 intro kZ
 refine Gm ?_
 refine Gb1 ?_
 exact kZ.out) : p := h ⟨k⟩
theorem ZaC {p q : Prop} (k : q) (h : BkZ p q := by
 intro kZ
 refine Gb1 ?_
 refine Gb2 ?_
 exact kZ.out) : p := h ⟨k⟩
theorem Zbh {p q : Prop} (k : q) (h : BkZ p q := by
 intro kZ
 refine al_ (cs := [.slice none 0 0, .slice none 0 0, .slice none 0 0]) Tryz.zeroValue30 ?_; intro b7
 refine s_B (cs := [cY, hY, fY]) Tryz.sizeOf30 ?_
 refine ZN ?_
 refine ZaC ?_
 revert b7
 exact kZ.out) : p := h ⟨k⟩
theorem ZE {p q : Prop} (k : q) (h : BkZ p q := by
 intro kZ
 refine Aa ?_
 refine rn4 ?_
 exact kZ.out) : p := h ⟨k⟩
theorem ZdF {p q : Prop} (k : q) (h : BkZ p q := by
 intro kZ
 refine cq_ (blk b8 57 [.slice none 0 0, vi 0, vi 0, vi 0] :: blk b18 137 [vL, vi q.kind, vi q.line, vi q.value, vi id, vi home, .slice none 0 0, .slice none 0 0] :: L) ?_
 refine jd_ (fun ρ S => blk b8 57 (bif S 12 then [vL, vi q.kind, vi q.line, vi q.value] else [.slice none 0 0, vi 0, vi 0, vi 0]) :: blk b18 137 [vL, vi q.kind, vi q.line, vi q.value, vi id, vi home, .slice none 0 0, .slice none 0 0] :: L) ?_
 refine dn3 ?_
 refine Jy (v := .agg ([vL, vi q.kind, vi q.line, vi q.value]).toArray) (fun _ _ => Fc (b := b18) (f := 0) (vs := [vL, vi q.kind, vi q.line, vi q.value, vi id, vi home, .slice none 0 0, .slice none 0 0]) 4 Tryz.isAgg57 Tryz.sizeOf57) (fun _ _ _ _ _ => rfl) ?_
 refine ZbC ?_
 refine dn2 ?_
 refine dnl ?_; intro ρ
 refine xq_ (blk b8 57 [vL, vi q.kind, vi q.line, vi q.value] :: blk b18 137 [vL, vi q.kind, vi q.line, vi q.value, vi id, vi home, .slice none 0 0, .slice none 0 0] :: L) ?_
 refine Gl ?_
 revert ρ
 exact kZ.out) : p := h ⟨k⟩
theorem ZP {p q : Prop} (k : q) (h : BkZ p q := by
 intro kZ
 refine rn3 ?_
 refine gy ?_
 exact kZ.out) : p := h ⟨k⟩
theorem ZH {p q : Prop} (k : q) (h : BkZ p q := by
 intro kZ
 refine rn1 ?_
 refine sc ?_
 exact kZ.out) : p := h ⟨k⟩
theorem ZcA {p q : Prop} (k : q) (h : BkZ p q := by
 intro kZ
 refine ob (Cr (i := 0) Tryz.underlying150 Tryz.sizeOf3 rfl rfl rfl) ?_
 refine rn1 ?_
 exact kZ.out) : p := h ⟨k⟩
theorem Zcb {p q : Prop} (k : q) (h : BkZ p q := by
 intro kZ
 refine Aa ?_
 refine ZcA ?_
 refine Bc ?_
 refine rn1 ?_
 refine gy ?_
 refine ZcA ?_
 refine gy ?_
 refine ob (Cr (i := 1) Tryz.underlying150 Tryz.sizeOf3 rfl rfl rfl) ?_
 refine rn1 ?_
 refine gy ?_
 exact kZ.out) : p := h ⟨k⟩
theorem Zbi {p q : Prop} (k : q) (h : BkZ p q := by
 intro kZ
 refine Bp rfl ?_
 refine J.nil ?_
 exact kZ.out) : p := h ⟨k⟩
theorem Zbu {p q : Prop} (k : q) (h : BkZ p q := by
 intro kZ
 refine Em ?_
 refine Av ?_
 refine Aa ?_
 refine D9 rfl rfl (Ll (by omega) (by omega)) ?_
 refine Bo rfl ?_
 refine J.nil ?_
 exact kZ.out) : p := h ⟨k⟩
theorem ZdG {p q : Prop} (k : q) (h : BkZ p q := by
 intro kZ
 refine J.shut .hd ?_
 refine J5 Fz rfl rfl rfl (by decide) pkk (.head _) (fun w hs => by have : maxN = 16777216 := rfl; rw [List.length_take, I1]; simp only [List.length_cons, List.length_nil]; omega) ?_; intro v44
 refine Zbi ?_
 refine Zbu ?_
 refine Au (k + 1, v44) (by show k + 1 ≤ b.length; omega) (by show b.length - (k + 1) < b.length - k; omega) ⟨rfl, rfl, rfl, rfl, rfl, trivial⟩ (fun w hs => ?_)
 revert v44 w hs
 exact kZ.out) : p := h ⟨k⟩
theorem Zbj {p q : Prop} (k : q) (h : BkZ p q := by
 intro kZ
 refine Ga3 ?_
 have er : Ak l id m = (l, []) := C3 (by omega) (by unfold Ah; rw [if_neg (by omega), if_neg (by omega), if_neg (by omega), if_neg (by omega), if_neg (by omega)])
 rw [er]
 revert er
 exact kZ.out) : p := h ⟨k⟩
theorem Zcc {p q : Prop} (k : q) (h : BkZ p q := by
 intro kZ
 have eh : (Ah (Ad l m.line) id m) = ((Ad l m.line), []) := by unfold Ah; rw [if_neg (by omega), if_neg (by omega), if_neg (by omega), if_neg (by omega), if_neg (by omega)]
 refine ZbS ?_;intro hEB ρ er
 revert eh hEB ρ er
 exact kZ.out) : p := h ⟨k⟩
theorem Zaj {p q : Prop} (k : q) (h : BkZ p q := by
 intro kZ
 refine ob (Ef rfl (decide_eq_true (by omega))) ?_
 refine ZM ?_
 exact kZ.out) : p := h ⟨k⟩
theorem ZcB {p q : Prop} (k : q) (h : BkZ p q := by
 intro kZ
 refine Zc1 ?_;intro hEB
 refine kp [6, 7, 8, 10, 239, 240, 241, 242, 243] ?_
 refine ZaK ?_
 refine dnl ?_; intro ρ
 refine Gl ?_
 refine Zc2 ?_;intro er
 revert hEB ρ er
 exact kZ.out) : p := h ⟨k⟩
theorem Zas {p q : Prop} (k : q) (h : BkZ p q := by
 intro kZ
 refine J.nil ?_
 refine Av ?_
 exact kZ.out) : p := h ⟨k⟩
theorem Zat {p q : Prop} (k : q) (h : BkZ p q := by
 intro kZ
 refine Bp rfl ?_
 refine Zas ?_
 exact kZ.out) : p := h ⟨k⟩
theorem Zbv {p q : Prop} (k : q) (h : BkZ p q := by
 intro kZ
 refine ZE ?_
 refine Cf ?_
 refine ZM ?_
 exact kZ.out) : p := h ⟨k⟩
theorem ZdH {p q : Prop} (k : q) (h : BkZ p q := by
 intro kZ
 refine Zbv ?_
 refine ob (E6 (a := (ent x i).sharers) (b := (p : Int)) (Nf hsh.1 hsh.2 (by omega) (by omega))) ?_
 refine gy ?_
 refine ob (E6 (a := (((ent x i).sharers.toNat / 2 ^ (p : Int).toNat : Nat) : Int)) (b := 1) (Jv hsh.1 hsh.2 (by omega) (by omega))) ?_
 refine gy ?_
 exact kZ.out) : p := h ⟨k⟩
theorem ZaO {p q : Prop} (k : q) (h : BkZ p q := by
 intro kZ
 refine Gm ?_
 refine bx ?_; intro b5
 refine Gb2 ?_
 refine rn1 ?_
 refine An Tryz.call65 rfl (fun w hs => Hu (l := l) hs mm) ?_; intro g13
 refine Ga1 ?_
 revert b5 g13
 exact kZ.out) : p := h ⟨k⟩
theorem Zbk {p q : Prop} (k : q) (h : BkZ p q := by
 intro kZ
 have hlen := Be hu hs
 refine ZaB ?_;intro hone0
 have hn4 := hk.n
 have hm0 := hm
 unfold Msg.wf Ao at hm0
 refine Ai Tryz.func29 rfl Tryz.ntmps29 rfl hs ?_
 revert hlen hone0 hn4 hm0
 exact kZ.out) : p := h ⟨k⟩
theorem Zad {p q : Prop} (k : q) (h : BkZ p q := by
 intro kZ
 refine Gm ?_
 refine rn3 ?_
 exact kZ.out) : p := h ⟨k⟩
theorem Zak {p q : Prop} (k : q) (h : BkZ p q := by
 intro kZ
 refine Gm ?_
 refine rn4 ?_
 exact kZ.out) : p := h ⟨k⟩
theorem Zan {p q : Prop} (k : q) (h : BkZ p q := by
 intro kZ
 refine rn2 ?_
 refine sc ?_
 exact kZ.out) : p := h ⟨k⟩
theorem ZdI {p q : Prop} (k : q) (h : BkZ p q := by
 intro kZ
 refine Zad ?_
 refine sc ?_
 refine Zak ?_
 refine sc ?_
 refine Zan ?_
 refine Gl ?_
 refine cq_ (blk bk 137 [vL, vi q.kind, vi q.line, vi q.value, vi id, vi home, vo, vd] :: row 119 vd ds :: foc 92 vL ls m.line.toNat [vi 0, vi 0, vi 0, vi l.serial, vi m.turn, vi m.turn, vi l.value] :: row 76 vo ms :: blk bm 76 m.cells :: LX) ?_
 refine jd_ (fun ρ S => blk bk 137 (bif S 19 then [vL, vi q.kind, vi q.line, vi q.value, vi id, vi home, vo, (Gh.dec (γ := Value) (ρ 16))] else [vL, vi q.kind, vi q.line, vi q.value, vi id, vi home, vo, vd]) :: (bif S 16 then row 119 (Gh.dec (γ := Value) (ρ 16)) (ds ++ [(⟨id, q, 0⟩ : Done)]) else row 119 vd ds) :: foc 92 vL ls m.line.toNat [vi 0, vi 0, vi 0, vi l.serial, vi m.turn, vi m.turn, vi l.value] :: row 76 vo ms :: blk bm 76 m.cells :: (LX)) ?_
 refine dn4 ?_
 exact kZ.out) : p := h ⟨k⟩
theorem ZcC {p q : Prop} (k : q) (h : BkZ p q := by
 intro kZ
 refine dn3 ?_
 refine Iu (γ := Value) (val := fun v => v) (F := fun v => [sl v [Bj 8 id home m.line m.turn 0]]) (caps := [bp b5 0, bp b6 0, bp b7 0]) (vs := [vi 8, vi m.turn, vi 0]) (fun _ => rfl) Tryz.call61 (fun _ => rfl) (fun ρ S L R w hs hd => Qy hs (A0 pkk rfl) (A0 pkk rfl) (A0 pkk rfl) (by unfold Ao; omega) hm.2.2.2.2.2.1 (by unfold Ao; omega) hid hhome hm.2.2.2.1) (fun _ _ _ _ _ => rfl) ?_
 exact kZ.out) : p := h ⟨k⟩
theorem ZcD {p q : Prop} (k : q) (h : BkZ p q := by
 intro kZ
 have hno : ¬ (e.alone = true ∧ (k : Int) ≠ e.who ∧ e.sharers.toNat.testBit k = true) := by first | exact (fun h => absurd (ht16.symm.trans h.1) (by decide)) | exact (fun h => ht22 h.2.1) | exact (fun h => absurd (ht27.symm.trans h.2.2) (by decide))
 have e1 : C2 e (k + 1) = C2 e k := by rw [C2, if_neg hno]
 have e2 : phT e (k + 1) = phT e k := by unfold phT; rw [e1]
 refine Au (k + 1) (by omega) (by omega) alT (fun w hs => ?_)
 revert hno e1 e2 w hs
 exact kZ.out) : p := h ⟨k⟩
theorem ZcE {p q : Prop} (k : q) (h : BkZ p q := by
 intro kZ
 refine J.know (p := v98.oneCell' = true) (fun w hs => isSlice.one (hs.fact (List.Mem.head _))) (fun hone98 => ?_)
 refine al_ (cs := [.slice none 0 0, vi 0, vi 0, vi 0]) Tryz.zeroValue57 ?_; intro b14
 refine s_B (cs := [v98, vi c.wait.kind, vi c.wait.line, vi c.wait.value]) Tryz.sizeOf57 ?_
 refine Gm ?_
 refine rn2 ?_
 refine s_N [v98, vi q.kind, vi q.line, vi q.value] Tryz.sizeOf36 ?_
 refine Gl ?_
 refine ZK ?_
 revert hone98 b14
 exact kZ.out) : p := h ⟨k⟩
theorem Zbw {p q : Prop} (k : q) (h : BkZ p q := by
 intro kZ
 refine Za6 ?_;intro ρ
 refine Ga3 ?_
 have er : Ak l id m = (l, []) := C3 (by omega) (by unfold Ah; rw [if_pos (by omega), if_pos (by unfold Eg; omega)])
 rw [er]
 revert ρ er
 exact kZ.out) : p := h ⟨k⟩
theorem ZcF {p q : Prop} (k : q) (h : BkZ p q := by
 intro kZ
 refine e_p (v := fun ρ => (Gh.dec (γ := Value × Value) (ρ 6)).1) (fun _ _ => q_x) (Ind.gh (h := fun g => ((Gh.dec (γ := Value × Value) g).1 : Value)) 6 1 rfl) (fun _ _ _ _ _ => rfl) ?_
 refine e_p (v := fun ρ => (Gh.dec (γ := Value × Value) (ρ 6)).2) (fun _ _ => q_x) (Ind.gh (h := fun g => ((Gh.dec (γ := Value × Value) g).2 : Value)) 6 1 rfl) (fun _ _ _ _ _ => rfl) ?_
 exact kZ.out) : p := h ⟨k⟩
theorem ZcG {p q : Prop} (k : q) (h : BkZ p q := by
 intro kZ
 refine e_p (v := fun ρ => (Gh.dec (γ := Value × Value) (ρ 6)).1) (fun _ _ => Df) (Ind.gh (h := fun g => ((Gh.dec (γ := Value × Value) g).1 : Value)) 6 0 rfl) (fun _ _ _ _ _ => rfl) ?_
 refine e_p (v := fun ρ => (Gh.dec (γ := Value × Value) (ρ 6)).2) (fun _ _ => Df) (Ind.gh (h := fun g => ((Gh.dec (γ := Value × Value) g).2 : Value)) 6 0 rfl) (fun _ _ _ _ _ => rfl) ?_
 exact kZ.out) : p := h ⟨k⟩
theorem ZaD {p q : Prop} (k : q) (h : BkZ p q := by
 intro kZ
 refine Aa ?_
 refine Ga3 ?_
 exact kZ.out) : p := h ⟨k⟩
theorem ZaP {p q : Prop} (k : q) (h : BkZ p q := by
 intro kZ
 refine kp [0, 3, 4, 5, 6] ?_
 refine ZaD ?_
 have er : C7 m o = ([], 0, 3) := D6 (by omega) (by omega)
 rw [er]
 revert er
 exact kZ.out) : p := h ⟨k⟩
theorem ZcH {p q : Prop} (k : q) (h : BkZ p q := by
 intro kZ
 refine kp [1, 2, 3, 4, 5, 6, 7, 8, 10, 11, 12, 13, 14, 15, 16, 17, 18, 19, 20, 21, 22, 23, 24, 25, 26, 27, 28, 29, 30, 31, 32, 33, 34, 35, 36, 37, 38, 39, 40, 41, 42, 43, 44, 45, 46, 47, 48, 49, 50, 51, 52, 53, 54, 55, 56, 57, 58, 59, 60, 61, 62, 63, 64, 65, 66, 67, 68, 69, 70, 71, 72, 73, 74, 75, 76, 77, 78, 79, 80, 81, 82, 83, 84, 85, 86] ?_
 exact kZ.out) : p := h ⟨k⟩
theorem ZcI {p q : Prop} (k : q) (h : BkZ p q := by
 intro kZ
 refine dtl ?_; intro ρ
 refine J.conseq (L' := blk b8 62 [vi (Ad l m.line).value, vi (Ad l m.line).owner, vi (Ad l m.line).sharers, vi (Ad l m.line).phase, vi (Ad l m.line).who, vi (Ad l m.line).serial, .bool (Ad l m.line).alone, vi (Ad l m.line).turn, vi (Ad l m.line).need, u] :: blk b5 76 m.cells :: L) (fun w hs => hs) ?_
 refine ZH ?_
 refine Gm ?_
 revert ρ
 exact kZ.out) : p := h ⟨k⟩
theorem ZQ {p q : Prop} (k : q) (h : BkZ p q := by
 intro kZ
 refine Aa ?_
 refine Bo rfl ?_
 exact kZ.out) : p := h ⟨k⟩
theorem ZaE {p q : Prop} (k : q) (h : BkZ p q := by
 intro kZ
 refine dc (fun _ _ => Am rfl rfl (Ba (by omega))) ?_
 exact kZ.out) : p := h ⟨k⟩
theorem Zae {p q : Prop} (k : q) (h : BkZ p q := by
 intro kZ
 refine ZD ?_
 refine Bc ?_
 exact kZ.out) : p := h ⟨k⟩
theorem Za8 {p q : Prop} (k : q) (h : BkZ p q := by
 intro kZ
 refine ZD ?_
 refine ZbG ?_
 exact kZ.out) : p := h ⟨k⟩
theorem ZcJ {p q : Prop} (k : q) (h : BkZ p q := by
 intro kZ
 refine kp [1, 7, 8, 9, 10, 11, 12, 42, 43] ?_
 refine Aa ?_
 refine Gb2 ?_
 exact kZ.out) : p := h ⟨k⟩
theorem Zcd {p q : Prop} (k : q) (h : BkZ p q := by
 intro kZ
 refine ZbW ?_;intro b4 b7 b8 vL honeV b18
 refine Za8 ?_
 refine Gc1 ?_
 refine Bq ?_
 refine dn9 ?_
 refine dnl ?_; intro ρ
 refine Gl ?_
 refine ZcJ ?_
 refine ZF ?_
 revert b4 b7 b8 vL honeV b18 ρ
 exact kZ.out) : p := h ⟨k⟩
theorem Zaf {p q : Prop} (k : q) (h : BkZ p q := by
 intro kZ
 refine rn2 ?_
 refine gy ?_
 exact kZ.out) : p := h ⟨k⟩
theorem ZcK {p q : Prop} (k : q) (h : BkZ p q := by
 intro kZ
 refine ob (Am rfl rfl (Ba (by rw [he]))) ?_
 refine Zaf ?_
 refine ob (Dx (cs := zSeen.cells) Rw) ?_
 refine gy ?_
 refine ob (F3 rfl rfl (Nl (He c ops losses most).1 zSeen _) (Iv (x := (He c ops losses most).1) (y := zSeen) (by rw [he]; rfl))) ?_
 refine Ga2 ?_
 exact kZ.out) : p := h ⟨k⟩
theorem Zaz {p q : Prop} (k : q) (h : BkZ p q := by
 intro kZ
 refine ZF ?_
 refine ZF ?_
 refine Cf ?_
 exact kZ.out) : p := h ⟨k⟩
theorem ZcL {p q : Prop} (k : q) (h : BkZ p q := by
 intro kZ
 refine dn8 ?_
 refine Fe ([⟨11, id, m.src, m.line, m.serial, 0, 0, false⟩] : List Msg) Fp rfl (fun _ => rfl) rfl (fun _ => rfl) rfl rfl (fun ρ R hd => Il (by unfold Msg.wf Ao; simp only; omega)) (fun _ _ _ _ _ => rfl) ?_
 refine epg 4 0 ?_
 refine epg 13 0 ?_
 refine dnl ?_; intro ρ
 revert ρ
 exact kZ.out) : p := h ⟨k⟩
theorem Zbx {p q : Prop} (k : q) (h : BkZ p q := by
 intro kZ
 refine ob (Cz (c := .bool false) Tryz.isAgg4 (hc := A0 pkk (by show some (Value.bool m.alone) = _; rw [hal]))) ?_
 exact kZ.out) : p := h ⟨k⟩
theorem ZcM {p q : Prop} (k : q) (h : BkZ p q := by
 intro kZ
 refine JC.conseq (L' := row 92 vL ls :: blk b68 137 [vL, vi q0.kind, vi q0.line, vi q0.value, vi id, vi home, .slice none 0 0, .slice none 0 0] :: blk b8 57 [.slice none 0 0, vi 0, vi 0, vi 0] :: blk b7 36 q.cells :: L) (fun w hs => Ag (Ek hl hlw (hs.pick pkk))) ?_
 exact kZ.out) : p := h ⟨k⟩
theorem Zby {p q : Prop} (k : q) (h : BkZ p q := by
 intro kZ
 refine Bq ?_
 refine dn2 ?_
 refine djc (fun _ _ => Am rfl rfl (C0 (by omega))) ?_
 refine djm ?_
 refine dn6 ?_
 exact kZ.out) : p := h ⟨k⟩
theorem ZbH {p q : Prop} (k : q) (h : BkZ p q := by
 intro kZ
 refine s_B Tryz.sizeOf76 ?_
 refine Ga1 ?_
 exact kZ.out) : p := h ⟨k⟩
theorem ZaQ {p q : Prop} (k : q) (h : BkZ p q := by
 intro kZ
 refine ob (Dx (cs := zMsg.cells) D8) ?_
 refine ZbH ?_
 exact kZ.out) : p := h ⟨k⟩
theorem Zbz {p q : Prop} (k : q) (h : BkZ p q := by
 intro kZ
 refine ob (Dx (cs := [.slice none 0 0, .slice none 0 0, .slice none 0 0]) Ie) ?_
 exact kZ.out) : p := h ⟨k⟩
theorem Zce {p q : Prop} (k : q) (h : BkZ p q := by
 intro kZ
 refine Zc4 ?_
 refine Aa ?_
 refine Zbz ?_
 refine s_B Tryz.sizeOf30 ?_
 refine Ga1 ?_
 have er : A4 c = (zChip, 3) := H2 (by omega)
 rw [er]
 revert er
 exact kZ.out) : p := h ⟨k⟩
theorem ZcN {p q : Prop} (k : q) (h : BkZ p q := by
 intro kZ
 refine kp [2, 3, 10, 16, 17, 20, 21, 22, 24, 26, 27, 29, 115, 116, 117, 118, 119, 120, 121, 122, 123, 124, 125, 126, 127, 128, 129, 130, 131, 132, 133, 134, 135, 136, 137, 138, 139, 140, 141, 142, 143, 144, 145, 146, 147, 148, 149, 150, 151] ?_
 refine ZB ?_
 exact kZ.out) : p := h ⟨k⟩
theorem Zcf {p q : Prop} (k : q) (h : BkZ p q := by
 intro kZ
 refine Hv (ls := ls) (l := l) (i := m.line) pkk hl (by omega) (by omega) (fun hlw hA => ?_)
 have hlw0 := hlw
 unfold Line.wf Ao at hlw0
 have honeL : (ep vL 7 m.line.toNat 0).oneCell' = true := hA.one
 refine Bq ?_
 revert hlw hA hlw0 honeL
 exact kZ.out) : p := h ⟨k⟩
theorem ZdJ {p q : Prop} (k : q) (h : BkZ p q := by
 intro kZ
 refine kp [0, 1, 96, 97, 98, 99, 100, 101, 102, 103, 104] ?_
 refine Bq ?_
 refine dn9 ?_
 refine dtl ?_; intro ρ
 refine An Tryz.call96 rfl (fun w hs => Fj (vL := vL) (vd := vd) (q := q) (id := id) (home := home) (ms := ms) (kind := 10) (line := m.line) (serial := 0) (turn := m.turn) (value := 0) (LX := foc 92 vL ls m.line.toNat [vi l.state, vi l.value, vi l.want, vi l.serial, vi l.seen, vi l.gave, vi l.given] :: row 119 vd ds :: blk bm 76 m.cells :: LX) (Ag hs) hn (by unfold Msg.wf Ao; simp only; omega)) ?_; intro v105
 refine Gl ?_
 revert ρ v105
 exact kZ.out) : p := h ⟨k⟩
theorem ZbI {p q : Prop} (k : q) (h : BkZ p q := by
 intro kZ
 refine Ga3 ?_
 have er : Ak l id m = (l, []) := by unfold Ak; rw [if_pos (by omega)]
 rw [er]
 revert er
 exact kZ.out) : p := h ⟨k⟩
theorem ZcO {p q : Prop} (k : q) (h : BkZ p q := by
 intro kZ
 refine kp [1, 2, 3, 4, 5, 6, 7, 8, 10, 11, 12, 13, 14, 15, 16, 17, 18, 19, 20, 21, 22, 23, 24, 25, 26, 27, 28, 29, 30, 31, 32, 33, 34, 35, 36, 37, 38, 39, 40, 41, 42, 43, 44, 45, 46, 47, 48, 49, 50, 51, 52, 53, 54, 55, 56, 57, 58, 59, 60, 61, 62] ?_
 exact kZ.out) : p := h ⟨k⟩
theorem ZdK {p q : Prop} (k : q) (h : BkZ p q := by
 intro kZ
 refine dnl ?_; intro ρ
 refine xq_ (blk bk 137 [vL, vi q.kind, vi q.line, vi q.value, vi id, vi home, vo, (Gh.dec (γ := Value) (ρ 16))] :: row 119 (Gh.dec (γ := Value) (ρ 16)) (ds ++ [(⟨id, q, 0⟩ : Done)]) :: foc 92 vL ls m.line.toNat [vi 0, vi 0, vi 0, vi l.serial, vi m.turn, vi m.turn, vi l.value] :: row 76 vo ms :: blk bm 76 m.cells :: (LX)) ?_
 generalize (Gh.dec (γ := Value) (ρ 15)) = v120
 generalize (Gh.dec (γ := Value) (ρ 16)) = v121
 refine Gl ?_
 refine kp [0, 1, 4, 124, 125, 126, 127, 128] ?_
 refine ZB ?_
 refine Zbt ?_
 refine rn3 ?_
 refine s_N [vL, vi 0, vi 0, vi 0, vi id, vi home, vo, v121] Tryz.sizeOf36 ?_
 refine Gl ?_
 refine Bq ?_
 refine dn13 ?_
 refine dtl ?_; intro ρ
 refine An Tryz.call96 rfl (fun w hs => Fj (vL := vL) (vd := v121) (q := zOp) (id := id) (home := home) (ms := ms) (kind := 9) (line := m.line) (serial := 0) (turn := m.turn) (value := l.value) (LX := foc 92 vL ls m.line.toNat [vi 0, vi 0, vi 0, vi l.serial, vi m.turn, vi m.turn, vi l.value] :: row 119 v121 (ds ++ [(⟨id, q, 0⟩ : Done)]) :: blk bm 76 m.cells :: LX) (Ag hs) hn (by unfold Msg.wf Ao; simp only; omega)) ?_; intro v142
 refine Gl ?_
 have ef : Cw l m.kind m.turn = { l with seen := m.turn, gave := m.turn, given := l.value, state := 0, value := 0, want := 0 } := by unfold Cw; rw [if_pos ht95]
 have er : (Ae ⟨ls, q⟩ id home m) = (⟨ls.set m.line.toNat ({ l with seen := m.turn, gave := m.turn, given := l.value, state := 0, value := 0, want := 0 }), zOp⟩, [Bj 9 id home m.line m.turn l.value], [⟨id, q, 0⟩]) := by rw [I7 hl hi hk, if_pos (by unfold D2; omega), ef, if_pos ht95, if_pos ht95]
 rw [er]
 revert v120 v121 ρ v142 ef er
 exact kZ.out) : p := h ⟨k⟩
theorem ZO {p q : Prop} (k : q) (h : BkZ p q := by
 intro kZ
 refine Aa ?_
 refine Ga2 ?_
 exact kZ.out) : p := h ⟨k⟩
theorem ZR {p q : Prop} (k : q) (h : BkZ p q := by
 intro kZ
 refine rn5 ?_
 refine gy ?_
 exact kZ.out) : p := h ⟨k⟩
theorem Zcg {p q : Prop} (k : q) (h : BkZ p q := by
 intro kZ
 refine ob (Am rfl rfl (Ld (b := 256) (by omega) (by omega) (by omega))) ?_
 refine rn2 ?_
 refine ob (Am rfl rfl (Lc (b := 256) (by omega) (by omega) (by omega))) ?_
 exact kZ.out) : p := h ⟨k⟩
theorem ZdL {p q : Prop} (k : q) (h : BkZ p q := by
 intro kZ
 refine Gb1 ?_
 refine rn2 ?_
 refine ob (Am rfl rfl (Ld (b := 256) (by omega) (by omega) (by omega))) ?_
 refine Zab ?_
 refine rn1 ?_
 refine ob (Am rfl rfl (Lc (b := 256) (by omega) (by omega) (by omega))) ?_
 refine Zab ?_
 have hsr : u8 (Hk (Ci m) % 256) = u8 (Hk (Ci m)) := by unfold u8; rw [Int.emod_emod_of_dvd _ (by decide)]
 refine li (α := UInt8) ([u8 (Hk (Ci m) / 256), u8 (Hk (Ci m) % 256)] : List UInt8) Fz rfl (fun j hj => ⟨⟨_, rfl, rfl⟩, ⟨⟨_, rfl, rfl⟩, trivial⟩⟩) ?_; intro v56
 rw [hsr]
 revert hsr v56
 exact kZ.out) : p := h ⟨k⟩
theorem ZdM {p q : Prop} (k : q) (h : BkZ p q := by
 intro kZ
 refine Zab ?_
 refine rn2 ?_
 refine ob (Am rfl rfl (Aeh (by omega) (by omega))) ?_
 refine rn2 ?_
 refine ob (Am rfl rfl Yv) ?_
 refine ob (Am rfl rfl (Aek (by omega) (by omega) (by omega) (by omega))) ?_
 refine Zab ?_
 refine rn2 ?_
 refine Zab ?_
 refine rn2 ?_
 refine ob (Am rfl rfl H3) ?_
 refine Zab ?_
 refine rn2 ?_
 refine Zab ?_
 refine rn2 ?_
 refine ob (Am rfl rfl H3) ?_
 refine Zab ?_
 refine rn2 ?_
 refine Zab ?_
 refine rn2 ?_
 refine Zab ?_
 refine rn1 ?_
 exact kZ.out) : p := h ⟨k⟩
theorem Zaw {p q : Prop} (k : q) (h : BkZ p q := by
 intro kZ
 refine dc (fun _ _ => Am rfl rfl (Bh (by omega))) ?_
 exact kZ.out) : p := h ⟨k⟩
theorem Zbl {p q : Prop} (k : q) (h : BkZ p q := by
 intro kZ
 refine JC.know (p := uo.oneCell' = true) (fun w hs => G6 (.head _) hs) (fun honeo => ?_)
 refine ZbR ?_;intro hEw u hE hE0 hL hone hlin
 revert honeo hEw u hE hE0 hL hone hlin
 exact kZ.out) : p := h ⟨k⟩
theorem ZbJ {p q : Prop} (k : q) (h : BkZ p q := by
 intro kZ
 refine ZU ?_
 refine ZK ?_
 refine ZB ?_
 refine s_B Tryz.sizeOf57 ?_
 refine Ga2 ?_
 exact kZ.out) : p := h ⟨k⟩
theorem ZcP {p q : Prop} (k : q) (h : BkZ p q := by
 intro kZ
 refine ZbJ ?_
 have er : Ae c id home m = (c, [], []) := by unfold Ae; rw [if_neg (by omega)]; rw [if_neg (by omega), if_neg (by omega), if_neg (by omega)]; rw [if_neg (by omega)]
 rw [er]
 revert er
 exact kZ.out) : p := h ⟨k⟩
theorem ZaR {p q : Prop} (k : q) (h : BkZ p q := by
 intro kZ
 refine ob (Am rfl rfl (E4 (by decide))) ?_
 refine Glc ?_
 refine Zai ?_
 exact kZ.out) : p := h ⟨k⟩
theorem Zb0 {p q : Prop} (k : q) (h : BkZ p q := by
 intro kZ
 refine dc (fun _ _ => Cz (hc := D4 (xs := (Ad l m.line).last) pkk (by omega)) Tryz.isAgg3) ?_
 exact kZ.out) : p := h ⟨k⟩
theorem ZbK {p q : Prop} (k : q) (h : BkZ p q := by
 intro kZ
 refine ob (Cz (c := .bool true) Tryz.isAgg4 (hc := A0 pkk (by show some (Value.bool m.alone) = _; rw [hal]))) ?_
 exact kZ.out) : p := h ⟨k⟩
theorem ZcQ {p q : Prop} (k : q) (h : BkZ p q := by
 intro kZ
 refine Fe ([(⟨id, q, 0⟩ : Done)] : List Done) Gq rfl (fun _ => rfl) rfl (fun _ => rfl) rfl rfl (fun ρ R hd => F2 ⟨hid, hq.1, hq.2.1, hq.2.2, by unfold Ao; simp only; omega⟩) (fun _ _ _ _ _ => rfl) ?_
 exact kZ.out) : p := h ⟨k⟩
theorem ZdN {p q : Prop} (k : q) (h : BkZ p q := by
 intro kZ
 refine Gl ?_
 refine F5 (v := v1) (b := b) 0 mm (by omega) ?_
 refine F5 (v := v1) (b := b) 1 mm (by omega) ?_
 refine F5 (v := v1) (b := b) 2 mm (by omega) ?_
 refine F5 (v := v1) (b := b) 3 mm (by omega) ?_
 refine F5 (v := v1) (b := b) 4 mm (by omega) ?_
 refine F5 (v := v1) (b := b) 5 mm (by omega) ?_
 refine F5 (v := v1) (b := b) 6 mm (by omega) ?_
 refine F5 (v := v1) (b := b) 7 mm (by omega) ?_
 exact kZ.out) : p := h ⟨k⟩
theorem ZdO {p q : Prop} (k : q) (h : BkZ p q := by
 intro kZ
 refine Ga2 ?_
 refine JC.rowNil 5 UInt8 ?_
 refine A7 (γ := Nat × Value) (fun g => g.1 ≤ 10) (fun g => row 5 g.2 ((xs.map u8).take g.1) :: L) (fun _ => sl v35 xs :: R) (fun g => [(4, g.2), (35, v35), (36, vi (10 : Int)), (37, vi (g.1 : Int))]) (fun g => 10 - g.1) (0, .slice none 0 0) (by omega) ⟨rfl, rfl, congrArg (fun z : Nat => some (vi (z : Int))) hxl, rfl, trivial⟩ (fun w hs => Ag hs) ?_
 exact kZ.out) : p := h ⟨k⟩
theorem ZcR {p q : Prop} (k : q) (h : BkZ p q := by
 intro kZ
 refine kp [1, 2, 8, 9, 12, 13, 14, 15, 17, 19, 20, 22, 50, 51, 52, 53, 54, 55, 56, 57, 58, 59, 60, 61, 62, 63, 64, 65, 66, 67, 68, 69, 70, 71, 72, 73, 74, 75, 76, 77, 78, 79, 80, 81, 82] ?_
 refine ZB ?_
 exact kZ.out) : p := h ⟨k⟩
theorem Zal {p q : Prop} (k : q) (h : BkZ p q := by
 intro kZ
 refine ZZ ?_
 refine djm ?_
 exact kZ.out) : p := h ⟨k⟩
theorem Zch {p q : Prop} (k : q) (h : BkZ p q := by
 intro kZ
 refine Ga7 ?_
 refine kp [2, 3, 4, 5, 6, 7, 8, 15, 16, 17, 157, 158] ?_
 refine ZB ?_
 exact kZ.out) : p := h ⟨k⟩
theorem ZcS {p q : Prop} (k : q) (h : BkZ p q := by
 intro kZ
 refine es_ 57 0 [] [] (fun ρ => b8) (fun ρ => [.slice none 0 0, vi 0, vi 0, vi 0]) (fun ρ => [v98, vi q.kind, vi q.line, vi q.value]) Tryz.sizeOf57 ?_
 refine epg 7 0 ?_
 refine dn2 ?_
 refine dnl ?_; intro ρ
 revert ρ
 exact kZ.out) : p := h ⟨k⟩
theorem Zb1 {p q : Prop} (k : q) (h : BkZ p q := by
 intro kZ
 refine dc (fun _ _ => Am rfl rfl (Ju (by omega))) ?_
 refine Zaa ?_
 exact kZ.out) : p := h ⟨k⟩
theorem Zao {p q : Prop} (k : q) (h : BkZ p q := by
 intro kZ
 refine Bq ?_
 refine dn6 ?_
 exact kZ.out) : p := h ⟨k⟩
theorem Zb2 {p q : Prop} (k : q) (h : BkZ p q := by
 intro kZ
 refine Zao ?_
 refine ZbF ?_
 refine djc (fun _ _ => Df) ?_
 refine ZbU ?_;intro ρ
 revert ρ
 exact kZ.out) : p := h ⟨k⟩
theorem ZcT {p q : Prop} (k : q) (h : BkZ p q := by
 intro kZ
 refine Fe ([(⟨11, id, m.src, line, m.serial, 0, 0, false⟩ : Msg)] : List Msg) Fp rfl (fun _ => rfl) rfl (fun _ => rfl) rfl rfl (fun ρ R hd => Il hwf) (fun _ _ _ _ _ => rfl) ?_
 exact kZ.out) : p := h ⟨k⟩
theorem ZS {p q : Prop} (k : q) (h : BkZ p q := by
 intro kZ
 refine Gm ?_
 refine Ga3 ?_
 exact kZ.out) : p := h ⟨k⟩
theorem Zax {p q : Prop} (k : q) (h : BkZ p q := by
 intro kZ
 refine Zae ?_
 refine ZP ?_
 refine Dz ?_
 exact kZ.out) : p := h ⟨k⟩
theorem ZcU {p q : Prop} (k : q) (h : BkZ p q := by
 intro kZ
 refine kp [4, 5, 7, 8, 9, 10, 11, 13, 16, 43, 163, 164, 165, 166, 167, 168, 169, 170, 171, 172, 173, 174, 175, 176, 177, 178, 179, 180, 181, 182, 183, 184, 185, 186] ?_
 exact kZ.out) : p := h ⟨k⟩
theorem ZaS {p q : Prop} (k : q) (h : BkZ p q := by
 intro kZ
 have hlen := Be h0 hs
 have hm0 := hm
 unfold Msg.wf Ao at hm0
 have hid0 := hid
 unfold Ao at hid0
 refine Ai Tryz.func75 rfl Tryz.ntmps75 rfl hs ?_
 revert hlen hm0 hid0
 exact kZ.out) : p := h ⟨k⟩
theorem ZaT {p q : Prop} (k : q) (h : BkZ p q := by
 intro kZ
 have hlen := Be h0 hs
 have hm0 := hm
 unfold Msg.wf Ao at hm0
 have hid0 := hid
 unfold Ao at hid0
 refine Ai Tryz.func28 rfl Tryz.ntmps28 rfl hs ?_
 revert hlen hm0 hid0
 exact kZ.out) : p := h ⟨k⟩
theorem Zci {p q : Prop} (k : q) (h : BkZ p q := by
 intro kZ
 refine dj ?_
 refine dc (fun _ _ => Im (v := vL) (i := m.line) Ma (hl := Dj (α := Line) (xs := ls) pkk)) ?_
 refine ZT ?_;intro ρ
 revert ρ
 exact kZ.out) : p := h ⟨k⟩
theorem ZcV {p q : Prop} (k : q) (h : BkZ p q := by
 intro kZ
 refine J.know (p := va.oneCell' = true) (fun w hs => isSlice.one (hs.fact (.head _))) (fun honeva => ?_)
 refine rn4 ?_
 refine sc ?_
 refine Ga1 ?_
 refine kp [4, 5, 6, 7, 8, 9, 114, 115] ?_
 revert honeva
 exact kZ.out) : p := h ⟨k⟩
theorem ZcW {p q : Prop} (k : q) (h : BkZ p q := by
 intro kZ
 refine Xy (fun _ => rfl) (by first | exact Ind.const _ | exact fun _ _ _ _ _ => rfl | exact Ind.self | exact Ind.gh _ 3 rfl) (fun _ _ _ _ => rfl) ?_
 refine dj ?_
 exact kZ.out) : p := h ⟨k⟩
theorem Zcj {p q : Prop} (k : q) (h : BkZ p q := by
 intro kZ
 refine kp [4, 5, 7, 8, 9, 10, 11, 12, 13, 43, 88, 89, 90, 91, 92, 93, 94, 95, 96, 97, 98, 99, 100, 101, 102] ?_
 exact kZ.out) : p := h ⟨k⟩
theorem ZdP {p q : Prop} (k : q) (h : BkZ p q := by
 intro kZ
 refine dn4 ?_
 refine Ib (v := .agg q.cells.toArray) (fun ρ S hS hB hA => by have h19 : S 19 = false := hA 19 ⟨9, rfl⟩; simp only [h19, cond_false]; exact Fc (b := bk) (f := 1) (vs := [vL, vi q.kind, vi q.line, vi q.value, vi id, vi home, vo, vd]) 3 Tryz.isAgg36 Tryz.sizeOf36) (fun _ _ _ _ _ => rfl) ?_
 exact kZ.out) : p := h ⟨k⟩
theorem Zck {p q : Prop} (k : q) (h : BkZ p q := by
 intro kZ
 have et : Bn x.frames s.n = ((x.frames.eraseIdx s.n.toNat), (Ay x.frames s.n), 0) := by unfold Bn; rw [if_neg hc]
 refine ZE ?_
 revert et
 exact kZ.out) : p := h ⟨k⟩
theorem ZcX {p q : Prop} (k : q) (h : BkZ p q := by
 intro kZ
 refine Lu (x := x) (v := cv) s.node mm (by omega) (by omega) (fun hwt u => ?_)
 have hkb : KB (As x s.node) := h.kb (p := s.node.toNat) (by omega)
 have hlb := h.lbs (p := s.node) (by omega)
 have hk4 := hkb.n
 revert hwt u hkb hlb hk4
 exact kZ.out) : p := h ⟨k⟩
theorem ZdQ {p q : Prop} (k : q) (h : BkZ p q := by
 intro kZ
 refine JC.shut (v := dv) pkk ?_
 refine JC.know (p := cv.oneCell' = true ∧ hv.oneCell' = true ∧ fv.oneCell' = true) (fun w hs => ⟨isSlice.one (hs.fact (mm (f := sl cv (bAt c l k).1.cores))), isSlice.one (hs.fact (mm (f := sl hv (bAt c l k).1.home))), isSlice.one (hs.fact (mm (f := sl fv (bAt c l k).1.frames)))⟩) (fun h12 => ?_)
 revert h12
 exact kZ.out) : p := h ⟨k⟩
theorem Zcl {p q : Prop} (k : q) (h : BkZ p q := by
 intro kZ
 refine JC.slNil Line ?_
 refine ZU ?_
 refine ZK ?_
 refine kp [1, 2, 4, 7, 8, 9, 10, 11, 46] ?_
 refine Zc7 ?_
 have er : Aj c id home q = (Er, [], [], 3) := by unfold Aj; rw [if_neg (by omega), if_pos (by omega)]
 rw [er]
 revert er
 exact kZ.out) : p := h ⟨k⟩
theorem ZdR {p q : Prop} (k : q) (h : BkZ p q := by
 intro kZ
 refine dnl ?_; intro ρ
 refine Glc ?_
 refine kp [1, 2, 4, 5, 6, 7, 8, 15, 16, 17, 18, 19, 20, 21, 22, 23, 24, 25, 26, 27, 28, 29, 30, 31, 32, 33, 34, 35, 36, 37, 38, 39, 40, 41, 42, 43, 44, 45, 46, 47, 48, 49, 50, 51, 52, 53, 54, 55] ?_
 refine Aa ?_
 refine Ga5 ?_
 have er : Ec x i = (lin x i p).value := Pv hvn ho (by omega)
 rw [er]
 revert ρ er
 exact kZ.out) : p := h ⟨k⟩
theorem ZcY {p q : Prop} (k : q) (h : BkZ p q := by
 intro kZ
 refine kp [4, 5, 7, 8, 9, 10, 11, 12, 13, 14, 43, 119, 120, 121, 122, 123, 124, 125, 126] ?_
 refine ZD ?_
 exact kZ.out) : p := h ⟨k⟩
theorem ZaU {p q : Prop} (k : q) (h : BkZ p q := by
 intro kZ
 refine JC.slNil Line ?_
 refine ZU ?_
 refine ZK ?_
 refine Zc7 ?_
 exact kZ.out) : p := h ⟨k⟩
theorem ZcZ {p q : Prop} (k : q) (h : BkZ p q := by
 intro kZ
 have hnt : Bn x.frames s.n = (x.frames.eraseIdx s.n.toNat, Ay x.frames s.n, 0) := by unfold Bn; rw [if_neg (show ¬ (s.n < 0 ∨ (x.frames.length : Int) ≤ s.n) from hc)]
 revert hnt
 exact kZ.out) : p := h ⟨k⟩
theorem Zag {p q : Prop} (k : q) (h : BkZ p q := by
 intro kZ
 refine Bq ?_
 refine dn8 ?_
 exact kZ.out) : p := h ⟨k⟩
theorem ZdS {p q : Prop} (k : q) (h : BkZ p q := by
 intro kZ
 refine cq_ (foc 62 vh xs i [vi e.value, vi e.owner, vi e.sharers, vi e.phase, vi e.who, vi e.serial, .bool e.alone, vi e.turn, vi e.need, u] :: blk bk 162 [(ep vh 10 i 0), vi line, vi id, vo] :: row 76 vo ms :: row 3 u (e.last.set m.src.toNat m.serial) :: blk bm 76 m.cells :: LX) ?_
 exact kZ.out) : p := h ⟨k⟩
theorem ZdT {p q : Prop} (k : q) (h : BkZ p q := by
 intro kZ
 refine rn1 ?_
 refine An Tryz.call93 rfl (fun w hs => Xj (vh := g13.1) (vo := .slice none 0 0) (u := uo) (i := m.line.toNat) (e := (Ad l m.line)) (ms := []) (line := m.line) (id := id) (xs := l) (m := m) (bm := b5) (LX := L) (Ag hs) hA honeo (by simp) hE hm.2.2.2.1 hid hm rfl (by omega) hL (by omega)) ?_; intro v69
 revert v69
 exact kZ.out) : p := h ⟨k⟩
theorem Zcm {p q : Prop} (k : q) (h : BkZ p q := by
 intro kZ
 refine ZaN ?_
 have er : Al x s = (zChip, [], 5) := by unfold Al Bk; rw [if_pos (by omega), if_pos (by omega)]
 rw [er]
 revert er
 exact kZ.out) : p := h ⟨k⟩
theorem ZbL {p q : Prop} (k : q) (h : BkZ p q := by
 intro kZ
 refine ob (J7 Tryz.underlying150 Tryz.sizeOf3 Tryz.zeroValue150 rfl rfl) ?_
 exact kZ.out) : p := h ⟨k⟩
theorem ZdU {p q : Prop} (k : q) (h : BkZ p q := by
 intro kZ
 refine cq_ (blk b4 76 zMsg.cells :: blk b2 23 c.cells :: L) ?_
 refine jd_ (fun ρ S => blk b4 76 zMsg.cells :: blk b2 23 c.cells :: ((bif S 47 then [blk (Gh.dec (γ := Nat) (ρ 47)) 76 (bif S 48 then (Gn b).cells else zMsg.cells)] else []) ++ (L))) ?_
 refine dn1 ?_
 exact kZ.out) : p := h ⟨k⟩
theorem Zda {p q : Prop} (k : q) (h : BkZ p q := by
 intro kZ
 refine dnl ?_; intro ρ
 refine Glc ?_
 have er : Ah e id m = (e, []) := by unfold Ah; rw [if_pos (by omega), if_pos (by unfold Eg; omega)]
 rw [er, List.append_nil]
 revert ρ er
 exact kZ.out) : p := h ⟨k⟩
theorem Zcn {p q : Prop} (k : q) (h : BkZ p q := by
 intro kZ
 simp only [Int.toNat_natCast, hi]
 refine hI.way fun m' hm' => ?_
 rw [List.mem_singleton.1 hm']
 exact kZ.out) : p := h ⟨k⟩
theorem ZY {p q : Prop} (k : q) (h : BkZ p q := by
 intro kZ
 refine ZD ?_
 refine D5 ?_
 exact kZ.out) : p := h ⟨k⟩
theorem Zdb {p q : Prop} (k : q) (h : BkZ p q := by
 intro kZ
 refine kp [2, 3, 4, 6, 34, 35, 36, 37, 38, 39, 40, 41, 42, 43, 44, 45, 46, 47, 48, 49, 50, 51, 52, 53, 54, 55, 56, 57, 58, 59, 60, 61] ?_
 exact kZ.out) : p := h ⟨k⟩
theorem ZdV {p q : Prop} (k : q) (h : BkZ p q := by
 intro kZ
 refine cq_ (foc 92 vL ls m.line.toNat [vi l.state, vi l.value, vi l.want, vi l.serial, vi l.seen, vi l.gave, vi l.given] :: blk bk 137 [vL, vi q.kind, vi q.line, vi q.value, vi id, vi home, vo, vd] :: row 76 vo ms :: row 119 vd ds :: blk bm 76 m.cells :: LX) ?_
 exact kZ.out) : p := h ⟨k⟩
theorem ZdW {p q : Prop} (k : q) (h : BkZ p q := by
 intro kZ
 refine JC.shut (v := vL) (xs := ls) .hd ?_
 refine ZU ?_
 refine ZK ?_
 refine ZL ?_
 refine ob (Fc 4 Tryz.isAgg57 Tryz.sizeOf57) ?_
 refine s_B (cs := [vL, vi q.kind, vi q.line, vi q.value]) Tryz.sizeOf57 ?_
 refine Ga2 ?_
 have er : (Ae ⟨ls, q⟩ id home m) = (⟨ls, q⟩, [], []) := Lx hg
 rw [er]
 revert er
 exact kZ.out) : p := h ⟨k⟩
theorem Zdc {p q : Prop} (k : q) (h : BkZ p q := by
 intro kZ
 refine JC.shut (v := cY) (xs := x.cores) pkk ?_
 refine ZK ?_
 refine ZD ?_
 refine s_B (cs := [cY, hY, va]) Tryz.sizeOf30 ?_
 refine Ga2 ?_
 exact kZ.out) : p := h ⟨k⟩
theorem ZdX {p q : Prop} (k : q) (h : BkZ p q := by
 intro kZ
 refine ZS ?_
 refine A7 (γ := Nat) (fun k => k ≤ a.length ∧ a.take k = b.take k) (fun _ => L) (fun _ => R) (fun k => [(0, v0), (1, v1), (12, vi (a.length : Int)), (13, vi (k : Int))]) (fun k => a.length - k) 0 ⟨Nat.zero_le _, rfl⟩ alT (fun w hs => hs) ?_
 exact kZ.out) : p := h ⟨k⟩
theorem Zbm {p q : Prop} (k : q) (h : BkZ p q := by
 intro kZ
 refine ZaM ?_;intro b2 b3 b4
 refine Gb1 ?_
 refine Gb4 ?_
 refine Gb2 ?_
 revert b2 b3 b4
 exact kZ.out) : p := h ⟨k⟩
theorem ZdY {p q : Prop} (k : q) (h : BkZ p q := by
 intro kZ
 refine rn2 ?_
 refine Aw ?_
 refine Glc ?_
 refine kp [3, 4, 5, 6, 7, 8, 9, 10, 39, 40, 41, 42, 43, 44, 45, 46, 47, 48, 49, 50, 51, 52, 53, 54, 55, 56, 57, 58, 59, 60, 61, 62, 63, 64, 65, 66, 67, 68, 69, 70, 71, 72, 73, 74, 75, 76, 77] ?_
 refine ZD ?_
 exact kZ.out) : p := h ⟨k⟩
theorem Zco {p q : Prop} (k : q) (h : BkZ p q := by
 intro kZ
 refine JC.slNil Line ?_
 refine ZU ?_
 refine ZK ?_
 refine kp [1, 2, 4, 7, 8, 9, 10, 11, 46] ?_
 refine Zc7 ?_
 have er : (Aj ⟨ls, q0⟩ id home q) = (Er, [], [], 3) := Acx (by omega) (by omega)
 rw [er]
 revert er
 exact kZ.out) : p := h ⟨k⟩
theorem Zdd {p q : Prop} (k : q) (h : BkZ p q := by
 intro kZ
 have e3 : ∀ (a b : Int) w, (Op.equalIn (d + 2) 3 (vi a) (vi b)).run Tryz.prog w = .ok (a == b) w := fun a b w => Q2 (d := d + 1) Tryz.underlying3 w
 revert e3
 exact kZ.out) : p := h ⟨k⟩
theorem Zb3 {p q : Prop} (k : q) (h : BkZ p q := by
 intro kZ
 refine dn9 ?_
 refine djf ?_
 refine ZT ?_;intro ρ
 refine Zc8 ?_
 refine ZaL ?_
 refine ZaY ?_;intro ρ
 refine Zcc ?_;intro eh hEB ρ er
 revert eh hEB ρ er
 exact kZ.out) : p := h ⟨k⟩
theorem ZdZ {p q : Prop} (k : q) (h : BkZ p q := by
 intro kZ
 refine kp [2, 3, 4, 6, 34, 35, 36, 37, 38, 39, 40, 41, 42, 43, 44, 45, 46, 47, 48, 49, 50, 51, 52, 53, 54, 55, 56, 57, 58, 59, 60, 61, 62, 63, 64, 65, 66, 67, 68, 69, 70, 71, 72, 73, 74, 75, 76, 77, 78, 79, 80, 81, 82, 83, 84, 85, 86, 87, 88] ?_
 exact kZ.out) : p := h ⟨k⟩
theorem Zbn {p q : Prop} (k : q) (h : BkZ p q := by
 intro kZ
 refine Gm ?_
 refine bx ?_; intro b5
 refine Ga2 ?_
 refine ZbR ?_;intro hEw u hE hE0 hL hone hlin
 revert b5 hEw u hE hE0 hL hone hlin
 exact kZ.out) : p := h ⟨k⟩
theorem Zcp {p q : Prop} (k : q) (h : BkZ p q := by
 intro kZ
 refine dnl ?_; intro ρ
 refine Glc ?_
 refine kp [1, 5, 6, 7, 8, 41] ?_
 refine Aa ?_
 refine ZbI ?_;intro er
 revert ρ er
 exact kZ.out) : p := h ⟨k⟩
theorem Zde {p q : Prop} (k : q) (h : BkZ p q := by
 intro kZ
 have hX : EB ({ (Ad l m.line) with value := m.value, sharers := (Ad l m.line).sharers, owner := -1 }) := by unfold EB Entry.wf Ao; simp only; omega
 revert hX
 exact kZ.out) : p := h ⟨k⟩
theorem Zea {p q : Prop} (k : q) (h : BkZ p q := by
 intro kZ
 refine es_ 76 0 [47] [] (fun ρ => (Gh.dec (γ := Nat) (ρ 47))) (fun ρ => zMsg.cells) (fun ρ => (Gn b).cells) Tryz.sizeOf76 ?_
 refine dnl ?_; intro ρ
 refine xq_ (blk b4 76 zMsg.cells :: blk b2 23 c.cells :: (blk (Gh.dec (γ := Nat) (ρ 47)) 76 (Gn b).cells :: L)) ?_
 revert ρ
 exact kZ.out) : p := h ⟨k⟩
theorem Zeb {p q : Prop} (k : q) (h : BkZ p q := by
 intro kZ
 refine djf ?_
 refine dnl ?_; intro ρ
 refine Glc ?_
 refine kp [1, 2, 4, 5, 6, 7, 8, 15, 16, 17, 18, 19, 20, 21, 22, 23, 24, 25, 26, 27, 28, 29, 30, 31, 32, 33, 34, 35, 36, 37, 38, 39, 40, 41, 42, 43, 44, 45, 46, 47, 48, 49, 50, 51, 52, 53, 54, 55, 56] ?_
 refine ZO ?_
 revert ρ
 exact kZ.out) : p := h ⟨k⟩
theorem Za0 {p q : Prop} (k : q) (h : BkZ p q := by
 intro kZ
 refine ZM ?_
 refine Bc ?_
 refine ZM ?_
 refine Dz ?_
 exact kZ.out) : p := h ⟨k⟩
theorem ZbM {p q : Prop} (k : q) (h : BkZ p q := by
 intro kZ
 refine gy ?_
 refine Zaj ?_
 refine ZbG ?_
 refine Za0 ?_
 exact kZ.out) : p := h ⟨k⟩
theorem Zdf {p q : Prop} (k : q) (h : BkZ p q := by
 intro kZ
 refine kp [0, 1, 4, 5, 25, 26, 27, 28, 29, 30, 31, 32, 33, 34, 35, 36, 37, 38, 39, 40, 41, 42, 43, 44, 45, 46, 47, 48, 49] ?_
 exact kZ.out) : p := h ⟨k⟩
theorem Zay {p q : Prop} (k : q) (h : BkZ p q := by
 intro kZ
 refine ZB ?_
 refine Bc ?_
 exact kZ.out) : p := h ⟨k⟩
theorem Zam {p q : Prop} (k : q) (h : BkZ p q := by
 intro kZ
 refine ZbF ?_
 refine djm ?_
 exact kZ.out) : p := h ⟨k⟩
theorem Zec {p q : Prop} (k : q) (h : BkZ p q := by
 intro kZ
 refine Gb1 ?_
 refine rn2 ?_
 refine ob (Am rfl rfl H3) ?_
 refine Zab ?_
 refine rn1 ?_
 refine Zab ?_
 refine li (α := UInt8) ([u8 (Hk (Ci m) / 256), u8 (Hk (Ci m))] : List UInt8) Fz rfl (fun j hj => ⟨⟨_, rfl, rfl⟩, ⟨_, rfl, rfl⟩, trivial⟩) ?_; intro v49
 revert v49
 exact kZ.out) : p := h ⟨k⟩
theorem Zdg {p q : Prop} (k : q) (h : BkZ p q := by
 intro kZ
 refine ZQ ?_
 refine Aae Tryz.underlying71 rfl (by first | exact Da pkk | exact El mm) ?_
 refine Bo rfl ?_
 refine Zas ?_
 exact kZ.out) : p := h ⟨k⟩
theorem Zcq {p q : Prop} (k : q) (h : BkZ p q := by
 intro kZ
 refine al_ (cs := [.slice none 0 0, .slice none 0 0, .slice none 0 0]) Tryz.zeroValue30 ?_; intro b2
 revert b2
 exact kZ.out) : p := h ⟨k⟩
theorem ZaV {p q : Prop} (k : q) (h : BkZ p q := by
 intro kZ
 refine ZaE ?_
 refine Zal ?_
 refine dn6 ?_
 exact kZ.out) : p := h ⟨k⟩
theorem Zau {p q : Prop} (k : q) (h : BkZ p q := by
 intro kZ
 refine Gm ?_
 refine Ga5 ?_
 exact kZ.out) : p := h ⟨k⟩
theorem Zdh {p q : Prop} (k : q) (h : BkZ p q := by
 intro kZ
 refine ZaK ?_
 refine djc (fun _ _ => Am rfl rfl (C0 (by omega))) ?_
 refine djm ?_
 refine dn16 ?_
 exact kZ.out) : p := h ⟨k⟩
theorem Zdi {p q : Prop} (k : q) (h : BkZ p q := by
 intro kZ
 refine kp [1, 2, 4, 7, 8, 9, 10, 11, 47, 48, 49, 50, 51, 52, 53, 54, 55, 56, 57, 58, 59, 60, 61] ?_
 refine ZL ?_
 exact kZ.out) : p := h ⟨k⟩
theorem Zcr {p q : Prop} (k : q) (h : BkZ p q := by
 intro kZ
 have hh : (Ad l m.line).need.toNat.testBit m.src.toNat = true := by rw [hhas]; simpa using ht204
 revert hh
 exact kZ.out) : p := h ⟨k⟩
theorem ZaW {p q : Prop} (k : q) (h : BkZ p q := by
 intro kZ
 refine ZF ?_
 refine ZF ?_
 refine Zaz ?_
 exact kZ.out) : p := h ⟨k⟩
theorem ZaX {p q : Prop} (k : q) (h : BkZ p q := by
 intro kZ
 refine Zae ?_
 refine ZP ?_
 refine Fo ?_
 exact kZ.out) : p := h ⟨k⟩
theorem Zed {p q : Prop} (k : q) (h : BkZ p q := by
 intro kZ
 refine rn3 ?_
 refine ZaN ?_
 have er : Al x s = (zChip, [], 3) := by unfold Al; rw [if_neg (by omega), if_neg (by omega), if_neg (by omega), if_neg (by omega), if_pos (by omega), if_neg hnf]; rw [if_neg ht188, esp, if_pos (by decide)]
 rw [er]
 revert er
 exact kZ.out) : p := h ⟨k⟩
theorem Zcs {p q : Prop} (k : q) (h : BkZ p q := by
 intro kZ
 refine Ga3 ?_
 have er : Bn l n = ([], [], 5) := by unfold Bn; rw [if_pos (by omega)]
 rw [er]
 revert er
 exact kZ.out) : p := h ⟨k⟩
theorem Zct {p q : Prop} (k : q) (h : BkZ p q := by
 intro kZ
 refine cFp (p := (0 : Int) ≠ 0) (by decide) ?_
 refine ZN ?_
 refine Ga3 ?_
 exact kZ.out) : p := h ⟨k⟩
theorem Zee {p q : Prop} (k : q) (h : BkZ p q := by
 intro kZ
 refine JC.open0 (xs := xs) (v := v35) k mm (by omega) (fun hpw => ?_)
 refine Aa ?_
 refine Gb3 ?_
 refine rn2 ?_
 refine Zab ?_
 refine li (α := UInt8) ([u8 (xs.getD k 0)] : List UInt8) Fz rfl (fun j hj => ⟨⟨_, rfl, rfl⟩, trivial⟩) ?_; intro v44
 revert hpw v44
 exact kZ.out) : p := h ⟨k⟩
theorem Zef {p q : Prop} (k : q) (h : BkZ p q := by
 intro kZ
 refine ZB ?_
 refine ob (Fc 3 Tryz.isAgg36 Tryz.sizeOf36) ?_
 refine rn2 ?_
 refine ob (F3 rfl rfl (Ajr a.wait b.wait _) (Yo (x := a.wait) (y := b.wait) (by simpa using hm.1))) ?_
 refine rn7 ?_
 refine gy ?_
 exact kZ.out) : p := h ⟨k⟩
theorem Zav {p q : Prop} (k : q) (h : BkZ p q := by
 intro kZ
 refine Gm ?_
 refine Ga4 ?_
 exact kZ.out) : p := h ⟨k⟩
theorem Zcu {p q : Prop} (k : q) (h : BkZ p q := by
 intro kZ
 refine rn3 ?_
 refine ZaN ?_
 have er : Al x s = (zChip, [], 5) := Abz (by omega) hc
 rw [er]
 revert er
 exact kZ.out) : p := h ⟨k⟩
theorem Zeg {p q : Prop} (k : q) (h : BkZ p q := by
 intro kZ
 have hr : ¬ (m.src < 0 ∨ c.cores < m.src ∨ m.dst < 0 ∨ c.cores < m.dst ∨ m.line < 0 ∨ c.lines ≤ m.line ∨ m.serial < 0 ∨ 65535 < m.serial ∨ m.turn < 0 ∨ 65535 < m.turn ∨ m.value < 0 ∨ 255 < m.value) := by omega
 revert hr
 exact kZ.out) : p := h ⟨k⟩
theorem Zeh {p q : Prop} (k : q) (h : BkZ p q := by
 intro kZ
 refine Gb2 ?_
 refine ZF ?_
 refine Aw ?_
 refine Gc1 ?_
 refine JC.know (p := va.oneCell' = true) (fun w hs => isSlice.one (hs.fact (mm (f := sl va (x.frames.eraseIdx s.n.toNat))))) (fun honea => ?_)
 refine ZD ?_
 refine sc ?_
 refine ZJ ?_
 revert honea
 exact kZ.out) : p := h ⟨k⟩
theorem Zei {p q : Prop} (k : q) (h : BkZ p q := by
 intro kZ
 refine rn3 ?_
 refine ZaN ?_
 have er : Al x s = (zChip, [], 5) := by unfold Al Bk; rw [if_neg (by omega), if_neg (by omega), if_neg (by omega), if_neg (by omega), if_neg (by omega), if_pos (by omega)]; rw [if_pos (by omega)]
 rw [er]
 revert er
 exact kZ.out) : p := h ⟨k⟩
theorem Zb4 {p q : Prop} (k : q) (h : BkZ p q := by
 intro kZ
 refine ob (Am rfl rfl (C0 rfl)) ?_
 refine Glc ?_
 exact kZ.out) : p := h ⟨k⟩
theorem Zdj {p q : Prop} (k : q) (h : BkZ p q := by
 intro kZ
 have hnt : Bn x.frames s.n = ([], [], 5) := by unfold Bn; rw [if_pos (show s.n < 0 ∨ (x.frames.length : Int) ≤ s.n from hc)]
 revert hnt
 exact kZ.out) : p := h ⟨k⟩
theorem Zbo {p q : Prop} (k : q) (h : BkZ p q := by
 intro kZ
 refine rn6 ?_
 refine gy ?_
 refine G8 ?_
 exact kZ.out) : p := h ⟨k⟩
theorem ZbN {p q : Prop} (k : q) (h : BkZ p q := by
 intro kZ
 refine ZE ?_
 refine Aw ?_
 refine Aew ?_
 refine gy ?_
 exact kZ.out) : p := h ⟨k⟩
theorem Zap {p q : Prop} (k : q) (h : BkZ p q := by
 intro kZ
 refine Gm ?_
 refine bx ?_; intro b3
 revert b3
 exact kZ.out) : p := h ⟨k⟩
theorem Zej {p q : Prop} (k : q) (h : BkZ p q := by
 intro kZ
 refine kp [1, 2, 3, 4, 5, 6, 7, 8, 10, 11, 12, 13, 14, 15, 16, 17, 18, 19, 20, 21, 22, 23, 24, 25, 26, 27, 28, 29, 30, 31, 32, 33, 34, 35, 36, 37, 38, 39, 40, 41, 42, 43, 44, 45, 46] ?_
 exact kZ.out) : p := h ⟨k⟩
theorem Zaq {p q : Prop} (k : q) (h : BkZ p q := by
 intro kZ
 refine ZZ ?_
 refine ZT ?_;intro ρ
 revert ρ
 exact kZ.out) : p := h ⟨k⟩
theorem Zdk {p q : Prop} (k : q) (h : BkZ p q := by
 intro kZ
 refine Zag ?_
 refine djc (fun _ _ => Am rfl rfl (K4 (by omega))) ?_
 refine djm ?_
 refine dn4 ?_
 exact kZ.out) : p := h ⟨k⟩
theorem Zb5 {p q : Prop} (k : q) (h : BkZ p q := by
 intro kZ
 have hCq := hC q hq
 have hl : e'.last q = e.last q := by rw [f8]
 revert hCq hl
 exact kZ.out) : p := h ⟨k⟩
theorem Zdl {p q : Prop} (k : q) (h : BkZ p q := by
 intro kZ
 have hwf : ((⟨11, id, m.src, line, m.serial, 0, 0, false⟩ : Msg) : Msg).wf := by unfold Msg.wf Ao; simp only; omega
 revert hwf
 exact kZ.out) : p := h ⟨k⟩
theorem Zek {p q : Prop} (k : q) (h : BkZ p q := by
 intro kZ
 refine J.know (p := v149.oneCell' = true) (fun w hs => isSlice.one (hs.fact (List.Mem.head _))) (fun hone149 => ?_)
 refine rn1 ?_
 refine s_B (cs := [v149, vi c.wait.kind, vi c.wait.line, vi c.wait.value]) Tryz.sizeOf57 ?_
 refine Ga2 ?_
 revert hone149
 exact kZ.out) : p := h ⟨k⟩
theorem Zbp {p q : Prop} (k : q) (h : BkZ p q := by
 intro kZ
 refine Aa ?_
 refine Zbz ?_
 refine rn1 ?_
 refine ZaN ?_
 exact kZ.out) : p := h ⟨k⟩
theorem Zcv {p q : Prop} (k : q) (h : BkZ p q := by
 intro kZ
 refine ZE ?_
 refine Se ?_
 refine ZP ?_
 refine Hr ?_
 refine ZP ?_
 exact kZ.out) : p := h ⟨k⟩
theorem Zel {p q : Prop} (k : q) (h : BkZ p q := by
 intro kZ
 refine dj ?_
 refine T8 (α := UInt8) (xs := b) (lo := 0) (hi := 10) Cq (fun _ => rfl) mm (fun _ => rfl) (fun _ => rfl) (by omega) (by omega) (fun _ _ _ _ => rfl) ?_
 refine dj ?_
 exact kZ.out) : p := h ⟨k⟩
theorem Zem {p q : Prop} (k : q) (h : BkZ p q := by
 intro kZ
 refine ZaD ?_
 refine kp [1, 2, 3, 4, 5, 7, 10, 11, 12, 13, 14, 15, 16, 17, 18, 19, 20, 21, 22, 23, 24, 25, 26, 27, 28, 29, 30, 31, 32, 33, 34, 35] ?_
 refine ZO ?_
 exact kZ.out) : p := h ⟨k⟩
theorem ZbO {p q : Prop} (k : q) (h : BkZ p q := by
 intro kZ
 refine dc (fun _ _ => Am rfl rfl (Iw (by omega))) ?_
 exact kZ.out) : p := h ⟨k⟩
theorem Za1 {p q : Prop} (k : q) (h : BkZ p q := by
 intro kZ
 refine Gm ?_
 refine Gb2 ?_
 exact kZ.out) : p := h ⟨k⟩
theorem Za2 {p q : Prop} (k : q) (h : BkZ p q := by
 intro kZ
 refine Aa ?_
 refine rn5 ?_
 exact kZ.out) : p := h ⟨k⟩
theorem ZbP {p q : Prop} (k : q) (h : BkZ p q := by
 intro kZ
 refine Aa ?_
 refine D9 rfl rfl K3 ?_
 refine Zas ?_
 exact kZ.out) : p := h ⟨k⟩
theorem Za3 {p q : Prop} (k : q) (h : BkZ p q := by
 intro kZ
 refine Cf ?_
 refine Gc1 ?_
 exact kZ.out) : p := h ⟨k⟩
theorem Zbq {p q : Prop} (k : q) (h : BkZ p q := by
 intro kZ
 refine Gm ?_
 refine bx ?_; intro b1
 refine Gb1 ?_
 revert b1
 exact kZ.out) : p := h ⟨k⟩
theorem Zen {p q : Prop} (k : q) (h : BkZ p q := by
 intro kZ
 refine Zah ?_
 refine djc (fun _ _ => Am rfl rfl (Nh (by omega))) ?_
 refine djm ?_
 refine dn5 ?_
 refine Zal ?_
 refine dn3 ?_
 refine Zal ?_
 refine Xv ?_
 refine ZZ ?_
 exact kZ.out) : p := h ⟨k⟩
theorem Zeo {p q : Prop} (k : q) (h : BkZ p q := by
 intro kZ
 refine ZbJ ?_
 have er : Ae c id home m = (c, [], []) := by unfold Ae; rw [if_neg (by omega)]; rw [if_neg (by omega), if_pos (by omega)]; rw [if_neg (by unfold D2; omega), if_neg (by omega)]
 rw [er]
 revert er
 exact kZ.out) : p := h ⟨k⟩
theorem Zdm {p q : Prop} (k : q) (h : BkZ p q := by
 intro kZ
 refine kp [8, 9, 10, 11, 130, 131, 132, 133, 134, 135, 136, 137, 138, 139, 140, 141] ?_
 exact kZ.out) : p := h ⟨k⟩
theorem Zdn {p q : Prop} (k : q) (h : BkZ p q := by
 intro kZ
 refine s_B (cs := (Af (Ap x) (Ay x.frames s.n)).1.cells) Tryz.sizeOf76 ?_
 refine ZG ?_
 exact kZ.out) : p := h ⟨k⟩
theorem Za4 {p q : Prop} (k : q) (h : BkZ p q := by
 intro kZ
 refine sc ?_
 refine ZH ?_
 exact kZ.out) : p := h ⟨k⟩
theorem Zep {p q : Prop} (k : q) (h : BkZ p q := by
 intro kZ
 refine Zay ?_
 refine rn7 ?_
 refine gy ?_
 refine ob (Am (a := 8) (b := ((l.getD n.toNat []).length : Int)) rfl rfl (Ng (by omega) (by omega))) ?_
 refine gy ?_
 exact kZ.out) : p := h ⟨k⟩
theorem Zdo {p q : Prop} (k : q) (h : BkZ p q := by
 intro kZ
 refine JC.shut (v := v74) (xs := [Bj 8 id home m.line m.turn 0]) pkk ?_
 refine ZK ?_
 exact kZ.out) : p := h ⟨k⟩
theorem Zdp {p q : Prop} (k : q) (h : BkZ p q := by
 intro kZ
 refine kp [1, 2, 3, 4, 5, 6, 7, 8, 9, 10, 11, 12, 13, 14, 15, 16, 17, 18, 19, 20] ?_
 exact kZ.out) : p := h ⟨k⟩
theorem Zeq {p q : Prop} (k : q) (h : BkZ p q := by
 intro kZ
 refine F5 (v := v1) (b := b) 8 mm (by omega) ?_
 refine F5 (v := v1) (b := b) 9 mm (by omega) ?_
 refine ZB ?_
 refine ob (Fn (i := 8) Cq) ?_
 refine rn3 ?_
 exact kZ.out) : p := h ⟨k⟩
theorem Zb6 {p q : Prop} (k : q) (h : BkZ p q := by
 intro kZ
 refine ZQ ?_
 refine Zat ?_
 refine Jj ?_
 exact kZ.out) : p := h ⟨k⟩
theorem Zb7 {p q : Prop} (k : q) (h : BkZ p q := by
 intro kZ
 refine Zae ?_
 refine ZR ?_
 refine Di ?_
 exact kZ.out) : p := h ⟨k⟩
theorem ZbQ {p q : Prop} (k : q) (h : BkZ p q := by
 intro kZ
 refine D9 rfl rfl (Ng (by omega) (by omega)) ?_
 exact kZ.out) : p := h ⟨k⟩
theorem Zer {p q : Prop} (k : q) (h : BkZ p q := by
 intro kZ
 refine cq_ (blk b3 38 s.cells :: blk b 30 [cv, hv, fv] :: L) ?_
 refine jd_ (fun ρ S => blk b3 38 s.cells :: blk b 30 [cv, hv, fv] :: L) ?_
 refine dn6 ?_
 exact kZ.out) : p := h ⟨k⟩
theorem ZaF {p q : Prop} (k : q) (h : BkZ p q := by
 intro kZ
 refine E8 ?_
 refine Av ?_
 exact kZ.out) : p := h ⟨k⟩
theorem Zes {p q : Prop} (k : q) (h : BkZ p q := by
 intro kZ
 refine ZaF ?_
 refine ZQ ?_
 refine Bo rfl ?_
 refine Wp (α := UInt8) [b.getD k 0] Fz rfl rfl rfl rfl rfl rfl (fun j hj => ⟨⟨_, rfl, rfl⟩, trivial⟩) ?_; intro v43
 refine ZdG ?_;intro v44 w hs
 revert v43 v44 w hs
 exact kZ.out) : p := h ⟨k⟩
theorem Zet {p q : Prop} (k : q) (h : BkZ p q := by
 intro kZ
 refine Aed ?_
 refine es_ 23 0 [] [] (fun ρ => b2) (fun ρ => zConfig.cells) (fun ρ => [vi (x.cores.length : Int), vi (x.home.length : Int)]) Tryz.sizeOf23 ?_
 refine dnl ?_; intro ρ
 revert ρ
 exact kZ.out) : p := h ⟨k⟩
theorem Zdq {p q : Prop} (k : q) (h : BkZ p q := by
 intro kZ
 refine ZdH ?_
 refine ob (Am rfl rfl (Ba (by rw [if_neg hm.2.1]))) ?_
 refine ZR ?_
 exact kZ.out) : p := h ⟨k⟩
theorem Zeu {p q : Prop} (k : q) (h : BkZ p q := by
 intro kZ
 refine dc (fun _ _ => E6 (a := (((Ad l m.line).need.toNat / 2 ^ m.src.toNat : Nat) : Int)) (b := 1) (Jv (by omega) (by omega) (by omega) (by omega))) ?_
 exact kZ.out) : p := h ⟨k⟩
theorem Zev {p q : Prop} (k : q) (h : BkZ p q := by
 intro kZ
 refine dn8 ?_
 refine es_ 57 0 [] [] (fun ρ => b8) (fun ρ => [.slice none 0 0, vi 0, vi 0, vi 0]) (fun ρ => [vL, vi 0, vi 0, vi 0]) Tryz.sizeOf57 ?_
 exact kZ.out) : p := h ⟨k⟩
theorem Zdr {p q : Prop} (k : q) (h : BkZ p q := by
 intro kZ
 refine dc (fun _ _ => Cz (hc := D4 (xs := e.last) pkk (by omega)) Tryz.isAgg3) ?_
 exact kZ.out) : p := h ⟨k⟩
theorem Zew {p q : Prop} (k : q) (h : BkZ p q := by
 intro kZ
 refine ZC ?_
 have hje : j = ops.length := by omega
 refine Au (p + 1, v) (by show p + 1 ≤ x.cores.length; omega) (by show x.cores.length - (p + 1) < x.cores.length - p; omega) alT (fun w hs => ?_)
 revert hje w hs
 exact kZ.out) : p := h ⟨k⟩
theorem Zex {p q : Prop} (k : q) (h : BkZ p q := by
 intro kZ
 refine Ga1 ?_
 refine kp [2, 3, 6, 7, 11, 13, 45, 46, 47, 48, 49, 50, 51, 52, 53, 54, 55, 56, 57, 58, 59, 60, 61, 62, 63, 64, 65, 66] ?_
 refine ZO ?_
 exact kZ.out) : p := h ⟨k⟩
theorem Zds {p q : Prop} (k : q) (h : BkZ p q := by
 intro kZ
 refine al_ (cs := [.slice none 0 0, .slice none 0 0, .slice none 0 0]) Tryz.zeroValue30 ?_; intro b6
 revert b6
 exact kZ.out) : p := h ⟨k⟩
theorem ZaG {p q : Prop} (k : q) (h : BkZ p q := by
 intro kZ
 refine Gb1 ?_
 refine Ga3 ?_
 exact kZ.out) : p := h ⟨k⟩
theorem Za9 {p q : Prop} (k : q) (h : BkZ p q := by
 intro kZ
 refine ZM ?_
 refine D5 ?_
 exact kZ.out) : p := h ⟨k⟩
theorem Zey {p q : Prop} (k : q) (h : BkZ p q := by
 intro kZ
 rw [Nat.testBit_lt_two_pow (show (ent x i).sharers.toNat < 2 ^ q by have : 2 ^ n ≤ 2 ^ q := Nat.pow_le_pow_right (by omega) (by omega); omega)]
 exact kZ.out) : p := h ⟨k⟩
theorem Zez {p q : Prop} (k : q) (h : BkZ p q := by
 intro kZ
 refine Zae ?_
 refine ZR ?_
 refine ob (Am (a := 8) (b := ((Ay x.frames s.n).length : Int)) rfl rfl (Ng (by omega) (by omega))) ?_
 refine gy ?_
 exact kZ.out) : p := h ⟨k⟩
theorem Zcw {p q : Prop} (k : q) (h : BkZ p q := by
 intro kZ
 refine Zay ?_
 refine ZM ?_
 refine G8 ?_
 refine Gd1 ?_
 exact kZ.out) : p := h ⟨k⟩
theorem Ze0 {p q : Prop} (k : q) (h : BkZ p q := by
 intro kZ
 refine Zah ?_
 refine djc (fun _ _ => Am rfl rfl (E4 (by omega))) ?_
 refine djm ?_
 refine dn8 ?_
 refine Zal ?_
 refine dn3 ?_
 refine ZZ ?_
 exact kZ.out) : p := h ⟨k⟩
theorem Ze1 {p q : Prop} (k : q) (h : BkZ p q := by
 intro kZ
 refine ZcY ?_
 refine Cf ?_
 refine Gd5 ?_
 refine ZH ?_
 refine ZH ?_
 refine ZJ ?_
 refine Cf ?_
 refine Gmc ?_
 refine ZH ?_
 refine Zak ?_
 exact kZ.out) : p := h ⟨k⟩
theorem ZaH {p q : Prop} (k : q) (h : BkZ p q := by
 intro kZ
 refine Aa ?_
 refine Ga4 ?_
 exact kZ.out) : p := h ⟨k⟩
theorem Zdt {p q : Prop} (k : q) (h : BkZ p q := by
 intro kZ
 refine s_B (cs := [vi 0, vi 0, .bool false]) Tryz.sizeOf41 ?_
 refine Ga1 ?_
 exact kZ.out) : p := h ⟨k⟩
theorem Zcx {p q : Prop} (k : q) (h : BkZ p q := by
 intro kZ
 refine Bq ?_
 refine dn4 ?_
 refine ZaA ?_
 refine djm ?_
 exact kZ.out) : p := h ⟨k⟩
theorem Ze2 {p q : Prop} (k : q) (h : BkZ p q := by
 intro kZ
 refine rn4 ?_
 refine li (α := Step) [⟨(([2, 3, 4] : List Int).getD q 0), 0, (k : Int), 0, zOp⟩] Jg rfl (Mn (by unfold Step.wf Ao zOp; simp only; omega)) ?_; intro v64
 revert v64
 exact kZ.out) : p := h ⟨k⟩
theorem Ze3 {p q : Prop} (k : q) (h : BkZ p q := by
 intro kZ
 refine Au (k + 1, v77, told) ⟨by show k + 1 ≤ m.length; omega, by show told = _; rw [e2, ht, e3]⟩ (by show m.length - (k + 1) < m.length - k; omega) alT (fun w hs => ?_)
 revert w hs
 exact kZ.out) : p := h ⟨k⟩
theorem Ze4 {p q : Prop} (k : q) (h : BkZ p q := by
 intro kZ
 refine h.home hi (by simpa using hla) ⟨hb.1, ⟨by simp only; omega, by have : 0 < 2 ^ n := Nat.two_pow_pos n; simp only; omega⟩⟩ ?_
 exact kZ.out) : p := h ⟨k⟩
theorem Zcy {p q : Prop} (k : q) (h : BkZ p q := by
 intro kZ
 refine Ga3 ?_
 have er : C7 m o = ([], 0, 1) := Hx (by omega)
 rw [er]
 revert er
 exact kZ.out) : p := h ⟨k⟩
theorem Ze5 {p q : Prop} (k : q) (h : BkZ p q := by
 intro kZ
 refine Ga1 ?_
 have er : Lg x node = 5 ∧ Ff x node = x.frames := by unfold Lg Ff Bk; rw [if_pos (by omega), if_pos (by omega)]; exact ⟨rfl, rfl⟩
 rw [er.1, er.2]
 revert er
 exact kZ.out) : p := h ⟨k⟩
theorem Ze6 {p q : Prop} (k : q) (h : BkZ p q := by
 intro kZ
 refine Au (k + 1, v77, m.getD k 0) ⟨by show k + 1 ≤ m.length; omega, by show _ = _; rw [e2]⟩ (by show m.length - (k + 1) < m.length - k; omega) alT (fun w hs => ?_)
 revert w hs
 exact kZ.out) : p := h ⟨k⟩
theorem Zdu {p q : Prop} (k : q) (h : BkZ p q := by
 intro kZ
 have hve : Ln x i x.cores.length = none := by rw [show x.cores.length = p by omega]; exact hvn
 revert hve
 exact kZ.out) : p := h ⟨k⟩
theorem ZaI {p q : Prop} (k : q) (h : BkZ p q := by
 intro kZ
 refine Aa ?_
 refine Zat ?_
 exact kZ.out) : p := h ⟨k⟩
theorem ZaJ {p q : Prop} (k : q) (h : BkZ p q := by
 intro kZ
 refine ZM ?_
 refine Bc ?_
 refine ZM ?_
 refine Fo ?_
 exact kZ.out) : p := h ⟨k⟩
theorem Zdv {p q : Prop} (k : q) (h : BkZ p q := by
 intro kZ
 refine Zch ?_
 refine ob (Am rfl rfl (C0 (by decide))) ?_
 refine Gmc ?_
 exact kZ.out) : p := h ⟨k⟩
theorem Ze7 {p q : Prop} (k : q) (h : BkZ p q := by
 intro kZ
 refine cq_ (blk b2 30 [cv, hv, fv] :: blk b3 38 s.cells :: blk b4 30 [.slice none 0 0, .slice none 0 0, .slice none 0 0] :: L) ?_
 exact kZ.out) : p := h ⟨k⟩
theorem Ze8 {p q : Prop} (k : q) (h : BkZ p q := by
 intro kZ
 refine kp [7, 8, 9, 10, 11, 12, 13, 119, 120, 121, 122, 123, 124, 125, 126, 127, 128, 129, 130, 131, 132, 133, 134, 135, 136] ?_
 exact kZ.out) : p := h ⟨k⟩
theorem Zdw {p q : Prop} (k : q) (h : BkZ p q := by
 intro kZ
 refine ZF ?_
 refine ZF ?_
 refine ZF ?_
 refine Aw ?_
 refine Gc1 ?_
 exact kZ.out) : p := h ⟨k⟩
theorem Zdx {p q : Prop} (k : q) (h : BkZ p q := by
 intro kZ
 refine Hv (ls := ls) (l := l) (i := q.line) pkk hl (by omega) (by omega) (fun hlw hA => ?_)
 have hlw0 := hlw
 unfold Line.wf Ao at hlw0
 have honeL : (ep vL 7 q.line.toNat 0).oneCell' = true := hA.one
 revert hlw hA hlw0 honeL
 exact kZ.out) : p := h ⟨k⟩
theorem Zcz {p q : Prop} (k : q) (h : BkZ p q := by
 intro kZ
 refine ob (Am rfl rfl (C0 hc.1)) ?_
 refine ZP ?_
 exact kZ.out) : p := h ⟨k⟩
theorem Zc0 {p q : Prop} (k : q) (h : BkZ p q := by
 intro kZ
 refine Bg (.inr rfl) (fun B w hs => Adq rfl rfl B w) (fun w hs => ?_)
 revert w hs
 exact kZ.out) : p := h ⟨k⟩
theorem Ze9 {p q : Prop} (k : q) (h : BkZ p q := by
 intro kZ
 refine rn1 ?_
 refine s_B (cs := Core.cells up (cor x p)) Tryz.sizeOf57 ?_
 refine Zau ?_
 refine I3 (x := x) (p := p) i (u := up) mm (by omega) (fun hwl => ?_)
 revert hwl
 exact kZ.out) : p := h ⟨k⟩
theorem Zdy {p q : Prop} (k : q) (h : BkZ p q := by
 intro kZ
 refine r_p (Ar Tryz.underlying5 Tryz.underlying3 rfl (A5 _)) rfl ?_
 exact kZ.out) : p := h ⟨k⟩
theorem ZeA {p q : Prop} (k : q) (h : BkZ p q := by
 intro kZ
 refine Jy (v := vi (Aj (As x s.node) s.node (x.cores.length : Int) s.op).2.2.2) (fun _ _ => q_x) (fun _ _ _ _ _ => rfl) ?_
 exact kZ.out) : p := h ⟨k⟩
theorem Zdz {p q : Prop} (k : q) (h : BkZ p q := by
 intro kZ
 refine ZaK ?_
 refine dj ?_
 refine dc (fun _ _ => Im (v := vL) (i := q.line) Ma (hl := Dj (α := Line) (xs := ls) pkk)) ?_
 exact kZ.out) : p := h ⟨k⟩
theorem ZeB {p : Prop} (h : p := by
 refine ZL ?_
 refine An Tryz.call53 rfl (fun w hs => Mk (v := (Ac c q.line).value) (o := q) hs (by unfold Line.wf at hlw; exact hlw.2.1) (by omega) (by omega) (by omega)) ?_; intro _
 refine rn4 ?_
 refine sc ?_
 refine Ga1 ?_
 refine Zbr ?_;intro hvb
 have hXw : ({ (Ac c q.line) with value := (Ax (Ac c q.line).value q).1 } : Line).wf := by unfold Line.wf Ao at hlw ⊢; simp only; omega
 refine ZbT ?_;intro hvb
 refine es_ 57 0 [] [] (fun ρ => b8) (fun ρ => [.slice none 0 0, vi 0, vi 0, vi 0]) (fun ρ => [Gh.dec (γ := Value) (ρ 4), vi c.wait.kind, vi c.wait.line, vi c.wait.value]) Tryz.sizeOf57 (h1 := (fun ρ R w L' hd hs => Bl (isSlice.one (hs.fact (hd.dep (it := ⟨4, _, _, _, _⟩) (by repeat (first | exact List.Mem.head _ | refine List.Mem.tail _ ?_)) ⟨9, rfl⟩ (List.Mem.head _)))) (by repeat (first | exact Dy | refine Bl rfl ?_)))) ?_
 refine ZbX ?_;intro ρ v126 v131 eb ed hz et er
 exact E5 (v126, .slice none 0 0, v131) Tryz.isAgg57 Tryz.sizeOf57) : p := h
theorem ZeC {p : Prop} (h : p := by
 refine Za3 ?_
 rcases (show ((Ad l m.line).phase ≠ 0) ∨ ((Ad l m.line).phase = 0 ∧ m.serial ≤ (Ad l m.line).last.getD m.src.toNat 0) ∨ ((Ad l m.line).phase = 0 ∧ (Ad l m.line).last.getD m.src.toNat 0 < m.serial ∧ 65535 ≤ (Ad l m.line).turn) ∨ ((Ad l m.line).phase = 0 ∧ (Ad l m.line).last.getD m.src.toNat 0 < m.serial ∧ (Ad l m.line).turn < 65535) from by omega) with hc | hc | hc | hc
 ·refine Ze0 ?_
  refine Zbw ?_;intro ρ er
  exact Ce (v0, .slice none 0 0) (hs := fun w hs => Ag (St.shut (hs.rowNil 76 Msg)))
 ·refine Zby ?_
  refine dj (dgy ?_)
  refine Zb0 ?_
  refine dj (dgy ?_)
  refine dc (fun _ _ => Am rfl rfl (Pq (by omega))) ?_
  refine Zaa ?_
  refine dn3 ?_
  refine ZZ ?_
  refine Zbw ?_;intro ρ er
  exact Ce (v0, .slice none 0 0) (hs := fun w hs => Ag (St.shut (hs.rowNil 76 Msg)))
 ·refine Zby ?_
  refine dj (dgy ?_)
  refine Zb0 ?_
  refine dj (dgy ?_)
  refine Zb1 ?_
  refine dn2 ?_
  refine dj (dgy ?_)
  refine ZbO ?_
  refine djf ?_
  refine Zbw ?_;intro ρ er
  exact Ce (v0, .slice none 0 0) (hs := fun w hs => Ag (St.shut (hs.rowNil 76 Msg)))
 ·refine Zby ?_
  refine dj (dgy ?_)
  refine Zb0 ?_
  refine dj (dgy ?_)
  refine Zb1 ?_
  refine dn2 ?_
  refine dj (dgy ?_)
  refine Zd7 ?_;intro ρ hone9
  refine Ib (v := vi (Ad l m.line).turn) (fun ρ S hS hB hA => by have h20 : S 20 = false := hA 20 ⟨0, rfl⟩; simp only [h20, cond_false]; exact Cz (hc := A0 pkk (by repeat (first | exact rfl | refine C5 rfl ?_))) Tryz.isAgg3) (fun _ _ _ _ _ => rfl) ?_
  first | refine epc (fun _ _ => E9) ?_ | refine epc (fun _ _ => Fx) ?_ | refine epp (fun _ _ => E9) ?_ | refine epp (fun _ _ => Fx) ?_
  refine dn1 ?_
  refine es_ 62 9 [] [14, 16, 18, 20] (fun ρ => b8) (fun ρ => [vi (Ad l m.line).value, vi (Ad l m.line).owner, vi (Ad l m.line).sharers, vi (Ad l m.line).phase, vi (Ad l m.line).who, vi (Ad l m.line).serial, .bool (Ad l m.line).alone, vi (Ad l m.line).turn, vi (Ad l m.line).need, u]) (fun ρ => [v46]) Tryz.sizeOf58 (h1 := (fun ρ R w L' hd hs u hu => by cases List.mem_singleton.1 hu; exact hone9)) (hv := (fun _ => Hh hone9)) ?_
  refine Zd8 ?_;intro ρ hX
  refine An Tryz.call58 rfl (fun w hs => Jq (e := { (Ad l m.line) with last := ((Ad l m.line).last.set m.src.toNat m.serial), who := m.src, serial := m.serial, alone := m.kind == 2, turn := (Ad l m.line).turn + 1 }) (u := v46) hs hX (by assumption)) ?_; intro _
  refine Zd2 ?_;intro er ρ v287 v292
  exact Ce (v287, v292)) : p := h
theorem ZeD {p : Prop} (h : p := by
 intro ht95
 refine ZdI ?_
 refine Ib (v := vd) (fun ρ S hS hB hA => by have h19 : S 19 = false := hA 19 ⟨0, rfl⟩; simp only [h19, cond_false]; exact Cz (hc := A0 pkk (by repeat (first | exact rfl | refine C5 rfl ?_))) Tryz.isAgg31) (fun _ _ _ _ _ => rfl) ?_
 refine dn3 ?_
 refine Ib (v := vi id) (fun ρ S hS hB hA => by have h19 : S 19 = false := hA 19 ⟨0, rfl⟩; simp only [h19, cond_false]; exact Cz (hc := A0 pkk (by repeat (first | exact rfl | refine C5 rfl ?_))) Tryz.isAgg3) (fun _ _ _ _ _ => rfl) ?_
 refine ZdP ?_
 first | refine epc (fun _ _ => Dx Fw) ?_ | refine epc (fun _ _ => Fd Fw) ?_ | refine epp (fun _ _ => Dx Fw) ?_ | refine epp (fun _ _ => Fd Fw) ?_
 refine ZcQ ?_
 refine Fi (e := 119) (xs := ds) (ys := [(⟨id, q, 0⟩ : Done)]) (v := vd) Gq (fun _ => rfl) (fun _ => rfl) rfl (by decide) (fun ρ R hd => (hd.dep (it := ⟨15, _, _, _, _⟩) (by repeat (first | exact List.Mem.head _ | refine List.Mem.tail _ ?_)) ⟨9, rfl⟩ (List.Mem.head _))) (by have : maxN = 16777216 := rfl; simp only [List.length_cons, List.length_nil]; omega) (fun ρ g S hS hB hA => ?_) ?_
 ·have ui : upS S 16 16 = true := rfl; have u19 : upS S 16 19 = S 19 := rfl; have h19 : S 19 = false := hA 19 ⟨0, rfl⟩; have rs : (Gh.dec (γ := Value) (Rho.set ρ 16 (Gh.enc g) 16)) = g := rfl
  simp only [ui, hS, u19, h19, rs, cond_true, cond_false]
  exact pex
 refine dn2 ?_
 refine Eb (T0 := 137) (f := 7) (vs := fun ρ => [vL, vi q.kind, vi q.line, vi q.value, vi id, vi home, vo, vd]) (v := fun ρ => (Gh.dec (γ := Value) (ρ 16))) (fun ρ => bk) Tryz.sizeOf31 (fun _ => rfl) (fun _ => rfl) (fun ρ S R w L9 hB hd hs => by have h16 : S 16 = true := hB 16 ⟨9, rfl⟩; simp only [h16, cond_true] at hs; exact Bx pkk hs) (fun _ => rfl) (fun ρ g S hS hB hA => ?_) ?_
 ·have ui : upS S 19 19 = true := rfl; have u16 : upS S 19 16 = S 16 := rfl; have r16 : Rho.set ρ 19 g 16 = ρ 16 := rfl
  simp only [ui, hS, u16, r16, cond_true, cond_false]
  exact pex
 refine ZdK ?_;intro v120 v121 ρ v142 ef er
 refine Bg (.inl rfl) (fun B w hs => H6 rfl _ w) (fun w hs => ⟨(v142, v121), rfl, Ag (Dk ({ l with seen := m.turn, gave := m.turn, given := l.value, state := 0, value := 0, want := 0 }) (by unfold Line.wf Ao; simp only; omega) (hs.pick pkk))⟩)) : p := h
theorem ZeE {p : Prop} (h : p := by
 refine ZB ?_
 refine Za4 ?_
 refine Gl ?_
 have hXw : ({ (Ac c q.line) with state := 0, value := 0 } : Line).wf := by unfold Line.wf Ao at hlw ⊢; simp only; omega
 refine ZbV ?_;intro hvb
 refine es_ 57 0 [] [] (fun ρ => b8) (fun ρ => [.slice none 0 0, vi 0, vi 0, vi 0]) (fun ρ => [Gh.dec (γ := Value) (ρ 4), vi c.wait.kind, vi c.wait.line, vi c.wait.value]) Tryz.sizeOf57 (h1 := (fun ρ R w L' hd hs => Bl (isSlice.one (hs.fact (hd.dep (it := ⟨4, _, _, _, _⟩) (by repeat (first | exact List.Mem.head _ | refine List.Mem.tail _ ?_)) ⟨9, rfl⟩ (List.Mem.head _)))) (by repeat (first | exact Dy | refine Bl rfl ?_)))) ?_
 refine ZbY ?_;intro ρ v126 v131 eb ed hz et er
 exact E5 (v126, .slice none 0 0, v131) Tryz.isAgg57 Tryz.sizeOf57) : p := h
theorem ZeF {p : Prop} (h : p := by
 refine ZC ?_
 refine Zct ?_
 refine cdy ?_ ?_
 ·intro ht111
  refine kp [1, 4, 7, 8, 9, 10, 11, 12, 15, 112, 113] ?_
  exact ZeE
 ·intro ht111
  refine kp [1, 4, 7, 8, 9, 10, 11, 12, 15, 114, 115, 116, 117, 118, 119, 120, 121] ?_
  exact ZeB) : p := h
theorem ZeG {p : Prop} (h : p := by
 refine kp [1, 2, 4, 7, 8, 9, 10, 11, 12, 13, 83, 84] ?_
 refine ZO ?_
 refine Zct ?_
 refine cdy ?_ ?_
 ·intro ht111
  exact ZeE
 ·intro ht111
  exact ZeB) : p := h
theorem ZeH {p : Prop} (h : p := by
 refine ZdO ?_
 rintro ⟨k, v4⟩ hk
 try simp only at hk ⊢
 refine Gl ?_
 refine kp [2, 4, 35, 36, 37, 38] ?_
 refine ZW ?_
 refine cdy ?_ ?_
 ·intro ht38
  refine Gl ?_
  refine Zee ?_;intro hpw v44
  refine ap Fz (hb := fun w hs => by have : maxN = 16777216 := rfl; first | (rw [I6]; simp only [List.length_cons, List.length_nil]; omega) | (rw [List.length_take, List.length_map]; simp only [List.length_cons, List.length_nil]; omega)) (k := ?_); intro v45
  refine ZG ?_
  refine Au (k + 1, v45) (by show k + 1 ≤ 10; omega) (by show 10 - (k + 1) < 10 - k; omega) alT (fun w hs => ?_)
  try simp only
  have e9 : (xs.map u8).take (k + 1) = (xs.map u8).take k ++ [u8 (xs.getD k 0)] := by rw [Es 0 (by rw [List.length_map]; omega)]; simp [List.getD_eq_getElem?_getD, List.getElem?_map, List.getElem?_eq_getElem (show k < xs.length by omega)]
  rw [e9]; exact Ag hs
 ·intro ht38
  refine Gl ?_
  have hk10 : k = 10 := by omega
  subst hk10
  rw [List.take_of_length_le (by rw [List.length_map]; omega), hxb]
  have hsm := Nu (Ci m)
  refine ZB ?_
  refine An (γ := Unit) (val := fun _ => vi (Hk (Ci m))) Tryz.call56 rfl (fun w hs => lend .hd (fun L R w hs hf _ => Ii hs hf) hs) ?_; intro _
  refine ZdL ?_;intro hsr v56
  refine ap Fz (hb := fun w hs => by have : maxN = 16777216 := rfl; first | (rw [I6]; simp only [List.length_cons, List.length_nil]; omega) | (rw [List.length_take, List.length_map]; simp only [List.length_cons, List.length_nil]; omega)) (k := ?_); intro v57
  refine Ga1 ?_
  exact Bb v57 (hs := fun w hs => Ag (St.shut (hs.pick pkk)))) : p := h
theorem ZeI {p : Prop} (h : p := by
 exact Ce (v0, .slice none 0 0) (hs := fun w hs => Ag (St.shut (hs.rowNil 76 Msg)))) : p := h
theorem ZeJ {p : Prop} (h : p := by
 refine Zby ?_
 refine dj (dgy ?_)
 refine Zb0 ?_
 refine dj (dgy ?_)
 refine Zb1 ?_
 refine dn2 ?_
 refine dj (dgy ?_)
 refine Zd7 ?_;intro ρ hone9
 refine Ib (v := vi (Ad l m.line).turn) (fun ρ S hS hB hA => by have h20 : S 20 = false := hA 20 ⟨0, rfl⟩; simp only [h20, cond_false]; exact Cz (hc := A0 pkk (by repeat (first | exact rfl | refine C5 rfl ?_))) Tryz.isAgg3) (fun _ _ _ _ _ => rfl) ?_
 first | refine epc (fun _ _ => E9) ?_ | refine epc (fun _ _ => Fx) ?_ | refine epp (fun _ _ => E9) ?_ | refine epp (fun _ _ => Fx) ?_
 refine dn1 ?_
 refine es_ 62 9 [] [14, 16, 18, 20] (fun ρ => b8) (fun ρ => [vi (Ad l m.line).value, vi (Ad l m.line).owner, vi (Ad l m.line).sharers, vi (Ad l m.line).phase, vi (Ad l m.line).who, vi (Ad l m.line).serial, .bool (Ad l m.line).alone, vi (Ad l m.line).turn, vi (Ad l m.line).need, u]) (fun ρ => [v46]) Tryz.sizeOf58 (h1 := (fun ρ R w L' hd hs u hu => by cases List.mem_singleton.1 hu; exact hone9)) (hv := (fun _ => Hh hone9)) ?_
 refine Zd8 ?_;intro ρ hX
 refine An Tryz.call58 rfl (fun w hs => Jq (e := { (Ad l m.line) with last := ((Ad l m.line).last.set m.src.toNat m.serial), who := m.src, serial := m.serial, alone := m.kind == 2, turn := (Ad l m.line).turn + 1 }) (u := v46) hs hX (by assumption)) ?_; intro _
 refine Zd2 ?_;intro er ρ v287 v292
 exact Ce (v287, v292)) : p := h
theorem ZeK {p : Prop} (h : p := by
 have et : Bn x.frames s.n = ([], [], 5) := by unfold Bn; rw [if_pos (by unfold Cn at hc; exact hc)]
 refine ZE ?_
 refine An (γ := Value × Value) (val := fun v => .tuple #[v.1, v.2, vi 5]) (Rf := fun v => sl v.1 ([] : Frames) :: sl v.2 ([] : List UInt8) :: R) Tryz.call24 rfl (fun w hs => by have h9 := Ih (l := x.frames) (n := s.n) hs mm hsN; rw [et] at h9; exact h9) ?_; intro ⟨va, vb⟩
 refine Zch ?_
 refine ZaR ?_
 refine ZD ?_
 refine By (caps := []) (vs := [vi 5]) rfl Tryz.call18 rfl (fun w hs => Kq hs) ?_; intro _
 refine Zcu ?_;intro er
 exact Cj (.slice none 0 0, .slice none 0 0, .slice none 0 0, .slice none 0 0) Tryz.isAgg30 Tryz.sizeOf30) : p := h
theorem ZeL {p : Prop} (h : p := by
 exact E5 (.slice none 0 0, .slice none 0 0, .slice none 0 0) Tryz.isAgg57 Tryz.sizeOf57) : p := h
theorem ZeM {p : Prop} (h : p := by
 refine Aq ?_ (fun w hs => hs)
 refine ⟨by first | exact congrArg (fun b => some (Value.bool b)) (decide_eq_false (by grind)).symm | exact congrArg (fun b => some (Value.bool b)) (by simp; omega), alT⟩) : p := h
theorem ZeN {p : Prop} (h : p := by
 rcases (show s = 0 ∨ s = 1 ∨ s = 2 ∨ s = 3 ∨ s = 4 ∨ s = 5 ∨ s = 6 ∨ s = 7 ∨ s = 8 ∨ s = 9 ∨ s = 10 ∨ s = 11 ∨ s = 12 ∨ s = 13 ∨ s = 14 ∨ s = 15 by omega) with h | h | h | h | h | h | h | h | h | h | h | h | h | h | h | h <;> rcases (show k = 0 ∨ k = 1 ∨ k = 2 ∨ k = 3 by omega) with g | g | g | g <;> subst h <;> subst g <;> rfl) : p := h
theorem ZeO {p : Prop} (h : p := by
 refine Za3 ?_
 refine ZV ?_
 refine JC.rowNil 119 Done ?_
 have hkd : m.kind = 5 ∨ m.kind = 6 := by omega
 refine ZB ?_
 refine An Tryz.call97 rfl (fun w hs => Ra (vL := vL) (vo := .slice none 0 0) (vd := .slice none 0 0) (bk := b18) (bm := b7) (q := q) (id := id) (home := home) (ls := ls) (l := l) (ms := []) (ds := []) (m := m) (LX := blk b8 57 [.slice none 0 0, vi 0, vi 0, vi 0] :: L) (Ag hs) hl (by omega) (by omega) hm hid hhome (by simp) (by simp) hk.wwf hkd) ?_; intro ⟨g1, g2⟩
 refine J.conseq (L' := blk b18 137 [vL, vi (Ae ⟨ls, q⟩ id home m).1.wait.kind, vi (Ae ⟨ls, q⟩ id home m).1.wait.line, vi (Ae ⟨ls, q⟩ id home m).1.wait.value, vi id, vi home, g1, g2] :: row 92 vL (Ae ⟨ls, q⟩ id home m).1.lines :: row 76 g1 (Ae ⟨ls, q⟩ id home m).2.1 :: row 119 g2 (Ae ⟨ls, q⟩ id home m).2.2 :: blk b8 57 [.slice none 0 0, vi 0, vi 0, vi 0] :: L) (fun w hs => by rw [List.nil_append, List.nil_append] at hs; exact Ag hs) ?_
 refine Zc3 ?_;intro ρ
 exact Cj (vL, g1, g2) Tryz.isAgg57 Tryz.sizeOf57) : p := h
theorem ZeP {p : Prop} (h : p := by
 constructor
 ·have g0 := hG.own; have g1 := hG.own; grind
 ·have g0 := hG.own; have g1 := hG.ph; grind
 ·have g0 := hG.own; have g1 := hG.idle; grind
 ·have g0 := hG.own; have g1 := hG.whor; grind
 ·have g0 := hG.own; have g1 := hG.f1; grind
 ·have g0 := hG.own; have g1 := hG.f23; grind
 ·intro h2; omega
 ·have g0 := hG.own; have g1 := hG.al; grind
 ·have g0 := hG.own; have g1 := hG.tu; grind
 ·have g0 := hG.own; have g1 := hG.va; grind
 ·have g0 := hG.own; have g1 := hG.se; grind) : p := h
theorem ZeQ {p : Prop} (h : p := by
 refine Aq ?_ (fun w hs => hs)
 exact meT) : p := h
theorem ZeR {p : Prop} (h : p := by
 exact Ce (g13.1, .slice none 0 0) (hs := fun w hs => Ag (St.shut (hs.pick pkk)))) : p := h
theorem ZeS {p : Prop} (h : p := by
 refine Aq ?_ (fun w hs => hs)
 refine ⟨by first | exact congrArg (fun b => some (Value.bool b)) (decide_eq_false (by first | exact .inl hm | exact .inr hm | exact .inl ⟨hc1, hal⟩ | exact .inr ⟨hc1, hal⟩ | (rintro (⟨a, b⟩ | ⟨a, b⟩) <;> first | omega | exact absurd (hal.symm.trans b) (by decide)))).symm | exact congrArg (fun b => some (Value.bool b)) (by simp; omega), alT⟩) : p := h
theorem ZeT {p : Prop} (h : p := by
 exact Ga (.slice none 0 0) (hs := fun w hs => Ag (St.shut (hs.rowNil 3 Int)))) : p := h
theorem ZeU {p : Prop} (h : p := by
 rcases (show (m.turn ≤ (Ac c m.line).seen) ∨ ((Ac c m.line).seen < m.turn ∧ (Ac c m.line).state = 2) ∨ ((Ac c m.line).seen < m.turn ∧ (Ac c m.line).state = 3) ∨ ((Ac c m.line).seen < m.turn ∧ (Ac c m.line).state ≠ 2 ∧ (Ac c m.line).state ≠ 3) from by omega) with hm | hm | hm | hm
 ·refine ZE ?_
  refine Afl ?_
  refine Ga10 ?_
  exact ZeQ
 ·refine ZE ?_
  refine Se ?_
  refine ZP ?_
  refine H9 ?_
  refine Ga6 ?_
  refine Aq ?_ (fun w hs => hs)
  exact meF
 ·refine Zcv ?_
  refine H9 ?_
  refine Ga2 ?_
  refine Aq ?_ (fun w hs => hs)
  exact meF
 ·refine Zcj ?_
  refine Zcv ?_
  refine Hr ?_
  refine Ga2 ?_
  exact ZeQ) : p := h
theorem ZeV {p : Prop} (h : p := by
 refine Aq ?_ (fun w hs => hs)
 exact meF) : p := h
theorem ZeW {p : Prop} (h : p := by
 refine kp [0, 1, 5, 6, 7, 8, 48, 205] ?_
 refine ZaD ?_
 have er : Ak l id m = (l, []) := C3 (by omega) (by unfold Ah; rw [if_neg (by omega), if_neg (by omega), if_neg (by omega), if_neg (by first | omega | (intro h; have h4 := h.2.2.2; unfold Jk at h4; rw [hhas] at h4; rw [h4] at ht204; exact absurd ht204 (by decide))), if_neg (by omega)])
 rw [er]
 exact ZeI) : p := h
theorem ZeX {p : Prop} (h : p := by
 have al := hG.al; have f23 := hG.f23; have f1 := hG.f1; cases h; constructor <;> (try simp only) <;> grind) : p := h
theorem ZeY {p : Prop} (h : p := by
 refine ZaQ ?_
 have er : Af c b = (zMsg, 2) := by
  unfold Af
  rw [if_neg (by omega), if_neg (by show ¬ Hk (b.take 10) ≠ _; unfold at8; omega), if_pos (by unfold at8; omega)]
 rw [er]
 exact Fr () Tryz.isAgg76 Tryz.sizeOf76) : p := h
theorem ZeZ {p : Prop} (h : p := by
 exact Ins.perm (by repeat (first | exact .hd | exact .hc | refine .tl ?_ | refine .ap ?_))) : p := h
theorem Zfa {p : Prop} (h : p := by
 exact Cj (.slice none 0 0, .slice none 0 0, .slice none 0 0, .slice none 0 0) Tryz.isAgg30 Tryz.sizeOf30) : p := h
theorem Zfb {p : Prop} (h : p := by
 refine ⟨?_, fun m' hm' => ?_⟩
 ·exact ZeX
 ·have al := hG.al; have f23 := hG.f23; have f1 := hG.f1; cases h; cases hm'; constructor <;> (try simp only) <;> first | assumption | grind) : p := h
theorem Zfc {p : Prop} (h : p := by
 refine ⟨?_, fun m hm => ?_⟩
 ·exact ZeX
 ·have al := hG.al; have f23 := hG.f23; have f1 := hG.f1; cases h; cases hm; constructor <;> (try simp only) <;> first | assumption | grind) : p := h
theorem Zfd {p : Prop} (h : p := by
 refine Bb () (hv := ?_)
 simp [e]) : p := h
theorem Zfe {p : Prop} (h : p := by
 have al := hG.al; have f23 := hG.f23; have f1 := hG.f1; cases h; cases hm; constructor <;> (try simp only) <;> first | assumption | grind) : p := h
theorem Zff {p : Prop} (h : p := by
 have ui : upS S 23 23 = true := rfl; have u26 : upS S 23 26 = S 26 := rfl; have h26 : S 26 = false := hA 26 ⟨0, rfl⟩; have rs : (Gh.dec (γ := Value) (Rho.set ρ 23 (Gh.enc g) 23)) = g := rfl
 simp only [ui, hS, u26, h26, rs, cond_true, cond_false]
 exact pex) : p := h
theorem Zfg {p : Prop} (h : p := by
 rcases (show (¬ 0 < m.turn) ∨ (0 < m.turn ∧ ¬ m.turn = (Ac c m.line).gave) ∨ (0 < m.turn ∧ m.turn = (Ac c m.line).gave) from by omega) with hm | hm | hm
 ·refine ZD ?_
  refine Dz ?_
  refine Ga7 ?_
  exact ZeV
 ·refine ZD ?_
  refine Fo ?_
  refine ZR ?_
  refine Aw ?_
  refine Ga1 ?_
  exact ZeV
 ·refine ZD ?_
  refine Fo ?_
  refine ZR ?_
  refine Cf ?_
  refine Ga1 ?_
  exact ZeQ) : p := h
theorem Zfh {p : Prop} (h : p := by
 have hbn : EB ({ e with need := 0, phase := 3 }) := en ▸ C8 hb
 refine An Tryz.call100 rfl (fun w hs => Ir (e := { e with need := 0, phase := 3 }) (u := u) (ms := ms) (line := line) (id := id) (LX := foc 62 vh xs i [vi e.value, vi e.owner, vi e.sharers, vi 3, vi e.who, vi e.serial, .bool e.alone, vi e.turn, vi 0, u] :: LX) (Ag hs) (Nj .hd rfl) hA hn hbn hl hid) ?_; intro v72
 refine Gl ?_
 rw [en]
 refine Bg (.inl rfl) (fun B w hs => H6 rfl _ w) (fun w hs => ⟨v72, rfl, Ag hs⟩)) : p := h
theorem Zfi {p : Prop} (h : p := by
 unfold Gi
 generalize Gv (fun p => stN x i p == 2) x.cores.length = a at hc ⊢
 generalize Gv (fun p => stN x i p == 1) x.cores.length = b at hc ⊢
 simp; omega) : p := h
theorem Zfj {p : Prop} (h : p := by
 refine Aq ?_ (fun w hs => hs)
 refine ⟨by first | exact congrArg (fun b => some (Value.bool b)) (decide_eq_true (by first | exact hna | exact fun h => h hna)).symm | exact congrArg (fun b => some (Value.bool b)) (by simp; omega), alT⟩) : p := h
theorem Zfk {p : Prop} (h : p := by
 exact Cj (u, .slice none 0 0, .slice none 0 0) Tryz.isAgg57 Tryz.sizeOf57) : p := h
theorem Zfl {p : Prop} (h : p := by
 refine Aq ?_ (fun w hs => hs)
 refine ⟨by first | exact congrArg (fun b => some (Value.bool b)) (decide_eq_false (by rw [hgd]; omega)).symm | exact congrArg (fun b => some (Value.bool b)) (by simp; omega), alT⟩) : p := h
theorem Zfm {p : Prop} (h : p := by
 constructor
 ·have k0 := hm'.get; grind
 ·have k0 := hm'.put; have c0 := hCq.own; grind
 ·have k0 := hm'.inv; have c0 := hCq.ga; grind
 ·have k0 := hm'.fet; have c0 := hCq.ga; grind
 ·have k0 := hm'.gra; have c0 := hCq.taken; have c1 := hCq.la; have c2 := hCq.wa; grind
 ·have k0 := hm'.gon; grind
 ·have k0 := hm'.dat; have c0 := hCq.ga; grind
 ·have k0 := hm'.tha; grind
 ·have k0 := hm'.tak; grind) : p := h
theorem Zfn {p : Prop} (h : p := by
 rw [er]
 exact Ce (.slice none 0 0) (hs := fun w hs => Ag (hs.rowNil 71 (List UInt8)))) : p := h
theorem Zfo {p : Prop} (h : p := by
 rw [er]
 exact Bb ()) : p := h
theorem Zfp {p : Prop} (h : p := by
 refine Gl ?_
 refine ZdQ ?_;intro h12
 obtain ⟨hone1, hone2, hone3⟩ := h12
 refine ZD ?_
 refine s_B (cs := [cv, hv, fv]) Tryz.sizeOf30 ?_
 refine Ga1 ?_
 have ek : l.take k = l.take 300 := by
  first
   | rw [show k = 300 by omega]
   | rw [List.take_of_length_le (by omega), List.take_of_length_le (by omega)]
 rw [Ub hok ek]
 exact Fr (cv, hv, fv, dv) Tryz.isAgg30 Tryz.sizeOf30) : p := h
theorem Zfq {p : Prop} (h : p := by
 refine Aq ?_ (fun w hs => hs)
 refine ⟨by first | exact congrArg (fun b => some (Value.bool b)) (decide_eq_true (by first | exact .inl hm | exact .inr hm | exact .inl ⟨hc1, hal⟩ | exact .inr ⟨hc1, hal⟩ | (rintro (⟨a, b⟩ | ⟨a, b⟩) <;> first | omega | exact absurd (hal.symm.trans b) (by decide)))).symm | exact congrArg (fun b => some (Value.bool b)) (by simp; omega), alT⟩) : p := h
theorem Zfr {p : Prop} (h : p := by
 refine ZA ?_
 have e : a = b := by
  have hkl : k = a.length := by omega
  rw [hkl, List.take_length, show a.length = b.length by omega, List.take_length] at hab
  exact hab
 exact Zfd) : p := h
theorem Zfs {p : Prop} (h : p := by
 have ui : upS S 26 26 = true := rfl; have u23 : upS S 26 23 = S 23 := rfl; have r23 : Rho.set ρ 26 g 23 = ρ 23 := rfl
 simp only [ui, hS, u23, r23, cond_true, cond_false]
 exact pex) : p := h
theorem Zft {p : Prop} (h : p := by
 constructor
 ·have k0 := hm'.get; grind
 ·have k0 := hm'.put; grind
 ·have k0 := hm'.inv; have c0 := hCq.ga; grind
 ·have k0 := hm'.fet; grind
 ·have k0 := hm'.gra; have c0 := hCq.taken; have c1 := hCq.cur; have c2 := hCq.wa; grind
 ·have k0 := hm'.gon; grind
 ·have k0 := hm'.dat; grind
 ·have k0 := hm'.tha; grind
 ·have k0 := hm'.tak; grind) : p := h
theorem Zfu {p : Prop} (h : p := by
 refine Ze1 ?_
 have hXw : ({ (Ac c m.line) with seen := m.turn, gave := m.turn, given := (Ac c m.line).value, state := 0, value := 0, want := 0 } : Line).wf := by first | exact hlw | (unfold Line.wf Ao at hlw ⊢; simp only; omega)
 refine Zd5 ?_;intro v138 hone138 b15 ρ v144 ef er
 exact Cj (v138, v118, v144) Tryz.isAgg57 Tryz.sizeOf57) : p := h
theorem Zfv {p : Prop} (h : p := by
 constructor
 ·have k0 := hm'.get; grind
 ·have k0 := hm'.put; grind
 ·have k0 := hm'.inv; grind
 ·have k0 := hm'.fet; grind
 ·have k0 := hm'.gra; have c0 := hCq.taken; have c1 := hCq.la; have c2 := hCq.wa; grind
 ·have k0 := hm'.gon; grind
 ·have k0 := hm'.dat; grind
 ·have k0 := hm'.tha; grind
 ·have k0 := hm'.tak; grind) : p := h
theorem Zfw {p : Prop} (h : p := by
 refine Gm ?_
 refine ob (Dx (cs := zMsg.cells) D8) ?_
 refine rn1 ?_
 refine ZbH ?_
 have er : Af c b = (zMsg, Bi c (Gn b)) := by
  unfold Af
  rw [if_neg (by omega), if_neg (by show ¬ Hk (b.take 10) ≠ _; unfold at8; omega), if_neg (by unfold at8; omega), if_pos (by omega)]
 rw [er]
 exact Fr () Tryz.isAgg76 Tryz.sizeOf76) : p := h
theorem Zfx {p : Prop} (h : p := by
 refine Zai ?_
 refine kp [2, 3, 4, 5, 6, 7, 8, 15, 16, 17, 205, 206, 207, 208, 209] ?_
 refine ZB ?_
 refine By (caps := []) (vs := [vi 3]) rfl Tryz.call18 rfl (fun w hs => Kq hs) ?_; intro _
 refine Zed ?_;intro er
 exact Cj (.slice none 0 0, .slice none 0 0, .slice none 0 0, .slice none 0 0) Tryz.isAgg30 Tryz.sizeOf30) : p := h
theorem Zfy {p : Prop} (h : p := by
 generalize (Gh.dec (γ := Value) (ρ 4)) = v131
 generalize (Gh.dec (γ := Value) (ρ 13)) = v140
 refine Gl ?_
 rw [er]
 exact Ce (v131, v140)) : p := h
theorem Zfz {p : Prop} (h : p := by
 refine Bb () (hs := fun w hs => hs.perm (Pick.perm hp).symm) (hv := ?_)
 first | rw [decide_eq_true (by omega)] | rw [decide_eq_false (by omega)]) : p := h
theorem Zf0 {p : Prop} (h : p := by
 have ui : upS S 47 47 = true := rfl; have u48 : upS S 47 48 = S 48 := rfl; have h48 : S 48 = false := hA 48 ⟨0, rfl⟩; have rs : (Gh.dec (γ := Nat) (Rho.set ρ 47 (Gh.enc b) 47)) = b := rfl
 simp only [ui, hS, u48, h48, rs, cond_true, cond_false, List.nil_append]
 exact ZeZ) : p := h
theorem Zf1 {p : Prop} (h : p := by
 refine Aq ?_ (fun w hs => hs)
 refine ⟨by first | exact congrArg (fun b => some (Value.bool b)) (decide_eq_true (by first | exact fun h => hm h.1 | exact fun h => hm.2 h.2 | exact fun h => h hm)).symm | exact congrArg (fun b => some (Value.bool b)) (by simp; omega), alT⟩) : p := h
theorem Zf2 {p : Prop} (h : p := by
 refine Zce ?_;intro er
 exact Fr (.slice none 0 0, .slice none 0 0) Tryz.isAgg30 Tryz.sizeOf30) : p := h
theorem Zf3 {p : Prop} (h : p := by
 refine Zai ?_
 refine ZB ?_
 refine By (caps := []) (vs := [vi 5]) rfl Tryz.call18 rfl (fun w hs => Kq hs) ?_; intro _
 refine rn3 ?_
 refine Zcm ?_;intro er
 exact Cj (.slice none 0 0, .slice none 0 0, .slice none 0 0, .slice none 0 0) Tryz.isAgg30 Tryz.sizeOf30) : p := h
theorem Zf4 {p : Prop} (h : p := by
 rw [List.getElem?_map] at he
 obtain ⟨x, hx, hxe⟩ := Option.map_eq_some_iff.1 he
 have h3 := r3 k x r hx hkr
 refine ⟨x.u, ?_, ?_, ?_⟩
 ·rw [← hxe]; exact h3.1
 ·rw [← hxe]; exact hr _ (hf x (List.mem_of_getElem? hx))
 ·rw [← hxe]; exact h3.2.1) : p := h
theorem Zf5 {p : Prop} (h : p := by
 refine ZI ?_
 refine ZbH ?_
 have er : Af c b = (Gn b, 0) := by
  unfold Af
  rw [if_neg (by omega), if_neg (by show ¬ Hk (b.take 10) ≠ _; unfold at8; omega), if_neg (by unfold at8; omega), if_neg (by omega)]
 rw [er]
 exact Fr () Tryz.isAgg76 Tryz.sizeOf76) : p := h
theorem Zf6 {p : Prop} (h : p := by
 have ui : upS S 13 13 = true := rfl; have u16 : upS S 13 16 = S 16 := rfl; have h16 : S 16 = false := hA 16 ⟨0, rfl⟩; have rs : (Gh.dec (γ := Value) (Rho.set ρ 13 (Gh.enc g) 13)) = g := rfl
 simp only [ui, hS, u16, h16, rs, cond_true, cond_false]
 exact pex) : p := h
theorem Zf7 {p : Prop} (h : p := by
 have hkl : k = a.length := by omega
 rw [hkl, List.take_length, show a.length = b.length by omega, List.take_length] at hab
 exact hab) : p := h
theorem Zf8 {p : Prop} (h : p := by
 refine Zai ?_
 refine ZB ?_
 refine By (caps := []) (vs := [vi 5]) rfl Tryz.call18 rfl (fun w hs => Kq hs) ?_; intro _
 refine Zei ?_;intro er
 exact Cj (.slice none 0 0, .slice none 0 0, .slice none 0 0, .slice none 0 0) Tryz.isAgg30 Tryz.sizeOf30) : p := h
theorem Zf9 {p : Prop} (h : p := by
 obtain ⟨b1, b2, _⟩ := Cm hE0.2.1.1 hE0.2.1.2 (show 0 ≤ m.src by omega) (show m.src < 4 by omega)
 obtain ⟨c1, _⟩ := Cm hE0.2.2.1.1 hE0.2.2.1.2 (show 0 ≤ m.src by omega) (show m.src < 4 by omega)
 unfold Ct
 rw [(c1 hh).2, (b1 hhS).2]) : p := h
theorem ZfA {p : Prop} (h : p := by
 obtain ⟨b1, b2, _⟩ := Cm hE0.2.1.1 hE0.2.1.2 (show 0 ≤ m.src by omega) (show m.src < 4 by omega)
 obtain ⟨c1, _⟩ := Cm hE0.2.2.1.1 hE0.2.2.1.2 (show 0 ≤ m.src by omega) (show m.src < 4 by omega)
 unfold Ct
 rw [(c1 hh).2, (b2 hhS).2]) : p := h
theorem ZfB {p : Prop} (h : p := by
 have e : ∀ x y : Int, x % 256 = y % 256 → u8 x = u8 y := fun x y h => by unfold u8; rw [h]
 unfold Ci
 simp only [List.map_cons, List.map_nil]
 rw [ht9, e (m.serial % 256) m.serial (by omega), e (m.turn % 256) m.turn (by omega)]; rfl) : p := h
theorem ZfC {p : Prop} (h : p := by
 refine Aq ?_ (fun w hs => hs)
 refine ⟨by first | exact congrArg (fun b => some (Value.bool b)) (decide_eq_false (by first | exact hna | exact fun h => h hna)).symm | exact congrArg (fun b => some (Value.bool b)) (by simp; omega), alT⟩) : p := h
theorem ZfD {p : Prop} (h : p := by
 intro a ha; rw [List.mem_singleton.1 ha]; exact L6 h1 h2 h3 (by omega) ht (by omega)) : p := h
theorem ZfE {p : Prop} (h : p := by
 refine Bg (.inr rfl) (fun B w hs => H6 rfl _ w) (fun w hs => ⟨vo, rfl, Ag hs⟩)) : p := h
theorem ZfF {p : Prop} (h : p := by
 refine Ga2 ?_
 refine Aq ?_ (fun w hs => hs)
 refine ⟨by first | exact congrArg (fun b => some (Value.bool b)) (decide_eq_true (by grind)).symm | exact congrArg (fun b => some (Value.bool b)) (by simp; omega), alT⟩) : p := h
theorem ZfG {p : Prop} (h : p := by
 refine Au (i + 1, v) (by show i + 1 ≤ x.cores.length + 1; omega) (by show x.cores.length + 1 - (i + 1) < x.cores.length + 1 - i; omega) alT (fun w hs => ?_)
 try simp only
 rw [Lq, e1, List.append_nil]; exact Ag hs) : p := h
theorem ZfH {p : Prop} (h : p := by
 refine Gm ?_
 refine ZaQ ?_
 have er : Af c b = (zMsg, 7) := by
  unfold Af
  rw [if_neg (by omega), if_pos (by show Hk (b.take 10) ≠ _; unfold at8; omega)]
 rw [er]
 exact Fr () Tryz.isAgg76 Tryz.sizeOf76) : p := h
theorem ZfI {p : Prop} (h : p := by
 refine Aa ?_
 refine Zbj ?_;intro er
 exact ZeI) : p := h
theorem ZfJ {p : Prop} (h : p := by
 exact Cj (vL, .slice none 0 0, .slice none 0 0) Tryz.isAgg57 Tryz.sizeOf57) : p := h
theorem ZfK {p : Prop} (h : p := by
 rw [er]
 exact Ga v40 (hs := fun w hs => Ag (St.shut (hs.pick pkk)))) : p := h
theorem ZfL {p : Prop} (h : p := by
 refine ZaP ?_;intro er
 exact ZeT) : p := h
theorem ZfM {p : Prop} (h : p := by
 have ui : upS S 16 16 = true := rfl; have u13 : upS S 16 13 = S 13 := rfl; have r13 : Rho.set ρ 16 g 13 = ρ 13 := rfl
 simp only [ui, hS, u13, r13, cond_true, cond_false]
 exact pex) : p := h
theorem ZfN {p : Prop} (h : p := by
 refine Ze5 ?_;intro er
 exact Bb fv (hs := fun w hs => (Ag hs : St _ R w).sub .refl (fun f hf => by rcases List.mem_cons.1 hf with e | e; rw [e]; exact hfv; exact e))) : p := h
theorem ZfO {p : Prop} (h : p := by
 unfold EB Entry.wf Ao; simp only; omega) : p := h
theorem ZfP {p : Prop} (h : p := by
 refine Za6 ?_;intro ρ
 refine ZbI ?_;intro er
 exact ZeI) : p := h
theorem ZfQ {p : Prop} (h : p := by
 refine Zcs ?_;intro er
 exact Ga (.slice none 0 0, .slice none 0 0) (hs := fun w hs => Ag (St.shut (St.rowNil 71 (List UInt8) (St.shut (hs.rowNil 5 UInt8)))))) : p := h
theorem ZfR {p : Prop} (h : p := by
 refine ZaU ?_
 have er : Aj c id home q = (Er, [], [], 8) := by unfold Aj; rw [if_neg (by omega), if_neg (by omega), if_pos (by omega)]
 rw [er]
 exact ZeL) : p := h
theorem ZfS {p : Prop} (h : p := by
 refine Gm ?_
 refine ZaQ ?_
 have er : Af c b = (zMsg, 2) := by
  unfold Af
  rw [if_pos (by omega)]
 rw [er]
 exact Fr () Tryz.isAgg76 Tryz.sizeOf76) : p := h
theorem ZfT {p : Prop} (h : p := by
 rw [er, List.append_nil, List.append_nil]
 refine Bg (.inr rfl) (fun B w hs => H6 rfl _ w) (fun w hs => ⟨(vo, vd), rfl, Ag (Ek hl hlw (hs.pick pkk))⟩)) : p := h
theorem ZfU {p : Prop} (h : p := by
 refine Zb3 ?_;intro eh hEB ρ er
 exact ZeR) : p := h
theorem ZfV {p : Prop} (h : p := by
 refine ZaU ?_
 have er : (Aj ⟨ls, q0⟩ id home q) = (Er, [], [], 8) := beg_8 hl (by omega) (by omega) (by omega) (by omega)
 rw [er]
 exact ZeL) : p := h
theorem ZfW {p : Prop} (h : p := by
 refine Zcs ?_;intro er
 exact Ga (.slice none 0 0, .slice none 0 0) (hs := fun w hs => Ag (St.shut (((hs.rowNil 71 (List UInt8)).rowNil 5 UInt8))))) : p := h
theorem ZfX {p : Prop} (h : p := by
 refine ZcD ?_;intro hno e1 e2 w hs
 try simp only
 rw [e1, e2]; exact Ag hs) : p := h
theorem ZfY {p : Prop} (h : p := by
 generalize (Gh.dec (γ := Value) (ρ 4)) = v287
 generalize (Gh.dec (γ := Value) (ρ 9)) = v292
 refine Gl ?_
 rw [er]
 exact Ce (v287, v292)) : p := h
theorem ZfZ {p : Prop} (h : p := by
 refine Gl ?_
 have hie : i = x.cores.length + 1 := by omega
 refine JC.shut (v := v) pkk ?_
 refine ZO ?_
 rw [← Om, ← hie]
 exact Bb v) : p := h
theorem Zga {p : Prop} (h : p := by
 exact (show SB _ N from h).mono (by omega)) : p := h
theorem Zgb {p : Prop} (h : p := by
 have : (3 : Int) = F9 (cor x p).wait.kind := by rw [← w3]; exact hw.symm
 unfold F9 at this; split at this <;> (try split at this) <;> omega) : p := h
theorem Zgc {p : Prop} (h : p := by
 intro a ha; cases ha) : p := h
theorem Zgd {p : Prop} (h : p := by
 have er : Bi c m = 1 := by unfold Bi; rw [if_pos (by omega)]
 exact Zfo) : p := h
theorem Zge {p : Prop} (h : p := by
 rw [er]
 exact Cj (vL, v74, .slice none 0 0) Tryz.isAgg57 Tryz.sizeOf57) : p := h
theorem Zgf {p : Prop} (h : p := by
 rw [← hX, List.getD_eq_getElem?_getD, List.getElem?_eq_getElem (by omega)]; exact List.mem_of_mem_drop (List.getElem_mem _)) : p := h
theorem Zgg {p : Prop} (h : p := by
 rw [getD_some 0 (show k < (Br b bit).length by omega)]
 have hg : (Br b bit).getD k 0 = b.getD k 0 := hget
 rw [hg]; rfl) : p := h
theorem Zgh {p : Prop} (h : p := by
 refine ZaU ?_
 have er : Aj c id home q = (Er, [], [], 1) := by unfold Aj; rw [if_pos (by omega)]
 rw [er]
 exact ZeL) : p := h
theorem Zgi {p : Prop} (h : p := by
 refine Ga2 ?_
 have er : Cg l n bit = ([], 3) := by unfold Cg Ay; rw [if_neg (by omega), if_pos (by omega)]
 exact Zfn) : p := h
theorem Zgj {p : Prop} (h : p := by
 have er : Fk x = false := Ix (show i < x.home.length by omega) (Ix (show p < x.cores.length by omega) hka)
 exact Zfo) : p := h
theorem Zgk {p : Prop} (h : p := by
 refine ZaU ?_
 have er : (Aj ⟨ls, q0⟩ id home q) = (Er, [], [], 1) := beg_1 (by omega)
 rw [er]
 exact ZeL) : p := h
theorem Zgl {p : Prop} (h : p := by
 exact Bb vs (hs := fun w hs => Ag (St.shut (hs.pick pkk)))) : p := h
theorem Zgm {p : Prop} (h : p := by
 intro ht80
 refine ZdB ?_;intro ρ v87 er
 exact Cj (u, v87, .slice none 0 0) Tryz.isAgg57 Tryz.sizeOf57) : p := h
theorem Zgn {p : Prop} (h : p := by
 refine Zeb ?_;intro ρ
 refine Au (p + 1) ⟨by omega, Py hvn ho⟩ (by omega) alT (fun w hs => Ag hs)) : p := h
theorem Zgo {p : Prop} (h : p := by
 unfold eqGuard
 cases op <;> simp [h]) : p := h
theorem Zgp {p : Prop} (h : p := by
 generalize (if e.alone = true then e.sharers else H5 e.sharers e.owner) = z at hs4 ⊢
 exact ZfO) : p := h
theorem Zgq {p : Prop} (h : p := by
 refine Ga2 ?_
 have er : Cg l n bit = ([], 5) := by unfold Cg; rw [if_pos (by omega)]
 exact Zfn) : p := h
theorem Zgr {p : Prop} (h : p := by
 exact Fr () Tryz.isAgg41 Tryz.sizeOf41) : p := h
theorem Zgs {p : Prop} (h : p := by
 refine kp [0, 1, 5, 6, 7, 8, 48, 160] ?_
 exact ZfI) : p := h
theorem Zgt {p : Prop} (h : p := by
 exact congrArg (fun z => some (vi z)) (show (q : Int) - 1 = 7 - ((j + 1 : Nat) : Int) by omega)) : p := h
theorem Zgu {p : Prop} (h : p := by
 refine Ga2 ?_
 refine Au (i + 1) ⟨by omega, Hj hal hat⟩ (by omega) alT (fun w hs => Ag hs)) : p := h
theorem Zgv {p : Prop} (h : p := by
 refine Ga2 ?_
 have er : E7 l n = ([], 5) := by unfold E7; rw [if_pos (by omega)]
 exact Zfn) : p := h
theorem Zgw {p : Prop} (h : p := by
 refine Ga1 ?_
 have er : Fl x = false := Ix (show i < x.home.length by omega) hat
 exact Zfo) : p := h
theorem Zgx {p : Prop} (h : p := by
 rw [er]
 refine Bg (.inl rfl) (fun B w hs => H6 rfl _ w) (fun w hs => ⟨v29, rfl, Ag hs⟩)) : p := h
theorem Zgy {p : Prop} (h : p := by
 refine ZbJ ?_
 have er : Ae c id home m = (c, [], []) := Lx (by omega)
 rw [er]
 exact Zfk) : p := h
theorem Zgz {p : Prop} (h : p := by
 intro ht10
 refine ZA ?_
 have e : a ≠ b := by intro h; apply ht10; rw [h]
 exact Zfd) : p := h
theorem Zg0 {p : Prop} (h : p := by
 show Fb _ [] M
 simp only [Fb]
 rw [G7 (.inr hk4), w2, Int.toNat_natCast, h.same i hin]) : p := h
theorem Zg1 {p : Prop} (h : p := by
 refine kp [0, 1, 5, 6, 7, 8, 254] ?_
 exact ZfI) : p := h
theorem Zg2 {p : Prop} (h : p := by
 refine Zew ?_;intro hje w hs
 try simp only
 rw [hje, Qk, ← S6] at hs
 exact Ag hs) : p := h
theorem Zg3 {p : Prop} (h : p := by
 refine Zcy ?_;intro er
 exact ZeT) : p := h
theorem Zg4 {p : Prop} (h : p := by
 refine Zcl ?_;intro er
 exact ZeL) : p := h
theorem Zg5 {p : Prop} (h : p := by
 refine Zco ?_;intro er
 exact ZeL) : p := h
theorem Zg6 {p : Prop} (h : p := by
 simp only; rw [Dg _ _ _ _ _ (by rw [hla]; exact hp), if_pos rfl]; exact Int.le_refl _) : p := h
theorem Zg7 {p : Prop} (h : p := by
 rw [hz, Ew] at this
 unfold upd at this
 rw [if_neg hqp] at this
 exact this.symm) : p := h
theorem Zg8 {p : Prop} (h : p := by
 refine Bg (.inl rfl) (fun B w hs => H6 rfl _ w) (fun w hs => ⟨(), rfl, Ag hs⟩)) : p := h
theorem Zg9 {p : Prop} (h : p := by
 refine Zai ?_
 refine Aa ?_
 refine Zbz ?_
 refine Zcm ?_;intro er
 exact Zfa) : p := h
theorem ZgA {p : Prop} (h : p := by
 have c0 := hCp.bits; grind) : p := h
theorem ZgB {p : Prop} (h : p := by
 have c0 := hCq.back; grind) : p := h
theorem ZgC {p : Prop} (h : p := by
 refine Zcc ?_;intro eh hEB ρ er
 exact ZeR) : p := h
theorem ZgD {p : Prop} (h : p := by
 unfold Ex; rw [List.range_succ, List.filter_append, List.map_append]; simp [h]) : p := h
theorem ZgE {p : Prop} (h : p := by
 unfold Br
 split
 ·rw [Dg _ _ _ _ _ (by omega), if_neg (by omega)]
 ·rfl) : p := h
theorem ZgF {p : Prop} (h : p := by
 have c0 := hCp.cle; grind) : p := h
theorem ZgG {p : Prop} (h : p := by
 have c0 := hCp.gra; grind) : p := h
theorem ZgH {p : Prop} (h : p := by
 have c0 := hCq.cle; grind) : p := h
theorem ZgI {p : Prop} (h : p := by
 rw [er]
 exact Cj (v149, v118, .slice none 0 0) Tryz.isAgg57 Tryz.sizeOf57) : p := h
theorem ZgJ {p : Prop} (h : p := by
 rw [er]
 exact Cj (cv, hv, va, .slice none 0 0) Tryz.isAgg30 Tryz.sizeOf30) : p := h
theorem ZgK {p : Prop} (h : p := by
 rw [er]
 exact Cj (cY, hY, va, .slice none 0 0) Tryz.isAgg30 Tryz.sizeOf30) : p := h
theorem ZgL {p : Prop} (h : p := by
 refine Zah ?_
 refine ZaL ?_
 exact ZfU) : p := h
theorem ZgM {p : Prop} (h : p := by
 refine ZbS ?_;intro hEB ρ er
 exact ZeR) : p := h
theorem ZgN {p : Prop} (h : p := by
 have c0 := hCp.ga; grind) : p := h
theorem ZgO {p : Prop} (h : p := by
 have c0 := hCp.la; grind) : p := h
theorem ZgP {p : Prop} (h : p := by
 have c0 := hCq.ga; grind) : p := h
theorem ZgQ {p : Prop} (h : p := by
 have c0 := hCq.la; grind) : p := h
theorem ZgR {p : Prop} (h : p := by
 intro a ha; rw [List.mem_singleton.1 ha]; unfold MsgIn; simp only; omega) : p := h
end Go.Proofs.YtbigiimomnfpdaaGreat
namespace Go.Proofs.YtbigiimomnfpdaaGreat
open Go
variable {L : List Chunk} {R : List Fact} {w : World}
def pv (b : Nat) (u : Bool) : Value := bif u then bp b 0 else .pointer none
section
variable {P : Program} {n : Nat} {ops : Array Oper} {Q : Exit → Act → World → Prop} {rest : List Oper} {L L' : List Chunk} {R : List Fact} {al : List (Nat × Value)} {d : Nat} {x y : Operand} {T ty : TypeId} {pos : String} {aft : Array Edge}
theorem q_toU {src dst t : TypeId} {b : Nat} {T0 : TypeId} {vs : List Value} (hs : P.underlying src = some (.pointer t)) (hd : P.underlying dst = some .unsafePointer) (ht : (P.info? t).any (fun j => j.size != 0) = true) (hx : ev n al x = some (bp b 0)) (hp : Pick L (blk b T0 vs) L') (h0 : 0 < vs.length) :
  A2 P n al L R ⟨some d, .convert src dst x, ty, pos, aft, none⟩ (bp b 0) :=
 ⟨rfl, fun ρ w h hst => by
  show (convert src dst (ρ x) >>= fun v => Pure.pure (Next.value v)).run P w = _
  have hb : w.heap[b]? = some (.cells vs.toArray T0 (0, 0)) := (hst.pick hp).blk_get
  have hsh : w.shape? b = some (T0, vs.length) := by unfold World.shape?; rw [hb]; simp
  obtain ⟨j, hj, hjs⟩ : ∃ j, P.info? t = some j ∧ j.size ≠ 0 := by
   cases hi : P.info? t with
   | none => rw [hi] at ht; exact absurd ht (by simp)
   | some j => rw [hi] at ht; exact ⟨j, rfl, by simpa using ht⟩
  rw [h x (by simp [Op.operands]) _ hx, Sem.run_bind, show bp b 0 = .pointer (some ⟨b, 0, none⟩) from rfl, Lib.run_to_unsafe w ⟨b, 0, none⟩ hs hd hj hjs hsh h0]; rfl⟩
theorem Afg {src dst u : TypeId} {b : Nat} {T0 : TypeId} {vs : List Value} {k : Nat} (hs : P.underlying src = some .unsafePointer) (hd : P.underlying dst = some (.pointer u)) (hu : (P.info? u).isSome = true) (hk : vs.length = k) (hl : liesAt P P.depth T0 (k / P.cellsOf T0) 0 u 1 = true) (hx : ev n al x = some (bp b 0)) (hp : Pick L (blk b T0 vs) L') :
  A2 P n al L R ⟨some d, .convert src dst x, ty, pos, aft, none⟩ (bp b 0) :=
 ⟨rfl, fun ρ w h hst => by
  show (convert src dst (ρ x) >>= fun v => Pure.pure (Next.value v)).run P w = _
  have hb : w.heap[b]? = some (.cells vs.toArray T0 (0, 0)) := (hst.pick hp).blk_get
  have hsh : w.shape? b = some (T0, vs.length) := by unfold World.shape?; rw [hb]; simp
  obtain ⟨j, hj⟩ := Option.isSome_iff_exists.1 hu
  rw [h x (by simp [Op.operands]) _ hx, Sem.run_bind, show bp b 0 = .pointer (some ⟨b, 0, none⟩) from rfl, Lib.run_from_unsafe w ⟨b, 0, none⟩ hs hd hj hsh (by rw [hk]; exact hl)]; rfl⟩
theorem r_ext {f : FuncId} {fn : Func} {e : Array Value → Sem Value} {args : List Operand} {ts : Array TypeId} {vs : List Value} {v : Value} (hf : P.funcs[f]? = some fn) (hname : (fn.name == "runtime.NumGoroutine") = false) (hb : fn.body.isNone = true) (hn : Extern.findNext fn = none) (he : Extern.find fn = some e)
  (ha : evL n al args = some vs) (hv : ∀ w, (e vs.toArray).run P w = .ok v w) (k : J P n ops Q rest L R ((d, v) :: al)) : J P n ops Q (⟨some d, .call { callee := .value (.func f), args := args.toArray, argTypes := ts }, ty, pos, aft, none⟩ :: rest) L R al :=
 J.pure rfl rfl (fun B w hs => by
  have hcf : ∀ zs w', (callFunc f zs).run P w' = ((e zs).run P w').andThen fun v w' => .ok (.value v) w' := fun zs w' => run_callFunc_extern hf hname hb hn he zs w'
  have hρ : (mkA n al B).eval (.func f) = .func (.func f) #[] #[] := rfl
  simp only [execOp, resolve, hρ, Deferred.ofValue, invoke]
  simp [hcf, List.map_toArray, K0 ha, hv, Result.andThen]) k
theorem M4 {op : BinOp} {a b : Option Addr} (w : World) : (eqGuard op T x y (.pointer a) (.pointer b)).run P w = .ok () w := by unfold eqGuard; cases op <;> rfl
theorem Adb {tp te : TypeId} (hp : P.underlying tp = some (.pointer te)) (w : World) : (binOp .eql tp (.pointer none) (.pointer none)).run P w = .ok (.bool true) w := by
 have h : ∀ d : Nat, (Op.equalIn (d + 1) tp (.pointer none) (.pointer none)).run P w = .ok true w := fun d => by
  simp [Op.equalIn, run_underlying hp]
 simp only [binOp]
 simp [Op.equal, Op.maxDepth, h 9999]
theorem Ada {tp te : TypeId} {a : Addr} (hp : P.underlying tp = some (.pointer te)) (w : World) : (binOp .eql tp (.pointer (some a)) (.pointer none)).run P w = .ok (.bool false) w := by
 have h : ∀ d : Nat, (Op.equalIn (d + 1) tp (.pointer (some a)) (.pointer none)).run P w = .ok false w := fun d => by
  simp [Op.equalIn, run_underlying hp]
 simp only [binOp]
 simp [Op.equal, Op.maxDepth, h 9999]
theorem Yt {tp te : TypeId} {a : Addr} (hp : P.underlying tp = some (.pointer te)) (hte : (P.info? te).isSome = true) (w : World) : (binOp .neq tp (.pointer (some a)) (.pointer (some a))).run P w = .ok (.bool false) w := by
 obtain ⟨j, hj⟩ := Option.isSome_iff_exists.1 hte
 exact Lib.run_neq_ptr_same w a hp hj
theorem q_usd {v : Value} {bs : List UInt8} {ts : Array TypeId} {T0 : TypeId} (hx : ev n al x = some v) (hp : Pick L (row T0 v bs) L') (h0 : bs ≠ []) :
  A2 P n al L R ⟨some d, .call { callee := .builtin .unsafeSliceData, args := #[x], argTypes := ts }, ty, pos, aft, none⟩ (ep v 1 0 0) :=
 ⟨rfl, fun ρ w h hst => by
  have hx' := h x (by simp [Op.operands, Call.operands]) _ hx
  obtain ⟨m, j, _, _, _, hr, _⟩ := (hst.pick hp).head
  obtain ⟨_, ⟨_, hb⟩ | ⟨g, cap, cur, cs, hv, _, hcap, _⟩⟩ := hr
  ·exact absurd hb h0
  ·have hc : cap ≠ 0 := by
    have : 0 < bs.length := List.length_pos_iff.2 h0
    omega
   have e := Lib.run_unsafeSliceData_row (P := P) w ts ty ⟨g, 0, none⟩ bs.length cap hc
   rw [hv] at hx' ⊢
   simp [execOp, resolve, invoke, builtin, hx', e, ep, Addr.add]⟩
theorem r_ustr {v : Value} {bs : List UInt8} {pt it T0 : TypeId} (hpt : P.underlying pt = some (.pointer T0)) (hc : P.cellsOf T0 = 1) (hx : ev n al x = some (ep v 1 0 0)) (hy : ev n al y = some (vi (bs.length : Int))) (hp : Pick L (row T0 v bs) L') (h0 : bs ≠ [])
  (k : J P n ops Q rest L' R ((d, .string (Nm bs)) :: al)) : J P n ops Q (⟨some d, .call { callee := .builtin .unsafeString, args := #[x, y], argTypes := #[pt, it] }, ty, pos, aft, none⟩ :: rest) L R al :=
 J.yieldEx (γ := Unit) (v := fun _ => .string (Nm bs)) (L' := fun _ => L') (R' := fun _ => R) rfl rfl (fun B w hs => by
  obtain ⟨m, i, hd, hm, hi, ⟨m1, m2, hd', h1, h2, hr, hst⟩, hR⟩ := hs.pick hp
  obtain ⟨hml, ⟨_, hb⟩ | ⟨g, cap, cur, cs, hv, hg, hcap, hmx, hsz, htk, hrd⟩⟩ := hr
  ·exact absurd hb h0
  have hbw : w.heap[g]? = some (.cells cur T0 (0, 0)) := Iq (hm _ _ (h1 _ _ hg))
  have hsz1 : cur.size = cap := by rw [hsz]; show cap * 1 = cap; omega
  have hcells : ∀ (j : Nat) (u : UInt8), bs[j]? = some u → w.cell? ((⟨g, 0, none⟩ : Addr).add j) = some (.int .u8 u.toNat) := by
   intro j u hu
   obtain ⟨p, c, q, e1, e2, e3, _⟩ := hrd.get hu
   have hc' : c = [vb u] := e3
   have hp1 : p.length = j := by rw [e2]; show j * 1 = j; omega
   have hj : j < cs.length := by rw [e1, hc']; simp; omega
   have hcs : cs[j]? = some (vb u) := by rw [e1, hc', List.append_assoc, List.getElem?_append_right (by omega), show j - p.length = 0 by omega]; rfl
   rw [← htk, List.getElem?_take] at hcs
   split at hcs
   ·rw [Gw, Nat.zero_add]
    rw [F0 hbw, ← Array.getElem?_toList]; exact hcs
   ·cases hcs
  have h63 : bs.length ≤ 9223372036854775807 := by have : maxN = 16777216 := rfl; omega
  have e := Lib.run_unsafeString_row (P := P) w pt it ty T0 hpt hc g cap (by unfold World.shape?; rw [hbw, ← hsz1]) bs h0 hcap h63 hcells
  refine ⟨(), w.freeze ⟨g, 0, none⟩ bs.length, ?_, ?_⟩
  ·have ex := Bf (B := B) hx
   have ey := Bf (B := B) hy
   rw [hv] at ex
   have ex' : (mkA n al B).eval x = .pointer (some ⟨g, 0, none⟩) := by rw [ex]; simp [ep, Addr.add]
   simp [execOp, resolve, invoke, builtin, ex', ey, e, Nm]
  ·have hl : bs.length ≠ 0 := by simpa using h0
   have hput := St.put (c' := ⟨fun _ _ => True, fun _ _ _ _ _ => trivial⟩) (w' := w.freeze ⟨g, 0, none⟩ bs.length) (o' := .cells cur T0 (0, 0 + bs.length)) hd hm hi hd' h1 h2 hst hR hg (by
    unfold World.freeze; rw [if_neg hl]; simp only [Array.getElem?_modify, if_pos]; rw [hbw]; rfl) (fun x hx => by unfold World.freeze; rw [if_neg hl]; simp only [Array.getElem?_modify]; rw [if_neg (fun e => hx e.symm)]) (by unfold World.freeze; rw [if_neg hl]) (by unfold World.freeze; rw [if_neg hl]) trivial
   exact hput.sub (.drop .refl) (fun f h => h)) (fun _ => k)
end
set_option maxHeartbeats 1000000
set_option maxRecDepth 8000
theorem Q2 {P : Program} {t : TypeId} {k : IntKind} {d : Nat} {a b : Int} (ht : P.underlying t = some (.int k)) (w : World) : (Op.equalIn (d + 1) t (.int k a) (.int k b)).run P w = .ok (a == b) w := by
 unfold Op.equalIn; simp [Cy ht]
theorem Aic {P : Program} {t : TypeId} {d : Nat} {a b : Bool} (ht : P.underlying t = some .bool) (w : World) : (Op.equalIn (d + 1) t (.bool a) (.bool b)).run P w = .ok (a == b) w := by
 unfold Op.equalIn; simp [Cy ht]
theorem eq_Op (x y : Op) {d : Nat} (w : World) : (Op.equalIn (d + 3) 36 (.agg x.cells.toArray) (.agg y.cells.toArray)).run Tryz.prog w = .ok (decide (x = y)) w := by
 show (Op.equalIn ((d + 2) + 1) 36 _ _).run _ _ = _
 rw [run_equalIn_struct w (d + 2) 36 _ _ (by kernel_rfl) (by kernel_rfl)]
 refine Zdd ?_;intro e3
 simp only [Program.fieldsOf, Tryz.underlying36]
 simp [Op.eqFields, part, Tryz.isAgg3, Op.cells, e3]
 cases x; cases y; simp
 repeat' split
 all_goals simp_all
theorem Ajr (x y : Op) {xo yo : Operand} (op : BinOp) (w : World) : (eqGuard op 36 xo yo (.agg x.cells.toArray) (.agg y.cells.toArray)).run Tryz.prog w = .ok () w := by
 have h : Tryz.prog.eqGuardType Tryz.prog.depth 36 = false := by kernel_rfl
 exact Zgo
theorem bn_Op (x y : Op) (w : World) : (binOp .neq 36 (.agg x.cells.toArray) (.agg y.cells.toArray)).run Tryz.prog w = .ok (.bool (!decide (x = y))) w := by
 show (Op.equal 36 (.agg x.cells.toArray) (.agg y.cells.toArray) >>= fun r => Pure.pure (Value.bool (!r))).run _ w = _
 rw [Sem.run_bind, show Op.equal 36 (.agg x.cells.toArray) (.agg y.cells.toArray) = Op.equalIn (9997 + 3) 36 _ _ from rfl, eq_Op x y w]; rfl
theorem Ajc {x y : Op} (h : x ≠ y) (w : World) : (binOp .neq 36 (.agg x.cells.toArray) (.agg y.cells.toArray)).run Tryz.prog w = .ok (.bool true) w := by rw [bn_Op, decide_eq_false h]; rfl
theorem Yo {x y : Op} (h : x = y) (w : World) : (binOp .neq 36 (.agg x.cells.toArray) (.agg y.cells.toArray)).run Tryz.prog w = .ok (.bool false) w := by rw [bn_Op, decide_eq_true h]; rfl
theorem Aif (x y : Line) {d : Nat} (w : World) : (Op.equalIn (d + 3) 92 (.agg x.cells.toArray) (.agg y.cells.toArray)).run Tryz.prog w = .ok (decide (x = y)) w := by
 show (Op.equalIn ((d + 2) + 1) 92 _ _).run _ _ = _
 rw [run_equalIn_struct w (d + 2) 92 _ _ (by kernel_rfl) (by kernel_rfl)]
 refine Zdd ?_;intro e3
 simp only [Program.fieldsOf, Tryz.underlying92]
 simp [Op.eqFields, part, Tryz.isAgg3, Line.cells, e3]
 cases x; cases y; simp
 repeat' split
 all_goals simp_all
theorem Ajs (x y : Line) {xo yo : Operand} (op : BinOp) (w : World) : (eqGuard op 92 xo yo (.agg x.cells.toArray) (.agg y.cells.toArray)).run Tryz.prog w = .ok () w := by
 have h : Tryz.prog.eqGuardType Tryz.prog.depth 92 = false := by kernel_rfl
 exact Zgo
theorem Ajd (x y : Line) (w : World) : (binOp .neq 92 (.agg x.cells.toArray) (.agg y.cells.toArray)).run Tryz.prog w = .ok (.bool (!decide (x = y))) w := by
 show (Op.equal 92 (.agg x.cells.toArray) (.agg y.cells.toArray) >>= fun r => Pure.pure (Value.bool (!r))).run _ w = _
 rw [Sem.run_bind, show Op.equal 92 (.agg x.cells.toArray) (.agg y.cells.toArray) = Op.equalIn (9997 + 3) 92 _ _ from rfl, Aif x y w]; rfl
theorem Acu (x y : Line) (w : World) : (binOp .neq 92 (.agg x.cells.toArray) (.agg y.cells.toArray)).run Tryz.prog w = .ok (.bool (decide (x ≠ y))) w := by rw [Ajd, decide_not]
theorem Aid (x y : Step) {d : Nat} (w : World) : (Op.equalIn (d + 4) 38 (.agg x.cells.toArray) (.agg y.cells.toArray)).run Tryz.prog w = .ok (decide (x = y)) w := by
 show (Op.equalIn ((d + 3) + 1) 38 _ _).run _ _ = _
 rw [run_equalIn_struct w (d + 3) 38 _ _ (by kernel_rfl) (by kernel_rfl)]
 have e3 : ∀ (a b : Int) w, (Op.equalIn (d + 3) 3 (vi a) (vi b)).run Tryz.prog w = .ok (a == b) w := fun a b w => Q2 (d := d + 2) Tryz.underlying3 w
 have e36 : ∀ (a b : Op) w, (Op.equalIn (d + 3) 36 (.agg a.cells.toArray) (.agg b.cells.toArray)).run Tryz.prog w = .ok (decide (a = b)) w := fun a b w => eq_Op a b (d := d) w
 simp only [Program.fieldsOf, Tryz.underlying38]
 have p1 : ∀ (a b c : Int), (#[vi a, vi b, vi c] : Array Value) = (Op.mk a b c).cells.toArray := fun _ _ _ => rfl
 cases x with | mk x0 x1 x2 x3 x4 =>
 cases y with | mk y0 y1 y2 y3 y4 =>
 cases x4 with | mk xa xb xc =>
 cases y4 with | mk ya yb yc =>
 simp [Op.eqFields, part, Tryz.isAgg3, Tryz.isAgg36, Tryz.sizeOf36, Step.cells]
 simp [p1, e3, e36]
 repeat' split
 all_goals simp_all
theorem Ajq (x y : Step) {xo yo : Operand} (op : BinOp) (w : World) : (eqGuard op 38 xo yo (.agg x.cells.toArray) (.agg y.cells.toArray)).run Tryz.prog w = .ok () w := by
 have h : Tryz.prog.eqGuardType Tryz.prog.depth 38 = false := by kernel_rfl
 exact Zgo
theorem Ajb (x y : Step) (w : World) : (binOp .neq 38 (.agg x.cells.toArray) (.agg y.cells.toArray)).run Tryz.prog w = .ok (.bool (!decide (x = y))) w := by
 show (Op.equal 38 (.agg x.cells.toArray) (.agg y.cells.toArray) >>= fun r => Pure.pure (Value.bool (!r))).run _ w = _
 rw [Sem.run_bind, show Op.equal 38 (.agg x.cells.toArray) (.agg y.cells.toArray) = Op.equalIn (9996 + 4) 38 _ _ from rfl, Aid x y w]; rfl
theorem Yn {x y : Step} (h : x = y) (w : World) : (binOp .neq 38 (.agg x.cells.toArray) (.agg y.cells.toArray)).run Tryz.prog w = .ok (.bool false) w := by rw [Ajb, decide_eq_true h]; rfl
theorem Aie (x y : Seen) {d : Nat} (w : World) : (Op.equalIn (d + 3) 41 (.agg x.cells.toArray) (.agg y.cells.toArray)).run Tryz.prog w = .ok (decide (x = y)) w := by
 show (Op.equalIn ((d + 2) + 1) 41 _ _).run _ _ = _
 rw [run_equalIn_struct w (d + 2) 41 _ _ (by kernel_rfl) (by kernel_rfl)]
 refine Zdd ?_;intro e3
 have e4 : ∀ (a b : Bool) w, (Op.equalIn (d + 2) 4 (.bool a) (.bool b)).run Tryz.prog w = .ok (a == b) w := fun a b w => Aic (d := d + 1) Tryz.underlying4 w
 have e39 : ∀ (a b : Int) w, (Op.equalIn (d + 2) 39 (vi a) (vi b)).run Tryz.prog w = .ok (a == b) w := fun a b w => Q2 (d := d + 1) Tryz.underlying39 w
 simp only [Program.fieldsOf, Tryz.underlying41]
 simp [Op.eqFields, part, Tryz.isAgg3, Tryz.isAgg4, Tryz.isAgg39, Seen.cells, e3, e4, e39]
 cases x; cases y; simp
 repeat' split
 all_goals simp_all
theorem Nl (x y : Seen) {xo yo : Operand} (op : BinOp) (w : World) : (eqGuard op 41 xo yo (.agg x.cells.toArray) (.agg y.cells.toArray)).run Tryz.prog w = .ok () w := by
 have h : Tryz.prog.eqGuardType Tryz.prog.depth 41 = false := by kernel_rfl
 exact Zgo
theorem Ajh (x y : Seen) (w : World) : (binOp .eql 41 (.agg x.cells.toArray) (.agg y.cells.toArray)).run Tryz.prog w = .ok (.bool (decide (x = y))) w := by
 show (Op.equal 41 (.agg x.cells.toArray) (.agg y.cells.toArray) >>= fun r => Pure.pure (Value.bool r)).run _ w = _
 rw [Sem.run_bind, show Op.equal 41 (.agg x.cells.toArray) (.agg y.cells.toArray) = Op.equalIn (9997 + 3) 41 _ _ from rfl, Aie x y w]; rfl
theorem Iv {x y : Seen} (h : x = y) (w : World) : (binOp .eql 41 (.agg x.cells.toArray) (.agg y.cells.toArray)).run Tryz.prog w = .ok (.bool true) w := by rw [Ajh, decide_eq_true h]
theorem Zj {v0 v1 : Value} {a b : List Int} (hs : St (L) R w) (h0 : sl v0 a ∈ R) (h1 : sl v1 b ∈ R) : Calls Tryz.prog 64 [v0, v1].toArray w (Bs (fun _ : Unit => .bool (decide (a = b))) (fun _ => L) (fun _ => R)) := by
 have hla := Be h0 hs
 have hlb := Be h1 hs
 refine Ai Tryz.func64 rfl Tryz.ntmps64 rfl hs ?_
 clear hs
 refine ZN ?_
 refine Ga5 ?_
 refine cdy ?_ ?_
 ·exact Zgz
 ·intro ht10
  refine ZdX ?_
  rintro k ⟨hk, hab⟩
  refine ZA ?_
  refine cdy ?_ ?_
  ·intro ht14
   refine ZC ?_
   refine JC.open0 (xs := a) (v := v0) k h0 (by omega) (fun _ => ?_)
   refine JC.open0 (xs := b) (v := v1) k (.tail _ h1) (by omega) (fun _ => ?_)
   refine Bq ?_
   refine dn9 ?_
   refine dnl ?_; intro ρ
   refine Gl ?_
   refine cdy ?_ ?_
   ·intro ht24
    refine ZA ?_
    have e : a ≠ b := by intro h; apply ht24; rw [h]
    exact Zfd
   ·intro ht24
    refine ZC ?_
    refine Au (k + 1) ⟨by omega, ?_⟩ (by omega) alT (fun w hs => Ag hs)
    rw [Es (El0.df : Int) (by omega), Es (El0.df : Int) (by omega), hab]
    exact congrArg (fun z => b.take k ++ [z]) (Classical.byContradiction ht24)
  ·intro ht14
   exact Zfr
theorem N4 {z k : Nat} (hs : St (L) R w) (hz : z ≤ 1000) (hk : k ≤ 60) : Calls Tryz.prog 55 [vi (z : Int), vi (k : Int)].toArray w (Bs (fun _ : Unit => .bool (z.testBit k)) (fun _ => L) (fun _ => R)) := by
 refine Ai Tryz.func55 rfl Tryz.ntmps55 rfl hs ?_
 clear hs
 refine Gm ?_
 refine ZG ?_
 refine A7 (γ := Nat) (fun j => j ≤ k) (fun _ => L) (fun _ => R) (fun j => [(0, vi ((z / 2 ^ j : Nat) : Int)), (5, vi (k : Int)), (6, vi (j : Int))]) (fun j => k - j) 0 (Nat.zero_le _) ⟨congrArg (fun q : Nat => some (vi (q : Int))) (by simp), alT⟩ (fun w hs => hs) ?_
 intro j hj
 have hz := Nat.div_le_self z (2 ^ j)
 refine ZA ?_
 refine cdy ?_ ?_
 ·intro ht7
  refine ZI ?_
  refine ob (Am rfl rfl (Aej (b := 2) (by omega) (by decide))) ?_
  refine ZG ?_
  refine Au (j + 1) (by omega) (by omega) ⟨congrArg (fun q : Nat => some (vi (q : Int))) (by rw [Nat.div_div_eq_div_mul, ← Nat.pow_succ]), alT⟩ (fun w hs => hs)
 ·intro ht7
  refine ZI ?_
  refine ob (Am rfl rfl (Aei (b := 2) (by decide) (by decide))) ?_
  refine Ga2 ?_
  have hjk : j = k := by omega
  subst hjk
  refine Bb () (hv := ?_)
  rw [Nat.testBit_eq_decide_div_mod_eq]; exact congrArg Value.bool (decide_eq_decide.2 (by omega))
theorem Ml {k : Nat} (hs : St (L) R w) (hk : k ≤ 60) : Calls Tryz.prog 60 [vi (k : Int)].toArray w (Bs (fun _ : Unit => vi ((2 ^ k : Nat) : Int)) (fun _ => L) (fun _ => R)) := by
 refine Ai Tryz.func60 rfl Tryz.ntmps60 rfl hs ?_
 clear hs
 refine ZN ?_
 refine ZG ?_
 refine A7 (γ := Nat) (fun j => j ≤ k) (fun _ => L) (fun _ => R) (fun j => [(3, vi ((2 ^ j : Nat) : Int)), (4, vi (k : Int)), (5, vi (j : Int))]) (fun j => k - j) 0 (Nat.zero_le _) alT (fun w hs => hs) ?_
 intro j hj
 have hp := Nat.pow_le_pow_right (show 0 < 2 by decide) (show j ≤ 60 by omega)
 have hp1 : (0 : Int) ≤ ((2 ^ j : Nat) : Int) := Int.natCast_nonneg _
 have hp2 : ((2 ^ j : Nat) : Int) ≤ 1152921504606846976 := Int.ofNat_le.2 hp
 refine ZA ?_
 refine cdy ?_ ?_
 ·intro ht6
  refine ZI ?_
  refine ob (Am (a := 2) rfl rfl (Ng (by omega) (by omega))) ?_
  refine ZG ?_
  refine Au (j + 1) (by omega) (by omega) ⟨congrArg (fun q => some (vi q)) (show 2 * ((2 ^ j : Nat) : Int) = ((2 ^ (j + 1) : Nat) : Int) by rw [Nat.pow_succ, Int.natCast_mul]; exact Int.mul_comm _ _), alT⟩ (fun w hs => hs)
 ·intro ht6
  refine ZC ?_
  have hjk : j = k := by omega
  subst hjk
  exact Bb ()
def C2 (e : Entry) : Nat → Nat
 | 0 => 0
 | j + 1 => if e.alone = true ∧ (j : Int) ≠ e.who ∧ e.sharers.toNat.testBit j = true then C2 e j + 2 ^ j else C2 e j
def phT (e : Entry) (j : Nat) : Int := if C2 e j = 0 then 3 else 2
def nxt (e : Entry) (j : Nat) : Entry := { e with need := (C2 e j : Int), phase := if C2 e j = 0 then 3 else 2 }
def EB (e : Entry) : Prop := e.wf ∧ (0 ≤ e.sharers ∧ e.sharers < 16) ∧ (0 ≤ e.need ∧ e.need < 16) ∧ (0 ≤ e.who ∧ e.who < 4) ∧ (-1 ≤ e.owner ∧ e.owner < 4) ∧ 0 ≤ e.turn
theorem Qo (e : Entry) : ∀ j, C2 e j < 2 ^ j
 | 0 => Nat.one_pos
 | j + 1 => by
  have := Qo e j
  rw [Nat.pow_succ]
  unfold C2
  split <;> omega
theorem Aal {e : Entry} (hb : EB e) (ho : ¬ 0 ≤ e.owner) : nxt e 4 = Bd e := by
 obtain ⟨_, ⟨h1, h2⟩, _, ⟨h3, h4⟩, _, _⟩ := hb
 cases e with | mk value owner sharers phase who serial alone turn need last =>
 simp only at h1 h2 h3 h4 ho
 obtain ⟨s, rfl⟩ := Int.eq_ofNat_of_zero_le h1
 obtain ⟨k, rfl⟩ := Int.eq_ofNat_of_zero_le h3
 cases alone with
 | false => simp [nxt, Bd, C2, ho]
 | true =>
  have key : ∀ (s : _root_.Fin 16) (k : _root_.Fin 4), (C2 ⟨0, -1, (s.val : Int), 0, (k.val : Int), 0, true, 0, 0, []⟩ 4 : Int) = Hl (s.val : Int) (k.val : Int) := by decide
  have e1 : C2 ⟨value, owner, (s : Int), phase, (k : Int), serial, true, turn, need, last⟩ 4 = C2 ⟨0, -1, (s : Int), 0, (k : Int), 0, true, 0, 0, []⟩ 4 := rfl
  have e2 := key ⟨s, by omega⟩ ⟨k, by omega⟩
  simp only at e2
  unfold nxt Bd
  simp only [e1, if_neg ho]
  by_cases hc : Hl (s : Int) (k : Int) = 0
  ·rw [hc] at e2
   have e3 : C2 ⟨0, -1, (s : Int), 0, (k : Int), 0, true, 0, 0, []⟩ 4 = 0 := by omega
   simp [e3, hc]
  ·have e3 : C2 ⟨0, -1, (s : Int), 0, (k : Int), 0, true, 0, 0, []⟩ 4 ≠ 0 := by omega
   simp [e3, hc, e2]
def zEC : List Value := [vi 0, vi 0, vi 0, vi 0, vi 0, vi 0, .bool false, vi 0, vi 0, .slice none 0 0]
theorem Jq {u : Value} {e : Entry} (hs : St (L) R w) (hb : EB e) (hu : u.oneCell' = true) : Calls Tryz.prog 58 [.agg (e.cells u).toArray].toArray w (Bs (fun _ : Unit => .agg ((Bd e).cells u).toArray) (fun _ => L) (fun _ => R)) := by
 have hb0 := hb
 unfold EB Entry.wf Ao at hb0
 refine Ai Tryz.func58 rfl Tryz.ntmps58 rfl hs ?_
 clear hs
 refine Gm ?_
 refine bx ?_; intro b1
 refine al_ (cs := zEC) Tryz.zeroValue62 ?_; intro b2
 refine Gm ?_
 refine ZH ?_
 refine Gm ?_
 refine ZH ?_
 refine ZS ?_
 refine cdy ?_ ?_
 ·intro ht8
  refine Gm ?_
  refine ZH ?_
  refine ZI ?_
  refine s_B Tryz.sizeOf62 ?_
  refine Gl ?_
  have er : Bd e = { e with need := 0, phase := 1 } := by unfold Bd; rw [if_pos ht8]
  refine Mh () Tryz.isAgg62 Tryz.sizeOf62 (hv := ?_)
  rw [er]; rfl
 ·intro ht8
  refine ZA ?_
  refine A7 (γ := Nat) (fun k => k ≤ 4) (fun k => blk b1 62 [vi e.value, vi e.owner, vi e.sharers, vi (phT e k), vi e.who, vi e.serial, .bool e.alone, vi e.turn, vi (C2 e k : Int), u] :: blk b2 62 zEC :: L) (fun _ => R) (fun k => [(1, bp b1 0), (2, bp b2 0), (11, vi (k : Int))]) (fun k => 4 - k) 0 (Nat.zero_le _) alT (fun w hs => Ag hs) ?_
  intro k hk
  have hn := Qo e k
  have hn4 : C2 e k < 16 := Nat.lt_of_lt_of_le hn (Nat.pow_le_pow_right (n := 2) (by decide) (show k ≤ 4 by omega))
  refine ZA ?_
  refine cdy ?_ ?_
  ·intro ht12
   refine Za1 ?_
   refine rn3 ?_
   refine Jr (t := 16) (b := ?b3) ?e3 ?_ ?_; case e3 => exact rfl
   ·intro ht16
    refine rn6 ?_
    refine jgx (t := 22) (p := ?p4) (hd := ?d4) ?e4 ?_ ?_; case e4 => exact rfl
    ·intro ht22
     refine ZP ?_
     refine An Tryz.call55 rfl (fun w hs => by have h := N4 (z := e.sharers.toNat) (k := k) hs (by omega) (by omega); rw [Int.toNat_of_nonneg hb.2.1.1] at h; exact h) ?_; intro _
     refine Ga1 ?_
     first | (refine cdx (p := ?p5) (hd := ?d5) ?e5 ?_ ?_; case e5 => exact rfl) | (refine A9 (b := ?b5) ?e5 ?_ ?_; case e5 => exact rfl)
     ·intro ht27
      refine Gl ?_
      have hyes : e.alone = true ∧ (k : Int) ≠ e.who ∧ e.sharers.toNat.testBit k = true := ⟨ht16, ht22, ht27⟩
      have h16 : ((2 ^ k : Nat) : Int) ≤ 8 := Int.ofNat_le.2 (Nat.pow_le_pow_right (n := 2) (by decide) (show k ≤ 3 by omega))
      have h17 : (0 : Int) ≤ ((2 ^ k : Nat) : Int) := Int.natCast_nonneg _
      refine cq_ (blk b1 62 [vi e.value, vi e.owner, vi e.sharers, vi (phT e k), vi e.who, vi e.serial, .bool e.alone, vi e.turn, vi (C2 e k : Int), u] :: blk b2 62 zEC :: L) ?_
      refine jd_ (fun ρ S => blk b1 62 [vi e.value, vi e.owner, vi e.sharers, vi (phT e k), vi e.who, vi e.serial, .bool e.alone, vi e.turn, vi (C2 e k : Int), u] :: blk b2 62 zEC :: L) ?_
      refine dn3 ?_
      refine Bu (γ := Unit) (val := fun _ => vi ((2 ^ k : Nat) : Int)) (F := fun _ => []) Tryz.call60 (fun _ => rfl) (fun ρ L R w hd hs => Ml hs (by omega)) (fun _ _ _ _ _ => rfl) ?_
      first | refine epc (fun _ _ => E9) ?_ | refine epc (fun _ _ => Fx) ?_ | refine epp (fun _ _ => E9) ?_ | refine epp (fun _ _ => Fx) ?_
      refine dn1 ?_
      refine dtl ?_; intro ρ
      refine J.conseq (L' := blk b1 62 [vi e.value, vi e.owner, vi e.sharers, vi (phT e k), vi e.who, vi e.serial, .bool e.alone, vi e.turn, vi (C2 e k : Int), u] :: blk b2 62 zEC :: L) (fun w hs => hs) ?_
      refine s_b Tryz.sizeOf3 ?_
      intro cs_ hcs_; subst hcs_
      refine Gl ?_
      refine kp [1, 2, 3, 11, 12, 13, 14, 15, 16, 17, 18, 19, 20, 21, 22, 23, 24, 25, 26, 27, 28, 29, 30, 31, 32, 33, 34] ?_
      refine ZB ?_
      refine sc ?_
      refine ZC ?_
      have e1 : phT e (k + 1) = 2 := by
       have h9 : C2 e (k + 1) = C2 e k + 2 ^ k := by rw [C2, if_pos hyes]
       have h8 : 0 < 2 ^ k := Nat.two_pow_pos k
       unfold phT; rw [h9, if_neg (by omega)]
      have e2 : (C2 e (k + 1) : Int) = (C2 e k : Int) + ((2 ^ k : Nat) : Int) := by
       have h9 : C2 e (k + 1) = C2 e k + 2 ^ k := by rw [C2, if_pos hyes]
       rw [h9]; exact Int.natCast_add _ _
      refine Au (k + 1) (by omega) (by omega) alT (fun w hs => ?_)
      try simp only
      rw [e1, e2]; exact Ag hs
     ·intro ht27
      refine ZC ?_
      exact ZfX
    ·intro ht22
     refine Gd5 ?_
     refine Ga2 ?_
     exact ZfX
   ·intro ht16
    refine Gd11 ?_
    refine Ga2 ?_
    exact ZfX
  ·intro ht12
   refine ZI ?_
   refine s_B Tryz.sizeOf62 ?_
   refine Gl ?_
   have hk4 : k = 4 := by omega
   subst hk4
   refine Mh () Tryz.isAgg62 Tryz.sizeOf62 (hv := ?_)
   rw [← Aal hb ht8]; rfl
theorem Ch {v0 u : Value} {l : List Entry} {i : Int} {e : Entry} (hs : St (L) R w) (h0 : sl v0 l ∈ R) (hu : sl u e.last ∈ R) (hw : e.wf) (hi : 0 ≤ i ∧ i < (l.length : Int)) : Calls Tryz.prog 59 [v0, vi i, .agg (e.cells u).toArray].toArray w (Bs (fun v : Value => v) (fun v => L) (fun v => sl v (l.set i.toNat e) :: R)) := by
 have hlen := Be h0 hs
 refine Ai Tryz.func59 rfl Tryz.ntmps59 rfl hs ?_
 clear hs
 refine Gm ?_
 refine bx ?_; intro b5
 refine Gb1 ?_
 refine liO ([] : List Entry) Q3 rfl (fun j h => Gb) ?_; intro v8
 refine rn1 ?_
 refine ap Q3 (hb := fun w hs => by have := Be h0 hs; have : maxN = 16777216 := rfl; simp; omega) (k := ?_); intro v10
 refine Gb1 ?_
 refine rn3 ?_
 refine ob (Im Oq) ?_
 refine s_W (xs := l) (i := i.toNat) e Tryz.sizeOf62 rfl rfl rfl .hd (by omega) (Dw mm hw) ?_
 refine ZC ?_
 exact Bb v10 (hs := fun w hs => Ag (St.shut hs))
theorem Bt {u : Value} {c : Core} {i : Int} {l : Line} (hs : St (L) R w) (hu : sl u c.lines ∈ R) (hw : l.wf) (hi : 0 ≤ i ∧ i < (c.lines.length : Int)) : Calls Tryz.prog 51 [.agg (c.cells u).toArray, vi i, .agg l.cells.toArray].toArray w (Bs (fun v : Value => .agg (Core.cells v (A6 c i l c.wait)).toArray) (fun v => L) (fun v => sl v (c.lines.set i.toNat l) :: R)) := by
 have hlen := Be hu hs
 refine ZaB ?_;intro hone0
 refine Ai Tryz.func51 rfl Tryz.ntmps51 rfl hs ?_
 clear hs
 refine Zap ?_;intro b3
 refine bx ?_; intro b5
 refine al_ (cs := [.slice none 0 0, vi 0, vi 0, vi 0]) Tryz.zeroValue57 ?_; intro b6
 refine Gm ?_
 refine liO ([] : List Line) Vj rfl (fun j h => Gb) ?_; intro v8
 refine rn2 ?_
 refine ap Vj (hb := fun w hs => by have := Be hu hs; have : maxN = 16777216 := rfl; simp; omega) (k := ?_); intro v11
 refine Gb1 ?_
 refine rn3 ?_
 refine ob (Im Ma) ?_
 refine s_W (xs := c.lines) (i := i.toNat) l Tryz.sizeOf92 rfl rfl rfl pkk (by omega) (rdLine hw) ?_
 refine Gl ?_
 refine JC.shut (v := v11) pkk ?_
 refine JC.know (p := v11.oneCell' = true) (fun w hs => isSlice.one (hs.fact (List.Mem.head _))) (fun hone => ?_)
 refine ZE ?_
 refine s_B (cs := Core.cells v11 (A6 c i l c.wait)) Tryz.sizeOf57 ?_
 refine Gl ?_
 exact Mh v11 Tryz.isAgg57 Tryz.sizeOf57
theorem Mi {cv hv fv u : Value} {x : Chip} {i : Int} {k : Core} (hs : St (L) R w) (hc : sl cv x.cores ∈ R) (hh : hv.oneCell' = true) (hf : fv.oneCell' = true) (hu : sl u k.lines ∈ R) (hw : k.wait.wf) (hi : 0 ≤ i ∧ i < (x.cores.length : Int)) : Calls Tryz.prog 20 [.agg #[cv, hv, fv], vi i, .agg (k.cells u).toArray].toArray w (Bs (fun v : Value => .agg #[v, hv, fv]) (fun v => L) (fun v => sl v (x.cores.set i.toNat k) :: R)) := by
 have hlen := Be hc hs
 refine ZaB ?_;intro hone0
 refine Ai Tryz.func20 rfl Tryz.ntmps20 rfl hs ?_
 clear hs
 refine Zap ?_;intro b3
 refine bx ?_; intro b5
 refine Zds ?_;intro b6
 refine Gm ?_
 refine liO ([] : List Core) Q4 rfl (fun j h => Gb) ?_; intro v8
 refine rn2 ?_
 refine ap Q4 (hb := fun w hs => by have := Be hc hs; have : maxN = 16777216 := rfl; simp; omega) (k := ?_); intro v11
 refine Gb1 ?_
 refine rn3 ?_
 refine ob (Im P1) ?_
 refine s_W (xs := x.cores) (i := i.toNat) k Tryz.sizeOf57 rfl rfl rfl pkk (by omega) (Wm mm hw) ?_
 refine Gl ?_
 refine JC.shut (v := v11) pkk ?_
 refine JC.know (p := v11.oneCell' = true) (fun w hs => isSlice.one (hs.fact (List.Mem.head _))) (fun hone => ?_)
 refine Zar ?_
 refine s_B (cs := [v11, hv, fv]) Tryz.sizeOf30 ?_
 refine Gl ?_
 exact Mh v11 Tryz.isAgg30 Tryz.sizeOf30
theorem Oz {l : Line} {id home i : Int} (hs : St (L) R w) : Calls Tryz.prog 52 [.agg l.cells.toArray, vi id, vi home, vi i].toArray w (Bs (fun _ : Unit => .agg (Cd l id home i).cells.toArray) (fun _ => L) (fun _ => R)) := by
 refine Ai Tryz.func52 rfl Tryz.ntmps52 rfl hs ?_
 clear hs
 refine Gm ?_
 refine bx ?_; intro b4
 refine al_ (cs := zMsg.cells) Tryz.zeroValue76 ?_; intro b8
 refine Gm ?_
 refine rn8 ?_
 refine al_ (cs := zMsg.cells) Tryz.zeroValue76 ?_; intro b9
 refine s_B Tryz.sizeOf76 ?_
 refine ZS ?_
 refine cdy ?_ ?_
 ·intro ht20
  refine ZL ?_
  refine sc ?_
  refine ZI ?_
  refine s_B Tryz.sizeOf76 ?_
  refine Gl ?_
  have er : Cd l id home i = ⟨l.want, id, home, i, l.serial, 0, l.value, false⟩ := by unfold Cd; rw [if_pos ht20]
  refine Mh () Tryz.isAgg76 Tryz.sizeOf76 (hv := ?_)
  rw [er]; rfl
 ·intro ht20
  refine ZI ?_
  refine s_B Tryz.sizeOf76 ?_
  refine Gl ?_
  have er : Cd l id home i = ⟨l.want, id, home, i, l.serial, 0, 0, false⟩ := by unfold Cd; rw [if_neg ht20]
  refine Mh () Tryz.isAgg76 Tryz.sizeOf76 (hv := ?_)
  rw [er]; rfl
theorem G5 (id home : Int) : ∀ (l : List Line) (i : Int) (x : Line), Cu id home i (l ++ [x]) = Cu id home i l ++ if x.want ≠ 0 then [Cd x id home (i + (l.length : Int))] else []
 | [], i, x => by simp only [List.nil_append, Cu, List.length_nil]; split <;> simp
 | a :: l, i, x => by
  have ih := G5 id home l (i + 1) x
  have e : i + 1 + (l.length : Int) = i + ((a :: l).length : Int) := by simp only [List.length_cons]; omega
  rw [e] at ih
  simp only [List.cons_append, Cu]
  split <;> simp [ih]
theorem L7 (id home : Int) : ∀ (l : List Line) (i : Int), (Cu id home i l).length ≤ l.length
 | [], i => Nat.le_refl _
 | a :: l, i => by
  have := L7 id home l (i + 1)
  simp only [Cu]; split <;> simp only [List.length_cons] <;> omega
theorem Ug {l : Line} (h : l.wf) {id home i : Int} (h1 : Ao id) (h2 : Ao home) (h3 : Ao i) : (Cd l id home i).wf := by
 unfold Cd Msg.wf; unfold Line.wf at h; unfold Ao at *; simp only
 split <;> omega
theorem Qb {u : Value} {c : Core} {id home : Int} (hs : St (L) R w) (hu : sl u c.lines ∈ R) (hid : Ao id) (hhome : Ao home) : Calls Tryz.prog 22 [.agg (c.cells u).toArray, vi id, vi home].toArray w (Bs (fun v : Value => v) (fun v => L) (fun v => sl v (Dl c id home) :: R)) := by
 have hlen := Be hu hs
 refine ZaB ?_;intro hone0
 refine Ai Tryz.func22 rfl Tryz.ntmps22 rfl hs ?_
 clear hs
 refine Zap ?_;intro b3
 refine Gb1 ?_
 refine Gb1 ?_
 refine Ga4 ?_
 refine ZV ?_
 refine A7 (γ := Nat × Value) (fun g => g.1 ≤ c.lines.length) (fun g => row 76 g.2 (Cu id home 0 (c.lines.take g.1)) :: L) (fun _ => R) (fun g => [(1, vi id), (2, vi home), (7, g.2), (11, u), (12, vi (c.lines.length : Int)), (13, vi (g.1 : Int))]) (fun g => c.lines.length - g.1) (0, .slice none 0 0) (Nat.zero_le _) alT (fun w hs => Ag hs) ?_
 rintro ⟨k, vs⟩ hk
 try simp only at hk ⊢
 refine ZA ?_
 refine cdy ?_ ?_
 ·intro ht14
  refine Gl ?_
  refine JC.open0 (xs := c.lines) (v := u) k mm (by omega) (fun hlw => ?_)
  refine ZL ?_
  refine al_ (cs := zLine.cells) Tryz.zeroValue92 ?_; intro b9
  refine rn1 ?_
  refine s_B (cs := (c.lines.getD k zLine).cells) Tryz.sizeOf92 ?_
  refine ZS ?_
  refine cdy ?_ ?_
  ·intro ht20
   refine Za2 ?_
   refine An Tryz.call52 rfl (fun w hs => Oz (l := c.lines.getD k zLine) (id := id) (home := home) (i := (k : Int)) hs) ?_; intro _
   refine li ([Cd (c.lines.getD k zLine) id home (k : Int)] : List Msg) Fp rfl (Il (Ug hlw hid hhome (by unfold Ao; omega))) ?_; intro v27
   refine ap Fp (hb := fun w hs => by have : maxN = 16777216 := rfl; have h9 := L7 id home (c.lines.take k) 0; rw [List.length_take] at h9; simp only [List.length_cons, List.length_nil]; omega) (k := ?_); intro v28
   refine ZG ?_
   refine Au (k + 1, v28) (by show k + 1 ≤ c.lines.length; omega) (by show c.lines.length - (k + 1) < c.lines.length - k; omega) alT (fun w hs => ?_)
   try simp only
   rw [Es zLine (by omega), G5, if_pos ht20, List.length_take, Nat.min_eq_left (by omega), Int.zero_add]
   exact Ag hs
  ·intro ht20
   refine ZC ?_
   refine Au (k + 1, vs) (by show k + 1 ≤ c.lines.length; omega) (by show c.lines.length - (k + 1) < c.lines.length - k; omega) alT (fun w hs => ?_)
   try simp only
   rw [Es zLine (by omega), G5, if_neg ht20, List.append_nil]
   exact Ag hs
 ·intro ht14
  refine ZC ?_
  exact Bb vs (hs := fun w hs => by rw [show k = c.lines.length by omega, List.take_length] at hs; exact Ag (St.shut hs))
def Ex (e : Entry) (line id : Int) (k : Nat) : List Msg := ((List.range k).filter (fun p => e.need.toNat.testBit p)).map fun (p : Nat) => (⟨4, id, (p : Int), line, 0, e.turn, 0, false⟩ : Msg)
theorem Ny {e : Entry} {line id : Int} {k : Nat} (h : e.need.toNat.testBit k = true) : Ex e line id (k + 1) = Ex e line id k ++ [⟨4, id, (k : Int), line, 0, e.turn, 0, false⟩] := by
 exact ZgD
theorem P2 {e : Entry} {line id : Int} {k : Nat} (h : e.need.toNat.testBit k = false) : Ex e line id (k + 1) = Ex e line id k := by
 exact ZgD
theorem Nz (e : Entry) (line id : Int) (k : Nat) : (Ex e line id k).length ≤ k := by
 unfold Ex; rw [List.length_map]
 exact Nat.le_trans (List.length_filter_le ..) (by simp)
theorem N1 {e : Entry} {line id : Int} (h : e.phase = 2) : Ex e line id 4 = Fm e line id := by
 unfold Ex Fm
 rw [if_neg (by omega), if_pos h]
 show _ = List.map _ (List.filter _ ([0, 1, 2, 3].map (fun p : Nat => (p : Int))))
 rw [List.filter_map, List.map_map]
 rfl
theorem Ij {u : Value} {e : Entry} {line id : Int} (hs : St (L) R w) (hb : EB e) (hu : u.oneCell' = true) (hl : Ao line) (hid : Ao id) : Calls Tryz.prog 23 [.agg (e.cells u).toArray, vi line, vi id].toArray w (Bs (fun v : Value => v) (fun v => L) (fun v => sl v (Fm e line id) :: R)) := by
 have hb0 := hb
 unfold EB Entry.wf Ao at hb0
 unfold Ao at hl hid
 refine Ai Tryz.func23 rfl Tryz.ntmps23 rfl hs ?_
 clear hs
 refine Zap ?_;intro b3
 refine Gb1 ?_
 refine Gb1 ?_
 refine rn5 ?_
 refine al_ (cs := zMsg.cells) Tryz.zeroValue76 ?_; intro b8
 refine s_B (cs := [vi 0, vi id, vi 0, vi line, vi 0, vi e.turn, vi 0, .bool false]) Tryz.sizeOf76 ?_
 refine Za1 ?_
 refine Ga2 ?_
 refine cdy ?_ ?_
 ·intro ht17
  refine Gl ?_
  refine cq_ (blk b8 76 [vi 0, vi id, vi 0, vi line, vi 0, vi e.turn, vi 0, .bool false] :: blk b3 62 (e.cells u) :: L) ?_
  refine jd_ (fun ρ S => blk b8 76 (bif S 5 then [vi 5, vi id, vi e.owner, vi line, vi 0, vi e.turn, vi 0, .bool false] else (bif S 3 then [vi 5, vi id, vi 0, vi line, vi 0, vi e.turn, vi 0, .bool false] else [vi 0, vi id, vi 0, vi line, vi 0, vi e.turn, vi 0, .bool false])) :: blk b3 62 (e.cells u) :: L) ?_
  refine dn3 ?_
  refine es_ 76 0 [] [5] (fun ρ => b8) (fun ρ => [vi 0, vi id, vi 0, vi line, vi 0, vi e.turn, vi 0, .bool false]) (fun ρ => [vi 5]) Tryz.sizeOf3 ?_
  refine dn1 ?_
  refine es_ 76 2 [3] [] (fun ρ => b8) (fun ρ => [vi 5, vi id, vi 0, vi line, vi 0, vi e.turn, vi 0, .bool false]) (fun ρ => [vi e.owner]) Tryz.sizeOf3 ?_
  refine dnl ?_; intro ρ
  refine xq_ (blk b8 76 [vi 5, vi id, vi e.owner, vi line, vi 0, vi e.turn, vi 0, .bool false] :: blk b3 62 (e.cells u) :: L) ?_
  refine ZC ?_
  refine A9 (b := ?b2) ?e2 ?_ ?_; case e2 => exact rfl
  ·intro ht24
   refine ZB ?_
   refine sc ?_
   refine Gl ?_
   refine ZV ?_
   refine ZD ?_
   refine li ([⟨6, id, e.owner, line, 0, e.turn, 0, false⟩] : List Msg) Fp rfl (Il (by unfold Msg.wf Ao; simp only; omega)) ?_; intro v28
   refine ap Fp (hb := fun w hs => by have : maxN = 16777216 := rfl; simp only [List.length_cons, List.length_nil, List.length_take, List.length_append]; omega) (k := ?_); intro v29
   refine ZG ?_
   have er : Fm e line id = [⟨6, id, e.owner, line, 0, e.turn, 0, false⟩] := by unfold Fm; rw [if_pos ht17, ht24]; rfl
   rw [er]
   exact Bb v29 (hs := fun w hs => Ag (St.shut (hs.pick pkk)))
  ·intro ht24
   refine Gl ?_
   refine ZV ?_
   refine ZD ?_
   refine li ([⟨5, id, e.owner, line, 0, e.turn, 0, false⟩] : List Msg) Fp rfl (Il (by unfold Msg.wf Ao; simp only; omega)) ?_; intro v28
   refine ap Fp (hb := fun w hs => by have : maxN = 16777216 := rfl; simp only [List.length_cons, List.length_nil, List.length_take, List.length_append]; omega) (k := ?_); intro v29
   refine ZG ?_
   have er : Fm e line id = [⟨5, id, e.owner, line, 0, e.turn, 0, false⟩] := by unfold Fm; rw [if_pos ht17, ht24]; rfl
   rw [er]
   exact Bb v29 (hs := fun w hs => Ag (St.shut (hs.pick pkk)))
 ·intro ht17
  refine ZC ?_
  refine cdy ?_ ?_
  ·intro ht30
   refine Gl ?_
   refine ZV ?_
   refine ZW ?_
   refine A7 (γ := Nat × Value × Int × Int) (fun g => g.1 ≤ 4) (fun g => row 76 g.2.1 (Ex e line id g.1) :: blk b8 76 [vi g.2.2.1, vi id, vi g.2.2.2, vi line, vi 0, vi e.turn, vi 0, .bool false] :: blk b3 62 (e.cells u) :: L) (fun _ => R) (fun g => [(3, bp b3 0), (7, g.2.1), (8, bp b8 0), (32, vi (g.1 : Int))]) (fun g => 4 - g.1) (0, .slice none 0 0, 0, 0) (Nat.zero_le _) alT (fun w hs => Ag hs) ?_
   rintro ⟨k, vs, x0, x2⟩ hk
   try simp only at hk ⊢
   have hsl := Nz e line id k
   refine ZA ?_
   refine cdy ?_ ?_
   ·intro ht33
    refine Za1 ?_
    refine rn3 ?_
    refine An Tryz.call55 rfl (fun w hs => by have h := N4 (z := e.need.toNat) (k := k) hs (by omega) (by omega); rw [Int.toNat_of_nonneg hb.2.2.1.1] at h; exact h) ?_; intro _
    refine Gl ?_
    first | (refine cdx (p := ?p5) (hd := ?d5) ?e5 ?_ ?_; case e5 => exact rfl) | (refine A9 (b := ?b5) ?e5 ?_ ?_; case e5 => exact rfl)
    ·intro ht38
     refine ZJ ?_
     refine Za4 ?_
     refine ZJ ?_
     refine li ([⟨4, id, (k : Int), line, 0, e.turn, 0, false⟩] : List Msg) Fp rfl (Il (by unfold Msg.wf Ao; simp only; omega)) ?_; intro v44
     refine ap Fp (hb := fun w hs => by have : maxN = 16777216 := rfl; simp only [List.length_cons, List.length_nil, List.length_take, List.length_append]; omega) (k := ?_); intro v45
     refine Ga1 ?_
     refine kp [3, 6, 7, 8, 9, 16, 32, 33, 34, 35, 36, 37, 38, 39, 40, 41, 42, 43, 44, 45, 46] ?_
     refine ZO ?_
     refine Au (k + 1, v45, 4, (k : Int)) (by show k + 1 ≤ 4; omega) (by show 4 - (k + 1) < 4 - k; omega) alT (fun w hs => ?_)
     try simp only
     rw [Ny ht38]; exact Ag hs
    ·intro ht38
     refine ZC ?_
     refine Au (k + 1, vs, x0, x2) (by show k + 1 ≤ 4; omega) (by show 4 - (k + 1) < 4 - k; omega) alT (fun w hs => ?_)
     try simp only
     rw [P2 ht38]; exact Ag hs
   ·intro ht33
    refine ZC ?_
    have hk4 : k = 4 := by omega
    subst hk4
    have er : Fm e line id = Ex e line id 4 := (N1 ht30).symm
    rw [er]
    exact Zgl
  ·intro ht30
   refine ZC ?_
   refine cdy ?_ ?_
   ·intro ht47
    refine Gl ?_
    refine cq_ (blk b8 76 [vi 0, vi id, vi 0, vi line, vi 0, vi e.turn, vi 0, .bool false] :: blk b3 62 (e.cells u) :: L) ?_
    refine jd_ (fun ρ S => blk b8 76 (bif S 17 then [vi 7, vi id, vi e.who, vi line, vi e.serial, vi e.turn, vi e.value, .bool e.alone] else (bif S 15 then [vi 7, vi id, vi e.who, vi line, vi e.serial, vi e.turn, vi e.value, .bool false] else (bif S 13 then [vi 7, vi id, vi e.who, vi line, vi e.serial, vi e.turn, vi 0, .bool false] else (bif S 11 then [vi 7, vi id, vi e.who, vi line, vi 0, vi e.turn, vi 0, .bool false] else (bif S 9 then [vi 7, vi id, vi 0, vi line, vi 0, vi e.turn, vi 0, .bool false] else [vi 0, vi id, vi 0, vi line, vi 0, vi e.turn, vi 0, .bool false]))))) :: blk b3 62 (e.cells u) :: L) ?_
    refine dn9 ?_
    refine es_ 76 0 [] [11, 13, 15, 17] (fun ρ => b8) (fun ρ => [vi 0, vi id, vi 0, vi line, vi 0, vi e.turn, vi 0, .bool false]) (fun ρ => [vi 7]) Tryz.sizeOf3 ?_
    refine dn1 ?_
    refine es_ 76 2 [9] [13, 15, 17] (fun ρ => b8) (fun ρ => [vi 7, vi id, vi 0, vi line, vi 0, vi e.turn, vi 0, .bool false]) (fun ρ => [vi e.who]) Tryz.sizeOf3 ?_
    refine dn1 ?_
    refine es_ 76 4 [9, 11] [15, 17] (fun ρ => b8) (fun ρ => [vi 7, vi id, vi e.who, vi line, vi 0, vi e.turn, vi 0, .bool false]) (fun ρ => [vi e.serial]) Tryz.sizeOf3 ?_
    refine dn1 ?_
    refine es_ 76 6 [9, 11, 13] [17] (fun ρ => b8) (fun ρ => [vi 7, vi id, vi e.who, vi line, vi e.serial, vi e.turn, vi 0, .bool false]) (fun ρ => [vi e.value]) Tryz.sizeOf3 ?_
    refine dn1 ?_
    refine es_ 76 7 [9, 11, 13, 15] [] (fun ρ => b8) (fun ρ => [vi 7, vi id, vi e.who, vi line, vi e.serial, vi e.turn, vi e.value, .bool false]) (fun ρ => [.bool e.alone]) Tryz.sizeOf4 ?_
    refine dnl ?_; intro ρ
    refine xq_ (blk b8 76 [vi 7, vi id, vi e.who, vi line, vi e.serial, vi e.turn, vi e.value, .bool e.alone] :: blk b3 62 (e.cells u) :: L) ?_
    refine Gl ?_
    refine ZV ?_
    refine kp [6, 7, 8, 62, 63, 64, 65] ?_
    refine ZD ?_
    refine li ([⟨7, id, e.who, line, e.serial, e.turn, e.value, e.alone⟩] : List Msg) Fp rfl (Il (by unfold Msg.wf Ao; simp only; omega)) ?_; intro v64
    refine ap Fp (hb := fun w hs => by have : maxN = 16777216 := rfl; simp only [List.length_cons, List.length_nil, List.length_take, List.length_append]; omega) (k := ?_); intro v65
    refine ZG ?_
    have er : Fm e line id = [⟨7, id, e.who, line, e.serial, e.turn, e.value, e.alone⟩] := by unfold Fm; rw [if_neg ht17, if_neg ht30, if_pos ht47]
    rw [er]
    exact Bb v65 (hs := fun w hs => Ag (St.shut (hs.pick pkk)))
   ·intro ht47
    refine ZC ?_
    have er : Fm e line id = [] := by unfold Fm; rw [if_neg ht17, if_neg ht30, if_neg ht47]
    rw [er]
    exact Bb (.slice none 0 0) (hs := fun w hs => Ag (St.shut (hs.rowNil 76 Msg)))
theorem Acv : ∀ (s : _root_.Fin 16) (k : _root_.Fin 4), (s.val.testBit k.val = true → H5 (s.val : Int) (k.val : Int) = (s.val : Int) ∧ Hl (s.val : Int) (k.val : Int) = (s.val : Int) - ((2 ^ k.val : Nat) : Int)) ∧ (s.val.testBit k.val = false → H5 (s.val : Int) (k.val : Int) = (s.val : Int) + ((2 ^ k.val : Nat) : Int) ∧ Hl (s.val : Int) (k.val : Int) = (s.val : Int)) ∧ (0 ≤ H5 (s.val : Int) (k.val : Int) ∧ H5 (s.val : Int) (k.val : Int) < 16) ∧ (0 ≤ Hl (s.val : Int) (k.val : Int) ∧ Hl (s.val : Int) (k.val : Int) < 16) := by decide
theorem Cm {s k : Int} (h0 : 0 ≤ s) (h1 : s < 16) (h2 : 0 ≤ k) (h3 : k < 4) : (s.toNat.testBit k.toNat = true → H5 s k = s ∧ Hl s k = s - ((2 ^ k.toNat : Nat) : Int)) ∧ (s.toNat.testBit k.toNat = false → H5 s k = s + ((2 ^ k.toNat : Nat) : Int) ∧ Hl s k = s) ∧ (0 ≤ H5 s k ∧ H5 s k < 16) ∧ (0 ≤ Hl s k ∧ Hl s k < 16) := by
 obtain ⟨a, rfl⟩ := Int.eq_ofNat_of_zero_le h0
 obtain ⟨b, rfl⟩ := Int.eq_ofNat_of_zero_le h2
 exact Acv ⟨a, by omega⟩ ⟨b, by omega⟩
theorem D1 (e : Entry) : (Bd e).last = e.last := by
 unfold Bd; split
 ·rfl
 ·split <;> rfl
theorem C8 {e : Entry} (h : EB e) : EB (Bd e) := by
 obtain ⟨h1, h2, h3, h4, h5, h6⟩ := h
 obtain ⟨_, _, _, r⟩ := Cm h2.1 h2.2 h4.1 h4.2
 unfold Entry.wf Ao at h1
 unfold Bd EB Entry.wf Ao
 split
 ·simp only; omega
 split
 ·simp only; omega
 ·simp only; omega
theorem Wf {l : List Entry} {i : Int} (h : i.toNat < l.length) : l.set i.toNat (Ad l i) = l := by
 have : Ad l i = l[i.toNat] := by unfold Ad; simp [List.getD_eq_getElem?_getD, h]
 rw [this, List.set_getElem_self]
theorem D4 {L L' : List Chunk} {R : List Fact} {T : TypeId} {v : Value} {xs : List Int} {i : Nat} (hp : Pick L (row T v xs) L') (hi : i < xs.length) : Cx L R (ep v 1 i 0) [vi (xs.getD i 0)] := Yz hp (getD_some 0 hi)
theorem E1 {l : List Entry} {id : Int} {m : Msg} {X : Entry} {ms : List Msg} (h0 : ¬ (m.line < 0 ∨ (l.length : Int) ≤ m.line ∨ m.src < 0 ∨ ((Ad l m.line).last.length : Int) ≤ m.src)) (h : Ah (Ad l m.line) id m = (X, ms)) : Ak l id m = (l.set m.line.toNat X, ms) := by
 unfold Ak; rw [if_neg h0, h]
theorem C3 {l : List Entry} {id : Int} {m : Msg} (h0 : ¬ (m.line < 0 ∨ (l.length : Int) ≤ m.line ∨ m.src < 0 ∨ ((Ad l m.line).last.length : Int) ≤ m.src)) (h : Ah (Ad l m.line) id m = (Ad l m.line, [])) : Ak l id m = (l, []) := by
 rw [E1 h0 h, Wf (by omega)]
theorem Ey {P : Program} {n : Nat} {Q : Exit → Act → World → Prop} {L : List Chunk} {R : List Fact} {al : List (Nat × Value)} {c : Code} {v : Value} {l : List Entry} (i : Int) (hm : sl v l ∈ R) (h0 : 0 ≤ i) (hi : i < l.length) (k : (Ad l i).wf → ∀ u, JC P n c Q L (cF v 10 i.toNat (Entry.cells u (Ad l i)) :: sl u (Ad l i).last :: R) al) : JC P n c Q L R al := JC.open1 i.toNat hm (by omega) k
theorem Acw {s k : Int} (h0 : 0 ≤ s) (h1 : s < 16) (h2 : 0 ≤ k) (h3 : k < 4) (ht : s.toNat.testBit k.toNat = false) : 0 ≤ s + ((2 ^ k.toNat : Nat) : Int) ∧ s + ((2 ^ k.toNat : Nat) : Int) < 16 := by
 obtain ⟨_, b, c, _⟩ := Cm h0 h1 h2 h3
 rw [← (b ht).1]; exact c
theorem Po {s k : Int} (h0 : 0 ≤ s) (h1 : s < 16) (h2 : 0 ≤ k) (h3 : k < 4) (ht : s.toNat.testBit k.toNat = true) : 0 ≤ s - ((2 ^ k.toNat : Nat) : Int) ∧ s - ((2 ^ k.toNat : Nat) : Int) < 16 := by
 obtain ⟨b, _, _, c⟩ := Cm h0 h1 h2 h3
 rw [← (b ht).2]; exact c
theorem E0 {v : Value} {xs : List Int} (hm : sl v xs ∈ R) (hs : St L R w) : ∀ x ∈ xs, Ao x := by
 intro x hx
 obtain ⟨i, hi, rfl⟩ := List.getElem_of_mem hx
 obtain ⟨cs, m, hr⟩ := sl_rd hm (List.getElem?_eq_getElem hi) hs
 exact hr.2
def dX (m : List Int) (o : Op) : List Int := m.set o.line.toNat (Ax (m.getD o.line.toNat 0) o).1
def X1 (m : List Int) (o : Op) (k : Nat) : List Int := (dX m o).take k
def Nr (m : List Int) (o : Op) (k : Nat) : Int := if o.line.toNat < k then (Ax (m.getD o.line.toNat 0) o).2 else 0
theorem Kj (m : List Int) (o : Op) (k : Nat) : (X1 m o k).length ≤ k := by unfold X1; rw [List.length_take]; omega
theorem Ain {m : List Int} {o : Op} {k : Nat} (h : k < m.length) (h0 : 0 ≤ o.line) (hn : ¬ (k : Int) = o.line) : X1 m o (k + 1) = X1 m o k ++ [m.getD k 0] ∧ Nr m o (k + 1) = Nr m o k := by
 have hk : o.line.toNat ≠ k := by omega
 constructor
 ·unfold X1 dX
  rw [Es 0 (by rw [List.length_set]; exact h)]
  simp [List.getD_eq_getElem?_getD, List.getElem?_set_ne hk]
 ·unfold Nr
  by_cases h1 : o.line.toNat < k
  ·rw [if_pos h1, if_pos (by omega)]
  ·rw [if_neg h1, if_neg (by omega)]
theorem Pf {m : List Int} {o : Op} {k : Nat} (h : k < m.length) (h0 : 0 ≤ o.line) (hn : (k : Int) = o.line) : X1 m o (k + 1) = X1 m o k ++ [(Ax (m.getD k 0) o).1] ∧ Nr m o (k + 1) = (Ax (m.getD k 0) o).2 ∧ Nr m o k = 0 := by
 have hk : o.line.toNat = k := by omega
 refine ⟨?_, ?_, ?_⟩
 ·unfold X1 dX
  rw [Es 0 (by rw [List.length_set]; exact h)]
  subst hk
  simp [List.getD_eq_getElem?_getD, h]
 ·unfold Nr; rw [hk, if_pos (by omega)]
 ·unfold Nr; rw [hk, if_neg (by omega)]
theorem opv1 {v : Int} {o : Op} (h : o.kind = 1) : Ax v o = (v, v) := by unfold Ax; rw [if_pos h]
theorem opv2 {v : Int} {o : Op} (h : o.kind = 2) : Ax v o = (o.value, 0) := by unfold Ax; rw [if_neg (by omega), if_pos h]
theorem opv3 {v : Int} {o : Op} (h : o.kind = 3) : Ax v o = ((v + o.value) % 256, v) := by unfold Ax; rw [if_neg (by omega), if_neg (by omega), if_pos h]
theorem opv4 {v : Int} {o : Op} (h : o.kind = 4) : Ax v o = (v, 0) := by unfold Ax; rw [if_neg (by omega), if_neg (by omega), if_neg (by omega)]
theorem Wl {R : List Fact} {c : Int} (h : Ao c) : ∀ j, (∀ q ∈ R, q.p j) → RdV [c] [vi c] j := rd_0 (cs := [vi c]) (fun _ => ⟨rfl, h⟩)
theorem refDo {v0 : Value} {m : List Int} {o : Op} (hs : St (L) R w) (h0 : sl v0 m ∈ R) : Calls Tryz.prog 83 [v0, .agg o.cells.toArray].toArray w (Bs (fun v : Value => .tuple #[v, vi (C7 m o).2.1, vi (C7 m o).2.2]) (fun v => L) (fun v => sl v (C7 m o).1 :: R)) := by
 have hlen := Be h0 hs
 refine Ai Tryz.func83 rfl Tryz.ntmps83 rfl hs ?_
 clear hs
 refine Zap ?_;intro b3
 refine Ga3 ?_
 rcases (show (o.kind < 1) ∨ (¬ o.kind < 1 ∧ 4 < o.kind) ∨ (1 ≤ o.kind ∧ o.kind ≤ 4) from by omega) with hc | hc | hc
 ·refine ZY ?_
  refine Gd5 ?_
  exact Zg3
 ·refine ZaX ?_
  refine Gd1 ?_
  exact Zg3
 ·refine Zax ?_
  refine Gc1 ?_
  rcases (show (o.line < 0) ∨ (0 ≤ o.line ∧ (m.length : Int) ≤ o.line) ∨ (0 ≤ o.line ∧ o.line < (m.length : Int) ∧ o.value < 0) ∨ (0 ≤ o.line ∧ o.line < (m.length : Int) ∧ 255 < o.value) ∨ (0 ≤ o.line ∧ o.line < (m.length : Int) ∧ 0 ≤ o.value ∧ o.value ≤ 255) from by omega) with hc | hc | hc | hc | hc
  ·refine ZY ?_
   refine Gc17 ?_
   exact ZfL
  ·refine Zae ?_
   refine ZR ?_
   refine G8 ?_
   refine Gc11 ?_
   exact ZfL
  ·refine Zb7 ?_
   refine Za9 ?_
   refine Gc6 ?_
   exact ZfL
  ·refine Zb7 ?_
   refine ZaJ ?_
   refine Gc1 ?_
   exact ZfL
  ·refine Zb7 ?_
   refine Za0 ?_
   refine Gc1 ?_
   refine kp [0, 3, 4, 5, 6, 7] ?_
   refine Aa ?_
   refine Gb1 ?_
   refine ZaG ?_
   refine JC.rowNil 3 Int ?_
   refine A7 (γ := Nat × Value × Int) (fun g => g.1 ≤ m.length ∧ g.2.2 = Nr m o g.1) (fun g => row 3 g.2.1 (X1 m o g.1) :: blk b3 36 o.cells :: L) (fun _ => R) (fun g => [(3, bp b3 0), (7, g.2.1), (8, vi g.2.2), (39, v0), (40, vi (m.length : Int)), (41, vi (g.1 : Int))]) (fun g => m.length - g.1) (0, .slice none 0 0, 0) ⟨Nat.zero_le _, by unfold Nr; rw [if_neg (by omega)]⟩ alT (fun w hs => Ag hs) ?_
   rintro ⟨k, vs, told⟩ ⟨hk, ht⟩
   try simp only at hk ht ⊢
   refine ZA ?_
   refine cdy ?_ ?_
   ·intro ht42
    refine Gl ?_
    refine JC.open0 (xs := m) (v := v0) k mm (by omega) (fun hw => ?_)
    have hw9 : Ao (m.getD k 0) := hw
    refine Aa ?_
    refine Gb5 ?_
    refine Ga4 ?_
    refine cdy ?_ ?_
    ·intro ht49
     refine Gl ?_
     rcases (show (o.kind = 1) ∨ (o.kind = 2) ∨ (o.kind = 3) ∨ (o.kind = 4) from by omega) with hc | hc | hc | hc
     ·refine Aa ?_
      first | refine ob (Y5 Hw) ?_ | refine ob (Y4 Hw) ?_
      refine rn1 ?_
      refine Cf ?_
      refine Gd5 ?_
      refine Gb2 ?_
      refine rn2 ?_
      refine Aw ?_
      refine Gmc ?_
      refine ZdY ?_
      refine li ([m.getD k 0] : List Int) Ea rfl (Wl (by unfold Ao at hw9 ⊢; omega)) ?_; intro v76
      refine ap Ea (hb := fun w hs => by have : maxN = 16777216 := rfl; have h9 := Kj m o k; simp only [List.length_cons, List.length_nil]; omega) (k := ?_); intro v77
      refine ZG ?_
      obtain ⟨e1, e2, e3⟩ := Pf (m := m) (o := o) (k := k) (by omega) (by omega) ht49
      rw [opv1 hc] at e1 e2
      refine Ze6 ?_;intro w hs
      try simp only
      rw [e1]
      exact Ag hs
     ·refine Aa ?_
      first | refine ob (Y5 Hw) ?_ | refine ob (Y4 Hw) ?_
      refine rn1 ?_
      refine Aw ?_
      refine ZP ?_
      refine ZF ?_
      refine rn2 ?_
      refine Cf ?_
      refine Gmc ?_
      refine Gb3 ?_
      refine ZdY ?_
      refine li ([o.value] : List Int) Ea rfl (Wl (by unfold Ao at hw9 ⊢; omega)) ?_; intro v76
      refine ap Ea (hb := fun w hs => by have : maxN = 16777216 := rfl; have h9 := Kj m o k; simp only [List.length_cons, List.length_nil]; omega) (k := ?_); intro v77
      refine ZG ?_
      obtain ⟨e1, e2, e3⟩ := Pf (m := m) (o := o) (k := k) (by omega) (by omega) ht49
      rw [opv2 hc] at e1 e2
      refine Ze3 ?_;intro w hs
      try simp only
      rw [e1]
      exact Ag hs
     ·refine Aa ?_
      first | refine ob (Y5 Hw) ?_ | refine ob (Y4 Hw) ?_
      refine rn1 ?_
      refine Aw ?_
      refine ZP ?_
      refine Cf ?_
      refine Gd1 ?_
      refine Gb2 ?_
      refine rn2 ?_
      refine Aw ?_
      refine Gmc ?_
      refine rn2 ?_
      refine Cf ?_
      refine Glc ?_
      refine kp [3, 4, 5, 6, 7, 8, 9, 10, 39, 40, 41, 42, 43, 44, 45, 46, 47, 48, 49, 50, 51, 52, 53, 54, 55, 56, 57, 58, 59, 60, 61, 62, 63, 64, 65, 66, 67, 68, 69, 70, 71, 72, 73] ?_
      refine ZL ?_
      refine ob (E6 (a := m.getD k 0) (b := o.value) Ael) ?_
      refine ob (E6 (b := 256) (Acz (by decide) (Oi _ (by decide) (by decide)).1 (Oi _ (by decide) (by decide)).2)) ?_
      refine ob (E6 (a := (IntKind.i64.wrap (m.getD k 0 + o.value)).tmod 256) (b := 256) (Ll (by have := Lo (IntKind.i64.wrap (m.getD k 0 + o.value)) (show (0 : Int) < 256 by decide); omega) (by have := Lo (IntKind.i64.wrap (m.getD k 0 + o.value)) (show (0 : Int) < 256 by decide); omega))) ?_
      refine ob (E6 (b := 256) (Acz (by decide) (Oi _ (by decide) (by decide)).1 (Oi _ (by decide) (by decide)).2)) ?_
      rw [Zg, Nt]
      refine Gb1 ?_
      refine rn2 ?_
      refine li ([(m.getD k 0 + o.value) % 256] : List Int) Ea rfl (Wl (by unfold Ao at hw9 ⊢; omega)) ?_; intro v76
      refine ap Ea (hb := fun w hs => by have : maxN = 16777216 := rfl; have h9 := Kj m o k; simp only [List.length_cons, List.length_nil]; omega) (k := ?_); intro v77
      refine ZG ?_
      obtain ⟨e1, e2, e3⟩ := Pf (m := m) (o := o) (k := k) (by omega) (by omega) ht49
      rw [opv3 hc] at e1 e2
      refine Ze6 ?_;intro w hs
      try simp only
      rw [e1]
      exact Ag hs
     ·refine Aa ?_
      first | refine ob (Y5 Hw) ?_ | refine ob (Y4 Hw) ?_
      refine rn1 ?_
      refine Aw ?_
      refine ZP ?_
      refine ZF ?_
      refine rn2 ?_
      refine Aw ?_
      refine Gmc ?_
      refine rn2 ?_
      refine Aw ?_
      refine Gmc ?_
      refine rn2 ?_
      refine li ([m.getD k 0] : List Int) Ea rfl (Wl (by unfold Ao at hw9 ⊢; omega)) ?_; intro v76
      refine ap Ea (hb := fun w hs => by have : maxN = 16777216 := rfl; have h9 := Kj m o k; simp only [List.length_cons, List.length_nil]; omega) (k := ?_); intro v77
      refine Ga1 ?_
      refine kp [3, 4, 5, 6, 7, 8, 9, 10, 39, 40, 41, 42, 43, 44, 45, 46, 47, 48, 49, 50, 51, 52, 53, 54, 55, 56, 57, 58, 59, 60, 61, 62, 63, 64, 65, 66, 67, 68, 69, 70, 71, 72, 73, 74, 75, 76, 77, 78] ?_
      refine ZO ?_
      obtain ⟨e1, e2, e3⟩ := Pf (m := m) (o := o) (k := k) (by omega) (by omega) ht49
      rw [opv4 hc] at e1 e2
      refine Ze3 ?_;intro w hs
      try simp only
      rw [e1]
      exact Ag hs
    ·intro ht49
     refine ZJ ?_
     refine li ([m.getD k 0] : List Int) Ea rfl (Wl (by unfold Ao at hw9 ⊢; omega)) ?_; intro v76
     refine ap Ea (hb := fun w hs => by have : maxN = 16777216 := rfl; have h9 := Kj m o k; simp only [List.length_cons, List.length_nil]; omega) (k := ?_); intro v77
     refine ZG ?_
     obtain ⟨e1, e2⟩ := Ain (m := m) (o := o) (k := k) (by omega) (by omega) ht49
     refine Au (k + 1, v77, told) ⟨by show k + 1 ≤ m.length; omega, by show told = _; rw [e2]; exact ht⟩ (by show m.length - (k + 1) < m.length - k; omega) alT (fun w hs => ?_)
     try simp only
     rw [e1]; exact Ag hs
   ·intro ht42
    refine Zau ?_
    have hkl : k = m.length := by omega
    have er : C7 m o = (dX m o, (Ax (m.getD o.line.toNat 0) o).2, 0) := by unfold C7; rw [if_neg (by omega), if_neg (by omega)]; rfl
    rw [er]
    have e1 : X1 m o k = dX m o := by unfold X1; rw [List.take_of_length_le (by unfold dX; rw [List.length_set]; omega)]
    have e2 : told = (Ax (m.getD o.line.toNat 0) o).2 := by rw [ht]; unfold Nr; rw [if_pos (by omega)]
    rw [e1]
    rw [e2]
    exact Ga vs (hs := fun w hs => Ag (St.shut (hs.pick pkk)))
def Jo (v : Int) (o : Op) : List Int := (List.replicate (o.line + 1).toNat 0).set o.line.toNat v
theorem L8 {v : Int} {o : Op} (h : 0 ≤ o.line) : (Jo v o).length = o.line.toNat + 1 := by unfold Jo; rw [List.length_set, List.length_replicate]; omega
theorem Lp {v : Int} {o : Op} (h : 0 ≤ o.line) : (Jo v o).getD o.line.toNat 0 = v := by
 unfold Jo
 rw [List.getD_eq_getElem?_getD, List.getElem?_set_self (by rw [List.length_replicate]; omega)]; rfl
theorem Adl {v : Int} {o : Op} (hk : 1 ≤ o.kind ∧ o.kind ≤ 4) (h : 0 ≤ o.line) (h2 : 0 ≤ o.value ∧ o.value ≤ 255) : C7 (Jo v o) o = (dX (Jo v o) o, (Ax v o).2, 0) := by
 have hl := L8 (v := v) h
 unfold C7; rw [if_neg (by omega), if_neg (by omega), Lp h]; unfold dX; rw [Lp h]
theorem dX_at {m : List Int} {o : Op} (h : o.line.toNat < m.length) : (dX m o).getD o.line.toNat 0 = (Ax (m.getD o.line.toNat 0) o).1 := by
 unfold dX; rw [List.getD_eq_getElem?_getD, List.getElem?_set_self h]; rfl
theorem Fy {v : Int} {o : Op} (h0 : 0 ≤ v ∧ v ≤ 255) (h2 : 0 ≤ o.value ∧ o.value ≤ 255) : (0 ≤ (Ax v o).1 ∧ (Ax v o).1 ≤ 255) ∧ (0 ≤ (Ax v o).2 ∧ (Ax v o).2 ≤ 255) := by
 unfold Ax; split
 ·exact ⟨h0, h0⟩
 split
 ·exact ⟨h2, by simp only; omega⟩
 split
 ·simp only; omega
 ·exact ⟨h0, by simp only; omega⟩
theorem Mk {v : Int} {o : Op} (hs : St (L) R w) (hv : Ao v) (hk : 1 ≤ o.kind ∧ o.kind ≤ 4) (hl : 0 ≤ o.line ∧ o.line < 1000) (hval : 0 ≤ o.value ∧ o.value ≤ 255) : Calls Tryz.prog 53 [vi v, .agg o.cells.toArray].toArray w (Bs (fun _ : Unit => .tuple #[vi (Ax v o).1, vi (Ax v o).2]) (fun _ => L) (fun _ => R)) := by
 refine Ai Tryz.func53 rfl Tryz.ntmps53 rfl hs ?_
 clear hs
 refine Zap ?_;intro b3
 refine Gb2 ?_
 refine rn3 ?_
 refine Th (α := Int) (x0 := 0) (zc := [vi 0]) Ea rfl (by decide) rfl rfl rfl (fun j => ⟨rfl, by unfold Ao; omega⟩) (by omega) (by omega) ?_; intro v13
 refine Gb1 ?_
 refine rn4 ?_
 refine ob (Im Wc (h1 := by rw [List.length_replicate]; omega)) ?_
 refine Et (xs := List.replicate (o.line + 1).toNat 0) Tryz.sizeOf3 rfl rfl pkk (getD_some 0 (by rw [List.length_replicate]; omega)) hv ?_
 refine Gl ?_
 refine JC.shut (xs := Jo v o) (v := v13) pkk ?_
 have hml := L8 (v := v) hl.1
 refine ZD ?_
 refine An Tryz.call83 rfl (fun w hs => by have h := refDo (o := o) hs (List.Mem.head _); rw [Adl hk hl.1 hval] at h; exact h) ?_; intro v22
 refine Ga7 ?_
 refine JC.open0 (xs := dX (Jo v o) o) (v := v22) o.line.toNat mm (by unfold dX; rw [List.length_set, hml]; omega) (fun hw => ?_)
 refine ZL ?_
 refine ob (Im Wc (len := (dX (Jo v o) o).length) (hl := El (.tail _ (.head _))) (h1 := by unfold dX; rw [List.length_set, hml]; omega)) ?_
 refine Ga4 ?_
 have e9 : (dX (Jo v o) o).getD o.line.toNat 0 = (Ax v o).1 := by rw [dX_at (by rw [hml]; omega), Lp hl.1]
 refine Ce () (hv := ?_)
 exact congrArg (fun z => Value.tuple #[vi z, vi (Ax v o).2]) e9
end Go.Proofs.YtbigiimomnfpdaaGreat
namespace Go.Proofs.YtbigiimomnfpdaaGreat
namespace Abs
structure Ab where
 value : Int
 owner : Int
 phase : Int
 who : Int
 serial : Int
 alone : Int
 turn : Int
 last : Nat → Int
 sh : Nat → Int
 nd : Nat → Int
structure GI (n : Nat) (e : Ab) : Prop where
 own : -1 ≤ e.owner ∧ e.owner < n
 ph : 0 ≤ e.phase ∧ e.phase ≤ 3
 idle : e.phase = 0 → e.who = 0 ∧ e.serial = 0 ∧ e.alone = 0
 whor : e.phase ≠ 0 → 0 ≤ e.who ∧ e.who < n
 f1 : e.phase = 1 → 0 ≤ e.owner ∧ e.owner ≠ e.who
 f23 : 2 ≤ e.phase → e.owner = -1
 c2 : e.phase = 2 → e.alone = 1 ∧ ∃ p : Nat, p < n ∧ e.nd p = 1
 al : 0 ≤ e.alone ∧ e.alone ≤ 1
 tu : 0 ≤ e.turn ∧ e.turn ≤ 65535
 va : 0 ≤ e.value ∧ e.value ≤ 255
 se : 0 ≤ e.serial ∧ e.serial ≤ 65535
structure CI (e : Ab) (p : Nat) (l : Line) (V : Int) : Prop where
 st : 0 ≤ l.state ∧ l.state ≤ 3
 va : 0 ≤ l.value ∧ l.value ≤ 255
 wa : 0 ≤ l.want ∧ l.want ≤ 3
 se : 0 ≤ l.serial ∧ l.serial ≤ 65535
 ga : 0 ≤ l.gave ∧ l.gave ≤ l.seen ∧ l.seen ≤ e.turn
 gi : 0 ≤ l.given ∧ l.given ≤ 255
 la : 0 ≤ e.last p ∧ e.last p ≤ l.serial
 bits : 0 ≤ e.sh p ∧ e.sh p ≤ 1 ∧ 0 ≤ e.nd p ∧ e.nd p ≤ 1
 leav : l.state = 3 ↔ l.want = 3
 w1 : l.want = 1 → l.state = 0
 w2 : l.want = 2 → l.state ≤ 1
 taken : l.want = 1 ∨ l.want = 2 → e.last p = l.serial → e.phase ≠ 0 ∧ e.who = p
 back : l.want = 3 → e.last p = l.serial → e.owner ≠ p
 cur : e.phase ≠ 0 → e.who = p → e.serial = e.last p ∧
  ((l.serial = e.serial ∧ l.want = 1 + e.alone ∧ l.seen < e.turn) ∨
   ((l.serial ≠ e.serial ∨ l.want = 0) ∧ e.phase = 3 ∧ l.seen = e.turn ∧ (e.alone = 1 → 2 ≤ l.state) ∧ (e.alone = 0 → l.state ≤ 1)))
 own : e.owner = p → (2 ≤ l.state ∧ (e.phase = 1 → l.seen < e.turn)) ∨ (l.state < 2 ∧ e.phase = 1 ∧ l.gave = e.turn ∧ l.given = V ∧ (e.alone = 1 → l.state = 0))
 alo : l.state = 2 ∨ (l.state = 3 ∧ e.last p < l.serial) → (e.owner = p ∨ (e.phase = 3 ∧ e.who = p ∧ e.alone = 1)) ∧ l.value = V
 cop : l.state = 1 → (e.sh p = 1 ∨ e.owner = p ∨ (e.phase = 3 ∧ e.who = p ∧ l.seen = e.turn)) ∧ l.value = V
 shs : e.sh p = 1 → (l.state ≤ 1 ∨ (e.phase = 3 ∧ e.who = p ∧ e.alone = 1)) ∧ e.owner = -1
 ned : e.nd p = 1 → e.phase = 2 ∧ e.who ≠ p ∧ (l.seen = e.turn → l.state = 0)
 cle : e.phase = 2 → e.who ≠ p → e.nd p = e.sh p
 gra : e.phase = 3 → e.alone = 1 → e.who ≠ p → e.sh p = 0
 val : e.owner = -1 → (e.phase = 3 → e.alone = 1 → e.who = p ∧ l.seen < e.turn) → e.value = V
structure MI (e : Ab) (p : Nat) (l : Line) (m : Msg) : Prop where
 get : m.kind = 1 ∨ m.kind = 2 → m.serial ≤ l.serial ∧ (e.last p < m.serial → m.serial = l.serial ∧ l.want = m.kind)
 put : m.kind = 3 → m.serial ≤ l.serial ∧ (e.last p < m.serial → (m.serial = l.serial ∧ l.want = 3 ∧ m.value = l.value) ∨
  ((m.serial < l.serial ∨ l.want = 0) ∧ (e.owner ≠ p ∨ (e.phase = 1 ∧ l.gave = e.turn)) ∧ (e.phase = 0 ∨ e.who ≠ p)))
 inv : m.kind = 4 → m.turn ≤ e.turn ∧ (l.seen < m.turn → m.turn = e.turn ∧ e.phase = 2 ∧ e.nd p = 1)
 fet : m.kind = 5 ∨ m.kind = 6 → m.turn ≤ e.turn ∧ (l.seen < m.turn → m.turn = e.turn ∧ e.phase = 1 ∧ e.owner = p ∧ m.kind = 5 + e.alone)
 gra : m.kind = 7 → m.serial ≤ e.last p ∧ (m.serial = l.serial → l.want ≠ 0 → e.phase = 3 ∧ e.who = p ∧ m.turn = e.turn ∧ (m.alone = true ↔ e.alone = 1) ∧ m.value = e.value) ∧
  ((m.serial ≠ l.serial ∨ l.want = 0) → m.turn ≤ l.seen)
 gon : m.kind = 8 → m.turn ≤ l.seen
 dat : m.kind = 9 → m.turn ≤ l.seen ∧ (m.turn = e.turn → e.phase = 1 → e.owner = p → l.gave = e.turn ∧ m.value = l.given)
 tha : m.kind = 10 → m.turn ≤ l.seen
 tak : m.kind = 11 → m.serial ≤ e.last p
def upd {α : Type} (f : Nat → α) (p : Nat) (x : α) : Nat → α := fun q => if q = p then x else f q
end Abs
end Go.Proofs.YtbigiimomnfpdaaGreat
namespace Go.Proofs.YtbigiimomnfpdaaGreat
namespace Abs
set_option maxHeartbeats 2000000
section core
variable {n : Nat} {e : Ab} {p : Nat} {l : Line} {V : Int}
theorem Acr (hG : GI n e) (h : CI e p l V) (hw : l.want = 0) (hs : l.state ≠ 2) : CI e p { l with state := 0, value := 0 } V ∧ ∀ m, MI e p l m → MI e p { l with state := 0, value := 0 } m := by
 exact Zfc
theorem c_put (hG : GI n e) (h : CI e p l V) (hw : l.want = 0) (hs : l.state = 2) (hn : l.serial < 65535) : CI e p { l with state := 3, want := 3, serial := l.serial + 1 } V ∧ ∀ m, MI e p l m → MI e p { l with state := 3, want := 3, serial := l.serial + 1 } m := by
 exact Zfc
theorem c_ask {k : Int} (hG : GI n e) (h : CI e p l V) (hw : l.want = 0) (hk : k = 1 ∧ l.state = 0 ∨ k = 2 ∧ l.state ≤ 1) (hn : l.serial < 65535) : CI e p { l with want := k, serial := l.serial + 1 } V ∧ ∀ m, MI e p l m → MI e p { l with want := k, serial := l.serial + 1 } m := by
 rcases hk with ⟨rfl, hk⟩ | ⟨rfl, hk⟩ <;> refine ⟨?_, fun m hm => ?_⟩
 ·exact ZeX
 ·exact Zfe
 ·exact ZeX
 ·exact Zfe
theorem Aiw {v : Int} (hG : GI n e) (h : CI e p l V) (hs : l.state = 2) (hv : 0 ≤ v ∧ v ≤ 255) : CI e p { l with value := v } v ∧ ∀ m, MI e p l m → MI e p { l with value := v } m := by
 exact Zfc
theorem Acq {q : Nat} {k : Line} {v : Int} (hG : GI n e) (h : CI e p l V) (hs : 2 ≤ l.state) (hl : l.state = 3 → e.last p < l.serial) (hq : q ≠ p) (hk : CI e q k V) : CI e q k v := by
 have ho : (e.owner = p ∨ (e.phase = 3 ∧ e.who = p ∧ e.alone = 1)) ∧ l.value = V := h.alo (by have := h.st; omega)
 have h1 := hk.own; have h2 := hk.alo; have h3 := hk.cop; have h4 := hk.val
 have h5 := h.own; have h6 := h.cur; have g1 := hG.f23; have g2 := hk.shs; have g3 := hk.gra; have g4 := hk.bits
 have g5 := hk.ga
 refine ⟨hk.st, hk.va, hk.wa, hk.se, hk.ga, hk.gi, hk.la, hk.bits, hk.leav, hk.w1, hk.w2, hk.taken, hk.back, hk.cur, ?_, ?_, ?_, hk.shs, hk.ned, hk.cle, hk.gra, ?_⟩
 ·clear h2 h3 h4; grind
 ·clear h1 h3 h4; grind
 ·clear h1 h2 h4; grind
 ·clear h1 h2 h3; grind
theorem c_inv {m : Msg} (hG : GI n e) (h : CI e p l V) (hm : MI e p l m) (hk : m.kind = 4) : CI e p (Db l m.turn) V ∧ ∀ m', MI e p l m' → MI e p (Db l m.turn) m' := by
 unfold Db
 have := hm.inv hk
 split
 ·split
  ·exact Zfb
  ·exact Zfb
 ·exact ⟨h, fun _ h => h⟩
theorem Aiz {m : Msg} (hG : GI n e) (h : CI e p l V) (hm : MI e p l m) (hk : m.kind = 5 ∨ m.kind = 6) (hf : D2 l m.turn) :
  CI e p (Cw l m.kind m.turn) V ∧ (∀ m', MI e p l m' → MI e p (Cw l m.kind m.turn) m') ∧ l.value = V ∧ ∀ m' : Msg, m'.kind = 9 → m'.turn = m.turn → m'.value = l.value → MI e p (Cw l m.kind m.turn) m' := by
 obtain ⟨hf1, hf2, hf3⟩ := hf
 obtain ⟨g0, g1, g2, g3⟩ := (hm.fet hk).2 hf2
 have hown := hG.f1 g1
 have how : e.who ≠ p := by rw [← g2]; exact fun h => hown.2 h.symm
 have hse := h.ga
 have hl0 : l.want = 3 → e.last p < l.serial := by intro hw; have := h.back hw; have := h.la; grind
 have hv : l.value = V := (h.alo (by have := h.leav; have := h.st; grind)).2
 have h2 := h.own g2
 have hwant : l.want = 0 ∨ l.want = 3 := by have := h.wa; have := h.w1; have := h.w2; grind
 have hsh : e.sh p = 0 := by have := h.shs; have := h.bits; grind
 have hnd : e.nd p = 0 := by have := h.ned; have := h.bits; grind
 have hal := hG.al
 have hmt : m.turn = e.turn := g0
 rw [hmt]
 unfold Cw
 have key : ∀ (st va wa : Int), (st = 0 ∨ st = 1 ∧ e.alone = 0) → wa = 0 → 0 ≤ va ∧ va ≤ 255 → (st = 1 → va = l.value) →
   CI e p ⟨st, va, wa, l.serial, e.turn, e.turn, l.value⟩ V ∧ (∀ m', MI e p l m' → MI e p ⟨st, va, wa, l.serial, e.turn, e.turn, l.value⟩ m') ∧ ∀ m' : Msg, m'.kind = 9 → m'.turn = e.turn → m'.value = l.value → MI e p ⟨st, va, wa, l.serial, e.turn, e.turn, l.value⟩ m' := by
  intro st va wa h1 h2 h3 h4
  refine ⟨?_, fun m' hm' => ?_, fun m' k1 k2 k3 => ?_⟩
  ·have k1 := h.se; have k2 := h.la; have k3 := h.va; have k4 := hG.tu; have k5 := h.bits
   constructor <;> (try simp only) <;> grind
  ·have k1 := hm'.get; have k2 := hm'.put; have k3 := hm'.inv; have k4 := hm'.fet; have k5 := hm'.gra; have k6 := hm'.gon; have k7 := hm'.dat; have k8 := hm'.tha; have k9 := hm'.tak
   constructor <;> (try simp only)
   ·clear k2 k3 k4 k5 k6 k7 k8 k9; grind
   ·clear k1 k3 k4 k5 k6 k7 k8 k9; grind
   ·clear k1 k2 k4 k5 k6 k7 k8 k9; grind
   ·clear k1 k2 k3 k5 k6 k7 k8 k9; grind
   ·clear k1 k2 k3 k4 k6 k7 k8 k9; grind
   ·clear k1 k2 k3 k4 k5 k7 k8 k9; grind
   ·clear k1 k2 k3 k4 k5 k6 k8 k9; grind
   ·clear k1 k2 k3 k4 k5 k6 k7 k9; grind
   ·clear k1 k2 k3 k4 k5 k6 k7 k8; grind
  ·constructor <;> (try simp only) <;> grind
 split
 ·obtain ⟨c1, c2, c3⟩ := key 0 0 0 (.inl rfl) rfl (by omega) (by omega)
  exact ⟨c1, c2, hv, c3⟩
 ·rename_i hw
  have hw0 : l.want = 0 := by omega
  split
  ·obtain ⟨c1, c2, c3⟩ := key 0 0 l.want (.inl rfl) hw0 (by omega) (by omega)
   exact ⟨c1, c2, hv, c3⟩
  ·obtain ⟨c1, c2, c3⟩ := key 1 l.value l.want (.inr ⟨rfl, by omega⟩) hw0 h.va (fun _ => rfl)
   exact ⟨c1, c2, hv, c3⟩
theorem Aix {m : Msg} (hG : GI n e) (h : CI e p l V) (hm : MI e p l m) (hk : m.kind = 11) (hw : l.want = 3) (hs : m.serial = l.serial) :
  CI e p { l with state := 0, value := 0, want := 0 } V ∧ ∀ m', MI e p l m' → MI e p { l with state := 0, value := 0, want := 0 } m' := by
 have h1 := hm.tak hk
 exact Zfb
theorem Aiy {m : Msg} {v : Int} (hG : GI n e) (h : CI e p l V) (hm : MI e p l m) (hk : m.kind = 7) (ha : Gg l m) (hv : 0 ≤ v ∧ v ≤ 255) (hsame : m.alone = false → v = m.value) :
    CI e p { l with state := if m.alone then 2 else 1, value := v, want := 0, seen := m.turn } v ∧ (∀ m', MI e p l m' → MI e p { l with state := if m.alone then 2 else 1, value := v, want := 0, seen := m.turn } m') ∧
    m.value = V ∧ (∀ (q : Nat) (k : Line), q ≠ p → CI e q k V → CI e q k v) ∧ ∀ m' : Msg, m'.kind = 10 → m'.turn = m.turn → MI e p { l with state := if m.alone then 2 else 1, value := v, want := 0, seen := m.turn } m' := by
 obtain ⟨ha1, ha2⟩ := ha
 have hne : l.want ≠ 0 := by omega
 obtain ⟨g1, g2, g3, g4, g5⟩ := (hm.gra hk).2.1 ha1 hne
 have hcur := h.cur (by omega) g2
 have hown := hG.f23 (by omega)
 have hst : l.state ≤ 1 := by have := h.w1; have := h.w2; grind
 have hse : e.last p = l.serial := by have := h.la; have := (hm.gra hk).1; omega
 have hse' : l.serial = e.serial := by have := hcur.1; omega
 have hseen : l.seen < e.turn := by have := hcur.2; grind
 have hal := hG.al
 have hV : e.value = V := h.val hown (fun _ _ => ⟨g2, hseen⟩)
 have hwa : l.want = 1 + e.alone := by have := hcur.2; grind
 have halone : m.alone = true ∧ e.alone = 1 ∨ m.alone = false ∧ e.alone = 0 := by
  cases h' : m.alone with
  | true => exact .inl ⟨rfl, g4.1 h'⟩
  | false => right; refine ⟨rfl, ?_⟩; have : ¬ e.alone = 1 := fun h1 => by have := g4.2 h1; rw [h'] at this; cases this
             omega
 have hvV : e.alone = 0 → v = V := by intro h0; rw [hsame (halone.elim (fun h' => by omega) (fun h' => h'.1)), g5, hV]
 have hnd : e.nd p = 0 := by have := h.ned; have := h.bits; grind
 have key : ∀ st : Int, st = 1 + e.alone → CI e p ⟨st, v, 0, l.serial, m.turn, l.gave, l.given⟩ v ∧ (∀ m', MI e p l m' → MI e p ⟨st, v, 0, l.serial, m.turn, l.gave, l.given⟩ m') ∧ ∀ m' : Msg, m'.kind = 10 → m'.turn = m.turn → MI e p ⟨st, v, 0, l.serial, m.turn, l.gave, l.given⟩ m' := by
  intro st h1
  refine ⟨?_, fun m' hm' => ?_, fun m' k1 k2 => ?_⟩
  ·have k1 := h.se; have k2 := h.la; have k3 := h.va; have k4 := hG.tu; have k5 := h.bits; have k6 := h.gi; have k7 := h.ga; have k8 := h.gra; have k9 := h.shs
   have k10 := hcur.1; have k11 := h.cop; have k12 := h.alo
   constructor <;> (try simp only) <;> grind
  ·have k1 := hm'.get; have k2 := hm'.put; have k3 := hm'.inv; have k4 := hm'.fet; have k5 := hm'.gra; have k6 := hm'.gon; have k7 := hm'.dat; have k8 := hm'.tha; have k9 := hm'.tak
   constructor <;> (try simp only)
   ·clear k2 k3 k4 k5 k6 k7 k8 k9; grind
   ·clear k1 k3 k4 k5 k6 k7 k8 k9; grind
   ·clear k1 k2 k4 k5 k6 k7 k8 k9; grind
   ·clear k1 k2 k3 k5 k6 k7 k8 k9; grind
   ·clear k1 k2 k3 k4 k6 k7 k8 k9; grind
   ·clear k1 k2 k3 k4 k5 k7 k8 k9; grind
   ·clear k1 k2 k3 k4 k5 k6 k8 k9; grind
   ·clear k1 k2 k3 k4 k5 k6 k7 k9; grind
   ·clear k1 k2 k3 k4 k5 k6 k7 k8; grind
  ·constructor <;> (try simp only) <;> grind
 have hst2 : (if m.alone = true then (2 : Int) else 1) = 1 + e.alone := by rcases halone with h | h <;> rw [h.1, h.2] <;> rfl
 obtain ⟨c1, c2, c3⟩ := key _ hst2
 refine ⟨c1, c2, by rw [g5, hV], fun q k hq hk' => ?_, c3⟩
 have h1 := hk'.own; have h2 := hk'.alo; have h3 := hk'.cop; have h4 := hk'.val; have h5 := hk'.gra; have h6 := hk'.bits
 refine ⟨hk'.st, hk'.va, hk'.wa, hk'.se, hk'.ga, hk'.gi, hk'.la, hk'.bits, hk'.leav, hk'.w1, hk'.w2, hk'.taken, hk'.back, hk'.cur, ?_, ?_, ?_, hk'.shs, hk'.ned, hk'.cle, hk'.gra, ?_⟩
 ·clear h2 h3 h4; grind
 ·clear h1 h3 h4; grind
 ·clear h1 h2 h4; grind
 ·clear h1 h2 h3; grind
end core
end Abs
end Go.Proofs.YtbigiimomnfpdaaGreat
