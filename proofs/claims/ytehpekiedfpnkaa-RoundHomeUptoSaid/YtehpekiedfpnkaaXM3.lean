/- This file proves parts of what its law needs: each part is told ahead of it. No conditions. -/
import Derived.Test.YtehpekiedfpnkaaXM1
import Derived.Test.YtehpekiedfpnkaaXM2
import Derived.Laws.StructEq
set_option linter.unusedVariables false
set_option linter.unusedSimpArgs false
set_option maxHeartbeats 1000000
set_option maxRecDepth 8000
namespace Go.Proofs.Ytehpekiedfpnkaa
open Go
class CFo (T f : Nat) (off : outParam Nat) : Prop where
 h : A5 Try.prog T f off
class CAg (T : Nat) : Prop where
 h : ∀ w, (isAgg T).run Try.prog w = .ok true w
class CNa (T : Nat) : Prop where
 h : ∀ w, (isAgg T).run Try.prog w = .ok false w
class CSz (T : Nat) (sz : outParam Nat) : Prop where
 h : ∀ w, (sizeOf T).run Try.prog w = .ok sz w
class CSo (T : Nat) (e sz : outParam Nat) : Prop where
 h : D2 Try.prog T e sz
class CUs (T : Nat) (e : outParam Nat) : Prop where
 h : Try.prog.underlying T = some (.slice e)
class CSt (T : Nat) (zc : outParam (List Value)) (pl : outParam (List (Nat × Nat))) : Prop where
 h : Eg Try.prog T zc pl
instance : CNa 3 := ⟨Try.isAgg3⟩
instance : CSz 3 1 := ⟨Try.sizeOf3⟩
instance : CNa 4 := ⟨Try.isAgg4⟩
instance : CSz 4 1 := ⟨Try.sizeOf4⟩
instance : CNa 5 := ⟨Try.isAgg5⟩
instance : CFo 23 0 0 := ⟨Ajf⟩
instance : CFo 23 1 1 := ⟨Aje⟩
instance : CSt 23 (Try.t23.zero.getD undef).cells.toList [(0, 1), (1, 1)] := ⟨st_23⟩
instance : CAg 23 := ⟨Try.isAgg23⟩
instance : CSz 23 2 := ⟨Try.sizeOf23⟩
instance : CSo 24 28 7 := ⟨so_24⟩
instance : CUs 24 28 := ⟨Try.underlying24⟩
instance : CFo 26 0 0 := ⟨H3⟩
instance : CFo 26 1 1 := ⟨Ajd⟩
instance : CFo 26 2 2 := ⟨Ajc⟩
instance : CSt 26 (Try.t26.zero.getD undef).cells.toList [(0, 1), (1, 1), (2, 1)] := ⟨N4⟩
instance : CAg 26 := ⟨Try.isAgg26⟩
instance : CSz 26 3 := ⟨Try.sizeOf26⟩
instance : CFo 28 0 0 := ⟨Ajb⟩
instance : CFo 28 1 1 := ⟨Aja⟩
instance : CFo 28 2 2 := ⟨Aiz⟩
instance : CFo 28 3 3 := ⟨Aiy⟩
instance : CFo 28 4 4 := ⟨Aix⟩
instance : CSt 28 (Try.t28.zero.getD undef).cells.toList [(0, 1), (1, 1), (2, 1), (3, 1), (4, 3)] := ⟨st_28⟩
instance : CAg 28 := ⟨Try.isAgg28⟩
instance : CSz 28 7 := ⟨Try.sizeOf28⟩
instance : CNa 29 := ⟨Try.isAgg29⟩
instance : CSz 29 1 := ⟨Try.sizeOf29⟩
instance : CSo 29 57 4 := ⟨Qq⟩
instance : CUs 29 57 := ⟨Try.underlying29⟩
instance : CNa 30 := ⟨Try.isAgg30⟩
instance : CSz 30 1 := ⟨Try.sizeOf30⟩
instance : CSo 30 80 10 := ⟨N5⟩
instance : CUs 30 80 := ⟨Try.underlying30⟩
instance : CNa 31 := ⟨Try.isAgg31⟩
instance : CSz 31 1 := ⟨Try.sizeOf31⟩
instance : CSo 31 52 1 := ⟨Pb⟩
instance : CUs 31 52 := ⟨Try.underlying31⟩
instance : CFo 33 0 0 := ⟨Aiw⟩
instance : CFo 33 1 1 := ⟨Aiv⟩
instance : CFo 33 2 2 := ⟨Aiu⟩
instance : CSt 33 (Try.t33.zero.getD undef).cells.toList [(0, 1), (1, 1), (2, 1)] := ⟨Jn⟩
instance : CAg 33 := ⟨Try.isAgg33⟩
instance : CSz 33 3 := ⟨Try.sizeOf33⟩
instance : CNa 34 := ⟨Try.isAgg34⟩
instance : CSo 34 66 5 := ⟨so_34⟩
instance : CUs 34 66 := ⟨Try.underlying34⟩
instance : CFo 49 0 0 := ⟨Ait⟩
instance : CFo 49 1 1 := ⟨Ais⟩
instance : CFo 49 2 2 := ⟨Air⟩
instance : CFo 49 3 3 := ⟨Aiq⟩
instance : CFo 49 4 4 := ⟨Aip⟩
instance : CFo 49 5 5 := ⟨Aio⟩
instance : CFo 49 6 6 := ⟨Ain⟩
instance : CFo 49 7 7 := ⟨Aim⟩
instance : CSt 49 (Try.t49.zero.getD undef).cells.toList [(0, 1), (1, 1), (2, 1), (3, 1), (4, 1), (5, 1), (6, 1), (7, 1)] := ⟨Ec⟩
instance : CAg 49 := ⟨Try.isAgg49⟩
instance : CSz 49 8 := ⟨Try.sizeOf49⟩
instance : CNa 52 := ⟨Try.isAgg52⟩
instance : CUs 52 5 := ⟨Try.underlying52⟩
instance : CNa 55 := ⟨Try.isAgg55⟩
instance : CSo 55 82 7 := ⟨Ml⟩
instance : CUs 55 82 := ⟨Try.underlying55⟩
instance : CFo 57 0 0 := ⟨Ail⟩
instance : CFo 57 1 1 := ⟨Aik⟩
instance : CSt 57 (Try.t57.zero.getD undef).cells.toList [(0, 1), (1, 3)] := ⟨Ht⟩
instance : CAg 57 := ⟨Try.isAgg57⟩
instance : CSz 57 4 := ⟨Try.sizeOf57⟩
instance : CFo 66 0 0 := ⟨Aij⟩
instance : CFo 66 1 1 := ⟨Aii⟩
instance : CSt 66 (Try.t66.zero.getD undef).cells.toList [(0, 1), (1, 3), (4, 1)] := ⟨Ik⟩
instance : CAg 66 := ⟨Try.isAgg66⟩
instance : CSz 66 5 := ⟨Try.sizeOf66⟩
instance : CNa 68 := ⟨Try.isAgg68⟩
instance : CSz 68 1 := ⟨Try.sizeOf68⟩
instance : CSo 68 3 1 := ⟨Xh⟩
instance : CUs 68 3 := ⟨Try.underlying68⟩
instance : CFo 80 0 0 := ⟨Aih⟩
instance : CFo 80 1 1 := ⟨Aig⟩
instance : CFo 80 2 2 := ⟨Aif⟩
instance : CFo 80 3 3 := ⟨Aie⟩
instance : CFo 80 4 4 := ⟨Aid⟩
instance : CFo 80 5 5 := ⟨Aic⟩
instance : CFo 80 6 6 := ⟨Aib⟩
instance : CFo 80 7 7 := ⟨Nk⟩
instance : CFo 80 8 8 := ⟨Aia⟩
instance : CFo 80 9 9 := ⟨Ahz⟩
instance : CAg 80 := ⟨Try.isAgg80⟩
instance : CSz 80 10 := ⟨Try.sizeOf80⟩
instance : CFo 82 0 0 := ⟨Ahy⟩
instance : CFo 82 1 1 := ⟨Ahx⟩
instance : CFo 82 2 2 := ⟨Ahw⟩
instance : CFo 82 3 3 := ⟨Ahv⟩
instance : CFo 82 4 4 := ⟨Ahu⟩
instance : CFo 82 5 5 := ⟨Aht⟩
instance : CFo 82 6 6 := ⟨Ahs⟩
instance : CAg 82 := ⟨Try.isAgg82⟩
instance : CSz 82 7 := ⟨Try.sizeOf82⟩
instance : CNa 86 := ⟨Try.isAgg86⟩
instance : CSo 86 49 8 := ⟨so_86⟩
instance : CUs 86 49 := ⟨Try.underlying86⟩
instance : CFo 120 0 0 := ⟨Adf⟩
instance : CFo 120 1 4 := ⟨Ade⟩
instance : CFo 120 2 5 := ⟨Adc⟩
instance : CFo 120 3 6 := ⟨Adb⟩
instance : CFo 120 4 7 := ⟨Ada⟩
instance : CSt 120 (Try.t120.zero.getD undef).cells.toList [(0, 4), (4, 1), (5, 1), (6, 1), (7, 1)] := ⟨st_120⟩
instance : CAg 141 := ⟨Try.isAgg141⟩
instance : CSz 141 2 := ⟨Try.sizeOf141⟩
instance : CSo 142 141 2 := ⟨so_142⟩
instance : CUs 142 141 := ⟨Try.underlying142⟩
instance : CNa 148 := ⟨Try.isAgg148⟩
instance : CFo 151 0 0 := ⟨Acz⟩
instance : CFo 151 1 1 := ⟨Acy⟩
instance : CFo 151 2 2 := ⟨Acx⟩
instance : CFo 151 3 3 := ⟨Acw⟩
instance : CSt 151 (Try.t151.zero.getD undef).cells.toList [(0, 1), (1, 1), (2, 1), (3, 1)] := ⟨st_151⟩
section
variable {n : Nat} {Q : Exit → Act → World → Prop} {ops : Array Oper} {rest : List Oper} {L : List Chunk} {R : List Fact} {al al' : List (Nat × Value)} {d k : Nat} {x y z : Operand} {T ty U : TypeId} {pos : String} {aft : Array Edge} {v : Value} {l l' : List Oper}
theorem kmv (h : A4 Try.prog n al L R ⟨some d, .move x, ty, pos, aft, none⟩ v) : A4 Try.prog n al L R ⟨some d, .move x, ty, pos, aft, none⟩ v := h
theorem kas (h : A4 Try.prog n al L R ⟨some d, .assign x, ty, pos, aft, none⟩ v) : A4 Try.prog n al L R ⟨some d, .assign x, ty, pos, aft, none⟩ v := h
theorem kfa {i : Nat} (h : A4 Try.prog n al L R ⟨some d, .fieldAddr T x i, ty, pos, aft, none⟩ v) : A4 Try.prog n al L R ⟨some d, .fieldAddr T x i, ty, pos, aft, none⟩ v := h
theorem kld (h : A4 Try.prog n al L R ⟨some d, .load T x, ty, pos, aft, none⟩ v) : A4 Try.prog n al L R ⟨some d, .load T x, ty, pos, aft, none⟩ v := h
theorem knc (h : A4 Try.prog n al L R ⟨some d, .nilCheck x, ty, pos, aft, none⟩ v) : A4 Try.prog n al L R ⟨some d, .nilCheck x, ty, pos, aft, none⟩ v := h
theorem kpk (h : A4 Try.prog n al L R ⟨some d, .pick x y z, ty, pos, aft, none⟩ v) : A4 Try.prog n al L R ⟨some d, .pick x y z, ty, pos, aft, none⟩ v := h
theorem kix (h : A4 Try.prog n al L R ⟨some d, .indexAddr T x y, ty, pos, aft, none⟩ v) : A4 Try.prog n al L R ⟨some d, .indexAddr T x y, ty, pos, aft, none⟩ v := h
theorem kxt {i : Nat} (h : A4 Try.prog n al L R ⟨some d, .extract x i, ty, pos, aft, none⟩ v) : A4 Try.prog n al L R ⟨some d, .extract x i, ty, pos, aft, none⟩ v := h
theorem kun (h : A4 Try.prog n al L R ⟨some d, .unOp .not T x, ty, pos, aft, none⟩ v) : A4 Try.prog n al L R ⟨some d, .unOp .not T x, ty, pos, aft, none⟩ v := h
theorem kle (h : A4 Try.prog n al L R ⟨some d, .call { callee := .builtin .len, args := #[x], argTypes := #[T] }, ty, pos, aft, none⟩ v) : A4 Try.prog n al L R ⟨some d, .call { callee := .builtin .len, args := #[x], argTypes := #[T] }, ty, pos, aft, none⟩ v := h
theorem kbd {ps : Array (Nat × Operand)} (h : A4 Try.prog n al L R ⟨some d, .build T ps, ty, pos, aft, none⟩ v) : A4 Try.prog n al L R ⟨some d, .build T ps, ty, pos, aft, none⟩ v := h
theorem kbe (h : A4 Try.prog n al L R ⟨some d, .binOp .eql T x y U, ty, pos, aft, none⟩ v) : A4 Try.prog n al L R ⟨some d, .binOp .eql T x y U, ty, pos, aft, none⟩ v := h
theorem kbn (h : A4 Try.prog n al L R ⟨some d, .binOp .neq T x y U, ty, pos, aft, none⟩ v) : A4 Try.prog n al L R ⟨some d, .binOp .neq T x y U, ty, pos, aft, none⟩ v := h
theorem kbl (h : A4 Try.prog n al L R ⟨some d, .binOp .lss T x y U, ty, pos, aft, none⟩ v) : A4 Try.prog n al L R ⟨some d, .binOp .lss T x y U, ty, pos, aft, none⟩ v := h
theorem kbg (h : A4 Try.prog n al L R ⟨some d, .binOp .gtr T x y U, ty, pos, aft, none⟩ v) : A4 Try.prog n al L R ⟨some d, .binOp .gtr T x y U, ty, pos, aft, none⟩ v := h
theorem kbh (h : A4 Try.prog n al L R ⟨some d, .binOp .geq T x y U, ty, pos, aft, none⟩ v) : A4 Try.prog n al L R ⟨some d, .binOp .geq T x y U, ty, pos, aft, none⟩ v := h
theorem kba (h : A4 Try.prog n al L R ⟨some d, .binOp .add T x y U, ty, pos, aft, none⟩ v) : A4 Try.prog n al L R ⟨some d, .binOp .add T x y U, ty, pos, aft, none⟩ v := h
theorem kbu (h : A4 Try.prog n al L R ⟨some d, .binOp .mul T x y U, ty, pos, aft, none⟩ v) : A4 Try.prog n al L R ⟨some d, .binOp .mul T x y U, ty, pos, aft, none⟩ v := h
structure Run (n : Nat) (ops : Array Oper) (Q : Exit → Act → World → Prop) (L : List Chunk) (R : List Fact) (k : Nat) (l : List Oper) (al : List (Nat × Value)) (l' : List Oper) (al' : List (Nat × Value)) : Prop where
 go : J Try.prog n ops Q l' L R al' → J Try.prog n ops Q l L R al
theorem R0 : Run n ops Q L R 0 l al l al := ⟨fun h => h⟩
theorem Rc {op : Oper} (hp : A4 Try.prog n al L R op v) (hd : op.dst = some d) (h : Run n ops Q L R k rest ((d, v) :: al) l' al') : Run n ops Q L R (k + 1) (op :: rest) al l' al' := ⟨fun kk => ob hp (h.go kk) hd⟩
theorem Rgy {dst : Option Tmp} {op : Go.Op} {i : Nat} {b : Bool} {m : List Oper} (hv : gv n al m i = some b) (h : Run n m.toArray Q L R (k + 1) (⟨dst, op, ty, pos, aft, none⟩ :: rest) al l' al') : Run n m.toArray Q L R (k + 1) (⟨dst, op, ty, pos, aft, some (i, b)⟩ :: rest) al l' al' := ⟨fun kk => J.guardYes hv (h.go kk)⟩
theorem Rgn {op : Go.Op} {i : Nat} {b : Bool} {m : List Oper} (hv : gv n al m i = some (!b)) (h : Run n m.toArray Q L R k rest ((d, undef) :: al) l' al') : Run n m.toArray Q L R (k + 1) (⟨some d, op, ty, pos, aft, some (i, b)⟩ :: rest) al l' al' := ⟨fun kk => J.guardNo hv (h.go kk)⟩
theorem RgU {op : Go.Op} {i : Nat} {b : Bool} {m : List Oper} (hv : gu n al m i = true) (h : Run n m.toArray Q L R k rest ((d, undef) :: al) l' al') : Run n m.toArray Q L R (k + 1) (⟨some d, op, ty, pos, aft, some (i, b)⟩ :: rest) al l' al' := ⟨fun kk => J.guardUndef hv (h.go kk)⟩
theorem mr (h : Run n ops Q L R k l al l' al' := by repeat (first | exact R0 | (apply Rc; (focus (first | (apply kmv; exact S2) | (apply kas; exact Dv) | (apply kfa; first | exact Aad CFo.h | exact Aac CFo.h) | (apply kld; first | exact C3 CNa.h | exact Xv CAg.h CSz.h | exact F3 _ CAg.h CSz.h | exact Vy _ CAg.h CSz.h | exact q_lNf _ CAg.h CSz.h) | (apply knc; first | exact q_nb | exact q_ne) | (apply kpk; first | exact Fm | exact Agq) | (apply kix; first | exact Fx CSo.h | exact It CSo.h) | (apply kxt; exact q_x) | (apply kun; first | exact q_notD | exact Vx) | (apply kle; exact Q6 CUs.h) | (apply kbd; first | exact Eo CSt.h | exact Fn CSt.h) | (apply kbe; exact F1 Sl) | (apply kbn; exact F1 Sj) | (apply kbl; exact F1 Lh) | (apply kbm; exact F1 W4) | (apply kbg; exact F1 Sk) | (apply kbh; exact F1 Qd) | (apply kba; first | exact Fj | exact Gc) | (apply kbs; exact Q5) | (apply kbu; exact N8))); (focus exact rfl)) | (apply Rgy; (focus exact rfl)) | (apply Rgn; (focus exact rfl)) | (apply RgU; (focus exact rfl)))) : Run n ops Q L R k l al l' al' := h
theorem rn1 (kk : J Try.prog n ops Q l' L R al') (h : Run n ops Q L R 1 l al l' al' := by exact mr) : J Try.prog n ops Q l L R al := h.go kk
theorem rn2 (kk : J Try.prog n ops Q l' L R al') (h : Run n ops Q L R 2 l al l' al' := by exact mr) : J Try.prog n ops Q l L R al := h.go kk
theorem rn3 (kk : J Try.prog n ops Q l' L R al') (h : Run n ops Q L R 3 l al l' al' := by exact mr) : J Try.prog n ops Q l L R al := h.go kk
theorem rn4 (kk : J Try.prog n ops Q l' L R al') (h : Run n ops Q L R 4 l al l' al' := by exact mr) : J Try.prog n ops Q l L R al := h.go kk
theorem rn5 (kk : J Try.prog n ops Q l' L R al') (h : Run n ops Q L R 5 l al l' al' := by exact mr) : J Try.prog n ops Q l L R al := h.go kk
theorem rn6 (kk : J Try.prog n ops Q l' L R al') (h : Run n ops Q L R 6 l al l' al' := by exact mr) : J Try.prog n ops Q l L R al := h.go kk
theorem rn7 (kk : J Try.prog n ops Q l' L R al') (h : Run n ops Q L R 7 l al l' al' := by exact mr) : J Try.prog n ops Q l L R al := h.go kk
theorem rn8 (kk : J Try.prog n ops Q l' L R al') (h : Run n ops Q L R 8 l al l' al' := by exact mr) : J Try.prog n ops Q l L R al := h.go kk
theorem rn9 (kk : J Try.prog n ops Q l' L R al') (h : Run n ops Q L R 9 l al l' al' := by exact mr) : J Try.prog n ops Q l L R al := h.go kk
theorem rn10 (kk : J Try.prog n ops Q l' L R al') (h : Run n ops Q L R 10 l al l' al' := by exact mr) : J Try.prog n ops Q l L R al := h.go kk
theorem Agk (kk : J Try.prog n ops Q l' L R al') (h : Run n ops Q L R 12 l al l' al' := by exact mr) : J Try.prog n ops Q l L R al := h.go kk
theorem rn32 (kk : J Try.prog n ops Q l' L R al') (h : Run n ops Q L R 32 l al l' al' := by exact mr) : J Try.prog n ops Q l L R al := h.go kk
variable {Sh : Rho → (Nat → Bool) → List Chunk} {R0' : List Fact} {al0 : List (Nat × Value)} {its its' : List Item} {i i' : Nat}
structure DRun (n : Nat) (ops : Array Oper) (Q : Exit → Act → World → Prop) (Sh : Rho → (Nat → Bool) → List Chunk) (R0 : List Fact) (al0 : List (Nat × Value)) (k i : Nat) (l : List Oper) (its : List Item) (i' : Nat) (l' : List Oper) (its' : List Item) : Prop where
 go : DJ Try.prog n ops Q Sh R0 al0 i' l' its' → DJ Try.prog n ops Q Sh R0 al0 i l its
theorem D0 : DRun n ops Q Sh R0' al0 0 i l its i l its := ⟨fun h => h⟩
theorem Dc {op : Oper} (hp : ∀ ρ S, A4 Try.prog n (El its al0 ρ) (Sh ρ S) R0' op v) (hSh : J7 ops Sh i) (hd : op.dst = some d) (h : DRun n ops Q Sh R0' al0 k (i + 1) rest (⟨i, some d, fun _ => v, fun _ => [], fun _ => []⟩ :: its) i' l' its') : DRun n ops Q Sh R0' al0 (k + 1) i (op :: rest) its i' l' its' := ⟨fun kk => J9 hp hSh (h.go kk) hd⟩
theorem Dp {op : Oper} {v : Rho → Value} (hp : ∀ ρ S, A4 Try.prog n (El its al0 ρ) (Sh ρ S) R0' op (v ρ)) (hi : Ind ops i v) (hSh : J7 ops Sh i) (hd : op.dst = some d) (h : DRun n ops Q Sh R0' al0 k (i + 1) rest (⟨i, some d, v, fun _ => [], fun _ => []⟩ :: its) i' l' its') : DRun n ops Q Sh R0' al0 (k + 1) i (op :: rest) its i' l' its' := ⟨fun kk => e_p hp hi hSh (h.go kk) hd⟩
theorem Dgc {op : Go.Op} {q : Nat} {b : Bool} {m : List Oper} (hv : ∀ ρ, gv n (El its al0 ρ) m q = some b) (hp : ∀ ρ S, A4 Try.prog n (El its al0 ρ) (Sh ρ S) R0' ⟨some d, op, ty, pos, aft, none⟩ v) (hSh : ∀ ρ g S, S i = false → Sh (Rho.set ρ i g) (upS S i) = Sh ρ S) (h : DRun n m.toArray Q Sh R0' al0 k (i + 1) rest (⟨i, some d, fun _ => v, fun _ => [], fun _ => []⟩ :: its) i' l' its') : DRun n m.toArray Q Sh R0' al0 (k + 1) i (⟨some d, op, ty, pos, aft, some (q, b)⟩ :: rest) its i' l' its' := ⟨fun kk => dj (dgy (dc hp (h.go kk) rfl hSh) hv)⟩
theorem Dgn {op : Go.Op} {q : Nat} {b : Bool} {m : List Oper} (hv : ∀ ρ, gv n (El its al0 ρ) m q = some (!b)) (hSh : ∀ ρ g S, S i = false → Sh (Rho.set ρ i g) (upS S i) = Sh ρ S) (h : DRun n m.toArray Q Sh R0' al0 k (i + 1) rest (⟨i, some d, fun _ => undef, fun _ => [], fun _ => []⟩ :: its) i' l' its') : DRun n m.toArray Q Sh R0' al0 (k + 1) i (⟨some d, op, ty, pos, aft, some (q, b)⟩ :: rest) its i' l' its' := ⟨fun kk => dj (dgn (h.go kk) hv hSh)⟩
theorem Dgu {op : Go.Op} {q : Nat} {b : Bool} {m : List Oper} (hv : ∀ ρ, gu n (El its al0 ρ) m q = true) (hSh : ∀ ρ g S, S i = false → Sh (Rho.set ρ i g) (upS S i) = Sh ρ S) (h : DRun n m.toArray Q Sh R0' al0 k (i + 1) rest (⟨i, some d, fun _ => undef, fun _ => [], fun _ => []⟩ :: its) i' l' its') : DRun n m.toArray Q Sh R0' al0 (k + 1) i (⟨some d, op, ty, pos, aft, some (q, b)⟩ :: rest) its i' l' its' := ⟨fun kk => dj (dgu (h.go kk) hv hSh)⟩
theorem mdr (h : DRun n ops Q Sh R0' al0 k i l its i' l' its' := by repeat (first | exact D0 | (apply Dc; (focus (intro _ _; first | (apply kmv; exact S2) | (apply kas; exact Dv) | (apply kfa; first | exact Aad CFo.h | exact Aac CFo.h) | (apply kld; first | exact C3 CNa.h | exact Xv CAg.h CSz.h | exact F3 _ CAg.h CSz.h | exact Vy _ CAg.h CSz.h | exact q_lNf _ CAg.h CSz.h) | (apply knc; first | exact q_nb | exact q_ne) | (apply kpk; first | exact Fm | exact Agq) | (apply kix; first | exact Fx CSo.h | exact It CSo.h) | (apply kxt; exact q_x) | (apply kun; first | exact q_notD | exact Vx) | (apply kle; exact Q6 CUs.h) | (apply kbd; first | exact Eo CSt.h | exact Fn CSt.h) | (apply kbe; exact F1 Sl) | (apply kbn; exact F1 Sj) | (apply kbl; exact F1 Lh) | (apply kbm; exact F1 W4) | (apply kbg; exact F1 Sk) | (apply kbh; exact F1 Qd) | (apply kba; first | exact Fj | exact Gc) | (apply kbs; exact Q5) | (apply kbu; exact N8))); (focus exact (fun _ _ _ _ _ => rfl)); (focus exact rfl)) | (apply Dgc; (focus exact (fun _ => rfl)); (focus (intro _ _; first | (apply kmv; exact S2) | (apply kas; exact Dv) | (apply kfa; first | exact Aad CFo.h | exact Aac CFo.h) | (apply kld; first | exact C3 CNa.h | exact Xv CAg.h CSz.h | exact F3 _ CAg.h CSz.h | exact Vy _ CAg.h CSz.h | exact q_lNf _ CAg.h CSz.h) | (apply knc; first | exact q_nb | exact q_ne) | (apply kpk; first | exact Fm | exact Agq) | (apply kix; first | exact Fx CSo.h | exact It CSo.h) | (apply kxt; exact q_x) | (apply kun; first | exact q_notD | exact Vx) | (apply kle; exact Q6 CUs.h) | (apply kbd; first | exact Eo CSt.h | exact Fn CSt.h) | (apply kbe; exact F1 Sl) | (apply kbn; exact F1 Sj) | (apply kbl; exact F1 Lh) | (apply kbm; exact F1 W4) | (apply kbg; exact F1 Sk) | (apply kbh; exact F1 Qd) | (apply kba; first | exact Fj | exact Gc) | (apply kbs; exact Q5) | (apply kbu; exact N8))); (focus exact (fun _ _ _ _ => rfl))) | (apply Dgn; (focus exact (fun _ => rfl)); (focus exact (fun _ _ _ _ => rfl))) | (apply Dgu; (focus exact (fun _ => rfl)); (focus exact (fun _ _ _ _ => rfl))) | (apply Dp; (focus (intro _ _; first | (apply kmv; exact S2) | (apply kas; exact Dv) | (apply kfa; first | exact Aad CFo.h | exact Aac CFo.h) | (apply kld; first | exact C3 CNa.h | exact Xv CAg.h CSz.h | exact F3 _ CAg.h CSz.h | exact Vy _ CAg.h CSz.h | exact q_lNf _ CAg.h CSz.h) | (apply knc; first | exact q_nb | exact q_ne) | (apply kpk; first | exact Fm | exact Agq) | (apply kix; first | exact Fx CSo.h | exact It CSo.h) | (apply kxt; exact q_x) | (apply kun; first | exact q_notD | exact Vx) | (apply kle; exact Q6 CUs.h) | (apply kbd; first | exact Eo CSt.h | exact Fn CSt.h) | (apply kbe; exact F1 Sl) | (apply kbn; exact F1 Sj) | (apply kbl; exact F1 Lh) | (apply kbm; exact F1 W4) | (apply kbg; exact F1 Sk) | (apply kbh; exact F1 Qd) | (apply kba; first | exact Fj | exact Gc) | (apply kbs; exact Q5) | (apply kbu; exact N8))); (focus exact (fun _ _ _ _ _ => rfl)); (focus exact (fun _ _ _ _ _ => rfl)); (focus exact rfl)))) : DRun n ops Q Sh R0' al0 k i l its i' l' its' := h
theorem dn1 (kk : DJ Try.prog n ops Q Sh R0' al0 i' l' its') (h : DRun n ops Q Sh R0' al0 1 i l its i' l' its' := by exact mdr) : DJ Try.prog n ops Q Sh R0' al0 i l its := h.go kk
theorem dn2 (kk : DJ Try.prog n ops Q Sh R0' al0 i' l' its') (h : DRun n ops Q Sh R0' al0 2 i l its i' l' its' := by exact mdr) : DJ Try.prog n ops Q Sh R0' al0 i l its := h.go kk
theorem dn3 (kk : DJ Try.prog n ops Q Sh R0' al0 i' l' its') (h : DRun n ops Q Sh R0' al0 3 i l its i' l' its' := by exact mdr) : DJ Try.prog n ops Q Sh R0' al0 i l its := h.go kk
theorem dn4 (kk : DJ Try.prog n ops Q Sh R0' al0 i' l' its') (h : DRun n ops Q Sh R0' al0 4 i l its i' l' its' := by exact mdr) : DJ Try.prog n ops Q Sh R0' al0 i l its := h.go kk
theorem dn5 (kk : DJ Try.prog n ops Q Sh R0' al0 i' l' its') (h : DRun n ops Q Sh R0' al0 5 i l its i' l' its' := by exact mdr) : DJ Try.prog n ops Q Sh R0' al0 i l its := h.go kk
theorem dn6 (kk : DJ Try.prog n ops Q Sh R0' al0 i' l' its') (h : DRun n ops Q Sh R0' al0 6 i l its i' l' its' := by exact mdr) : DJ Try.prog n ops Q Sh R0' al0 i l its := h.go kk
theorem dn7 (kk : DJ Try.prog n ops Q Sh R0' al0 i' l' its') (h : DRun n ops Q Sh R0' al0 7 i l its i' l' its' := by exact mdr) : DJ Try.prog n ops Q Sh R0' al0 i l its := h.go kk
theorem dn8 (kk : DJ Try.prog n ops Q Sh R0' al0 i' l' its') (h : DRun n ops Q Sh R0' al0 8 i l its i' l' its' := by exact mdr) : DJ Try.prog n ops Q Sh R0' al0 i l its := h.go kk
theorem dn9 (kk : DJ Try.prog n ops Q Sh R0' al0 i' l' its') (h : DRun n ops Q Sh R0' al0 9 i l its i' l' its' := by exact mdr) : DJ Try.prog n ops Q Sh R0' al0 i l its := h.go kk
theorem Afo (kk : DJ Try.prog n ops Q Sh R0' al0 i' l' its') (h : DRun n ops Q Sh R0' al0 10 i l its i' l' its' := by exact mdr) : DJ Try.prog n ops Q Sh R0' al0 i l its := h.go kk
theorem dn11 (kk : DJ Try.prog n ops Q Sh R0' al0 i' l' its') (h : DRun n ops Q Sh R0' al0 11 i l its i' l' its' := by exact mdr) : DJ Try.prog n ops Q Sh R0' al0 i l its := h.go kk
theorem dn12 (kk : DJ Try.prog n ops Q Sh R0' al0 i' l' its') (h : DRun n ops Q Sh R0' al0 12 i l its i' l' its' := by exact mdr) : DJ Try.prog n ops Q Sh R0' al0 i l its := h.go kk
theorem dn13 (kk : DJ Try.prog n ops Q Sh R0' al0 i' l' its') (h : DRun n ops Q Sh R0' al0 13 i l its i' l' its' := by exact mdr) : DJ Try.prog n ops Q Sh R0' al0 i l its := h.go kk
theorem dn14 (kk : DJ Try.prog n ops Q Sh R0' al0 i' l' its') (h : DRun n ops Q Sh R0' al0 14 i l its i' l' its' := by exact mdr) : DJ Try.prog n ops Q Sh R0' al0 i l its := h.go kk
theorem dn16 (kk : DJ Try.prog n ops Q Sh R0' al0 i' l' its') (h : DRun n ops Q Sh R0' al0 16 i l its i' l' its' := by exact mdr) : DJ Try.prog n ops Q Sh R0' al0 i l its := h.go kk
theorem dn18 (kk : DJ Try.prog n ops Q Sh R0' al0 i' l' its') (h : DRun n ops Q Sh R0' al0 18 i l its i' l' its' := by exact mdr) : DJ Try.prog n ops Q Sh R0' al0 i l its := h.go kk
theorem dn27 (kk : DJ Try.prog n ops Q Sh R0' al0 i' l' its') (h : DRun n ops Q Sh R0' al0 27 i l its i' l' its' := by exact mdr) : DJ Try.prog n ops Q Sh R0' al0 i l its := h.go kk
theorem dn29 (kk : DJ Try.prog n ops Q Sh R0' al0 i' l' its') (h : DRun n ops Q Sh R0' al0 29 i l its i' l' its' := by exact mdr) : DJ Try.prog n ops Q Sh R0' al0 i l its := h.go kk
end
structure Hold (p : Prop) : Prop where
 h : p
theorem sc {p q : Prop} (k : p) (h : Hold p → q := by intro h; (first | refine s_b CSz.h ?_ | refine s_f CSz.h ?_); intro cs hcs; simp only [Nat.zero_add, Nat.add_zero, Nat.reduceAdd, List.set_cons_zero, List.set_cons_succ, Config.cells, Msg.cells, Line.cells, Op.cells, Done.cells, Step.cells, Core.cells, Entry.cells, Chip.cells, El0.cs, El1.cs] at hcs; subst hcs; exact h.h) : q := h ⟨k⟩
theorem bm {n : Nat} {Q : Exit → Act → World → Prop} {id id' : Nat} {L : List Chunk} {R : List Fact} {al : List (Nat × Value)} (h : JX n Q (.exit id') L R al) (hne : Nat.beq id' id = false := by with_unfolding_all exact rfl) : JX n (Exit.inBlock id Q) (.exit id') L R al := Ew hne h
theorem Gl {p q : Prop} (k : p) (h : Hold p → q := by intro h; (repeat (with_reducible first | refine J.nil ?_ | refine Aw ?_ | refine Bj ?_ | refine D5 ?_ | refine Js ?_ | refine Em ?_ | refine Dx ?_ | refine Es ?_ | refine Fi ?_ | refine G9 ?_ | refine Dw ?_ | refine Dy ?_ | refine bm ?_)); exact h.h) : q := h ⟨k⟩
theorem Glc {p q : Prop} (k : p) (h : Hold p → q := by intro h; (repeat (first | (with_reducible first | refine J.nil ?_ | refine Aw ?_ | refine Bj ?_ | refine D5 ?_ | refine Js ?_ | refine Em ?_ | refine Dx ?_ | refine Es ?_ | refine Fi ?_ | refine G9 ?_ | refine Dw ?_ | refine Dy ?_ | refine bm ?_) | refine cF_ ?_ | refine cT ?_)); exact h.h) : q := h ⟨k⟩
theorem Gmc {p q : Prop} (k : p) (h : Hold p → q := by intro h; (repeat (first | (with_reducible first | refine J.nil ?_ | refine Aw ?_ | refine Bj ?_ | refine D5 ?_ | refine Js ?_ | refine Em ?_ | refine Dx ?_ | refine Es ?_ | refine Fi ?_ | refine G9 ?_ | refine Dw ?_ | refine Dy ?_ | refine bm ?_) | refine cF_ ?_ | refine cT ?_)); refine Aa ?_; exact h.h) : q := h ⟨k⟩
theorem Gm {p q : Prop} (k : p) (h : Hold p → q := by intro h; (repeat (with_reducible first | refine J.nil ?_ | refine Aw ?_ | refine Bj ?_ | refine D5 ?_ | refine Js ?_ | refine Em ?_ | refine Dx ?_ | refine Es ?_ | refine Fi ?_ | refine G9 ?_ | refine Dw ?_ | refine Dy ?_ | refine bm ?_)); refine Aa ?_; exact h.h) : q := h ⟨k⟩
section
variable {n : Nat} {Q : Exit → Act → World → Prop} {ops : Array Oper} {rest : List Oper} {L : List Chunk} {R : List Fact} {al al' : List (Nat × Value)} {d k : Nat} {x y z : Operand} {T ty U : TypeId} {pos : String} {aft : Array Edge} {v : Value} {l l' : List Oper}
variable {p : Prop}
theorem Ga1 (kk : p) (h : Run n ops Q L R 1 l al l' al' := by exact mr) (hg : Hold p → J Try.prog n ops Q l' L R al' := by intro h; exact Gl h.h) : J Try.prog n ops Q l L R al := h.go (hg ⟨kk⟩)
theorem Ga2 (kk : p) (h : Run n ops Q L R 2 l al l' al' := by exact mr) (hg : Hold p → J Try.prog n ops Q l' L R al' := by intro h; exact Gl h.h) : J Try.prog n ops Q l L R al := h.go (hg ⟨kk⟩)
theorem Ga3 (kk : p) (h : Run n ops Q L R 3 l al l' al' := by exact mr) (hg : Hold p → J Try.prog n ops Q l' L R al' := by intro h; exact Gl h.h) : J Try.prog n ops Q l L R al := h.go (hg ⟨kk⟩)
theorem Ga4 (kk : p) (h : Run n ops Q L R 4 l al l' al' := by exact mr) (hg : Hold p → J Try.prog n ops Q l' L R al' := by intro h; exact Gl h.h) : J Try.prog n ops Q l L R al := h.go (hg ⟨kk⟩)
theorem Ga5 (kk : p) (h : Run n ops Q L R 5 l al l' al' := by exact mr) (hg : Hold p → J Try.prog n ops Q l' L R al' := by intro h; exact Gl h.h) : J Try.prog n ops Q l L R al := h.go (hg ⟨kk⟩)
theorem Ga6 (kk : p) (h : Run n ops Q L R 6 l al l' al' := by exact mr) (hg : Hold p → J Try.prog n ops Q l' L R al' := by intro h; exact Gl h.h) : J Try.prog n ops Q l L R al := h.go (hg ⟨kk⟩)
theorem Ga7 (kk : p) (h : Run n ops Q L R 7 l al l' al' := by exact mr) (hg : Hold p → J Try.prog n ops Q l' L R al' := by intro h; exact Gl h.h) : J Try.prog n ops Q l L R al := h.go (hg ⟨kk⟩)
theorem Ga8 (kk : p) (h : Run n ops Q L R 8 l al l' al' := by exact mr) (hg : Hold p → J Try.prog n ops Q l' L R al' := by intro h; exact Gl h.h) : J Try.prog n ops Q l L R al := h.go (hg ⟨kk⟩)
theorem Ga9 (kk : p) (h : Run n ops Q L R 9 l al l' al' := by exact mr) (hg : Hold p → J Try.prog n ops Q l' L R al' := by intro h; exact Gl h.h) : J Try.prog n ops Q l L R al := h.go (hg ⟨kk⟩)
theorem Ga10 (kk : p) (h : Run n ops Q L R 10 l al l' al' := by exact mr) (hg : Hold p → J Try.prog n ops Q l' L R al' := by intro h; exact Gl h.h) : J Try.prog n ops Q l L R al := h.go (hg ⟨kk⟩)
theorem Ga12 (kk : p) (h : Run n ops Q L R 12 l al l' al' := by exact mr) (hg : Hold p → J Try.prog n ops Q l' L R al' := by intro h; exact Gl h.h) : J Try.prog n ops Q l L R al := h.go (hg ⟨kk⟩)
theorem Ga13 (kk : p) (h : Run n ops Q L R 13 l al l' al' := by exact mr) (hg : Hold p → J Try.prog n ops Q l' L R al' := by intro h; exact Gl h.h) : J Try.prog n ops Q l L R al := h.go (hg ⟨kk⟩)
theorem Ga15 (kk : p) (h : Run n ops Q L R 15 l al l' al' := by exact mr) (hg : Hold p → J Try.prog n ops Q l' L R al' := by intro h; exact Gl h.h) : J Try.prog n ops Q l L R al := h.go (hg ⟨kk⟩)
theorem Ga16 (kk : p) (h : Run n ops Q L R 16 l al l' al' := by exact mr) (hg : Hold p → J Try.prog n ops Q l' L R al' := by intro h; exact Gl h.h) : J Try.prog n ops Q l L R al := h.go (hg ⟨kk⟩)
theorem Ga17 (kk : p) (h : Run n ops Q L R 17 l al l' al' := by exact mr) (hg : Hold p → J Try.prog n ops Q l' L R al' := by intro h; exact Gl h.h) : J Try.prog n ops Q l L R al := h.go (hg ⟨kk⟩)
theorem Ga18 (kk : p) (h : Run n ops Q L R 18 l al l' al' := by exact mr) (hg : Hold p → J Try.prog n ops Q l' L R al' := by intro h; exact Gl h.h) : J Try.prog n ops Q l L R al := h.go (hg ⟨kk⟩)
theorem Ga19 (kk : p) (h : Run n ops Q L R 19 l al l' al' := by exact mr) (hg : Hold p → J Try.prog n ops Q l' L R al' := by intro h; exact Gl h.h) : J Try.prog n ops Q l L R al := h.go (hg ⟨kk⟩)
theorem Ga22 (kk : p) (h : Run n ops Q L R 22 l al l' al' := by exact mr) (hg : Hold p → J Try.prog n ops Q l' L R al' := by intro h; exact Gl h.h) : J Try.prog n ops Q l L R al := h.go (hg ⟨kk⟩)
theorem Ga27 (kk : p) (h : Run n ops Q L R 27 l al l' al' := by exact mr) (hg : Hold p → J Try.prog n ops Q l' L R al' := by intro h; exact Gl h.h) : J Try.prog n ops Q l L R al := h.go (hg ⟨kk⟩)
theorem Ga32 (kk : p) (h : Run n ops Q L R 32 l al l' al' := by exact mr) (hg : Hold p → J Try.prog n ops Q l' L R al' := by intro h; exact Gl h.h) : J Try.prog n ops Q l L R al := h.go (hg ⟨kk⟩)
theorem Gb1 (kk : p) (h : Run n ops Q L R 1 l al l' al' := by exact mr) (hg : Hold p → J Try.prog n ops Q l' L R al' := by intro h; exact Gm h.h) : J Try.prog n ops Q l L R al := h.go (hg ⟨kk⟩)
theorem Gb2 (kk : p) (h : Run n ops Q L R 2 l al l' al' := by exact mr) (hg : Hold p → J Try.prog n ops Q l' L R al' := by intro h; exact Gm h.h) : J Try.prog n ops Q l L R al := h.go (hg ⟨kk⟩)
theorem Gb3 (kk : p) (h : Run n ops Q L R 3 l al l' al' := by exact mr) (hg : Hold p → J Try.prog n ops Q l' L R al' := by intro h; exact Gm h.h) : J Try.prog n ops Q l L R al := h.go (hg ⟨kk⟩)
theorem Gb4 (kk : p) (h : Run n ops Q L R 4 l al l' al' := by exact mr) (hg : Hold p → J Try.prog n ops Q l' L R al' := by intro h; exact Gm h.h) : J Try.prog n ops Q l L R al := h.go (hg ⟨kk⟩)
theorem Gb5 (kk : p) (h : Run n ops Q L R 5 l al l' al' := by exact mr) (hg : Hold p → J Try.prog n ops Q l' L R al' := by intro h; exact Gm h.h) : J Try.prog n ops Q l L R al := h.go (hg ⟨kk⟩)
theorem Gb6 (kk : p) (h : Run n ops Q L R 6 l al l' al' := by exact mr) (hg : Hold p → J Try.prog n ops Q l' L R al' := by intro h; exact Gm h.h) : J Try.prog n ops Q l L R al := h.go (hg ⟨kk⟩)
theorem Gb7 (kk : p) (h : Run n ops Q L R 7 l al l' al' := by exact mr) (hg : Hold p → J Try.prog n ops Q l' L R al' := by intro h; exact Gm h.h) : J Try.prog n ops Q l L R al := h.go (hg ⟨kk⟩)
theorem Gc1 (kk : p) (h : Run n ops Q L R 1 l al l' al' := by exact mr) (hg : Hold p → J Try.prog n ops Q l' L R al' := by intro h; exact Glc h.h) : J Try.prog n ops Q l L R al := h.go (hg ⟨kk⟩)
theorem Gc2 (kk : p) (h : Run n ops Q L R 2 l al l' al' := by exact mr) (hg : Hold p → J Try.prog n ops Q l' L R al' := by intro h; exact Glc h.h) : J Try.prog n ops Q l L R al := h.go (hg ⟨kk⟩)
theorem Gc4 (kk : p) (h : Run n ops Q L R 4 l al l' al' := by exact mr) (hg : Hold p → J Try.prog n ops Q l' L R al' := by intro h; exact Glc h.h) : J Try.prog n ops Q l L R al := h.go (hg ⟨kk⟩)
theorem Gc5 (kk : p) (h : Run n ops Q L R 5 l al l' al' := by exact mr) (hg : Hold p → J Try.prog n ops Q l' L R al' := by intro h; exact Glc h.h) : J Try.prog n ops Q l L R al := h.go (hg ⟨kk⟩)
theorem Gc6 (kk : p) (h : Run n ops Q L R 6 l al l' al' := by exact mr) (hg : Hold p → J Try.prog n ops Q l' L R al' := by intro h; exact Glc h.h) : J Try.prog n ops Q l L R al := h.go (hg ⟨kk⟩)
theorem Gc7 (kk : p) (h : Run n ops Q L R 7 l al l' al' := by exact mr) (hg : Hold p → J Try.prog n ops Q l' L R al' := by intro h; exact Glc h.h) : J Try.prog n ops Q l L R al := h.go (hg ⟨kk⟩)
theorem Gc8 (kk : p) (h : Run n ops Q L R 8 l al l' al' := by exact mr) (hg : Hold p → J Try.prog n ops Q l' L R al' := by intro h; exact Glc h.h) : J Try.prog n ops Q l L R al := h.go (hg ⟨kk⟩)
theorem Gc11 (kk : p) (h : Run n ops Q L R 11 l al l' al' := by exact mr) (hg : Hold p → J Try.prog n ops Q l' L R al' := by intro h; exact Glc h.h) : J Try.prog n ops Q l L R al := h.go (hg ⟨kk⟩)
theorem Gc12 (kk : p) (h : Run n ops Q L R 12 l al l' al' := by exact mr) (hg : Hold p → J Try.prog n ops Q l' L R al' := by intro h; exact Glc h.h) : J Try.prog n ops Q l L R al := h.go (hg ⟨kk⟩)
theorem Gc13 (kk : p) (h : Run n ops Q L R 13 l al l' al' := by exact mr) (hg : Hold p → J Try.prog n ops Q l' L R al' := by intro h; exact Glc h.h) : J Try.prog n ops Q l L R al := h.go (hg ⟨kk⟩)
theorem Gc14 (kk : p) (h : Run n ops Q L R 14 l al l' al' := by exact mr) (hg : Hold p → J Try.prog n ops Q l' L R al' := by intro h; exact Glc h.h) : J Try.prog n ops Q l L R al := h.go (hg ⟨kk⟩)
theorem Gc15 (kk : p) (h : Run n ops Q L R 15 l al l' al' := by exact mr) (hg : Hold p → J Try.prog n ops Q l' L R al' := by intro h; exact Glc h.h) : J Try.prog n ops Q l L R al := h.go (hg ⟨kk⟩)
theorem Gc17 (kk : p) (h : Run n ops Q L R 17 l al l' al' := by exact mr) (hg : Hold p → J Try.prog n ops Q l' L R al' := by intro h; exact Glc h.h) : J Try.prog n ops Q l L R al := h.go (hg ⟨kk⟩)
theorem Gc18 (kk : p) (h : Run n ops Q L R 18 l al l' al' := by exact mr) (hg : Hold p → J Try.prog n ops Q l' L R al' := by intro h; exact Glc h.h) : J Try.prog n ops Q l L R al := h.go (hg ⟨kk⟩)
theorem Gc19 (kk : p) (h : Run n ops Q L R 19 l al l' al' := by exact mr) (hg : Hold p → J Try.prog n ops Q l' L R al' := by intro h; exact Glc h.h) : J Try.prog n ops Q l L R al := h.go (hg ⟨kk⟩)
theorem Gd1 (kk : p) (h : Run n ops Q L R 1 l al l' al' := by exact mr) (hg : Hold p → J Try.prog n ops Q l' L R al' := by intro h; exact Gmc h.h) : J Try.prog n ops Q l L R al := h.go (hg ⟨kk⟩)
theorem Gd2 (kk : p) (h : Run n ops Q L R 2 l al l' al' := by exact mr) (hg : Hold p → J Try.prog n ops Q l' L R al' := by intro h; exact Gmc h.h) : J Try.prog n ops Q l L R al := h.go (hg ⟨kk⟩)
theorem Gd4 (kk : p) (h : Run n ops Q L R 4 l al l' al' := by exact mr) (hg : Hold p → J Try.prog n ops Q l' L R al' := by intro h; exact Gmc h.h) : J Try.prog n ops Q l L R al := h.go (hg ⟨kk⟩)
theorem Gd5 (kk : p) (h : Run n ops Q L R 5 l al l' al' := by exact mr) (hg : Hold p → J Try.prog n ops Q l' L R al' := by intro h; exact Gmc h.h) : J Try.prog n ops Q l L R al := h.go (hg ⟨kk⟩)
theorem Gd6 (kk : p) (h : Run n ops Q L R 6 l al l' al' := by exact mr) (hg : Hold p → J Try.prog n ops Q l' L R al' := by intro h; exact Gmc h.h) : J Try.prog n ops Q l L R al := h.go (hg ⟨kk⟩)
theorem Gd7 (kk : p) (h : Run n ops Q L R 7 l al l' al' := by exact mr) (hg : Hold p → J Try.prog n ops Q l' L R al' := by intro h; exact Gmc h.h) : J Try.prog n ops Q l L R al := h.go (hg ⟨kk⟩)
theorem Gd10 (kk : p) (h : Run n ops Q L R 10 l al l' al' := by exact mr) (hg : Hold p → J Try.prog n ops Q l' L R al' := by intro h; exact Gmc h.h) : J Try.prog n ops Q l L R al := h.go (hg ⟨kk⟩)
theorem Gd11 (kk : p) (h : Run n ops Q L R 11 l al l' al' := by exact mr) (hg : Hold p → J Try.prog n ops Q l' L R al' := by intro h; exact Gmc h.h) : J Try.prog n ops Q l L R al := h.go (hg ⟨kk⟩)
theorem jd_ {id : Nat} (Sh : Rho → (Nat → Bool) → List Chunk) (k : DJ Try.prog n l.toArray Q Sh R al 0 l []) (hsl : Pc l.toArray = true := by kernel_rfl) (hed : Lc l.toArray = true := by kernel_rfl) (hL : ∀ ρ, Sh ρ (fun _ => false) = L := by exact fun _ => rfl) : JC Try.prog n (.region id l.toArray true) Q L R al := Tb Aha hsl hed Sh hL k
theorem Bv {id : Nat} (k : DJ Try.prog n l.toArray Q (fun _ _ => L) R al 0 l []) (hsl : Pc l.toArray = true := by kernel_rfl) (hed : Lc l.toArray = true := by kernel_rfl) : JC Try.prog n (.region id l.toArray true) Q L R al := Tb Aha hsl hed (fun _ _ => L) (fun _ => rfl) k
variable {Sh : Rho → (Nat → Bool) → List Chunk} {R0 : List Fact} {al0 : List (Nat × Value)} {its : List Item} {i : Nat} {q : Rho → Prop}
theorem dnl (k : ∀ ρ, q ρ) (h : ∀ ρ, Hold (q ρ) → JX n Q .normal (Gk its ρ ++ Sh ρ (fun j => Nat.blt j i)) (facts its ρ ++ R0) (El its al0 ρ) := by intro ρ h; simp only [Gk, facts, El, List.append_nil, List.nil_append, List.cons_append]; exact h.h) : DJ Try.prog n ops Q Sh R0 al0 i [] its := d_nilC fun ρ => h ρ ⟨k ρ⟩
theorem dtl {o : Oper} (k : ∀ ρ, q ρ) (ht : Lk ops i = true := by kernel_rfl) (h : ∀ ρ, Hold (q ρ) → J Try.prog n ops Q (o :: rest) (Gk its ρ ++ Sh ρ (fun j => Nat.blt j i)) (facts its ρ ++ R0) (El its al0 ρ) := by intro ρ h; simp only [Gk, facts, El, List.append_nil, List.nil_append, List.cons_append]; exact h.h) : DJ Try.prog n ops Q Sh R0 al0 i (o :: rest) its := Za ht fun ρ => h ρ ⟨k ρ⟩
theorem djc {op : Oper} (hp : ∀ ρ S, A4 Try.prog n (El its al0 ρ) (Sh ρ S) R0 op v) (k : DJ Try.prog n ops Q Sh R0 al0 (i + 1) rest (⟨i, some d, fun _ => v, fun _ => [], fun _ => []⟩ :: its)) (hd : op.dst = some d := by exact rfl) (hSh : ∀ ρ g S, S i = false → Sh (Rho.set ρ i g) (upS S i) = Sh ρ S := by exact fun _ _ _ _ => rfl) : DJ Try.prog n ops Q Sh R0 al0 i (op :: rest) its := dj (dc hp k hd hSh)
theorem epc {op : Oper} (hp : ∀ ρ S, A4 Try.prog n (El its al0 ρ) (Sh ρ S) R0 op v) (k : DJ Try.prog n ops Q Sh R0 al0 (i + 1) rest (⟨i, some d, fun _ => v, fun _ => [], fun _ => []⟩ :: its)) (hSh : J7 ops Sh i := by exact fun _ _ _ _ _ => rfl) (hd : op.dst = some d := by exact rfl) : DJ Try.prog n ops Q Sh R0 al0 i (op :: rest) its := J9 hp hSh k hd
theorem epp {op : Oper} {v : Rho → Value} (hp : ∀ ρ S, A4 Try.prog n (El its al0 ρ) (Sh ρ S) R0 op (v ρ)) (k : DJ Try.prog n ops Q Sh R0 al0 (i + 1) rest (⟨i, some d, v, fun _ => [], fun _ => []⟩ :: its)) (hi : Ind ops i v := by first | exact Ind.const _ | exact fun _ _ _ _ _ => rfl | exact Ind.self | exact Ind.gh _ 3 rfl) (hSh : J7 ops Sh i := by exact fun _ _ _ _ _ => rfl) (hd : op.dst = some d := by exact rfl) : DJ Try.prog n ops Q Sh R0 al0 i (op :: rest) its := e_p hp hi hSh k hd
def befs (ops : Array Oper) (i : Nat) (l : List Nat) : Bool := l.all fun j => N3 ops 9 j i
def afts (ops : Array Oper) (i : Nat) (l : List Nat) : Bool := l.all fun j => N3 ops 9 i j
def AllS (S : Nat → Bool) (b : Bool) : List Nat → Prop
 | [] => True
 | j :: r => S j = b ∧ AllS S b r
theorem AllS.mk {S : Nat → Bool} {b : Bool} : ∀ {l : List Nat}, (∀ j, j ∈ l → S j = b) → AllS S b l
 | [], _ => trivial
 | j :: r, h => ⟨h j (.head _), AllS.mk fun j hj => h j (.tail _ hj)⟩
theorem Rho.at_ne {ρ : Rho} {i j : Nat} {g : G} (h : Nat.beq j i = false) : Rho.set ρ i g j = ρ j := by
 have : j ≠ i := fun e => by rw [e, Nat.beq_refl] at h; cases h
 simp [Rho.set, this]
theorem upS_at {S : Nat → Bool} {i : Nat} : upS S i i = true := by simp [upS]
theorem upS_no {S : Nat → Bool} {i j : Nat} (h : Nat.beq j i = false) : upS S i j = S j := by simp [upS, h]
theorem es_ (T0 : TypeId) (f : Nat) (bz az : List Nat) (bb : Rho → Nat) (vs us : Rho → List Value) {v : Rho → Value} {sz : Nat} (hsz : ∀ w, (sizeOf T).run Try.prog w = .ok sz w) (k : DJ Try.prog n ops Q Sh R0 al0 (i + 1) rest (⟨i, none, fun _ => undef, fun _ => [], fun _ => []⟩ :: its)) (hx : ∀ ρ, ev n (El its al0 ρ) x = some (bp (bb ρ) f) := by exact fun _ => rfl) (hy : ∀ ρ, ev n (El its al0 ρ) y = some (v ρ) := by exact fun _ => rfl) (hv : ∀ ρ, (v ρ).cells = (us ρ).toArray := by exact fun _ => rfl) (hl : ∀ ρ, (us ρ).length = sz := by exact fun _ => rfl)
  (h1 : ∀ ρ R' w L', Deps ops R0 its i ρ R' → St L' R' w → ∀ u ∈ us ρ, u.oneCell' = true := by exact fun _ _ _ _ _ _ => by first | (intro u hu; revert u hu; simp [Value.oneCell', Config.cells, Msg.cells, Line.cells, Op.cells, Done.cells, Step.cells]; done) | (repeat (first | exact D7 | refine Bi (by first | exact rfl | assumption) ?_))) (hf : ∀ ρ, Nat.ble (f + sz) (vs ρ).length = true := by exact fun _ => rfl) (hb : befs ops i bz = true := by kernel_rfl) (ha : afts ops i az = true := by kernel_rfl)
  (hSh : ∀ ρ g S, S i = false → AllS S true bz → AllS S false az → ∃ L1, (Sh ρ S).Perm (blk (bb ρ) T0 (vs ρ) :: L1) ∧ (Sh (Rho.set ρ i g) (upS S i)).Perm (blk (bb ρ) T0 ((vs ρ).take f ++ us ρ ++ (vs ρ).drop (f + sz)) :: L1) := by intro ρ g S hS hB hA; simp only [AllS, and_true] at hB hA; simp +decide only [upS_at, upS_no, Rho.at_ne, hS, hB, hA, cond_true, cond_false]; exact Pos.ex (by repeat (first | exact .hd | exact .hc | apply Pos.tl | apply Pos.ap))) : DJ Try.prog n ops Q Sh R0 al0 i (⟨none, .store T x y, ty, pos, aft, none⟩ :: rest) its :=
 Ajj bb hsz hx hy hv hl h1 hf (fun ρ g S hS hB hA => hSh ρ g S hS (AllS.mk fun j hj => hB j ⟨9, List.all_eq_true.1 hb j hj⟩) (AllS.mk fun j hj => hA j ⟨9, List.all_eq_true.1 ha j hj⟩)) k
end
section
variable {P : Program} {n : Nat} {L L' L1 : List Chunk} {R : List Fact} {al : List (Nat × Value)} {γ : Type} {val : γ → Value} {Lf : γ → List Chunk} {Rf : γ → List Fact} {fn : Func} {e : Exit} {t u s r : Nat} {v v1 v2 v3 v4 : Value} {ty : TypeId} {sz b : Nat} {cs : List Value} {T0 : TypeId} {Q : Exit → Act → World → Prop} {c : Code}
theorem cq_ (L' : List Chunk) (k : JC P n c Q L' R al) (h : ∀ w, St L R w → St L' R w := by exact fun w hs => Ai hs) : JC P n c Q L R al := JC.conseq h k
theorem xq_ (L' : List Chunk) (k : JX n Q e L' R al) (h : ∀ w, St L R w → St L' R w := by exact fun w hs => hs) : JX n Q e L R al := JX.conseq h k
theorem Co (g : γ) (he : e = .normal ∨ e = .ret := by first | exact .inr rfl | exact .inl rfl) (hf : fn.results = #[.tmp t] := by exact rfl) (h0 : ev n al (.tmp t) = some v1 := by exact rfl) (hv : v1 = val g := by rfl) (hs : ∀ w, St L R w → St (Lf g) (Rf g) w := by exact fun w hs => Ai hs) : JX n (bodyPost P fn (Bw val Lf Rf)) e L R al := Bf he (fun B w _ => Afa hf h0 B w) (fun w h => ⟨g, hv, hs w h⟩)
theorem N7 (g : γ) (hT : ∀ w, (isAgg ty).run P w = .ok true w) (hsz : ∀ w, (sizeOf ty).run P w = .ok sz w) (he : e = .normal ∨ e = .ret := by first | exact .inr rfl | exact .inl rfl) (hf : fn.results = #[.cell t ty] := by exact rfl) (h0 : ev n al (.tmp t) = some (bp b 0) := by exact rfl)  (hp : Pick L (blk b T0 cs) L1 := by exact pkk) (hl : cs.length = sz := by exact rfl) (hv : (.agg cs.toArray) = val g := by rfl) (hs : ∀ w, St L R w → St (Lf g) (Rf g) w := by exact fun w hs => Ai hs) : JX n (bodyPost P fn (Bw val Lf Rf)) e L R al := Bf he (fun B w hw => resC1 hf h0  hT hsz hp hl B w hw) (fun w h => ⟨g, hv, hs w h⟩)
theorem Ci (g : γ) (he : e = .normal ∨ e = .ret := by first | exact .inr rfl | exact .inl rfl) (hf : fn.results = #[.tmp t, .tmp u] := by exact rfl) (h0 : ev n al (.tmp t) = some v1 := by exact rfl) (h1 : ev n al (.tmp u) = some v2 := by exact rfl) (hv : (.tuple #[v1, v2]) = val g := by rfl) (hs : ∀ w, St L R w → St (Lf g) (Rf g) w := by exact fun w hs => Ai hs) : JX n (bodyPost P fn (Bw val Lf Rf)) e L R al := Bf he (fun B w _ => res2 hf h0 h1 B w) (fun w h => ⟨g, hv, hs w h⟩)
theorem G2 (g : γ) (hT : ∀ w, (isAgg ty).run P w = .ok true w) (hsz : ∀ w, (sizeOf ty).run P w = .ok sz w) (he : e = .normal ∨ e = .ret := by first | exact .inr rfl | exact .inl rfl) (hf : fn.results = #[.cell t ty, .tmp u] := by exact rfl) (h0 : ev n al (.tmp t) = some (bp b 0) := by exact rfl) (h1 : ev n al (.tmp u) = some v2 := by exact rfl) (hp : Pick L (blk b T0 cs) L1 := by exact pkk) (hl : cs.length = sz := by exact rfl) (hv : (.tuple #[.agg cs.toArray, v2]) = val g := by rfl) (hs : ∀ w, St L R w → St (Lf g) (Rf g) w := by exact fun w hs => Ai hs) : JX n (bodyPost P fn (Bw val Lf Rf)) e L R al := Bf he (fun B w hw => resC2 hf h0 h1 hT hsz hp hl B w hw) (fun w h => ⟨g, hv, hs w h⟩)
theorem Gt (g : γ) (he : e = .normal ∨ e = .ret := by first | exact .inr rfl | exact .inl rfl) (hf : fn.results = #[.tmp t, .tmp u, .tmp s] := by exact rfl) (h0 : ev n al (.tmp t) = some v1 := by exact rfl) (h1 : ev n al (.tmp u) = some v2 := by exact rfl) (h2 : ev n al (.tmp s) = some v3 := by exact rfl) (hv : (.tuple #[v1, v2, v3]) = val g := by rfl) (hs : ∀ w, St L R w → St (Lf g) (Rf g) w := by exact fun w hs => Ai hs) : JX n (bodyPost P fn (Bw val Lf Rf)) e L R al := Bf he (fun B w _ => res3 hf h0 h1 h2 B w) (fun w h => ⟨g, hv, hs w h⟩)
theorem Cf (g : γ) (hT : ∀ w, (isAgg ty).run P w = .ok true w) (hsz : ∀ w, (sizeOf ty).run P w = .ok sz w) (he : e = .normal ∨ e = .ret := by first | exact .inr rfl | exact .inl rfl) (hf : fn.results = #[.cell t ty, .tmp u, .tmp s] := by exact rfl) (h0 : ev n al (.tmp t) = some (bp b 0) := by exact rfl) (h1 : ev n al (.tmp u) = some v2 := by exact rfl) (h2 : ev n al (.tmp s) = some v3 := by exact rfl) (hp : Pick L (blk b T0 cs) L1 := by exact pkk) (hl : cs.length = sz := by exact rfl) (hv : (.tuple #[.agg cs.toArray, v2, v3]) = val g := by rfl) (hs : ∀ w, St L R w → St (Lf g) (Rf g) w := by exact fun w hs => Ai hs) : JX n (bodyPost P fn (Bw val Lf Rf)) e L R al := Bf he (fun B w hw => resC3 hf h0 h1 h2 hT hsz hp hl B w hw) (fun w h => ⟨g, hv, hs w h⟩)
theorem Fc (g : γ) (hT : ∀ w, (isAgg ty).run P w = .ok true w) (hsz : ∀ w, (sizeOf ty).run P w = .ok sz w) (he : e = .normal ∨ e = .ret := by first | exact .inr rfl | exact .inl rfl) (hf : fn.results = #[.cell t ty, .tmp u, .tmp s, .tmp r] := by exact rfl) (h0 : ev n al (.tmp t) = some (bp b 0) := by exact rfl) (h1 : ev n al (.tmp u) = some v2 := by exact rfl) (h2 : ev n al (.tmp s) = some v3 := by exact rfl) (h3 : ev n al (.tmp r) = some v4 := by exact rfl) (hp : Pick L (blk b T0 cs) L1 := by exact pkk) (hl : cs.length = sz := by exact rfl) (hv : (.tuple #[.agg cs.toArray, v2, v3, v4]) = val g := by rfl) (hs : ∀ w, St L R w → St (Lf g) (Rf g) w := by exact fun w hs => Ai hs) : JX n (bodyPost P fn (Bw val Lf Rf)) e L R al := Bf he (fun B w hw => resC4 hf h0 h1 h2 h3 hT hsz hp hl B w hw) (fun w h => ⟨g, hv, hs w h⟩)
end
section
variable {P : Program} {n : Nat} {ops : Array Oper} {Q : Exit → Act → World → Prop} {rest : List Oper} {L : List Chunk} {R : List Fact} {al : List (Nat × Value)} {d : Nat} {x y : Operand} {T U ty : TypeId} {pos : String} {aft : Array Edge} {k k' : IntKind} {a b : Int}
theorem Cs (kk : J P n ops Q rest L R ((d, .bool true) :: al)) (hx : ev n al x = some (.int k a) := by exact rfl) (hy : ev n al y = some (.int k b) := by exact rfl) (h : a = b := by omega) : J P n ops Q (⟨some d, .binOp .eql T x y U, ty, pos, aft, none⟩ :: rest) L R al := ob (Am hx hy (Bh h)) kk
theorem As (kk : J P n ops Q rest L R ((d, .bool false) :: al)) (hx : ev n al x = some (.int k a) := by exact rfl) (hy : ev n al y = some (.int k b) := by exact rfl) (h : a ≠ b := by omega) : J P n ops Q (⟨some d, .binOp .eql T x y U, ty, pos, aft, none⟩ :: rest) L R al := ob (Am hx hy (Bs h)) kk
theorem Kk (kk : J P n ops Q rest L R ((d, .bool true) :: al)) (hx : ev n al x = some (.int k a) := by exact rfl) (hy : ev n al y = some (.int k b) := by exact rfl) (h : a ≠ b := by omega) : J P n ops Q (⟨some d, .binOp .neq T x y U, ty, pos, aft, none⟩ :: rest) L R al := ob (Am hx hy (F6 h)) kk
theorem K5 (kk : J P n ops Q rest L R ((d, .bool false) :: al)) (hx : ev n al x = some (.int k a) := by exact rfl) (hy : ev n al y = some (.int k b) := by exact rfl) (h : a = b := by omega) : J P n ops Q (⟨some d, .binOp .neq T x y U, ty, pos, aft, none⟩ :: rest) L R al := ob (Am hx hy (De h)) kk
theorem Ei (kk : J P n ops Q rest L R ((d, .bool true) :: al)) (hx : ev n al x = some (.int k a) := by exact rfl) (hy : ev n al y = some (.int k b) := by exact rfl) (h : a < b := by omega) : J P n ops Q (⟨some d, .binOp .lss T x y U, ty, pos, aft, none⟩ :: rest) L R al := ob (Am hx hy (Nx h)) kk
theorem Bc (kk : J P n ops Q rest L R ((d, .bool false) :: al)) (hx : ev n al x = some (.int k a) := by exact rfl) (hy : ev n al y = some (.int k b) := by exact rfl) (h : ¬ a < b := by omega) : J P n ops Q (⟨some d, .binOp .lss T x y U, ty, pos, aft, none⟩ :: rest) L R al := ob (Am hx hy (Ca h)) kk
theorem Agw (kk : J P n ops Q rest L R ((d, .bool true) :: al)) (hx : ev n al x = some (.int k a) := by exact rfl) (hy : ev n al y = some (.int k b) := by exact rfl) (h : a ≤ b := by omega) : J P n ops Q (⟨some d, .binOp .leq T x y U, ty, pos, aft, none⟩ :: rest) L R al := ob (Am hx hy (Qc h)) kk
theorem S4 (kk : J P n ops Q rest L R ((d, .bool false) :: al)) (hx : ev n al x = some (.int k a) := by exact rfl) (hy : ev n al y = some (.int k b) := by exact rfl) (h : ¬ a ≤ b := by omega) : J P n ops Q (⟨some d, .binOp .leq T x y U, ty, pos, aft, none⟩ :: rest) L R al := ob (Am hx hy (J6 h)) kk
theorem G3 (kk : J P n ops Q rest L R ((d, .bool true) :: al)) (hx : ev n al x = some (.int k a) := by exact rfl) (hy : ev n al y = some (.int k b) := by exact rfl) (h : b < a := by omega) : J P n ops Q (⟨some d, .binOp .gtr T x y U, ty, pos, aft, none⟩ :: rest) L R al := ob (Am hx hy (Li h)) kk
theorem Fd (kk : J P n ops Q rest L R ((d, .bool false) :: al)) (hx : ev n al x = some (.int k a) := by exact rfl) (hy : ev n al y = some (.int k b) := by exact rfl) (h : ¬ b < a := by omega) : J P n ops Q (⟨some d, .binOp .gtr T x y U, ty, pos, aft, none⟩ :: rest) L R al := ob (Am hx hy (Ts h)) kk
theorem Hj (kk : J P n ops Q rest L R ((d, .bool true) :: al)) (hx : ev n al x = some (.int k a) := by exact rfl) (hy : ev n al y = some (.int k b) := by exact rfl) (h : b ≤ a := by omega) : J P n ops Q (⟨some d, .binOp .geq T x y U, ty, pos, aft, none⟩ :: rest) L R al := ob (Am hx hy (I5 h)) kk
theorem Dm (kk : J P n ops Q rest L R ((d, .bool false) :: al)) (hx : ev n al x = some (.int k a) := by exact rfl) (hy : ev n al y = some (.int k b) := by exact rfl) (h : ¬ b ≤ a := by omega) : J P n ops Q (⟨some d, .binOp .geq T x y U, ty, pos, aft, none⟩ :: rest) L R al := ob (Am hx hy (Cd h)) kk
theorem meT {A B : Prop} (h : A := by first | exact congrArg (fun b => some (Value.bool b)) (decide_eq_true (by omega)).symm | exact congrArg (fun b => some (Value.bool b)) (by simp; omega)) (g : B := by exact alT) : A ∧ B := ⟨h, g⟩
theorem meF {A B : Prop} (h : A := by first | exact congrArg (fun b => some (Value.bool b)) (decide_eq_false (by omega)).symm | exact congrArg (fun b => some (Value.bool b)) (by simp; omega)) (g : B := by exact alT) : A ∧ B := ⟨h, g⟩
theorem cdy {t : Nat} {a b : Code} {p : Prop} {hd : Decidable p} (hT : p → JC P n a Q L R ((t, .bool true) :: al)) (hF : ¬ p → JC P n b Q L R ((t, .bool false) :: al)) (hc : ev n al (.tmp t) = some (.bool (decide p)) := by exact rfl) : JC P n (.cond (.tmp t) a b) Q L R al := cdx hc hT hF
theorem pex {l l' : List Chunk} {x x' : Chunk} {L1 : List Chunk} (h : Pos l l' x x' L1 := by repeat (first | exact .hd | exact .hc | apply Pos.tl | apply Pos.ap)) : ∃ L1, l.Perm (x :: L1) ∧ l'.Perm (x' :: L1) := h.ex
end
section
variable {n : Nat} {Q : Exit → Act → World → Prop} {ops : Array Oper} {rest : List Oper} {d : Nat} {x y : Operand} {ty : TypeId} {pos : String} {aft : Array Edge} {Sh : Rho → (Nat → Bool) → List Chunk} {R0 : List Fact} {al0 : List (Nat × Value)} {its : List Item} {i : Nat} {v : Value}
theorem djm (kk : DJ Try.prog n ops Q Sh R0 al0 (i + 1) rest (⟨i, some d, fun _ => v, fun _ => [], fun _ => []⟩ :: its)) (hx : ∀ (ρ : Rho) (_ : Nat → Bool), ev n (El its al0 ρ) x = some v := by exact fun _ _ => rfl) (hSh : ∀ ρ g S, S i = false → Sh (Rho.set ρ i g) (upS S i) = Sh ρ S := by exact fun _ _ _ _ => rfl) : DJ Try.prog n ops Q Sh R0 al0 i (⟨some d, .move x, ty, pos, aft, none⟩ :: rest) its := djc (fun ρ S => S2 (hx ρ S)) kk rfl hSh
theorem djf {c : Operand} (kk : DJ Try.prog n ops Q Sh R0 al0 (i + 1) rest (⟨i, some d, fun _ => v, fun _ => [], fun _ => []⟩ :: its)) (hc : ∀ (ρ : Rho) (_ : Nat → Bool), ev n (El its al0 ρ) c = some (.bool false) := by exact fun _ _ => rfl) (hy : ∀ (ρ : Rho) (_ : Nat → Bool), ev n (El its al0 ρ) y = some v := by exact fun _ _ => rfl) (hSh : ∀ ρ g S, S i = false → Sh (Rho.set ρ i g) (upS S i) = Sh ρ S := by exact fun _ _ _ _ => rfl) : DJ Try.prog n ops Q Sh R0 al0 i (⟨some d, .pick c x y, ty, pos, aft, none⟩ :: rest) its := djc (fun ρ S => Agq (hc ρ S) (hy ρ S)) kk rfl hSh
theorem epg (j f : Nat) (kk : DJ Try.prog n ops Q Sh R0 al0 (i + 1) rest (⟨i, some d, fun ρ => Gh.dec (γ := Value) (ρ j), fun _ => [], fun _ => []⟩ :: its)) (hx : ∀ (ρ : Rho) (_ : Nat → Bool), ev n (El its al0 ρ) x = some (Gh.dec (γ := Value) (ρ j)) := by exact fun _ _ => rfl) (hj : N3 ops f j i = true := by exact rfl) (hSh : J7 ops Sh i := by exact fun _ _ _ _ _ => rfl) : DJ Try.prog n ops Q Sh R0 al0 i (⟨some d, .assign x, ty, pos, aft, none⟩ :: rest) its := e_p (fun ρ S => Dv (hx ρ S)) (Ind.gh (h := fun g => ((Gh.dec (γ := Value) g) : Value)) j f hj) hSh kk rfl
end
structure KpZ (q : Prop) : Prop where
  out : q
def BkZ (p q : Prop) : Prop := KpZ q → p
theorem Zal {p q : Prop} (k : q) (h : BkZ p q := by
 intro kZ
 refine Bv ?_
 refine dn2 ?_
 exact kZ.out) : p := h ⟨k⟩
theorem Zbn {p q : Prop} (k : q) (h : BkZ p q := by
 intro kZ
 refine Zal ?_
 refine djc (fun _ _ => Am rfl rfl (Ca (by omega))) ?_
 refine djm ?_
 exact kZ.out) : p := h ⟨k⟩
theorem ZbP {p q : Prop} (k : q) (h : BkZ p q := by
 intro kZ
 refine E5 (v := v0) m.line mm (by omega) (by omega) (fun hEw u => ?_)
 have hE : EB (Ad l m.line) := hb m.line.toNat (by omega)
 have hE0 := hE
 unfold EB Entry.wf An at hE0
 have hL : (Ad l m.line).last.length ≤ 4 := hla m.line.toNat (by omega)
 refine JC.know (p := u.oneCell' = true) (fun w hs => isSlice.one (hs.fact (.tail _ (.head _)))) (fun hone => ?_)
 refine JC.know (p := ∀ x ∈ (Ad l m.line).last, An x) (fun w hs => E7 (.tail _ (.head _)) hs) (fun hlin => ?_)
 refine Zbn ?_
 refine dn4 ?_
 revert hEw u hE hE0 hL hone hlin
 exact kZ.out) : p := h ⟨k⟩
theorem Zbo {p q : Prop} (k : q) (h : BkZ p q := by
 intro kZ
 have hvb := Gd (v := (Ac c q.line).value) (o := q) (hk.v q.line.toNat (by omega)) (by omega)
 revert hvb
 exact kZ.out) : p := h ⟨k⟩
theorem ZT {p q : Prop} (k : q) (h : BkZ p q := by
 intro kZ
 refine JC.slNil Msg ?_
 exact kZ.out) : p := h ⟨k⟩
theorem ZbQ {p q : Prop} (k : q) (h : BkZ p q := by
 intro kZ
 refine Zbo ?_;intro hvb
 refine ZT ?_
 refine cq_ (blk b8 57 [.slice none 0 0, vi 0, vi 0, vi 0] :: blk b4 57 (c.cells u) :: blk b12 82 [vi (Ac c q.line).state, vi (Ay (Ac c q.line).value q).1, vi (Ac c q.line).want, vi (Ac c q.line).serial, vi (Ac c q.line).seen, vi (Ac c q.line).gave, vi (Ac c q.line).given] :: blk b7 26 q.cells :: L) ?_
 refine jd_ (fun ρ S => blk b8 57 (bif S 10 then [Gh.dec (γ := Value) (ρ 4), vi c.wait.kind, vi c.wait.line, vi c.wait.value] else [.slice none 0 0, vi 0, vi 0, vi 0]) :: blk b4 57 (c.cells u) :: blk b12 82 [vi (Ac c q.line).state, vi (Ay (Ac c q.line).value q).1, vi (Ac c q.line).want, vi (Ac c q.line).serial, vi (Ac c q.line).seen, vi (Ac c q.line).gave, vi (Ac c q.line).given] :: blk b7 26 q.cells :: L) ?_
 refine dn4 ?_
 refine Bt (γ := Value) (val := fun v => .agg (Core.cells v (A2 c q.line ({ (Ac c q.line) with value := (Ay (Ac c q.line).value q).1 }) c.wait)).toArray) (F := fun v => [sl v (c.lines.set q.line.toNat ({ (Ac c q.line) with value := (Ay (Ac c q.line).value q).1 }))]) Try.call81 (fun _ => rfl) (fun ρ L R w hd hs => Bq (l := { (Ac c q.line) with value := (Ay (Ac c q.line).value q).1 }) hs (hd.base mm) hXw (by omega)) (fun ρ g S hS hA => by have u10 : upS S 4 10 = S 10 := rfl; have h10 : S 10 = false := hA 10 ⟨0, rfl⟩; simp only [u10, h10, cond_false]) ?_
 refine dn4 ?_
 refine Fz ([⟨id, q, (Ay (Ac c q.line).value q).2⟩] : List Done) F4 rfl (fun _ => rfl) rfl (fun _ => rfl) rfl rfl (fun ρ R hd => Gi ⟨hid, hq.1, hq.2.1, hq.2.2, by unfold An; simp only; omega⟩) (fun _ _ _ _ _ => rfl) ?_
 revert hvb
 exact kZ.out) : p := h ⟨k⟩
theorem ZK {p q : Prop} (k : q) (h : BkZ p q := by
 intro kZ
 refine Gm ?_
 refine rn2 ?_
 exact kZ.out) : p := h ⟨k⟩
theorem Zdp {p q : Prop} (k : q) (h : BkZ p q := by
 intro kZ
 refine ZK ?_
 refine As ?_
 refine rn3 ?_
 refine gy ?_
 refine As ?_
 refine Gd2 ?_
 refine rn2 ?_
 refine As ?_
 refine Gc1 ?_
 refine kp [5, 6, 7, 8, 9, 10, 11, 76, 77, 78, 79, 80, 81, 82, 83, 84, 85, 86, 87, 88, 89, 90, 91, 92, 93, 94, 95, 96, 97, 98] ?_
 refine Bv ?_
 refine dn2 ?_
 exact kZ.out) : p := h ⟨k⟩
theorem ZaS {p q : Prop} (k : q) (h : BkZ p q := by
 intro kZ
 refine djc (fun _ _ => Am rfl rfl (Bs (by omega))) ?_
 exact kZ.out) : p := h ⟨k⟩
theorem Zae {p q : Prop} (k : q) (h : BkZ p q := by
 intro kZ
 refine djf ?_
 refine djm ?_
 exact kZ.out) : p := h ⟨k⟩
theorem ZaE {p q : Prop} (k : q) (h : BkZ p q := by
 intro kZ
 refine ZaS ?_
 refine djm ?_
 refine dn1 ?_
 refine Zae ?_
 refine dn5 ?_
 refine Zae ?_
 exact kZ.out) : p := h ⟨k⟩
theorem ZP {p q : Prop} (k : q) (h : BkZ p q := by
 intro kZ
 refine djc (fun _ _ => Dv) ?_
 refine dnl ?_; intro ρ
 revert ρ
 exact kZ.out) : p := h ⟨k⟩
theorem ZaT {p q : Prop} (k : q) (h : BkZ p q := by
 intro kZ
 refine dn7 ?_
 refine djf ?_
 refine ZP ?_;intro ρ
 refine Glc ?_
 revert ρ
 exact kZ.out) : p := h ⟨k⟩
theorem ZbR {p q : Prop} (k : q) (h : BkZ p q := by
 intro kZ
 refine dnl ?_; intro ρ
 refine Zdp ?_
 refine ZaE ?_
 refine ZaT ?_;intro ρ
 refine Zal ?_
 revert ρ
 exact kZ.out) : p := h ⟨k⟩
theorem Zc0 {p q : Prop} (k : q) (h : BkZ p q := by
 intro kZ
 refine Gl ?_
 refine cq_ (row 82 vL (Ae ⟨ls, q⟩ id home m).1.lines :: blk b18 120 [vL, vi (Ae ⟨ls, q⟩ id home m).1.wait.kind, vi (Ae ⟨ls, q⟩ id home m).1.wait.line, vi (Ae ⟨ls, q⟩ id home m).1.wait.value, vi id, vi home, g1, g2] :: row 49 g1 (Ae ⟨ls, q⟩ id home m).2.1 :: row 66 g2 (Ae ⟨ls, q⟩ id home m).2.2 :: blk b8 57 [.slice none 0 0, vi 0, vi 0, vi 0] :: L) ?_
 refine JC.shut (v := vL) (xs := (Ae ⟨ls, q⟩ id home m).1.lines) .hd ?_
 refine JC.shut (v := g1) (xs := (Ae ⟨ls, q⟩ id home m).2.1) pkk ?_
 refine JC.shut (v := g2) (xs := (Ae ⟨ls, q⟩ id home m).2.2) pkk ?_
 refine cq_ (blk b8 57 [.slice none 0 0, vi 0, vi 0, vi 0] :: blk b18 120 [vL, vi (Ae ⟨ls, q⟩ id home m).1.wait.kind, vi (Ae ⟨ls, q⟩ id home m).1.wait.line, vi (Ae ⟨ls, q⟩ id home m).1.wait.value, vi id, vi home, g1, g2] :: L) ?_
 refine jd_ (fun ρ S => blk b8 57 (bif S 12 then [vL, vi (Ae ⟨ls, q⟩ id home m).1.wait.kind, vi (Ae ⟨ls, q⟩ id home m).1.wait.line, vi (Ae ⟨ls, q⟩ id home m).1.wait.value] else [.slice none 0 0, vi 0, vi 0, vi 0]) :: blk b18 120 [vL, vi (Ae ⟨ls, q⟩ id home m).1.wait.kind, vi (Ae ⟨ls, q⟩ id home m).1.wait.line, vi (Ae ⟨ls, q⟩ id home m).1.wait.value, vi id, vi home, g1, g2] :: L) ?_
 refine dn3 ?_
 refine J9 (v := .agg ([vL, vi (Ae ⟨ls, q⟩ id home m).1.wait.kind, vi (Ae ⟨ls, q⟩ id home m).1.wait.line, vi (Ae ⟨ls, q⟩ id home m).1.wait.value]).toArray) (fun _ _ => F3 (b := b18) (f := 0) (vs := [vL, vi (Ae ⟨ls, q⟩ id home m).1.wait.kind, vi (Ae ⟨ls, q⟩ id home m).1.wait.line, vi (Ae ⟨ls, q⟩ id home m).1.wait.value, vi id, vi home, g1, g2]) 4 Try.isAgg57 Try.sizeOf57) (fun _ _ _ _ _ => rfl) ?_
 refine dn8 ?_
 refine es_ 57 0 [] [] (fun ρ => b8) (fun ρ => [.slice none 0 0, vi 0, vi 0, vi 0]) (fun ρ => [vL, vi (Ae ⟨ls, q⟩ id home m).1.wait.kind, vi (Ae ⟨ls, q⟩ id home m).1.wait.line, vi (Ae ⟨ls, q⟩ id home m).1.wait.value]) Try.sizeOf57 ?_
 refine dn2 ?_
 refine dnl ?_; intro ρ
 refine xq_ (blk b8 57 [vL, vi (Ae ⟨ls, q⟩ id home m).1.wait.kind, vi (Ae ⟨ls, q⟩ id home m).1.wait.line, vi (Ae ⟨ls, q⟩ id home m).1.wait.value] :: blk b18 120 [vL, vi (Ae ⟨ls, q⟩ id home m).1.wait.kind, vi (Ae ⟨ls, q⟩ id home m).1.wait.line, vi (Ae ⟨ls, q⟩ id home m).1.wait.value, vi id, vi home, g1, g2] :: L) ?_
 refine Gl ?_
 revert ρ
 exact kZ.out) : p := h ⟨k⟩
theorem ZbS {p q : Prop} (k : q) (h : BkZ p q := by
 intro kZ
 refine Zbo ?_;intro hvb
 refine ZT ?_
 refine cq_ (blk b8 57 [.slice none 0 0, vi 0, vi 0, vi 0] :: blk b4 57 (c.cells u) :: blk b12 82 [vi 0, vi 0, vi (Ac c q.line).want, vi (Ac c q.line).serial, vi (Ac c q.line).seen, vi (Ac c q.line).gave, vi (Ac c q.line).given] :: blk b7 26 q.cells :: L) ?_
 refine jd_ (fun ρ S => blk b8 57 (bif S 10 then [Gh.dec (γ := Value) (ρ 4), vi c.wait.kind, vi c.wait.line, vi c.wait.value] else [.slice none 0 0, vi 0, vi 0, vi 0]) :: blk b4 57 (c.cells u) :: blk b12 82 [vi 0, vi 0, vi (Ac c q.line).want, vi (Ac c q.line).serial, vi (Ac c q.line).seen, vi (Ac c q.line).gave, vi (Ac c q.line).given] :: blk b7 26 q.cells :: L) ?_
 refine dn4 ?_
 refine Bt (γ := Value) (val := fun v => .agg (Core.cells v (A2 c q.line ({ (Ac c q.line) with state := 0, value := 0 }) c.wait)).toArray) (F := fun v => [sl v (c.lines.set q.line.toNat ({ (Ac c q.line) with state := 0, value := 0 }))]) Try.call81 (fun _ => rfl) (fun ρ L R w hd hs => Bq (l := { (Ac c q.line) with state := 0, value := 0 }) hs (hd.base mm) hXw (by omega)) (fun ρ g S hS hA => by have u10 : upS S 4 10 = S 10 := rfl; have h10 : S 10 = false := hA 10 ⟨0, rfl⟩; simp only [u10, h10, cond_false]) ?_
 refine dn4 ?_
 refine Fz ([⟨id, q, 0⟩] : List Done) F4 rfl (fun _ => rfl) rfl (fun _ => rfl) rfl rfl (fun ρ R hd => Gi ⟨hid, hq.1, hq.2.1, hq.2.2, by unfold An; simp only; omega⟩) (fun _ _ _ _ _ => rfl) ?_
 revert hvb
 exact kZ.out) : p := h ⟨k⟩
theorem Zb6 {p q : Prop} (k : q) (h : BkZ p q := by
 intro kZ
 refine bx ?_; intro b7
 refine al_ (cs := [.slice none 0 0, vi 0, vi 0, vi 0]) Try.zeroValue57 ?_; intro b8
 revert b7 b8
 exact kZ.out) : p := h ⟨k⟩
theorem Zdq {p q : Prop} (k : q) (h : BkZ p q := by
 intro kZ
 refine Ao Try.call62 rfl (fun w hs => Hd (u := u) (c := ⟨ls, q⟩) hs mm) ?_; intro vL
 refine J.know (p := vL.oneCell' = true) (fun w hs => Cn .hd hs) (fun honeV => ?_)
 refine rn3 ?_
 revert vL honeV
 exact kZ.out) : p := h ⟨k⟩
theorem ZbT {p q : Prop} (k : q) (h : BkZ p q := by
 intro kZ
 refine Gm ?_
 refine bx ?_; intro b4
 refine Zb6 ?_;intro b7 b8
 refine Gb2 ?_
 refine rn1 ?_
 refine Zdq ?_;intro vL honeV
 refine bx ?_; intro b18
 refine Ga1 ?_
 refine cq_ (row 82 vL ls :: blk b18 120 [vL, vi q.kind, vi q.line, vi q.value, vi id, vi home, .slice none 0 0, .slice none 0 0] :: blk b8 57 [.slice none 0 0, vi 0, vi 0, vi 0] :: blk b7 49 m.cells :: blk b4 57 [u, vi q.kind, vi q.line, vi q.value] :: L) ?_
 revert b4 b7 b8 vL honeV b18
 exact kZ.out) : p := h ⟨k⟩
theorem Za0 {p q : Prop} (k : q) (h : BkZ p q := by
 intro kZ
 refine Aa ?_
 refine rn6 ?_
 exact kZ.out) : p := h ⟨k⟩
theorem ZH {p q : Prop} (k : q) (h : BkZ p q := by
 intro kZ
 refine Gb1 ?_
 refine Ga2 ?_
 exact kZ.out) : p := h ⟨k⟩
theorem Zbp {p q : Prop} (k : q) (h : BkZ p q := by
 intro kZ
 refine Gm ?_
 refine bx ?_; intro b4
 refine bx ?_; intro b5
 refine bx ?_; intro b6
 refine Zb6 ?_;intro b7 b8
 refine Gb2 ?_
 refine rn2 ?_
 refine Bc ?_
 refine rn6 ?_
 refine gy ?_
 refine Dm ?_
 refine Gc1 ?_
 refine Hx (c := c) (v := u) m.line mm (by omega) (by omega) (fun hlw => ?_)
 refine Za0 ?_
 refine al_ (cs := zLine.cells) Try.zeroValue82 ?_; intro b11
 refine s_B (cs := (Ac c m.line).cells) Try.sizeOf82 ?_
 refine Gm ?_
 refine Dk (vs := [bp b5 0, bp b6 0, bp b7 0]) rfl ?_
 refine Gb1 ?_
 refine Dk (vs := [bp b5 0, bp b4 0]) rfl ?_
 refine ZH ?_
 refine kp [4, 5, 7, 8, 9, 10, 11, 12, 13, 43, 44, 45] ?_
 refine Aa ?_
 revert b4 b5 b6 b7 b8 hlw b11
 exact kZ.out) : p := h ⟨k⟩
theorem ZaU {p q : Prop} (k : q) (h : BkZ p q := by
 intro kZ
 have hn := h.n1
 have hnl := h.l1
 have hnc := h.nc
 have hnh := h.nh
 have hfr := h.fr
 have honec : cv.oneCell' = true := isSlice.one (hs.fact hc)
 have honeh : hv.oneCell' = true := isSlice.one (hs.fact hh)
 have honef : fv.oneCell' = true := isSlice.one (hs.fact hf)
 have hsw0 := hsw
 unfold Step.wf An at hsw0
 have hop : s.op.wf := by unfold Op.wf An; omega
 have hsn : An s.node := by unfold An; omega
 have hsN : An s.n := by unfold An; omega
 have hsb : An s.bit := by unfold An; omega
 have hn64 : An (x.cores.length : Int) := by unfold An; omega
 have hcw : (Ap x).wf := by unfold Ap A7 Config.wf An; simp only; omega
 refine Aj Try.func20 rfl Try.ntmps20 rfl hs ?_
 revert hn hnl hnc hnh hfr honec honeh honef hsw0 hop hsn hsN hsb hn64 hcw
 exact kZ.out) : p := h ⟨k⟩
theorem ZI {p q : Prop} (k : q) (h : BkZ p q := by
 intro kZ
 refine Aa ?_
 refine rn3 ?_
 exact kZ.out) : p := h ⟨k⟩
theorem ZU {p q : Prop} (k : q) (h : BkZ p q := by
 intro kZ
 refine JC.rowNil 49 Msg ?_
 exact kZ.out) : p := h ⟨k⟩
theorem ZaV {p q : Prop} (k : q) (h : BkZ p q := by
 intro kZ
 refine dc (fun _ _ => Am rfl rfl (Cd (show ¬ ((Ad l m.line).last.length : Int) ≤ m.src by omega))) ?_
 refine djf ?_
 refine dnl ?_; intro ρ
 refine Glc ?_
 refine JC.know (p := EpAll g13.1 10 m.line.toNat) (fun w hs => Aae (α := Entry) (xs := l) pkk w hs) (fun hA => ?_)
 have honeE : (ep g13.1 10 m.line.toNat 0).oneCell' = true := hA.one
 refine kp [1, 5, 6, 7, 8, 9, 42, 43, 44, 45] ?_
 refine ZI ?_
 refine ob (It (v := g13.1) (i := m.line) N5 (hl := Dq (α := Entry) (xs := l) pkk)) ?_
 refine Gb1 ?_
 refine rn5 ?_
 refine bx ?_; intro b51
 refine Ga1 ?_
 refine ZU ?_
 revert ρ hA honeE b51
 exact kZ.out) : p := h ⟨k⟩
theorem ZbU {p q : Prop} (k : q) (h : BkZ p q := by
 intro kZ
 refine dn1 ?_
 refine epg 9 0 ?_
 refine dn1 ?_
 refine dnl ?_; intro ρ
 refine xq_ (blk b8 57 [Gh.dec (γ := Value) (ρ 4), vi c.wait.kind, vi c.wait.line, vi c.wait.value] :: blk b4 57 (c.cells u) :: blk b12 82 [vi (Ac c q.line).state, vi (Ay (Ac c q.line).value q).1, vi (Ac c q.line).want, vi (Ac c q.line).serial, vi (Ac c q.line).seen, vi (Ac c q.line).gave, vi (Ac c q.line).given] :: blk b7 26 q.cells :: L) ?_
 generalize (Gh.dec (γ := Value) (ρ 4)) = v126
 generalize (Gh.dec (γ := Value) (ρ 9)) = v131
 refine Gl ?_
 have eb : Ax (Ac c q.line) q = { (Ac c q.line) with value := (Ay (Ac c q.line).value q).1 } := by unfold Ax; rw [if_neg (by omega), if_pos (by omega)]
 have ed : Ba (Ac c q.line) q = true := by unfold Ba; split <;> simp <;> omega
 have hz : c.wait = zOp := (hk.w.free (by omega)).1
 have et : Bu (Ac c q.line) q = (Ay (Ac c q.line).value q).2 := by unfold Bu; rw [if_neg (by omega)]
 have er : Ah c id home q = (A2 c q.line ({ (Ac c q.line) with value := (Ay (Ac c q.line).value q).1 }) c.wait, [], [⟨id, q, (Ay (Ac c q.line).value q).2⟩], 0) := by unfold Ah; rw [if_neg (by omega), if_neg (by omega), if_neg (by omega), ed, if_pos rfl, eb, et, hz]
 rw [er]
 revert ρ v126 v131 eb ed hz et er
 exact kZ.out) : p := h ⟨k⟩
theorem ZbV {p q : Prop} (k : q) (h : BkZ p q := by
 intro kZ
 refine dn1 ?_
 refine epg 9 0 ?_
 refine dn1 ?_
 refine dnl ?_; intro ρ
 refine xq_ (blk b8 57 [Gh.dec (γ := Value) (ρ 4), vi c.wait.kind, vi c.wait.line, vi c.wait.value] :: blk b4 57 (c.cells u) :: blk b12 82 [vi 0, vi 0, vi (Ac c q.line).want, vi (Ac c q.line).serial, vi (Ac c q.line).seen, vi (Ac c q.line).gave, vi (Ac c q.line).given] :: blk b7 26 q.cells :: L) ?_
 generalize (Gh.dec (γ := Value) (ρ 4)) = v126
 generalize (Gh.dec (γ := Value) (ρ 9)) = v131
 refine Gl ?_
 have eb : Ax (Ac c q.line) q = { (Ac c q.line) with state := 0, value := 0 } := by unfold Ax; rw [if_pos (by omega), if_neg (by omega)]
 have ed : Ba (Ac c q.line) q = true := by unfold Ba; split <;> simp <;> omega
 have hz : c.wait = zOp := (hk.w.free (by omega)).1
 have et : Bu (Ac c q.line) q = 0 := by unfold Bu; rw [if_pos (by omega)]
 have er : Ah c id home q = (A2 c q.line ({ (Ac c q.line) with state := 0, value := 0 }) c.wait, [], [⟨id, q, 0⟩], 0) := by unfold Ah; rw [if_neg (by omega), if_neg (by omega), if_neg (by omega), ed, if_pos rfl, eb, et, hz]
 rw [er]
 revert ρ v126 v131 eb ed hz et er
 exact kZ.out) : p := h ⟨k⟩
theorem Zb7 {p q : Prop} (k : q) (h : BkZ p q := by
 intro kZ
 refine epg 4 0 ?_
 refine epg 9 0 ?_
 refine dnl ?_; intro ρ
 revert ρ
 exact kZ.out) : p := h ⟨k⟩
theorem Zb8 {p q : Prop} (k : q) (h : BkZ p q := by
 intro kZ
 generalize (Gh.dec (γ := Value) (ρ 4)) = v287
 generalize (Gh.dec (γ := Value) (ρ 9)) = v292
 refine Gl ?_
 rw [er]
 revert v287 v292
 exact kZ.out) : p := h ⟨k⟩
theorem Zdr {p q : Prop} (k : q) (h : BkZ p q := by
 intro kZ
 refine s_B (cs := (A9 ({ (Ad l m.line) with last := ((Ad l m.line).last.set m.src.toNat m.serial), who := m.src, serial := m.serial, alone := m.kind == 2, turn := (Ad l m.line).turn + 1 })).cells v46) Try.sizeOf80 ?_
 refine Gl ?_
 have er : Al l id m = (l.set m.line.toNat (A9 ({ (Ad l m.line) with last := ((Ad l m.line).last.set m.src.toNat m.serial), who := m.src, serial := m.serial, alone := m.kind == 2, turn := (Ad l m.line).turn + 1 })), D4 (A9 ({ (Ad l m.line) with last := ((Ad l m.line).last.set m.src.toNat m.serial), who := m.src, serial := m.serial, alone := m.kind == 2, turn := (Ad l m.line).turn + 1 })) m.line id) := E8 (by omega) (by unfold Ag; rw [if_pos (by omega), if_neg (by unfold Dt; omega)]; rfl)
 refine cq_ (blk b8 80 ((A9 ({ (Ad l m.line) with last := ((Ad l m.line).last.set m.src.toNat m.serial), who := m.src, serial := m.serial, alone := m.kind == 2, turn := (Ad l m.line).turn + 1 })).cells v46) :: blk b5 49 m.cells :: L) ?_
 refine jd_ (fun ρ S => blk b8 80 ((A9 ({ (Ad l m.line) with last := ((Ad l m.line).last.set m.src.toNat m.serial), who := m.src, serial := m.serial, alone := m.kind == 2, turn := (Ad l m.line).turn + 1 })).cells v46) :: blk b5 49 m.cells :: L) ?_
 refine dn4 ?_
 refine Bt (γ := Value) (val := fun v => v) (F := fun v => [sl v (l.set m.line.toNat (A9 ({ (Ad l m.line) with last := ((Ad l m.line).last.set m.src.toNat m.serial), who := m.src, serial := m.serial, alone := m.kind == 2, turn := (Ad l m.line).turn + 1 })))]) Try.call87 (fun _ => rfl) (fun ρ L R w hd hs => Cj (e := A9 ({ (Ad l m.line) with last := ((Ad l m.line).last.set m.src.toNat m.serial), who := m.src, serial := m.serial, alone := m.kind == 2, turn := (Ad l m.line).turn + 1 })) (u := v46) hs (hd.base mm) (by rw [D8]; exact hd.base mm) (Di hX).1 (by omega)) (fun _ _ _ _ _ => rfl) ?_
 refine dn4 ?_
 refine Bt (γ := Value) (val := fun v => v) (F := fun v => [sl v (D4 (A9 ({ (Ad l m.line) with last := ((Ad l m.line).last.set m.src.toNat m.serial), who := m.src, serial := m.serial, alone := m.kind == 2, turn := (Ad l m.line).turn + 1 })) m.line id)]) Try.call54 (fun _ => rfl) (fun ρ L R w hd hs => Iq (e := A9 ({ (Ad l m.line) with last := ((Ad l m.line).last.set m.src.toNat m.serial), who := m.src, serial := m.serial, alone := m.kind == 2, turn := (Ad l m.line).turn + 1 })) (u := v46) hs (Di hX) (by assumption) hm.2.2.2.1 hid) (fun _ _ _ _ _ => rfl) ?_
 refine Zb7 ?_;intro ρ
 refine xq_ (blk b8 80 ((A9 ({ (Ad l m.line) with last := ((Ad l m.line).last.set m.src.toNat m.serial), who := m.src, serial := m.serial, alone := m.kind == 2, turn := (Ad l m.line).turn + 1 })).cells v46) :: blk b5 49 m.cells :: L) ?_
 refine Zb8 ?_;intro v287 v292
 revert er ρ v287 v292
 exact kZ.out) : p := h ⟨k⟩
theorem ZaW {p q : Prop} (k : q) (h : BkZ p q := by
 intro kZ
 refine dc (fun _ _ => Am rfl rfl (Cd (show ¬ ((Ad l m.line).last.length : Int) ≤ m.src by omega))) ?_
 refine djf ?_
 refine dnl ?_; intro ρ
 refine Gmc ?_
 refine rn5 ?_
 refine al_ (cs := zEC) Try.zeroValue80 ?_; intro b8
 refine s_B (cs := Entry.cells u (Ad l m.line)) Try.sizeOf80 ?_
 refine Gl ?_
 refine kp [0, 1, 5, 6, 7, 8, 9, 43, 44, 45, 46] ?_
 refine Aa ?_
 refine liO ([] : List Int) Ff rfl (fun j h => Gu) ?_; intro v43
 refine rn2 ?_
 revert ρ b8 v43
 exact kZ.out) : p := h ⟨k⟩
theorem Zds {p q : Prop} (k : q) (h : BkZ p q := by
 intro kZ
 refine kp [2, 3, 4, 5, 16, 17, 18, 19, 20, 21, 22, 23, 24, 25, 26, 27, 28, 29, 30, 31, 32, 33, 34, 35, 36, 37, 38, 39, 40, 41, 42, 43, 44, 45, 46, 47, 48, 49, 50, 51, 52, 53, 54, 55, 56, 57, 58, 59, 60, 61, 62, 63, 64, 65, 66, 67, 68, 69, 70] ?_
 exact kZ.out) : p := h ⟨k⟩
theorem Zat {p q : Prop} (k : q) (h : BkZ p q := by
 intro kZ
 refine Zds ?_
 refine ZI ?_
 exact kZ.out) : p := h ⟨k⟩
theorem Zbq {p q : Prop} (k : q) (h : BkZ p q := by
 intro kZ
 refine ob (Eo (cs := zOp.cells) N4) ?_
 exact kZ.out) : p := h ⟨k⟩
theorem Zdt {p q : Prop} (k : q) (h : BkZ p q := by
 intro kZ
 refine I1 (γ := Value) (val := fun v => v) (F := fun v => [sl v [(⟨id, c.wait, 0⟩ : Done)]]) (caps := [bp b5 0, bp b4 0]) (vs := []) (fun _ => rfl) Try.call90 (fun _ => rfl) (fun ρ S L R w hs hd => Ahp hs (A0 pkk rfl) (Qe (f := 1) (sz := 3) (vs := c.cells u) pkk) hid hk.wwf) (fun _ _ _ _ _ => rfl) ?_
 exact kZ.out) : p := h ⟨k⟩
theorem Zdu {p q : Prop} (k : q) (h : BkZ p q := by
 intro kZ
 refine Ao Try.call81 rfl (fun w hs => Bq (l := { (Ac c m.line) with seen := m.turn, gave := m.turn, given := (Ac c m.line).value, state := 0, value := 0, want := 0 }) hs mm hXw (by omega)) ?_; intro v138
 refine J.know (p := v138.oneCell' = true) (fun w hs => isSlice.one (hs.fact (List.Mem.head _))) (fun hone138 => ?_)
 refine al_ (cs := [.slice none 0 0, vi 0, vi 0, vi 0]) Try.zeroValue57 ?_; intro b15
 refine s_B (cs := [v138, vi c.wait.kind, vi c.wait.line, vi c.wait.value]) Try.sizeOf57 ?_
 refine Gm ?_
 refine Zbq ?_
 refine rn1 ?_
 refine s_N [v138, vi 0, vi 0, vi 0] Try.sizeOf26 ?_
 refine Gl ?_
 refine cq_ (blk b8 57 [.slice none 0 0, vi 0, vi 0, vi 0] :: blk b15 57 [v138, vi 0, vi 0, vi 0] :: blk b4 57 (c.cells u) :: blk b5 3 [vi id] :: L) ?_
 refine jd_ (fun ρ S => blk b8 57 (bif S 4 then [v138, vi 0, vi 0, vi 0] else [.slice none 0 0, vi 0, vi 0, vi 0]) :: blk b15 57 [v138, vi 0, vi 0, vi 0] :: blk b4 57 (c.cells u) :: blk b5 3 [vi id] :: L) ?_
 refine dn3 ?_
 refine Zdt ?_
 refine es_ 57 0 [] [] (fun ρ => b8) (fun ρ => [.slice none 0 0, vi 0, vi 0, vi 0]) (fun ρ => [v138, vi 0, vi 0, vi 0]) Try.sizeOf57 ?_
 refine dn1 ?_
 refine epg 3 0 ?_
 refine dnl ?_; intro ρ
 refine xq_ (blk b8 57 [v138, vi 0, vi 0, vi 0] :: blk b15 57 [v138, vi 0, vi 0, vi 0] :: blk b4 57 (c.cells u) :: blk b5 3 [vi id] :: L) ?_
 generalize (Gh.dec (γ := Value) (ρ 3)) = v144
 refine Gl ?_
 have ef : Cv (Ac c m.line) m.kind m.turn = { (Ac c m.line) with seen := m.turn, gave := m.turn, given := (Ac c m.line).value, state := 0, value := 0, want := 0 } := by unfold Cv; rw [if_pos (by omega)]
 have er : Ae c id home m = (A2 c m.line ({ (Ac c m.line) with seen := m.turn, gave := m.turn, given := (Ac c m.line).value, state := 0, value := 0, want := 0 }) zOp, [A8 9 id home m.line m.turn (Ac c m.line).value], [⟨id, c.wait, 0⟩]) := by unfold Ae; rw [if_neg (by omega)]; rw [if_neg (by omega), if_pos (by omega)]; rw [if_pos (by unfold D1; omega), ef, if_pos (by omega), if_pos (by omega)]
 rw [er]
 revert v138 hone138 b15 ρ v144 ef er
 exact kZ.out) : p := h ⟨k⟩
theorem Zc1 {p q : Prop} (k : q) (h : BkZ p q := by
 intro kZ
 have honec : cv.oneCell' = true := isSlice.one (hs.fact hcv)
 have honeh : hv.oneCell' = true := isSlice.one (hs.fact hhv)
 revert honec honeh
 exact kZ.out) : p := h ⟨k⟩
theorem Zbr {p q : Prop} (k : q) (h : BkZ p q := by
 intro kZ
 refine Zc1 ?_;intro honec honeh
 have honef : fv.oneCell' = true := isSlice.one (hs.fact hfv)
 revert honec honeh honef
 exact kZ.out) : p := h ⟨k⟩
theorem ZaX {p q : Prop} (k : q) (h : BkZ p q := by
 intro kZ
 have hnc := h.nc
 have hnh := h.nh
 have hn1 := h.n1
 have hn2 := h.l1
 refine Zbr ?_;intro honec honeh honef
 have hn64 : An (x.cores.length : Int) := by unfold An; omega
 have hop : s.op.wf := ⟨hsn.2.2.2.2.1, hsn.2.2.2.2.2.1, hsn.2.2.2.2.2.2⟩
 refine Aj Try.func19 rfl Try.ntmps19 rfl hs ?_
 revert hnc hnh hn1 hn2 honec honeh honef hn64 hop
 exact kZ.out) : p := h ⟨k⟩
theorem ZbW {p q : Prop} (k : q) (h : BkZ p q := by
 intro kZ
 refine dc (fun _ _ => Am rfl rfl (Cd (by omega))) ?_
 exact kZ.out) : p := h ⟨k⟩
theorem Zdv {p q : Prop} (k : q) (h : BkZ p q := by
 intro kZ
 refine cq_ (blk b8 80 [vi (Ad l m.line).value, vi (Ad l m.line).owner, vi (Ad l m.line).sharers, vi (Ad l m.line).phase, vi (Ad l m.line).who, vi (Ad l m.line).serial, .bool (Ad l m.line).alone, vi (Ad l m.line).turn, vi (Ad l m.line).need, u] :: blk b5 49 m.cells :: L) ?_
 exact kZ.out) : p := h ⟨k⟩
theorem Zdw {p q : Prop} (k : q) (h : BkZ p q := by
 intro kZ
 refine ZbW ?_
 refine djf ?_
 refine dnl ?_; intro ρ
 refine Gmc ?_
 refine rn6 ?_
 refine Ez (xs := (Ad l m.line).last) Try.sizeOf3 rfl rfl pkk (getD_some 0 (by omega)) hm.2.2.2.2.1 ?_
 refine Gl ?_
 refine JC.shut (v := v46) pkk ?_
 refine JC.know (p := v46.oneCell' = true) (fun w hs => isSlice.one (hs.fact (List.Mem.head _))) (fun hone9 => ?_)
 refine kp [0, 1, 5, 6, 7, 8, 9, 48, 78, 79, 80, 81, 82, 83, 84, 85, 86, 87, 88, 89, 90, 91, 92, 93] ?_
 refine Zdv ?_
 refine jd_ (fun ρ S => blk b8 80 (bif S 20 then [vi (Ad l m.line).value, vi (Ad l m.line).owner, vi (Ad l m.line).sharers, vi (Ad l m.line).phase, vi m.src, vi m.serial, .bool (decide (m.kind = 2)), vi ((Ad l m.line).turn + 1), vi (Ad l m.line).need, v46] else (bif S 18 then [vi (Ad l m.line).value, vi (Ad l m.line).owner, vi (Ad l m.line).sharers, vi (Ad l m.line).phase, vi m.src, vi m.serial, .bool (decide (m.kind = 2)), vi (Ad l m.line).turn, vi (Ad l m.line).need, v46] else (bif S 16 then [vi (Ad l m.line).value, vi (Ad l m.line).owner, vi (Ad l m.line).sharers, vi (Ad l m.line).phase, vi m.src, vi m.serial, .bool (Ad l m.line).alone, vi (Ad l m.line).turn, vi (Ad l m.line).need, v46] else (bif S 14 then [vi (Ad l m.line).value, vi (Ad l m.line).owner, vi (Ad l m.line).sharers, vi (Ad l m.line).phase, vi m.src, vi (Ad l m.line).serial, .bool (Ad l m.line).alone, vi (Ad l m.line).turn, vi (Ad l m.line).need, v46] else (bif S 12 then [vi (Ad l m.line).value, vi (Ad l m.line).owner, vi (Ad l m.line).sharers, vi (Ad l m.line).phase, vi (Ad l m.line).who, vi (Ad l m.line).serial, .bool (Ad l m.line).alone, vi (Ad l m.line).turn, vi (Ad l m.line).need, v46] else [vi (Ad l m.line).value, vi (Ad l m.line).owner, vi (Ad l m.line).sharers, vi (Ad l m.line).phase, vi (Ad l m.line).who, vi (Ad l m.line).serial, .bool (Ad l m.line).alone, vi (Ad l m.line).turn, vi (Ad l m.line).need, u]))))) :: blk b5 49 m.cells :: L) ?_
 refine dn9 ?_
 revert ρ hone9
 exact kZ.out) : p := h ⟨k⟩
theorem ZA {p q : Prop} (k : q) (h : BkZ p q := by
 intro kZ
 refine Aa ?_
 refine rn2 ?_
 exact kZ.out) : p := h ⟨k⟩
theorem ZS {p q : Prop} (k : q) (h : BkZ p q := by
 intro kZ
 refine JC.slNil Done ?_
 exact kZ.out) : p := h ⟨k⟩
theorem Zaa {p q : Prop} (k : q) (h : BkZ p q := by
 intro kZ
 refine JC.slNil Core ?_
 refine JC.slNil Entry ?_
 refine JC.slNil (List UInt8) ?_
 refine ZS ?_
 exact kZ.out) : p := h ⟨k⟩
theorem Zb9 {p q : Prop} (k : q) (h : BkZ p q := by
 intro kZ
 refine dn8 ?_
 refine es_ 57 0 [] [] (fun ρ => b8) (fun ρ => [.slice none 0 0, vi 0, vi 0, vi 0]) (fun ρ => [vL, vi q.kind, vi q.line, vi q.value]) Try.sizeOf57 ?_
 exact kZ.out) : p := h ⟨k⟩
theorem Zc2 {p q : Prop} (k : q) (h : BkZ p q := by
 intro kZ
 refine cq_ (blk b8 57 [.slice none 0 0, vi 0, vi 0, vi 0] :: blk b18 120 [vL, vi q.kind, vi q.line, vi q.value, vi id, vi home, v74, .slice none 0 0] :: L) ?_
 refine jd_ (fun ρ S => blk b8 57 (bif S 12 then [vL, vi q.kind, vi q.line, vi q.value] else [.slice none 0 0, vi 0, vi 0, vi 0]) :: blk b18 120 [vL, vi q.kind, vi q.line, vi q.value, vi id, vi home, v74, .slice none 0 0] :: L) ?_
 refine dn3 ?_
 refine J9 (v := .agg ([vL, vi q.kind, vi q.line, vi q.value]).toArray) (fun _ _ => F3 (b := b18) (f := 0) (vs := [vL, vi q.kind, vi q.line, vi q.value, vi id, vi home, v74, .slice none 0 0]) 4 Try.isAgg57 Try.sizeOf57) (fun _ _ _ _ _ => rfl) ?_
 refine Zb9 ?_
 refine dn2 ?_
 refine dnl ?_; intro ρ
 refine xq_ (blk b8 57 [vL, vi q.kind, vi q.line, vi q.value] :: blk b18 120 [vL, vi q.kind, vi q.line, vi q.value, vi id, vi home, v74, .slice none 0 0] :: L) ?_
 refine Gl ?_
 revert ρ
 exact kZ.out) : p := h ⟨k⟩
theorem Zc3 {p q : Prop} (k : q) (h : BkZ p q := by
 intro kZ
 refine al_ (cs := [.slice none 0 0, .slice none 0 0, .slice none 0 0]) Try.zeroValue33 ?_; intro b4
 revert b4
 exact kZ.out) : p := h ⟨k⟩
theorem ZaF {p q : Prop} (k : q) (h : BkZ p q := by
 intro kZ
 refine Gm ?_
 refine bx ?_; intro b2
 refine bx ?_; intro b3
 refine Zc3 ?_;intro b4
 refine Gb2 ?_
 revert b2 b3 b4
 exact kZ.out) : p := h ⟨k⟩
theorem ZaG {p q : Prop} (k : q) (h : BkZ p q := by
 intro kZ
 refine s_B (cs := [.slice none 0 0, .slice none 0 0, .slice none 0 0]) Try.sizeOf33 ?_
 refine Ga2 ?_
 exact kZ.out) : p := h ⟨k⟩
theorem ZJ {p q : Prop} (k : q) (h : BkZ p q := by
 intro kZ
 refine Gm ?_
 refine rn1 ?_
 exact kZ.out) : p := h ⟨k⟩
theorem Zdx {p q : Prop} (k : q) (h : BkZ p q := by
 intro kZ
 refine dn1 ?_
 refine es_ 80 4 [12] [16, 18, 20] (fun ρ => b8) (fun ρ => [vi (Ad l m.line).value, vi (Ad l m.line).owner, vi (Ad l m.line).sharers, vi (Ad l m.line).phase, vi (Ad l m.line).who, vi (Ad l m.line).serial, .bool (Ad l m.line).alone, vi (Ad l m.line).turn, vi (Ad l m.line).need, v46]) (fun ρ => [vi m.src]) Try.sizeOf3 ?_
 refine dn1 ?_
 refine es_ 80 5 [12, 14] [18, 20] (fun ρ => b8) (fun ρ => [vi (Ad l m.line).value, vi (Ad l m.line).owner, vi (Ad l m.line).sharers, vi (Ad l m.line).phase, vi m.src, vi (Ad l m.line).serial, .bool (Ad l m.line).alone, vi (Ad l m.line).turn, vi (Ad l m.line).need, v46]) (fun ρ => [vi m.serial]) Try.sizeOf3 ?_
 refine dn1 ?_
 refine es_ 80 6 [12, 14, 16] [20] (fun ρ => b8) (fun ρ => [vi (Ad l m.line).value, vi (Ad l m.line).owner, vi (Ad l m.line).sharers, vi (Ad l m.line).phase, vi m.src, vi m.serial, .bool (Ad l m.line).alone, vi (Ad l m.line).turn, vi (Ad l m.line).need, v46]) (fun ρ => [.bool (decide (m.kind = 2))]) Try.sizeOf4 ?_
 refine dn1 ?_
 refine es_ 80 7 [12, 14, 16, 18] [] (fun ρ => b8) (fun ρ => [vi (Ad l m.line).value, vi (Ad l m.line).owner, vi (Ad l m.line).sharers, vi (Ad l m.line).phase, vi m.src, vi m.serial, .bool (decide (m.kind = 2)), vi (Ad l m.line).turn, vi (Ad l m.line).need, v46]) (fun ρ => [vi ((Ad l m.line).turn + 1)]) Try.sizeOf3 ?_
 refine dnl ?_; intro ρ
 refine xq_ (blk b8 80 [vi (Ad l m.line).value, vi (Ad l m.line).owner, vi (Ad l m.line).sharers, vi (Ad l m.line).phase, vi m.src, vi m.serial, .bool (decide (m.kind = 2)), vi ((Ad l m.line).turn + 1), vi (Ad l m.line).need, v46] :: blk b5 49 m.cells :: L) ?_
 refine ZJ ?_
 have hX : EB ({ (Ad l m.line) with last := ((Ad l m.line).last.set m.src.toNat m.serial), who := m.src, serial := m.serial, alone := m.kind == 2, turn := (Ad l m.line).turn + 1 }) := by unfold EB Entry.wf An; simp only; omega
 revert ρ hX
 exact kZ.out) : p := h ⟨k⟩
theorem Zdy {p q : Prop} (k : q) (h : BkZ p q := by
 intro kZ
 have er : Al l id m = (l.set m.line.toNat (A9 ({ (Ad l m.line) with value := m.value, sharers := (Ad l m.line).sharers, owner := -1 })), D4 (A9 ({ (Ad l m.line) with value := m.value, sharers := (Ad l m.line).sharers, owner := -1 })) m.line id) := E8 (by omega) (by unfold Ag; rw [if_neg (by omega), if_neg (by omega), if_pos (by omega)]; unfold Ge; rw [ed])
 refine cq_ (blk b8 80 ((A9 ({ (Ad l m.line) with value := m.value, sharers := (Ad l m.line).sharers, owner := -1 })).cells u) :: blk b5 49 m.cells :: L) ?_
 refine jd_ (fun ρ S => blk b8 80 ((A9 ({ (Ad l m.line) with value := m.value, sharers := (Ad l m.line).sharers, owner := -1 })).cells u) :: blk b5 49 m.cells :: L) ?_
 refine dn4 ?_
 refine Bt (γ := Value) (val := fun v => v) (F := fun v => [sl v (l.set m.line.toNat (A9 ({ (Ad l m.line) with value := m.value, sharers := (Ad l m.line).sharers, owner := -1 })))]) Try.call87 (fun _ => rfl) (fun ρ L R w hd hs => Cj (e := A9 ({ (Ad l m.line) with value := m.value, sharers := (Ad l m.line).sharers, owner := -1 })) (u := u) hs (hd.base mm) (by rw [D8]; exact hd.base mm) (Di hX).1 (by omega)) (fun _ _ _ _ _ => rfl) ?_
 refine dn4 ?_
 refine Bt (γ := Value) (val := fun v => v) (F := fun v => [sl v (D4 (A9 ({ (Ad l m.line) with value := m.value, sharers := (Ad l m.line).sharers, owner := -1 })) m.line id)]) Try.call54 (fun _ => rfl) (fun ρ L R w hd hs => Iq (e := A9 ({ (Ad l m.line) with value := m.value, sharers := (Ad l m.line).sharers, owner := -1 })) (u := u) hs (Di hX) (by assumption) hm.2.2.2.1 hid) (fun _ _ _ _ _ => rfl) ?_
 refine Zb7 ?_;intro ρ
 refine xq_ (blk b8 80 ((A9 ({ (Ad l m.line) with value := m.value, sharers := (Ad l m.line).sharers, owner := -1 })).cells u) :: blk b5 49 m.cells :: L) ?_
 refine Zb8 ?_;intro v287 v292
 revert er ρ v287 v292
 exact kZ.out) : p := h ⟨k⟩
theorem Zc4 {p q : Prop} (k : q) (h : BkZ p q := by
 intro kZ
 refine Aa ?_
 refine ob (Eo (cs := [.slice none 0 0, vi 0, vi 0, vi 0]) Ht) ?_
 refine s_B Try.sizeOf57 ?_
 refine Ga3 ?_
 exact kZ.out) : p := h ⟨k⟩
theorem Zc5 {p q : Prop} (k : q) (h : BkZ p q := by
 intro kZ
 refine Glc ?_
 refine kp [5, 6, 7, 8, 9, 10, 11, 178, 179, 180, 181, 182, 183, 184, 185, 186, 187, 188, 189, 190, 191, 192, 193, 194, 195, 196, 197, 198, 199, 200] ?_
 refine Zal ?_
 exact kZ.out) : p := h ⟨k⟩
theorem Za1 {p q : Prop} (k : q) (h : BkZ p q := by
 intro kZ
 refine djc (fun _ _ => Am rfl rfl (Bh (by omega))) ?_
 exact kZ.out) : p := h ⟨k⟩
theorem ZaY {p q : Prop} (k : q) (h : BkZ p q := by
 intro kZ
 refine Za1 ?_
 refine djm ?_
 refine dn1 ?_
 exact kZ.out) : p := h ⟨k⟩
theorem ZbX {p q : Prop} (k : q) (h : BkZ p q := by
 intro kZ
 refine ZaE ?_
 refine dn9 ?_
 refine djf ?_
 refine ZP ?_;intro ρ
 refine Zc5 ?_
 refine ZaY ?_
 refine djc (fun _ _ => Fm) ?_
 refine djm ?_
 revert ρ
 exact kZ.out) : p := h ⟨k⟩
theorem ZF {p q : Prop} (k : q) (h : BkZ p q := by
 intro kZ
 refine As ?_
 refine Gd1 ?_
 exact kZ.out) : p := h ⟨k⟩
theorem ZN {p q : Prop} (k : q) (h : BkZ p q := by
 intro kZ
 refine rn4 ?_
 refine gy ?_
 exact kZ.out) : p := h ⟨k⟩
theorem Zdz {p q : Prop} (k : q) (h : BkZ p q := by
 intro kZ
 refine dnl ?_; intro ρ
 refine xq_ (blk bk 120 [vL, vi q.kind, vi q.line, vi q.value, vi id, vi home, vo, (Gh.dec (γ := Value) (ρ 16))] :: row 66 (Gh.dec (γ := Value) (ρ 16)) (ds ++ [(⟨id, q, 0⟩ : Done)]) :: foc 82 vL ls m.line.toNat [vi 0, vi 0, vi 0, vi l.serial, vi m.turn, vi m.turn, vi l.value] :: row 49 vo ms :: blk bm 49 m.cells :: (LX)) ?_
 generalize (Gh.dec (γ := Value) (ρ 15)) = v120
 generalize (Gh.dec (γ := Value) (ρ 16)) = v121
 refine Gl ?_
 refine kp [0, 1, 4, 124, 125, 126, 127, 128] ?_
 refine Aa ?_
 refine rn1 ?_
 refine Zbq ?_
 refine rn3 ?_
 refine s_N [vL, vi 0, vi 0, vi 0, vi id, vi home, vo, v121] Try.sizeOf26 ?_
 refine Gl ?_
 refine Bv ?_
 refine dn13 ?_
 refine dtl ?_; intro ρ
 refine Ao Try.call104 rfl (fun w hs => Fu (vL := vL) (vd := v121) (q := zOp) (id := id) (home := home) (ms := ms) (kind := 9) (line := m.line) (serial := 0) (turn := m.turn) (value := l.value) (LX := foc 82 vL ls m.line.toNat [vi 0, vi 0, vi 0, vi l.serial, vi m.turn, vi m.turn, vi l.value] :: row 66 v121 (ds ++ [(⟨id, q, 0⟩ : Done)]) :: blk bm 49 m.cells :: LX) (Ai hs) hn (by unfold Msg.wf An; simp only; omega)) ?_; intro v142
 refine Gl ?_
 have ef : Cv l m.kind m.turn = { l with seen := m.turn, gave := m.turn, given := l.value, state := 0, value := 0, want := 0 } := by unfold Cv; rw [if_pos ht95]
 have er : (Ae ⟨ls, q⟩ id home m) = (⟨ls.set m.line.toNat ({ l with seen := m.turn, gave := m.turn, given := l.value, state := 0, value := 0, want := 0 }), zOp⟩, [A8 9 id home m.line m.turn l.value], [⟨id, q, 0⟩]) := by rw [Jg hl hi hk, if_pos (by unfold D1; omega), ef, if_pos ht95, if_pos ht95]
 rw [er]
 revert v120 v121 ρ v142 ef er
 exact kZ.out) : p := h ⟨k⟩
theorem Zaf {p q : Prop} (k : q) (h : BkZ p q := by
 intro kZ
 refine Gl ?_
 refine ZS ?_
 exact kZ.out) : p := h ⟨k⟩
theorem Zd0 {p q : Prop} (k : q) (h : BkZ p q := by
 intro kZ
 refine cq_ (blk b8 57 [.slice none 0 0, vi 0, vi 0, vi 0] :: blk b4 57 (c.cells u) :: blk b11 82 (Ac c m.line).cells :: blk b5 3 [vi id] :: blk b6 3 [vi home] :: blk b7 49 m.cells :: L) ?_
 exact kZ.out) : p := h ⟨k⟩
theorem Zd1 {p q : Prop} (k : q) (h : BkZ p q := by
 intro kZ
 refine Zaf ?_
 refine Zd0 ?_
 refine jd_ (fun ρ S => blk b8 57 (bif S 7 then (c.cells u) else [.slice none 0 0, vi 0, vi 0, vi 0]) :: blk b4 57 (c.cells u) :: blk b11 82 (Ac c m.line).cells :: blk b5 3 [vi id] :: blk b6 3 [vi home] :: blk b7 49 m.cells :: L) ?_
 refine dn6 ?_
 refine I1 (γ := Value) (val := fun v => v) (F := fun v => [sl v [A8 9 id home m.line (Ac c m.line).gave (Ac c m.line).given]]) (caps := [bp b5 0, bp b6 0, bp b7 0]) (vs := [vi 9, vi (Ac c m.line).gave, vi (Ac c m.line).given]) (fun _ => rfl) Try.call89 (fun _ => rfl) (fun ρ S L R w hs hd => Rq hs (A0 pkk rfl) (A0 pkk rfl) (A0 pkk rfl) (by unfold An; omega) hlw.2.2.2.2.2.1 hlw.2.2.2.2.2.2 hid hhome hm.2.2.2.1) (fun _ _ _ _ _ => rfl) ?_
 refine es_ 57 0 [] [] (fun ρ => b8) (fun ρ => [.slice none 0 0, vi 0, vi 0, vi 0]) (fun ρ => (c.cells u)) Try.sizeOf57 ?_
 refine epg 6 0 ?_
 refine dn1 ?_
 refine dnl ?_; intro ρ
 refine xq_ (blk b8 57 (c.cells u) :: blk b4 57 (c.cells u) :: blk b11 82 (Ac c m.line).cells :: blk b5 3 [vi id] :: blk b6 3 [vi home] :: blk b7 49 m.cells :: L) ?_
 generalize (Gh.dec (γ := Value) (ρ 6)) = v87
 refine Gl ?_
 have er : Ae c id home m = (c, [A8 9 id home m.line (Ac c m.line).gave (Ac c m.line).given], []) := by unfold Ae; rw [if_neg (by omega)]; rw [if_neg (by omega), if_pos (by omega)]; rw [if_neg (by unfold D1; omega), if_pos (by omega)]
 rw [er]
 revert ρ v87 er
 exact kZ.out) : p := h ⟨k⟩
theorem ZV {p q : Prop} (k : q) (h : BkZ p q := by
 intro kZ
 refine ZbW ?_
 refine Zae ?_
 refine dn2 ?_
 exact kZ.out) : p := h ⟨k⟩
theorem Zd2 {p q : Prop} (k : q) (h : BkZ p q := by
 intro kZ
 refine dn1 ?_
 refine es_ 82 5 [] [9, 11] (fun ρ => b11) (fun ρ => [vi (Ac c m.line).state, vi (Ac c m.line).value, vi (Ac c m.line).want, vi (Ac c m.line).serial, vi (Ac c m.line).seen, vi (Ac c m.line).gave, vi (Ac c m.line).given]) (fun ρ => [vi m.turn]) Try.sizeOf3 ?_
 refine dn1 ?_
 refine es_ 82 4 [7] [11] (fun ρ => b11) (fun ρ => [vi (Ac c m.line).state, vi (Ac c m.line).value, vi (Ac c m.line).want, vi (Ac c m.line).serial, vi (Ac c m.line).seen, vi m.turn, vi (Ac c m.line).given]) (fun ρ => [vi m.turn]) Try.sizeOf3 ?_
 refine dn1 ?_
 refine es_ 82 6 [7, 9] [] (fun ρ => b11) (fun ρ => [vi (Ac c m.line).state, vi (Ac c m.line).value, vi (Ac c m.line).want, vi (Ac c m.line).serial, vi m.turn, vi m.turn, vi (Ac c m.line).given]) (fun ρ => [vi (Ac c m.line).value]) Try.sizeOf3 ?_
 refine dnl ?_; intro ρ
 refine xq_ (blk b11 82 [vi (Ac c m.line).state, vi (Ac c m.line).value, vi (Ac c m.line).want, vi (Ac c m.line).serial, vi m.turn, vi m.turn, vi (Ac c m.line).value] :: blk b8 57 [.slice none 0 0, vi 0, vi 0, vi 0] :: blk b4 57 (c.cells u) :: blk b5 3 [vi id] :: blk b6 3 [vi home] :: blk b7 49 m.cells :: L) ?_
 refine Gm ?_
 refine rn5 ?_
 refine Bz (caps := [bp b5 0, bp b6 0, bp b7 0]) (vs := [vi 9, vi m.turn, vi (Ac c m.line).value]) rfl Try.call89 rfl (fun w hs => Rq hs (A0 pkk rfl) (A0 pkk rfl) (A0 pkk rfl) (by unfold An; omega) hm.2.2.2.2.2.1 hlw.2.1 hid hhome hm.2.2.2.1) ?_; intro v118
 refine Ga1 ?_
 revert ρ v118
 exact kZ.out) : p := h ⟨k⟩
theorem ZbY {p q : Prop} (k : q) (h : BkZ p q := by
 intro kZ
 refine ZP ?_;intro ρ
 refine Zdp ?_
 refine ZaY ?_
 refine djc (fun _ _ => Fm) ?_
 refine djm ?_
 revert ρ
 exact kZ.out) : p := h ⟨k⟩
theorem Zd3 {p q : Prop} (k : q) (h : BkZ p q := by
 intro kZ
 refine J.know (p := v212.oneCell' = true) (fun w hs => isSlice.one (hs.fact (List.Mem.head _))) (fun hone212 => ?_)
 refine al_ (cs := [.slice none 0 0, vi 0, vi 0, vi 0]) Try.zeroValue57 ?_; intro b20
 refine s_B (cs := [v212, vi c.wait.kind, vi c.wait.line, vi c.wait.value]) Try.sizeOf57 ?_
 refine Gm ?_
 refine Zbq ?_
 refine rn1 ?_
 refine s_N [v212, vi 0, vi 0, vi 0] Try.sizeOf26 ?_
 refine Gl ?_
 have hto : An (Ay m.value c.wait).2 := Nb hm.2.2.2.2.2.2
 refine cq_ (blk b8 57 [.slice none 0 0, vi 0, vi 0, vi 0] :: blk b20 57 [v212, vi 0, vi 0, vi 0] :: blk b17 26 c.wait.cells :: blk b5 3 [vi id] :: L) ?_
 refine jd_ (fun ρ S => blk b8 57 (bif S 7 then [v212, vi 0, vi 0, vi 0] else [.slice none 0 0, vi 0, vi 0, vi 0]) :: blk b20 57 [v212, vi 0, vi 0, vi 0] :: blk b17 26 c.wait.cells :: blk b5 3 [vi id] :: L) ?_
 refine dn6 ?_
 refine Fz ([⟨id, c.wait, (Ay m.value c.wait).2⟩] : List Done) F4 rfl (fun _ => rfl) rfl (fun _ => rfl) rfl rfl (fun ρ R hd => Gi ⟨hid, hk.wwf.1, hk.wwf.2.1, hk.wwf.2.2, hto⟩) (fun _ _ _ _ _ => rfl) ?_
 refine es_ 57 0 [] [] (fun ρ => b8) (fun ρ => [.slice none 0 0, vi 0, vi 0, vi 0]) (fun ρ => [v212, vi 0, vi 0, vi 0]) Try.sizeOf57 ?_
 refine dn1 ?_
 refine epg 6 0 ?_
 refine dnl ?_; intro ρ
 refine xq_ (blk b8 57 [v212, vi 0, vi 0, vi 0] :: blk b20 57 [v212, vi 0, vi 0, vi 0] :: blk b17 26 c.wait.cells :: blk b5 3 [vi id] :: L) ?_
 generalize (Gh.dec (γ := Value) (ρ 6)) = v221
 refine Gl ?_
 revert hone212 b20 hto ρ v221
 exact kZ.out) : p := h ⟨k⟩
theorem ZB {p q : Prop} (k : q) (h : BkZ p q := by
 intro kZ
 refine Aa ?_
 refine rn1 ?_
 exact kZ.out) : p := h ⟨k⟩
theorem ZY {p q : Prop} (k : q) (h : BkZ p q := by
 intro kZ
 refine dc (fun _ _ => Am rfl rfl (Ca (by omega))) ?_
 refine Zae ?_
 refine dn9 ?_
 exact kZ.out) : p := h ⟨k⟩
theorem Za2 {p q : Prop} (k : q) (h : BkZ p q := by
 intro kZ
 have hone0 : u.oneCell' = true := isSlice.one (hs.fact hu)
 revert hone0
 exact kZ.out) : p := h ⟨k⟩
theorem ZaZ {p q : Prop} (k : q) (h : BkZ p q := by
 intro kZ
 have hid0 := hid
 have hhome0 := hhome
 unfold An at hid0 hhome0
 revert hid0 hhome0
 exact kZ.out) : p := h ⟨k⟩
theorem Zba {p q : Prop} (k : q) (h : BkZ p q := by
 intro kZ
 have hlen := Bg hu hs
 refine Za2 ?_;intro hone0
 have hn4 : ls.length ≤ 4 := hk.n
 have hm0 := hm
 unfold Msg.wf An at hm0
 refine ZaZ ?_;intro hid0 hhome0
 refine Aj Try.func77 rfl Try.ntmps77 rfl hs ?_
 revert hlen hone0 hn4 hm0 hid0 hhome0
 exact kZ.out) : p := h ⟨k⟩
theorem Zag {p q : Prop} (k : q) (h : BkZ p q := by
 intro kZ
 refine ob (Ar Try.underlying3 Try.underlying5 rfl (Cl _)) ?_
 exact kZ.out) : p := h ⟨k⟩
theorem Zbb {p q : Prop} (k : q) (h : BkZ p q := by
 intro kZ
 refine J.know (p := cY.oneCell' = true ∧ hY.oneCell' = true ∧ fY.oneCell' = true) (fun w hs => ⟨Cn .hd hs, isSlice.one (hs.fact (mm (f := sl hY x.home))), isSlice.one (hs.fact (mm (f := sl fY x.frames)))⟩) (fun h12 => ?_)
 revert h12
 exact kZ.out) : p := h ⟨k⟩
theorem Zd4 {p q : Prop} (k : q) (h : BkZ p q := by
 intro kZ
 refine Gl ?_
 refine cq_ (blk b11 82 [vi (Ac c m.line).state, vi (Ac c m.line).value, vi (Ac c m.line).want, vi (Ac c m.line).serial, vi (Ac c m.line).seen, vi (Ac c m.line).gave, vi (Ac c m.line).given] :: blk b8 57 [.slice none 0 0, vi 0, vi 0, vi 0] :: blk b4 57 (c.cells u) :: blk b5 3 [vi id] :: blk b6 3 [vi home] :: blk b7 49 m.cells :: L) ?_
 refine jd_ (fun ρ S => blk b11 82 (bif S 11 then [vi (Ac c m.line).state, vi (Ac c m.line).value, vi (Ac c m.line).want, vi (Ac c m.line).serial, vi m.turn, vi m.turn, vi (Ac c m.line).value] else (bif S 9 then [vi (Ac c m.line).state, vi (Ac c m.line).value, vi (Ac c m.line).want, vi (Ac c m.line).serial, vi m.turn, vi m.turn, vi (Ac c m.line).given] else (bif S 7 then [vi (Ac c m.line).state, vi (Ac c m.line).value, vi (Ac c m.line).want, vi (Ac c m.line).serial, vi (Ac c m.line).seen, vi m.turn, vi (Ac c m.line).given] else [vi (Ac c m.line).state, vi (Ac c m.line).value, vi (Ac c m.line).want, vi (Ac c m.line).serial, vi (Ac c m.line).seen, vi (Ac c m.line).gave, vi (Ac c m.line).given]))) :: blk b8 57 [.slice none 0 0, vi 0, vi 0, vi 0] :: blk b4 57 (c.cells u) :: blk b5 3 [vi id] :: blk b6 3 [vi home] :: blk b7 49 m.cells :: L) ?_
 refine dn5 ?_
 exact kZ.out) : p := h ⟨k⟩
theorem ZbA {p q : Prop} (k : q) (h : BkZ p q := by
 intro kZ
 refine Bc ?_
 refine rn6 ?_
 refine gy ?_
 refine Dm ?_
 exact kZ.out) : p := h ⟨k⟩
theorem Zc6 {p q : Prop} (k : q) (h : BkZ p q := by
 intro kZ
 refine Zdv ?_
 refine jd_ (fun ρ S => blk b8 80 [vi (Ad l m.line).value, vi (Ad l m.line).owner, vi (Ad l m.line).sharers, vi (Ad l m.line).phase, vi (Ad l m.line).who, vi (Ad l m.line).serial, .bool (Ad l m.line).alone, vi (Ad l m.line).turn, vi (Ad l m.line).need, u] :: blk b5 49 m.cells :: L) ?_
 refine dn4 ?_
 exact kZ.out) : p := h ⟨k⟩
theorem Zc7 {p q : Prop} (k : q) (h : BkZ p q := by
 intro kZ
 refine al_ (cs := [.slice none 0 0, .slice none 0 0, .slice none 0 0]) Try.zeroValue33 ?_; intro b7
 revert b7
 exact kZ.out) : p := h ⟨k⟩
theorem ZL {p q : Prop} (k : q) (h : BkZ p q := by
 intro kZ
 refine Gm ?_
 refine Gb1 ?_
 exact kZ.out) : p := h ⟨k⟩
theorem Za3 {p q : Prop} (k : q) (h : BkZ p q := by
 intro kZ
 refine Gb1 ?_
 refine Gb2 ?_
 exact kZ.out) : p := h ⟨k⟩
theorem Zbc {p q : Prop} (k : q) (h : BkZ p q := by
 intro kZ
 refine Zc7 ?_;intro b7
 refine s_B (cs := [cY, hY, fY]) Try.sizeOf33 ?_
 refine ZL ?_
 refine Za3 ?_
 revert b7
 exact kZ.out) : p := h ⟨k⟩
theorem Zd5 {p q : Prop} (k : q) (h : BkZ p q := by
 intro kZ
 refine cq_ (blk b8 57 [.slice none 0 0, vi 0, vi 0, vi 0] :: blk b18 120 [vL, vi q.kind, vi q.line, vi q.value, vi id, vi home, .slice none 0 0, .slice none 0 0] :: L) ?_
 refine jd_ (fun ρ S => blk b8 57 (bif S 12 then [vL, vi q.kind, vi q.line, vi q.value] else [.slice none 0 0, vi 0, vi 0, vi 0]) :: blk b18 120 [vL, vi q.kind, vi q.line, vi q.value, vi id, vi home, .slice none 0 0, .slice none 0 0] :: L) ?_
 refine dn3 ?_
 refine J9 (v := .agg ([vL, vi q.kind, vi q.line, vi q.value]).toArray) (fun _ _ => F3 (b := b18) (f := 0) (vs := [vL, vi q.kind, vi q.line, vi q.value, vi id, vi home, .slice none 0 0, .slice none 0 0]) 4 Try.isAgg57 Try.sizeOf57) (fun _ _ _ _ _ => rfl) ?_
 refine Zb9 ?_
 refine dn2 ?_
 refine dnl ?_; intro ρ
 refine xq_ (blk b8 57 [vL, vi q.kind, vi q.line, vi q.value] :: blk b18 120 [vL, vi q.kind, vi q.line, vi q.value, vi id, vi home, .slice none 0 0, .slice none 0 0] :: L) ?_
 refine Gl ?_
 revert ρ
 exact kZ.out) : p := h ⟨k⟩
theorem Zbd {p q : Prop} (k : q) (h : BkZ p q := by
 intro kZ
 refine Bn rfl ?_
 refine J.nil ?_
 exact kZ.out) : p := h ⟨k⟩
theorem Zbs {p q : Prop} (k : q) (h : BkZ p q := by
 intro kZ
 refine Es ?_
 refine Aw ?_
 refine Aa ?_
 refine Ed rfl rfl (Ly (by omega) (by omega)) ?_
 refine Bm rfl ?_
 refine J.nil ?_
 exact kZ.out) : p := h ⟨k⟩
theorem Zd6 {p q : Prop} (k : q) (h : BkZ p q := by
 intro kZ
 refine J.shut .hd ?_
 refine Kh Gy rfl rfl rfl (by decide) pkk (.head _) (fun w hs => by have : maxN = 16777216 := rfl; rw [List.length_take, I9]; simp only [List.length_cons, List.length_nil]; omega) ?_; intro v44
 refine Zbd ?_
 refine Zbs ?_
 refine Bb (k + 1, v44) (by show k + 1 ≤ b.length; omega) (by show b.length - (k + 1) < b.length - k; omega) ⟨rfl, rfl, rfl, rfl, rfl, trivial⟩ (fun w hs => ?_)
 revert v44 w hs
 exact kZ.out) : p := h ⟨k⟩
theorem ZbZ {p q : Prop} (k : q) (h : BkZ p q := by
 intro kZ
 refine Aa ?_
 refine ob (Eo (cs := [.slice none 0 0, .slice none 0 0, .slice none 0 0]) Jn) ?_
 exact kZ.out) : p := h ⟨k⟩
theorem ZG {p q : Prop} (k : q) (h : BkZ p q := by
 intro kZ
 refine rn1 ?_
 refine sc ?_
 exact kZ.out) : p := h ⟨k⟩
theorem ZO {p q : Prop} (k : q) (h : BkZ p q := by
 intro kZ
 refine djc (fun _ _ => Fm) ?_
 exact kZ.out) : p := h ⟨k⟩
theorem Zc8 {p q : Prop} (k : q) (h : BkZ p q := by
 intro kZ
 refine ob (C0 (i := 0) Try.underlying141 Try.sizeOf3 rfl rfl rfl) ?_
 refine rn1 ?_
 exact kZ.out) : p := h ⟨k⟩
theorem Zca {p q : Prop} (k : q) (h : BkZ p q := by
 intro kZ
 refine Aa ?_
 refine Zc8 ?_
 refine Bc ?_
 refine rn1 ?_
 refine gy ?_
 refine Zc8 ?_
 refine gy ?_
 refine ob (C0 (i := 1) Try.underlying141 Try.sizeOf3 rfl rfl rfl) ?_
 refine rn1 ?_
 refine gy ?_
 exact kZ.out) : p := h ⟨k⟩
theorem Zbe {p q : Prop} (k : q) (h : BkZ p q := by
 intro kZ
 refine Ga3 ?_
 have er : Al l id m = (l, []) := C8 (by omega) (by unfold Ag; rw [if_neg (by omega), if_neg (by omega), if_neg (by omega), if_neg (by omega), if_neg (by omega)])
 rw [er]
 revert er
 exact kZ.out) : p := h ⟨k⟩
theorem ZC {p q : Prop} (k : q) (h : BkZ p q := by
 intro kZ
 refine Aa ?_
 refine rn4 ?_
 exact kZ.out) : p := h ⟨k⟩
theorem Za4 {p q : Prop} (k : q) (h : BkZ p q := by
 intro kZ
 have hEB : EB (Ag (Ad l m.line) id m).1 := Eh hE hm (by omega)
 refine JC.shut (v := uo) (xs := (Ag (Ad l m.line) id m).1.last) pkk ?_
 refine JC.unfocus (Ag (Ad l m.line) id m).1 pkk (D6 mm hEB.1) ?_
 refine JC.shut (v := g13.1) pkk ?_
 revert hEB
 exact kZ.out) : p := h ⟨k⟩
theorem Za5 {p q : Prop} (k : q) (h : BkZ p q := by
 intro kZ
 refine Bv ?_
 refine dn7 ?_
 refine dnl ?_; intro ρ
 refine Gl ?_
 have er : Al l id m = (l.set m.line.toNat (Ag (Ad l m.line) id m).1, (Ag (Ad l m.line) id m).2) := by unfold Al; rw [if_neg (by omega)]
 rw [er]
 revert ρ er
 exact kZ.out) : p := h ⟨k⟩
theorem Zc9 {p q : Prop} (k : q) (h : BkZ p q := by
 intro kZ
 refine Za4 ?_;intro hEB
 refine kp [6, 7, 8, 10, 239, 240, 241, 242, 243] ?_
 refine Za5 ?_;intro ρ er
 revert hEB ρ er
 exact kZ.out) : p := h ⟨k⟩
theorem Zah {p q : Prop} (k : q) (h : BkZ p q := by
 intro kZ
 refine J.nil ?_
 refine Aw ?_
 exact kZ.out) : p := h ⟨k⟩
theorem Zai {p q : Prop} (k : q) (h : BkZ p q := by
 intro kZ
 refine Bn rfl ?_
 refine Zah ?_
 exact kZ.out) : p := h ⟨k⟩
theorem ZQ {p q : Prop} (k : q) (h : BkZ p q := by
 intro kZ
 refine rn3 ?_
 refine gy ?_
 exact kZ.out) : p := h ⟨k⟩
theorem ZaH {p q : Prop} (k : q) (h : BkZ p q := by
 intro kZ
 refine Gm ?_
 refine bx ?_; intro b5
 refine Gb2 ?_
 refine rn1 ?_
 refine Ao Try.call60 rfl (fun w hs => H0 (l := l) hs mm) ?_; intro g13
 refine Ga1 ?_
 revert b5 g13
 exact kZ.out) : p := h ⟨k⟩
theorem ZbB {p q : Prop} (k : q) (h : BkZ p q := by
 intro kZ
 refine JC.conseq (L' := foc 80 g13.1 l m.line.toNat (Entry.cells uo (Ag (Ad l m.line) id m).1) :: row 3 uo (Ag (Ad l m.line) id m).1.last :: blk b51 151 [ep g13.1 10 m.line.toNat 0, vi m.line, vi id, .slice none 0 0] :: row 49 (.slice none 0 0) (Ag (Ad l m.line) id m).2 :: L) (fun w hs => by rw [eh]; exact Ai hs) ?_
 exact kZ.out) : p := h ⟨k⟩
theorem Zcb {p q : Prop} (k : q) (h : BkZ p q := by
 intro kZ
 have eh : (Ag (Ad l m.line) id m) = ((Ad l m.line), []) := by unfold Ag; rw [if_neg (by omega), if_neg (by omega), if_neg (by omega), if_neg (by omega), if_neg (by omega)]
 refine ZbB ?_
 refine Za4 ?_;intro hEB
 refine Za5 ?_;intro ρ er
 revert eh hEB ρ er
 exact kZ.out) : p := h ⟨k⟩
theorem Zab {p q : Prop} (k : q) (h : BkZ p q := by
 intro kZ
 refine ob (Fq rfl (decide_eq_true (by omega))) ?_
 refine ZN ?_
 exact kZ.out) : p := h ⟨k⟩
theorem Zbf {p q : Prop} (k : q) (h : BkZ p q := by
 intro kZ
 have hlen := Bg hu hs
 refine Za2 ?_;intro hone0
 have hn4 := hk.n
 have hm0 := hm
 unfold Msg.wf An at hm0
 refine Aj Try.func59 rfl Try.ntmps59 rfl hs ?_
 revert hlen hone0 hn4 hm0
 exact kZ.out) : p := h ⟨k⟩
theorem Zaj {p q : Prop} (k : q) (h : BkZ p q := by
 intro kZ
 refine Gm ?_
 refine rn3 ?_
 exact kZ.out) : p := h ⟨k⟩
theorem Zam {p q : Prop} (k : q) (h : BkZ p q := by
 intro kZ
 refine Gm ?_
 refine rn4 ?_
 exact kZ.out) : p := h ⟨k⟩
theorem Zak {p q : Prop} (k : q) (h : BkZ p q := by
 intro kZ
 refine rn2 ?_
 refine sc ?_
 exact kZ.out) : p := h ⟨k⟩
theorem Zd7 {p q : Prop} (k : q) (h : BkZ p q := by
 intro kZ
 refine Zaj ?_
 refine sc ?_
 refine Zam ?_
 refine sc ?_
 refine Zak ?_
 refine Gl ?_
 refine cq_ (blk bk 120 [vL, vi q.kind, vi q.line, vi q.value, vi id, vi home, vo, vd] :: row 66 vd ds :: foc 82 vL ls m.line.toNat [vi 0, vi 0, vi 0, vi l.serial, vi m.turn, vi m.turn, vi l.value] :: row 49 vo ms :: blk bm 49 m.cells :: LX) ?_
 refine jd_ (fun ρ S => blk bk 120 (bif S 19 then [vL, vi q.kind, vi q.line, vi q.value, vi id, vi home, vo, (Gh.dec (γ := Value) (ρ 16))] else [vL, vi q.kind, vi q.line, vi q.value, vi id, vi home, vo, vd]) :: (bif S 16 then row 66 (Gh.dec (γ := Value) (ρ 16)) (ds ++ [(⟨id, q, 0⟩ : Done)]) else row 66 vd ds) :: foc 82 vL ls m.line.toNat [vi 0, vi 0, vi 0, vi l.serial, vi m.turn, vi m.turn, vi l.value] :: row 49 vo ms :: blk bm 49 m.cells :: (LX)) ?_
 refine dn4 ?_
 exact kZ.out) : p := h ⟨k⟩
theorem ZcA {p q : Prop} (k : q) (h : BkZ p q := by
 intro kZ
 refine Ga2 ?_
 have hno : ¬ (e.alone = true ∧ (k : Int) ≠ e.who ∧ e.sharers.toNat.testBit k = true) := by first | exact (fun h => absurd (ht16.symm.trans h.1) (by decide)) | exact (fun h => ht22 h.2.1) | exact (fun h => absurd (ht27.symm.trans h.2.2) (by decide))
 have e1 : C7 e (k + 1) = C7 e k := by rw [C7, if_neg hno]
 have e2 : phT e (k + 1) = phT e k := by unfold phT; rw [e1]
 refine Bb (k + 1) (by omega) (by omega) alT (fun w hs => ?_)
 revert hno e1 e2 w hs
 exact kZ.out) : p := h ⟨k⟩
theorem ZD {p q : Prop} (k : q) (h : BkZ p q := by
 intro kZ
 refine Gm ?_
 refine Ga2 ?_
 exact kZ.out) : p := h ⟨k⟩
theorem ZcB {p q : Prop} (k : q) (h : BkZ p q := by
 intro kZ
 refine dn3 ?_
 refine I1 (γ := Value) (val := fun v => v) (F := fun v => [sl v [A8 8 id home m.line m.turn 0]]) (caps := [bp b5 0, bp b6 0, bp b7 0]) (vs := [vi 8, vi m.turn, vi 0]) (fun _ => rfl) Try.call89 (fun _ => rfl) (fun ρ S L R w hs hd => Rq hs (A0 pkk rfl) (A0 pkk rfl) (A0 pkk rfl) (by unfold An; omega) hm.2.2.2.2.2.1 (by unfold An; omega) hid hhome hm.2.2.2.1) (fun _ _ _ _ _ => rfl) ?_
 exact kZ.out) : p := h ⟨k⟩
theorem ZcC {p q : Prop} (k : q) (h : BkZ p q := by
 intro kZ
 refine J.know (p := v98.oneCell' = true) (fun w hs => isSlice.one (hs.fact (List.Mem.head _))) (fun hone98 => ?_)
 refine al_ (cs := [.slice none 0 0, vi 0, vi 0, vi 0]) Try.zeroValue57 ?_; intro b14
 refine s_B (cs := [v98, vi c.wait.kind, vi c.wait.line, vi c.wait.value]) Try.sizeOf57 ?_
 refine Gm ?_
 refine rn2 ?_
 refine s_N [v98, vi q.kind, vi q.line, vi q.value] Try.sizeOf26 ?_
 refine Gl ?_
 refine ZS ?_
 revert hone98 b14
 exact kZ.out) : p := h ⟨k⟩
theorem Zbt {p q : Prop} (k : q) (h : BkZ p q := by
 intro kZ
 refine dnl ?_; intro ρ
 refine Gmc ?_
 refine Ga3 ?_
 have er : Al l id m = (l, []) := C8 (by omega) (by unfold Ag; rw [if_pos (by omega), if_pos (by unfold Dt; omega)])
 rw [er]
 revert ρ er
 exact kZ.out) : p := h ⟨k⟩
theorem ZcD {p q : Prop} (k : q) (h : BkZ p q := by
 intro kZ
 refine e_p (v := fun ρ => (Gh.dec (γ := Value × Value) (ρ 6)).1) (fun _ _ => q_x) (Ind.gh (h := fun g => ((Gh.dec (γ := Value × Value) g).1 : Value)) 6 1 rfl) (fun _ _ _ _ _ => rfl) ?_
 refine e_p (v := fun ρ => (Gh.dec (γ := Value × Value) (ρ 6)).2) (fun _ _ => q_x) (Ind.gh (h := fun g => ((Gh.dec (γ := Value × Value) g).2 : Value)) 6 1 rfl) (fun _ _ _ _ _ => rfl) ?_
 exact kZ.out) : p := h ⟨k⟩
theorem ZcE {p q : Prop} (k : q) (h : BkZ p q := by
 intro kZ
 refine e_p (v := fun ρ => (Gh.dec (γ := Value × Value) (ρ 6)).1) (fun _ _ => Dv) (Ind.gh (h := fun g => ((Gh.dec (γ := Value × Value) g).1 : Value)) 6 0 rfl) (fun _ _ _ _ _ => rfl) ?_
 refine e_p (v := fun ρ => (Gh.dec (γ := Value × Value) (ρ 6)).2) (fun _ _ => Dv) (Ind.gh (h := fun g => ((Gh.dec (γ := Value × Value) g).2 : Value)) 6 0 rfl) (fun _ _ _ _ _ => rfl) ?_
 exact kZ.out) : p := h ⟨k⟩
theorem ZaI {p q : Prop} (k : q) (h : BkZ p q := by
 intro kZ
 refine kp [0, 3, 4, 5, 6] ?_
 refine Aa ?_
 refine Ga3 ?_
 have er : Db m o = ([], 0, 3) := Ea (by omega) (by omega)
 rw [er]
 revert er
 exact kZ.out) : p := h ⟨k⟩
theorem ZE {p q : Prop} (k : q) (h : BkZ p q := by
 intro kZ
 refine Gm ?_
 refine Ga1 ?_
 exact kZ.out) : p := h ⟨k⟩
theorem ZcF {p q : Prop} (k : q) (h : BkZ p q := by
 intro kZ
 refine dtl ?_; intro ρ
 refine J.conseq (L' := blk b8 80 [vi (Ad l m.line).value, vi (Ad l m.line).owner, vi (Ad l m.line).sharers, vi (Ad l m.line).phase, vi (Ad l m.line).who, vi (Ad l m.line).serial, .bool (Ad l m.line).alone, vi (Ad l m.line).turn, vi (Ad l m.line).need, u] :: blk b5 49 m.cells :: L) (fun w hs => hs) ?_
 refine ZG ?_
 refine Gm ?_
 revert ρ
 exact kZ.out) : p := h ⟨k⟩
theorem ZM {p q : Prop} (k : q) (h : BkZ p q := by
 intro kZ
 refine Aa ?_
 refine Bm rfl ?_
 exact kZ.out) : p := h ⟨k⟩
theorem Za6 {p q : Prop} (k : q) (h : BkZ p q := by
 intro kZ
 refine ZN ?_
 refine Bc ?_
 refine ZN ?_
 exact kZ.out) : p := h ⟨k⟩
theorem Zau {p q : Prop} (k : q) (h : BkZ p q := by
 intro kZ
 refine ZA ?_
 refine ZbA ?_
 exact kZ.out) : p := h ⟨k⟩
theorem ZcG {p q : Prop} (k : q) (h : BkZ p q := by
 intro kZ
 refine kp [1, 7, 8, 9, 10, 11, 12, 42, 43] ?_
 refine Aa ?_
 refine Gb2 ?_
 exact kZ.out) : p := h ⟨k⟩
theorem Zcc {p q : Prop} (k : q) (h : BkZ p q := by
 intro kZ
 refine ZbT ?_;intro b4 b7 b8 vL honeV b18
 refine Zau ?_
 refine Gc1 ?_
 refine Bv ?_
 refine dn9 ?_
 refine dnl ?_; intro ρ
 refine Gl ?_
 refine ZcG ?_
 refine ZF ?_
 revert b4 b7 b8 vL honeV b18 ρ
 exact kZ.out) : p := h ⟨k⟩
theorem ZZ {p q : Prop} (k : q) (h : BkZ p q := by
 intro kZ
 refine ZA ?_
 refine Bc ?_
 exact kZ.out) : p := h ⟨k⟩
theorem Zan {p q : Prop} (k : q) (h : BkZ p q := by
 intro kZ
 refine ZF ?_
 refine ZF ?_
 refine Cs ?_
 exact kZ.out) : p := h ⟨k⟩
theorem ZcH {p q : Prop} (k : q) (h : BkZ p q := by
 intro kZ
 refine dn8 ?_
 refine Fz ([⟨11, id, m.src, m.line, m.serial, 0, 0, false⟩] : List Msg) Fy rfl (fun _ => rfl) rfl (fun _ => rfl) rfl rfl (fun ρ R hd => Is (by unfold Msg.wf An; simp only; omega)) (fun _ _ _ _ _ => rfl) ?_
 refine epg 4 0 ?_
 refine epg 13 0 ?_
 refine dnl ?_; intro ρ
 revert ρ
 exact kZ.out) : p := h ⟨k⟩
theorem ZcI {p q : Prop} (k : q) (h : BkZ p q := by
 intro kZ
 refine JC.conseq (L' := row 82 vL ls :: blk b68 120 [vL, vi q0.kind, vi q0.line, vi q0.value, vi id, vi home, .slice none 0 0, .slice none 0 0] :: blk b8 57 [.slice none 0 0, vi 0, vi 0, vi 0] :: blk b7 26 q.cells :: L) (fun w hs => Ai (Ep hl hlw (hs.pick pkk))) ?_
 exact kZ.out) : p := h ⟨k⟩
theorem Zbu {p q : Prop} (k : q) (h : BkZ p q := by
 intro kZ
 refine Zal ?_
 refine djc (fun _ _ => Am rfl rfl (De (by omega))) ?_
 refine djm ?_
 refine dn6 ?_
 exact kZ.out) : p := h ⟨k⟩
theorem Zbv {p q : Prop} (k : q) (h : BkZ p q := by
 intro kZ
 refine ob (C3 (c := .bool false) Try.isAgg4 (hc := A0 pkk (by show some (Value.bool m.alone) = _; rw [hal]))) ?_
 exact kZ.out) : p := h ⟨k⟩
theorem ZbC {p q : Prop} (k : q) (h : BkZ p q := by
 intro kZ
 refine s_B Try.sizeOf49 ?_
 refine Ga1 ?_
 exact kZ.out) : p := h ⟨k⟩
theorem ZaJ {p q : Prop} (k : q) (h : BkZ p q := by
 intro kZ
 refine ob (Eo (cs := zMsg.cells) Ec) ?_
 refine ZbC ?_
 exact kZ.out) : p := h ⟨k⟩
theorem Zcd {p q : Prop} (k : q) (h : BkZ p q := by
 intro kZ
 refine JC.slNil Core ?_
 refine JC.slNil Entry ?_
 refine JC.slNil (List UInt8) ?_
 refine ZbZ ?_
 refine s_B Try.sizeOf33 ?_
 refine Ga1 ?_
 have er : Cw c = (D3, 3) := H9 (by omega)
 rw [er]
 revert er
 exact kZ.out) : p := h ⟨k⟩
theorem Zce {p q : Prop} (k : q) (h : BkZ p q := by
 intro kZ
 refine H2 (ls := ls) (l := l) (i := m.line) pkk hl (by omega) (by omega) (fun hlw hA => ?_)
 have hlw0 := hlw
 unfold Line.wf An at hlw0
 have honeL : (ep vL 7 m.line.toNat 0).oneCell' = true := hA.one
 refine Bv ?_
 revert hlw hA hlw0 honeL
 exact kZ.out) : p := h ⟨k⟩
theorem ZbD {p q : Prop} (k : q) (h : BkZ p q := by
 intro kZ
 refine Ga3 ?_
 have er : Al l id m = (l, []) := by unfold Al; rw [if_pos (by omega)]
 rw [er]
 revert er
 exact kZ.out) : p := h ⟨k⟩
theorem Zd8 {p q : Prop} (k : q) (h : BkZ p q := by
 intro kZ
 refine kp [0, 1, 96, 97, 98, 99, 100, 101, 102, 103, 104] ?_
 refine Bv ?_
 refine dn9 ?_
 refine dtl ?_; intro ρ
 refine Ao Try.call104 rfl (fun w hs => Fu (vL := vL) (vd := vd) (q := q) (id := id) (home := home) (ms := ms) (kind := 10) (line := m.line) (serial := 0) (turn := m.turn) (value := 0) (LX := foc 82 vL ls m.line.toNat [vi l.state, vi l.value, vi l.want, vi l.serial, vi l.seen, vi l.gave, vi l.given] :: row 66 vd ds :: blk bm 49 m.cells :: LX) (Ai hs) hn (by unfold Msg.wf An; simp only; omega)) ?_; intro v105
 refine Gl ?_
 revert ρ v105
 exact kZ.out) : p := h ⟨k⟩
theorem Zcf {p q : Prop} (k : q) (h : BkZ p q := by
 intro kZ
 refine ob (Am rfl rfl (Lt (b := 256) (by omega) (by omega) (by omega))) ?_
 refine rn2 ?_
 refine ob (Am rfl rfl (Ls (b := 256) (by omega) (by omega) (by omega))) ?_
 exact kZ.out) : p := h ⟨k⟩
theorem Zd9 {p q : Prop} (k : q) (h : BkZ p q := by
 intro kZ
 refine Gb1 ?_
 refine rn2 ?_
 refine ob (Am rfl rfl (Lt (b := 256) (by omega) (by omega) (by omega))) ?_
 refine Zag ?_
 refine rn1 ?_
 refine ob (Am rfl rfl (Ls (b := 256) (by omega) (by omega) (by omega))) ?_
 refine Zag ?_
 have hsr : u8 (Hq (Ck m) % 256) = u8 (Hq (Ck m)) := by unfold u8; rw [Int.emod_emod_of_dvd _ (by decide)]
 refine li (α := UInt8) ([u8 (Hq (Ck m) / 256), u8 (Hq (Ck m) % 256)] : List UInt8) Gy rfl (fun j hj => ⟨⟨_, rfl, rfl⟩, ⟨⟨_, rfl, rfl⟩, trivial⟩⟩) ?_; intro v56
 rw [hsr]
 revert hsr v56
 exact kZ.out) : p := h ⟨k⟩
theorem ZcJ {p q : Prop} (k : q) (h : BkZ p q := by
 intro kZ
 refine J.know (p := v20.1.oneCell' = true ∧ v20.2.1.oneCell' = true ∧ v20.2.2.1.oneCell' = true) (fun w hs => ⟨isSlice.one (hs.fact (.head _)), isSlice.one (hs.fact (.tail _ (.head _))), isSlice.one (hs.fact (.tail _ (.tail _ (.head _))))⟩) (fun h12 => ?_)
 revert h12
 exact kZ.out) : p := h ⟨k⟩
theorem ZdA {p q : Prop} (k : q) (h : BkZ p q := by
 intro kZ
 refine Zag ?_
 refine rn2 ?_
 refine ob (Am rfl rfl (Afs (by omega) (by omega))) ?_
 refine rn2 ?_
 refine ob (Am rfl rfl Z3) ?_
 refine ob (Am rfl rfl (Afv (by omega) (by omega) (by omega) (by omega))) ?_
 refine Zag ?_
 refine rn2 ?_
 refine Zag ?_
 refine rn2 ?_
 refine ob (Am rfl rfl Jk) ?_
 refine Zag ?_
 refine rn2 ?_
 refine Zag ?_
 refine rn2 ?_
 refine ob (Am rfl rfl Jk) ?_
 refine Zag ?_
 refine rn2 ?_
 refine Zag ?_
 refine rn2 ?_
 refine Zag ?_
 refine rn1 ?_
 exact kZ.out) : p := h ⟨k⟩
theorem Zcg {p q : Prop} (k : q) (h : BkZ p q := by
 intro kZ
 refine dc (fun _ _ => Am rfl rfl (Bh (by omega))) ?_
 refine ZO ?_
 exact kZ.out) : p := h ⟨k⟩
theorem ZR {p q : Prop} (k : q) (h : BkZ p q := by
 intro kZ
 refine rn5 ?_
 refine gy ?_
 exact kZ.out) : p := h ⟨k⟩
theorem Zbg {p q : Prop} (k : q) (h : BkZ p q := by
 intro kZ
 refine JC.know (p := uo.oneCell' = true) (fun w hs => Hh (.head _) hs) (fun honeo => ?_)
 refine ZbP ?_;intro hEw u hE hE0 hL hone hlin
 revert honeo hEw u hE hE0 hL hone hlin
 exact kZ.out) : p := h ⟨k⟩
theorem ZbE {p q : Prop} (k : q) (h : BkZ p q := by
 intro kZ
 refine Gm ?_
 refine bx ?_; intro b1
 refine al_ (cs := [.slice none 0 0, .slice none 0 0, .slice none 0 0]) Try.zeroValue33 ?_; intro b2
 revert b1 b2
 exact kZ.out) : p := h ⟨k⟩
theorem ZbF {p q : Prop} (k : q) (h : BkZ p q := by
 intro kZ
 refine ZT ?_
 refine ZS ?_
 refine ZB ?_
 refine s_B Try.sizeOf57 ?_
 refine Ga2 ?_
 exact kZ.out) : p := h ⟨k⟩
theorem ZcK {p q : Prop} (k : q) (h : BkZ p q := by
 intro kZ
 refine ZbF ?_
 have er : Ae c id home m = (c, [], []) := by unfold Ae; rw [if_neg (by omega)]; rw [if_neg (by omega), if_neg (by omega), if_neg (by omega)]; rw [if_neg (by omega)]
 rw [er]
 revert er
 exact kZ.out) : p := h ⟨k⟩
theorem ZaK {p q : Prop} (k : q) (h : BkZ p q := by
 intro kZ
 refine ob (Am rfl rfl (F6 (by decide))) ?_
 refine Glc ?_
 refine Zaa ?_
 exact kZ.out) : p := h ⟨k⟩
theorem Zbw {p q : Prop} (k : q) (h : BkZ p q := by
 intro kZ
 refine dc (fun _ _ => C3 (hc := D9 (xs := (Ad l m.line).last) pkk (by omega)) Try.isAgg3) ?_
 exact kZ.out) : p := h ⟨k⟩
theorem Zch {p q : Prop} (k : q) (h : BkZ p q := by
 intro kZ
 rw [Nat.testBit_lt_two_pow (show (ent x i).sharers.toNat < 2 ^ q by have : 2 ^ n ≤ 2 ^ q := Nat.pow_le_pow_right (by omega) (by omega); omega)]
 exact kZ.out) : p := h ⟨k⟩
theorem ZbG {p q : Prop} (k : q) (h : BkZ p q := by
 intro kZ
 refine ob (C3 (c := .bool true) Try.isAgg4 (hc := A0 pkk (by show some (Value.bool m.alone) = _; rw [hal]))) ?_
 exact kZ.out) : p := h ⟨k⟩
theorem ZcL {p q : Prop} (k : q) (h : BkZ p q := by
 intro kZ
 refine Fz ([(⟨id, q, 0⟩ : Done)] : List Done) F4 rfl (fun _ => rfl) rfl (fun _ => rfl) rfl rfl (fun ρ R hd => Gi ⟨hid, hq.1, hq.2.1, hq.2.2, by unfold An; simp only; omega⟩) (fun _ _ _ _ _ => rfl) ?_
 exact kZ.out) : p := h ⟨k⟩
theorem ZdB {p q : Prop} (k : q) (h : BkZ p q := by
 intro kZ
 refine Gl ?_
 refine Gn (v := v1) (b := b) 0 mm (by omega) ?_
 refine Gn (v := v1) (b := b) 1 mm (by omega) ?_
 refine Gn (v := v1) (b := b) 2 mm (by omega) ?_
 refine Gn (v := v1) (b := b) 3 mm (by omega) ?_
 refine Gn (v := v1) (b := b) 4 mm (by omega) ?_
 refine Gn (v := v1) (b := b) 5 mm (by omega) ?_
 refine Gn (v := v1) (b := b) 6 mm (by omega) ?_
 refine Gn (v := v1) (b := b) 7 mm (by omega) ?_
 exact kZ.out) : p := h ⟨k⟩
theorem ZdC {p q : Prop} (k : q) (h : BkZ p q := by
 intro kZ
 refine Ga2 ?_
 refine JC.rowNil 5 UInt8 ?_
 refine Bx (γ := Nat × Value) (fun g => g.1 ≤ 10) (fun g => row 5 g.2 ((xs.map u8).take g.1) :: L) (fun _ => sl v35 xs :: R) (fun g => [(4, g.2), (35, v35), (36, vi (10 : Int)), (37, vi (g.1 : Int))]) (fun g => 10 - g.1) (0, .slice none 0 0) (by omega) ⟨rfl, rfl, congrArg (fun z : Nat => some (vi (z : Int))) hxl, rfl, trivial⟩ (fun w hs => Ai hs) ?_
 exact kZ.out) : p := h ⟨k⟩
theorem Zci {p q : Prop} (k : q) (h : BkZ p q := by
 intro kZ
 refine Ga7 ?_
 refine kp [2, 3, 4, 5, 6, 7, 8, 15, 16, 17, 157, 158] ?_
 refine ZB ?_
 exact kZ.out) : p := h ⟨k⟩
theorem ZcM {p q : Prop} (k : q) (h : BkZ p q := by
 intro kZ
 refine es_ 57 0 [] [] (fun ρ => b8) (fun ρ => [.slice none 0 0, vi 0, vi 0, vi 0]) (fun ρ => [v98, vi q.kind, vi q.line, vi q.value]) Try.sizeOf57 ?_
 refine epg 7 0 ?_
 refine dn2 ?_
 refine dnl ?_; intro ρ
 revert ρ
 exact kZ.out) : p := h ⟨k⟩
theorem Zbx {p q : Prop} (k : q) (h : BkZ p q := by
 intro kZ
 refine dc (fun _ _ => Am rfl rfl (J6 (by omega))) ?_
 refine Zae ?_
 exact kZ.out) : p := h ⟨k⟩
theorem Zao {p q : Prop} (k : q) (h : BkZ p q := by
 intro kZ
 refine Bv ?_
 refine dn6 ?_
 exact kZ.out) : p := h ⟨k⟩
theorem Zby {p q : Prop} (k : q) (h : BkZ p q := by
 intro kZ
 refine Zao ?_
 refine Za1 ?_
 refine djc (fun _ _ => Dv) ?_
 refine ZbR ?_;intro ρ
 revert ρ
 exact kZ.out) : p := h ⟨k⟩
theorem Zcj {p q : Prop} (k : q) (h : BkZ p q := by
 intro kZ
 refine dj ?_
 refine dc (fun _ _ => It (v := vL) (i := m.line) Ml (hl := Dq (α := Line) (xs := ls) pkk)) ?_
 refine ZP ?_;intro ρ
 refine Gl ?_
 revert ρ
 exact kZ.out) : p := h ⟨k⟩
theorem ZdD {p q : Prop} (k : q) (h : BkZ p q := by
 intro kZ
 have hbn : EB ({ e with need := 0, phase := 3 }) := en ▸ Di hb
 refine Ao Try.call108 rfl (fun w hs => Iy (e := { e with need := 0, phase := 3 }) (u := u) (ms := ms) (line := line) (id := id) (LX := foc 80 vh xs i [vi e.value, vi e.owner, vi e.sharers, vi 3, vi e.who, vi e.serial, .bool e.alone, vi e.turn, vi 0, u] :: LX) (Ai hs) (Nz .hd rfl) hA hn hbn hl hid) ?_; intro v72
 refine Gl ?_
 rw [en]
 revert hbn v72
 exact kZ.out) : p := h ⟨k⟩
theorem ZcN {p q : Prop} (k : q) (h : BkZ p q := by
 intro kZ
 refine Fz ([(⟨11, id, m.src, line, m.serial, 0, 0, false⟩ : Msg)] : List Msg) Fy rfl (fun _ => rfl) rfl (fun _ => rfl) rfl rfl (fun ρ R hd => Is hwf) (fun _ _ _ _ _ => rfl) ?_
 exact kZ.out) : p := h ⟨k⟩
theorem Za7 {p q : Prop} (k : q) (h : BkZ p q := by
 intro kZ
 refine dc (fun _ _ => Am rfl rfl (Bs (by omega))) ?_
 exact kZ.out) : p := h ⟨k⟩
theorem ZcO {p q : Prop} (k : q) (h : BkZ p q := by
 intro kZ
 refine kp [4, 5, 7, 8, 9, 10, 11, 13, 16, 43, 163, 164, 165, 166, 167, 168, 169, 170, 171, 172, 173, 174, 175, 176, 177, 178, 179, 180, 181, 182, 183, 184, 185, 186] ?_
 exact kZ.out) : p := h ⟨k⟩
theorem ZbH {p q : Prop} (k : q) (h : BkZ p q := by
 intro kZ
 refine rn4 ?_
 refine sc ?_
 refine Ga1 ?_
 exact kZ.out) : p := h ⟨k⟩
theorem ZcP {p q : Prop} (k : q) (h : BkZ p q := by
 intro kZ
 refine J.know (p := va.oneCell' = true) (fun w hs => isSlice.one (hs.fact (.head _))) (fun honeva => ?_)
 refine ZbH ?_
 refine kp [4, 5, 6, 7, 8, 9, 114, 115] ?_
 revert honeva
 exact kZ.out) : p := h ⟨k⟩
theorem ZcQ {p q : Prop} (k : q) (h : BkZ p q := by
 intro kZ
 refine Zc (fun _ => rfl) (by first | exact Ind.const _ | exact fun _ _ _ _ _ => rfl | exact Ind.self | exact Ind.gh _ 3 rfl) (fun _ _ _ _ => rfl) ?_
 refine dj ?_
 exact kZ.out) : p := h ⟨k⟩
theorem Zck {p q : Prop} (k : q) (h : BkZ p q := by
 intro kZ
 refine kp [4, 5, 7, 8, 9, 10, 11, 12, 13, 43, 88, 89, 90, 91, 92, 93, 94, 95, 96, 97, 98, 99, 100, 101, 102] ?_
 exact kZ.out) : p := h ⟨k⟩
theorem ZaL {p q : Prop} (k : q) (h : BkZ p q := by
 intro kZ
 have hlen := Bg h0 hs
 have hm0 := hm
 unfold Msg.wf An at hm0
 have hid0 := hid
 unfold An at hid0
 refine Aj Try.func76 rfl Try.ntmps76 rfl hs ?_
 revert hlen hm0 hid0
 exact kZ.out) : p := h ⟨k⟩
theorem ZaM {p q : Prop} (k : q) (h : BkZ p q := by
 intro kZ
 have hlen := Bg h0 hs
 have hm0 := hm
 unfold Msg.wf An at hm0
 have hid0 := hid
 unfold An at hid0
 refine Aj Try.func58 rfl Try.ntmps58 rfl hs ?_
 revert hlen hm0 hid0
 exact kZ.out) : p := h ⟨k⟩
theorem Zcl {p q : Prop} (k : q) (h : BkZ p q := by
 intro kZ
 have et : Bl x.frames s.n = ((x.frames.eraseIdx s.n.toNat), (Av x.frames s.n), 0) := by unfold Bl; rw [if_neg hc]
 refine ZC ?_
 revert et
 exact kZ.out) : p := h ⟨k⟩
theorem ZdE {p q : Prop} (k : q) (h : BkZ p q := by
 intro kZ
 refine dn4 ?_
 refine Ig (v := .agg q.cells.toArray) (fun ρ S hS hB hA => by have h19 : S 19 = false := hA 19 ⟨9, rfl⟩; simp only [h19, cond_false]; exact F3 (b := bk) (f := 1) (vs := [vL, vi q.kind, vi q.line, vi q.value, vi id, vi home, vo, vd]) 3 Try.isAgg26 Try.sizeOf26) (fun _ _ _ _ _ => rfl) ?_
 exact kZ.out) : p := h ⟨k⟩
theorem ZcR {p q : Prop} (k : q) (h : BkZ p q := by
 intro kZ
 refine Kj (x := x) (v := cv) s.node mm (by omega) (by omega) (fun hwt u => ?_)
 have hkb : KB (Aq x s.node) := h.kb (p := s.node.toNat) (by omega)
 have hlb := h.lbs (p := s.node) (by omega)
 have hk4 := hkb.n
 revert hwt u hkb hlb hk4
 exact kZ.out) : p := h ⟨k⟩
theorem ZdF {p q : Prop} (k : q) (h : BkZ p q := by
 intro kZ
 refine JC.shut (v := dv) pkk ?_
 refine JC.know (p := cv.oneCell' = true ∧ hv.oneCell' = true ∧ fv.oneCell' = true) (fun w hs => ⟨isSlice.one (hs.fact (mm (f := sl cv (bAt c l k).1.cores))), isSlice.one (hs.fact (mm (f := sl hv (bAt c l k).1.home))), isSlice.one (hs.fact (mm (f := sl fv (bAt c l k).1.frames)))⟩) (fun h12 => ?_)
 revert h12
 exact kZ.out) : p := h ⟨k⟩
theorem ZW {p q : Prop} (k : q) (h : BkZ p q := by
 intro kZ
 refine Aa ?_
 refine Ga2 ?_
 exact kZ.out) : p := h ⟨k⟩
theorem Zcm {p q : Prop} (k : q) (h : BkZ p q := by
 intro kZ
 refine JC.slNil Line ?_
 refine ZT ?_
 refine ZS ?_
 refine kp [1, 2, 4, 7, 8, 9, 10, 11, 46] ?_
 refine Zc4 ?_
 have er : Ah c id home q = (E4, [], [], 3) := by unfold Ah; rw [if_neg (by omega), if_pos (by omega)]
 rw [er]
 revert er
 exact kZ.out) : p := h ⟨k⟩
theorem ZcS {p q : Prop} (k : q) (h : BkZ p q := by
 intro kZ
 refine kp [4, 5, 7, 8, 9, 10, 11, 12, 13, 14, 43, 119, 120, 121, 122, 123, 124, 125, 126] ?_
 refine ZA ?_
 exact kZ.out) : p := h ⟨k⟩
theorem ZaN {p q : Prop} (k : q) (h : BkZ p q := by
 intro kZ
 refine JC.slNil Line ?_
 refine ZT ?_
 refine ZS ?_
 refine Zc4 ?_
 exact kZ.out) : p := h ⟨k⟩
theorem ZcT {p q : Prop} (k : q) (h : BkZ p q := by
 intro kZ
 refine JC.shut (v := cY) (xs := x.cores) pkk ?_
 refine ZS ?_
 refine ZA ?_
 refine s_B (cs := [cY, hY, va]) Try.sizeOf33 ?_
 refine Ga2 ?_
 exact kZ.out) : p := h ⟨k⟩
theorem ZcU {p q : Prop} (k : q) (h : BkZ p q := by
 intro kZ
 have hnt : Bl x.frames s.n = (x.frames.eraseIdx s.n.toNat, Av x.frames s.n, 0) := by unfold Bl; rw [if_neg (show ¬ (s.n < 0 ∨ (x.frames.length : Int) ≤ s.n) from hc)]
 revert hnt
 exact kZ.out) : p := h ⟨k⟩
theorem ZdG {p q : Prop} (k : q) (h : BkZ p q := by
 intro kZ
 refine cq_ (foc 80 vh xs i [vi e.value, vi e.owner, vi e.sharers, vi e.phase, vi e.who, vi e.serial, .bool e.alone, vi e.turn, vi e.need, u] :: blk bk 151 [(ep vh 10 i 0), vi line, vi id, vo] :: row 49 vo ms :: row 3 u (e.last.set m.src.toNat m.serial) :: blk bm 49 m.cells :: LX) ?_
 exact kZ.out) : p := h ⟨k⟩
theorem ZdH {p q : Prop} (k : q) (h : BkZ p q := by
 intro kZ
 refine rn1 ?_
 refine Ao Try.call101 rfl (fun w hs => Yp (vh := g13.1) (vo := .slice none 0 0) (u := uo) (i := m.line.toNat) (e := (Ad l m.line)) (ms := []) (line := m.line) (id := id) (xs := l) (m := m) (bm := b5) (LX := L) (Ai hs) hA honeo (by simp) hE hm.2.2.2.1 hid hm rfl (by omega) hL (by omega)) ?_; intro v69
 revert v69
 exact kZ.out) : p := h ⟨k⟩
theorem Zcn {p q : Prop} (k : q) (h : BkZ p q := by
 intro kZ
 refine ZaG ?_
 have er : Ak x s = (D3, [], 5) := by unfold Ak A7; rw [if_pos (by omega), if_pos (by omega)]
 rw [er]
 revert er
 exact kZ.out) : p := h ⟨k⟩
theorem Zac {p q : Prop} (k : q) (h : BkZ p q := by
 intro kZ
 refine Bv ?_
 refine dn8 ?_
 exact kZ.out) : p := h ⟨k⟩
theorem ZdI {p q : Prop} (k : q) (h : BkZ p q := by
 intro kZ
 refine cq_ (blk b4 49 zMsg.cells :: blk b2 23 c.cells :: L) ?_
 refine jd_ (fun ρ S => blk b4 49 zMsg.cells :: blk b2 23 c.cells :: ((bif S 47 then [blk (Gh.dec (γ := Nat) (ρ 47)) 49 (bif S 48 then (G4 b).cells else zMsg.cells)] else []) ++ (L))) ?_
 refine dn1 ?_
 exact kZ.out) : p := h ⟨k⟩
theorem ZcV {p q : Prop} (k : q) (h : BkZ p q := by
 intro kZ
 refine dnl ?_; intro ρ
 refine Glc ?_
 have er : Ag e id m = (e, []) := by unfold Ag; rw [if_pos (by omega), if_pos (by unfold Dt; omega)]
 rw [er, List.append_nil]
 revert ρ er
 exact kZ.out) : p := h ⟨k⟩
theorem Zco {p q : Prop} (k : q) (h : BkZ p q := by
 intro kZ
 simp only [Int.toNat_natCast, hi]
 refine hI.way fun m' hm' => ?_
 rw [List.mem_singleton.1 hm']
 exact kZ.out) : p := h ⟨k⟩
theorem ZcW {p q : Prop} (k : q) (h : BkZ p q := by
 intro kZ
 refine kp [2, 3, 4, 6, 34, 35, 36, 37, 38, 39, 40, 41, 42, 43, 44, 45, 46, 47, 48, 49, 50, 51, 52, 53, 54, 55, 56, 57, 58, 59, 60, 61] ?_
 exact kZ.out) : p := h ⟨k⟩
theorem Zav {p q : Prop} (k : q) (h : BkZ p q := by
 intro kZ
 refine ZO ?_
 refine djm ?_
 exact kZ.out) : p := h ⟨k⟩
theorem Zcp {p q : Prop} (k : q) (h : BkZ p q := by
 intro kZ
 refine djm ?_
 refine dn3 ?_
 refine Zav ?_
 refine Afo ?_
 refine ZO ?_
 refine dnl ?_; intro ρ
 revert ρ
 exact kZ.out) : p := h ⟨k⟩
theorem ZdJ {p q : Prop} (k : q) (h : BkZ p q := by
 intro kZ
 refine cq_ (foc 82 vL ls m.line.toNat [vi l.state, vi l.value, vi l.want, vi l.serial, vi l.seen, vi l.gave, vi l.given] :: blk bk 120 [vL, vi q.kind, vi q.line, vi q.value, vi id, vi home, vo, vd] :: row 49 vo ms :: row 66 vd ds :: blk bm 49 m.cells :: LX) ?_
 exact kZ.out) : p := h ⟨k⟩
theorem ZbI {p q : Prop} (k : q) (h : BkZ p q := by
 intro kZ
 refine ob (Ki Try.underlying141 Try.sizeOf3 Try.zeroValue141 rfl rfl) ?_
 exact kZ.out) : p := h ⟨k⟩
theorem ZdK {p q : Prop} (k : q) (h : BkZ p q := by
 intro kZ
 refine JC.shut (v := vL) (xs := ls) .hd ?_
 refine ZT ?_
 refine ZS ?_
 refine ZI ?_
 refine ob (F3 4 Try.isAgg57 Try.sizeOf57) ?_
 refine s_B (cs := [vL, vi q.kind, vi q.line, vi q.value]) Try.sizeOf57 ?_
 refine Ga2 ?_
 have er : (Ae ⟨ls, q⟩ id home m) = (⟨ls, q⟩, [], []) := Ma hg
 rw [er]
 revert er
 exact kZ.out) : p := h ⟨k⟩
theorem Zbh {p q : Prop} (k : q) (h : BkZ p q := by
 intro kZ
 refine ZaF ?_;intro b2 b3 b4
 refine Gb1 ?_
 refine Gb4 ?_
 refine Gb2 ?_
 revert b2 b3 b4
 exact kZ.out) : p := h ⟨k⟩
theorem ZdL {p q : Prop} (k : q) (h : BkZ p q := by
 intro kZ
 refine rn2 ?_
 refine As ?_
 refine Glc ?_
 refine kp [3, 4, 5, 6, 7, 8, 9, 10, 39, 40, 41, 42, 43, 44, 45, 46, 47, 48, 49, 50, 51, 52, 53, 54, 55, 56, 57, 58, 59, 60, 61, 62, 63, 64, 65, 66, 67, 68, 69, 70, 71, 72, 73, 74, 75, 76, 77] ?_
 refine ZA ?_
 exact kZ.out) : p := h ⟨k⟩
theorem Zad {p q : Prop} (k : q) (h : BkZ p q := by
 intro kZ
 refine Gm ?_
 refine Ga3 ?_
 exact kZ.out) : p := h ⟨k⟩
theorem ZX {p q : Prop} (k : q) (h : BkZ p q := by
 intro kZ
 refine ZA ?_
 refine Ei ?_
 exact kZ.out) : p := h ⟨k⟩
theorem Zcq {p q : Prop} (k : q) (h : BkZ p q := by
 intro kZ
 refine JC.slNil Line ?_
 refine ZT ?_
 refine ZS ?_
 refine kp [1, 2, 4, 7, 8, 9, 10, 11, 46] ?_
 refine Zc4 ?_
 have er : (Ah ⟨ls, q0⟩ id home q) = (E4, [], [], 3) := Ael (by omega) (by omega)
 rw [er]
 revert er
 exact kZ.out) : p := h ⟨k⟩
theorem Zbz {p q : Prop} (k : q) (h : BkZ p q := by
 intro kZ
 refine dn9 ?_
 refine djf ?_
 refine ZP ?_;intro ρ
 refine Zc5 ?_
 refine ZaE ?_
 refine ZaT ?_;intro ρ
 refine Zcb ?_;intro eh hEB ρ er
 revert eh hEB ρ er
 exact kZ.out) : p := h ⟨k⟩
theorem ZdM {p q : Prop} (k : q) (h : BkZ p q := by
 intro kZ
 refine kp [2, 3, 4, 6, 34, 35, 36, 37, 38, 39, 40, 41, 42, 43, 44, 45, 46, 47, 48, 49, 50, 51, 52, 53, 54, 55, 56, 57, 58, 59, 60, 61, 62, 63, 64, 65, 66, 67, 68, 69, 70, 71, 72, 73, 74, 75, 76, 77, 78, 79, 80, 81, 82, 83, 84, 85, 86, 87, 88] ?_
 exact kZ.out) : p := h ⟨k⟩
theorem Zbi {p q : Prop} (k : q) (h : BkZ p q := by
 intro kZ
 refine Gm ?_
 refine bx ?_; intro b5
 refine Ga2 ?_
 refine ZbP ?_;intro hEw u hE hE0 hL hone hlin
 revert b5 hEw u hE hE0 hL hone hlin
 exact kZ.out) : p := h ⟨k⟩
theorem Za8 {p q : Prop} (k : q) (h : BkZ p q := by
 intro kZ
 refine ZZ ?_
 refine ZQ ?_
 refine Fd ?_
 exact kZ.out) : p := h ⟨k⟩
theorem ZcX {p q : Prop} (k : q) (h : BkZ p q := by
 intro kZ
 have hX : EB ({ (Ad l m.line) with value := m.value, sharers := (Ad l m.line).sharers, owner := -1 }) := by unfold EB Entry.wf An; simp only; omega
 revert hX
 exact kZ.out) : p := h ⟨k⟩
theorem ZdN {p q : Prop} (k : q) (h : BkZ p q := by
 intro kZ
 refine es_ 49 0 [47] [] (fun ρ => (Gh.dec (γ := Nat) (ρ 47))) (fun ρ => zMsg.cells) (fun ρ => (G4 b).cells) Try.sizeOf49 ?_
 refine dnl ?_; intro ρ
 refine xq_ (blk b4 49 zMsg.cells :: blk b2 23 c.cells :: (blk (Gh.dec (γ := Nat) (ρ 47)) 49 (G4 b).cells :: L)) ?_
 revert ρ
 exact kZ.out) : p := h ⟨k⟩
theorem Zaw {p q : Prop} (k : q) (h : BkZ p q := by
 intro kZ
 refine Za6 ?_
 refine Fd ?_
 exact kZ.out) : p := h ⟨k⟩
theorem ZbJ {p q : Prop} (k : q) (h : BkZ p q := by
 intro kZ
 refine gy ?_
 refine Zab ?_
 refine ZbA ?_
 refine Zaw ?_
 exact kZ.out) : p := h ⟨k⟩
theorem ZcY {p q : Prop} (k : q) (h : BkZ p q := by
 intro kZ
 refine kp [0, 1, 4, 5, 25, 26, 27, 28, 29, 30, 31, 32, 33, 34, 35, 36, 37, 38, 39, 40, 41, 42, 43, 44, 45, 46, 47, 48, 49] ?_
 exact kZ.out) : p := h ⟨k⟩
theorem ZbK {p q : Prop} (k : q) (h : BkZ p q := by
 intro kZ
 refine dc (fun _ _ => Am rfl rfl (I5 (by omega))) ?_
 refine djf ?_
 exact kZ.out) : p := h ⟨k⟩
theorem ZdO {p q : Prop} (k : q) (h : BkZ p q := by
 intro kZ
 refine Gb1 ?_
 refine rn2 ?_
 refine ob (Am rfl rfl Jk) ?_
 refine Zag ?_
 refine rn1 ?_
 refine Zag ?_
 refine li (α := UInt8) ([u8 (Hq (Ck m) / 256), u8 (Hq (Ck m))] : List UInt8) Gy rfl (fun j hj => ⟨⟨_, rfl, rfl⟩, ⟨_, rfl, rfl⟩, trivial⟩) ?_; intro v49
 revert v49
 exact kZ.out) : p := h ⟨k⟩
theorem ZcZ {p q : Prop} (k : q) (h : BkZ p q := by
 intro kZ
 refine ZM ?_
 refine Abr Try.underlying52 rfl (by first | exact Dn pkk | exact Er mm) ?_
 refine Bm rfl ?_
 refine Zah ?_
 exact kZ.out) : p := h ⟨k⟩
theorem Zbj {p q : Prop} (k : q) (h : BkZ p q := by
 intro kZ
 refine s_B (cs := [cv, hv, fv]) Try.sizeOf33 ?_
 exact kZ.out) : p := h ⟨k⟩
theorem Zda {p q : Prop} (k : q) (h : BkZ p q := by
 intro kZ
 refine Bv ?_
 refine dn7 ?_
 refine djc (fun _ _ => Am rfl rfl (De (by omega))) ?_
 refine djm ?_
 refine dn16 ?_
 exact kZ.out) : p := h ⟨k⟩
theorem Zdb {p q : Prop} (k : q) (h : BkZ p q := by
 intro kZ
 refine kp [1, 2, 4, 7, 8, 9, 10, 11, 47, 48, 49, 50, 51, 52, 53, 54, 55, 56, 57, 58, 59, 60, 61] ?_
 refine ZI ?_
 exact kZ.out) : p := h ⟨k⟩
theorem Zcr {p q : Prop} (k : q) (h : BkZ p q := by
 intro kZ
 have hh : (Ad l m.line).need.toNat.testBit m.src.toNat = true := by rw [hhas]; simpa using ht204
 revert hh
 exact kZ.out) : p := h ⟨k⟩
theorem ZaO {p q : Prop} (k : q) (h : BkZ p q := by
 intro kZ
 refine ZF ?_
 refine ZF ?_
 refine Zan ?_
 exact kZ.out) : p := h ⟨k⟩
theorem ZaP {p q : Prop} (k : q) (h : BkZ p q := by
 intro kZ
 refine ZB ?_
 refine Bc ?_
 refine ZN ?_
 exact kZ.out) : p := h ⟨k⟩
theorem ZdP {p q : Prop} (k : q) (h : BkZ p q := by
 intro kZ
 refine ZQ ?_
 refine Ph (kv := vi) (d := (.int .i64)) (p : Int) Try.underlying78 Try.underlying3 Try.zeroValue3 rfl rfl rfl pkk ?_
 rw [hf (p : Int)]
 refine gy ?_
 refine ob (Am rfl rfl (De (by rw [hct]; rfl))) ?_
 exact kZ.out) : p := h ⟨k⟩
theorem Zcs {p q : Prop} (k : q) (h : BkZ p q := by
 intro kZ
 refine Ga3 ?_
 have er : Bl l n = ([], [], 5) := by unfold Bl; rw [if_pos (by omega)]
 rw [er]
 revert er
 exact kZ.out) : p := h ⟨k⟩
theorem ZdQ {p q : Prop} (k : q) (h : BkZ p q := by
 intro kZ
 refine rn3 ?_
 refine ZaG ?_
 have er : Ak x s = (D3, [], 3) := by unfold Ak; rw [if_neg (by omega), if_neg (by omega), if_neg (by omega), if_neg (by omega), if_pos (by omega), if_neg hnf]; rw [if_neg ht188, esp, if_pos (by decide)]
 rw [er]
 revert er
 exact kZ.out) : p := h ⟨k⟩
theorem Zct {p q : Prop} (k : q) (h : BkZ p q := by
 intro kZ
 refine cFp (p := (0 : Int) ≠ 0) (by decide) ?_
 refine ZL ?_
 refine Ga3 ?_
 exact kZ.out) : p := h ⟨k⟩
theorem ZdR {p q : Prop} (k : q) (h : BkZ p q := by
 intro kZ
 refine JC.open0 (xs := xs) (v := v35) k mm (by omega) (fun hpw => ?_)
 refine Aa ?_
 refine Gb3 ?_
 refine rn2 ?_
 refine Zag ?_
 refine li (α := UInt8) ([u8 (xs.getD k 0)] : List UInt8) Gy rfl (fun j hj => ⟨⟨_, rfl, rfl⟩, trivial⟩) ?_; intro v44
 revert hpw v44
 exact kZ.out) : p := h ⟨k⟩
theorem ZdS {p q : Prop} (k : q) (h : BkZ p q := by
 intro kZ
 refine Ue i (v := hv) mm (by omega) (fun hwe ue honeu => ?_)
 refine ZA ?_
 refine al_ (cs := [vi 0, vi 0, vi 0, vi 0, vi 0, vi 0, .bool false, vi 0, vi 0, .slice none 0 0]) Try.zeroValue80 ?_; intro b4
 refine s_B (cs := Entry.cells ue (ent x i)) Try.sizeOf80 ?_
 refine Zad ?_
 revert hwe ue honeu b4
 exact kZ.out) : p := h ⟨k⟩
theorem ZdT {p q : Prop} (k : q) (h : BkZ p q := by
 intro kZ
 have hr : ¬ (m.src < 0 ∨ c.cores < m.src ∨ m.dst < 0 ∨ c.cores < m.dst ∨ m.line < 0 ∨ c.lines ≤ m.line ∨ m.serial < 0 ∨ 65535 < m.serial ∨ m.turn < 0 ∨ 65535 < m.turn ∨ m.value < 0 ∨ 255 < m.value) := by omega
 revert hr
 exact kZ.out) : p := h ⟨k⟩
theorem ZdU {p q : Prop} (k : q) (h : BkZ p q := by
 intro kZ
 refine Gb2 ?_
 refine ZF ?_
 refine As ?_
 refine Gc1 ?_
 refine JC.know (p := va.oneCell' = true) (fun w hs => isSlice.one (hs.fact (mm (f := sl va (x.frames.eraseIdx s.n.toNat))))) (fun honea => ?_)
 refine ZA ?_
 refine sc ?_
 refine ZK ?_
 revert honea
 exact kZ.out) : p := h ⟨k⟩
theorem Zb0 {p q : Prop} (k : q) (h : BkZ p q := by
 intro kZ
 refine ob (Am rfl rfl (De rfl)) ?_
 refine Glc ?_
 exact kZ.out) : p := h ⟨k⟩
theorem Zdc {p q : Prop} (k : q) (h : BkZ p q := by
 intro kZ
 have hnt : Bl x.frames s.n = ([], [], 5) := by unfold Bl; rw [if_pos (show s.n < 0 ∨ (x.frames.length : Int) ≤ s.n from hc)]
 revert hnt
 exact kZ.out) : p := h ⟨k⟩
theorem ZdV {p q : Prop} (k : q) (h : BkZ p q := by
 intro kZ
 refine rn3 ?_
 refine ZaG ?_
 have er : Ak x s = (D3, [], 5) := by unfold Ak A7; rw [if_neg (by omega), if_neg (by omega), if_neg (by omega), if_neg (by omega), if_neg (by omega), if_pos (by omega)]; rw [if_pos (by omega)]
 rw [er]
 revert er
 exact kZ.out) : p := h ⟨k⟩
theorem Zcu {p q : Prop} (k : q) (h : BkZ p q := by
 intro kZ
 refine rn3 ?_
 refine ZaG ?_
 have er : Ak x s = (D3, [], 5) := Adr (by omega) hc
 rw [er]
 revert er
 exact kZ.out) : p := h ⟨k⟩
theorem Zbk {p q : Prop} (k : q) (h : BkZ p q := by
 intro kZ
 refine rn6 ?_
 refine gy ?_
 refine Hj ?_
 exact kZ.out) : p := h ⟨k⟩
theorem ZbL {p q : Prop} (k : q) (h : BkZ p q := by
 intro kZ
 refine ZC ?_
 refine As ?_
 refine Agk ?_
 refine gy ?_
 exact kZ.out) : p := h ⟨k⟩
theorem Zbl {p q : Prop} (k : q) (h : BkZ p q := by
 intro kZ
 refine ZZ ?_
 refine ZQ ?_
 refine G3 ?_
 exact kZ.out) : p := h ⟨k⟩
theorem Zdd {p q : Prop} (k : q) (h : BkZ p q := by
 intro kZ
 refine Zac ?_
 refine djc (fun _ _ => Am rfl rfl (Li (by omega))) ?_
 refine djm ?_
 refine dn4 ?_
 exact kZ.out) : p := h ⟨k⟩
theorem Zcv {p q : Prop} (k : q) (h : BkZ p q := by
 intro kZ
 refine Glc ?_
 refine kp [1, 5, 6, 7, 8, 41] ?_
 refine Aa ?_
 refine ZbD ?_;intro er
 revert er
 exact kZ.out) : p := h ⟨k⟩
theorem Zb1 {p q : Prop} (k : q) (h : BkZ p q := by
 intro kZ
 have hCq := hC q hq
 have hl : e'.last q = e.last q := by rw [f8]
 revert hCq hl
 exact kZ.out) : p := h ⟨k⟩
theorem Zde {p q : Prop} (k : q) (h : BkZ p q := by
 intro kZ
 have hwf : ((⟨11, id, m.src, line, m.serial, 0, 0, false⟩ : Msg) : Msg).wf := by unfold Msg.wf An; simp only; omega
 revert hwf
 exact kZ.out) : p := h ⟨k⟩
theorem Zcw {p q : Prop} (k : q) (h : BkZ p q := by
 intro kZ
 refine ZC ?_
 refine S4 ?_
 refine ZQ ?_
 refine Kk ?_
 refine ZQ ?_
 exact kZ.out) : p := h ⟨k⟩
theorem ZdW {p q : Prop} (k : q) (h : BkZ p q := by
 intro kZ
 refine dj ?_
 refine U7 (α := UInt8) (xs := b) (lo := 0) (hi := 10) Cz (fun _ => rfl) mm (fun _ => rfl) (fun _ => rfl) (by omega) (by omega) (fun _ _ _ _ => rfl) ?_
 refine dj ?_
 exact kZ.out) : p := h ⟨k⟩
theorem ZdX {p q : Prop} (k : q) (h : BkZ p q := by
 intro kZ
 refine kp [4, 10, 13, 14, 86, 87, 88, 89, 90, 91, 92, 93, 94, 95, 96, 97, 98, 99, 100, 101, 102, 103, 104, 105, 106, 107, 108, 109, 110, 111, 112, 113, 114, 115] ?_
 refine ZW ?_
 exact kZ.out) : p := h ⟨k⟩
theorem ZdY {p q : Prop} (k : q) (h : BkZ p q := by
 intro kZ
 refine ZB ?_
 refine Bc ?_
 refine rn7 ?_
 refine gy ?_
 refine ob (Am (a := 8) (b := ((l.getD n.toNat []).length : Int)) rfl rfl (Nw (by omega) (by omega))) ?_
 refine gy ?_
 exact kZ.out) : p := h ⟨k⟩
theorem ZbM {p q : Prop} (k : q) (h : BkZ p q := by
 intro kZ
 refine Aa ?_
 refine Ed rfl rfl Lh ?_
 refine Zah ?_
 exact kZ.out) : p := h ⟨k⟩
theorem Zap {p q : Prop} (k : q) (h : BkZ p q := by
 intro kZ
 refine Cs ?_
 refine Gc1 ?_
 exact kZ.out) : p := h ⟨k⟩
theorem ZdZ {p q : Prop} (k : q) (h : BkZ p q := by
 intro kZ
 refine ZbF ?_
 have er : Ae c id home m = (c, [], []) := by unfold Ae; rw [if_neg (by omega)]; rw [if_neg (by omega), if_pos (by omega)]; rw [if_neg (by unfold D1; omega), if_neg (by omega)]
 rw [er]
 revert er
 exact kZ.out) : p := h ⟨k⟩
theorem Zb2 {p q : Prop} (k : q) (h : BkZ p q := by
 intro kZ
 refine Zcg ?_
 refine djm ?_
 refine dn6 ?_
 exact kZ.out) : p := h ⟨k⟩
theorem Zcx {p q : Prop} (k : q) (h : BkZ p q := by
 intro kZ
 refine s_B (cs := [v20.1, v20.2.1, v20.2.2.1]) Try.sizeOf33 ?_
 exact kZ.out) : p := h ⟨k⟩
theorem Zdf {p q : Prop} (k : q) (h : BkZ p q := by
 intro kZ
 refine kp [8, 9, 10, 11, 130, 131, 132, 133, 134, 135, 136, 137, 138, 139, 140, 141] ?_
 exact kZ.out) : p := h ⟨k⟩
theorem Zaq {p q : Prop} (k : q) (h : BkZ p q := by
 intro kZ
 refine sc ?_
 refine ZG ?_
 exact kZ.out) : p := h ⟨k⟩
theorem Zea {p q : Prop} (k : q) (h : BkZ p q := by
 intro kZ
 refine J.know (p := v149.oneCell' = true) (fun w hs => isSlice.one (hs.fact (List.Mem.head _))) (fun hone149 => ?_)
 refine rn1 ?_
 refine s_B (cs := [v149, vi c.wait.kind, vi c.wait.line, vi c.wait.value]) Try.sizeOf57 ?_
 refine Ga2 ?_
 revert hone149
 exact kZ.out) : p := h ⟨k⟩
theorem Zbm {p q : Prop} (k : q) (h : BkZ p q := by
 intro kZ
 refine ZbZ ?_
 refine rn1 ?_
 refine ZaG ?_
 exact kZ.out) : p := h ⟨k⟩
theorem Zar {p q : Prop} (k : q) (h : BkZ p q := by
 intro kZ
 refine Gb1 ?_
 refine rn1 ?_
 exact kZ.out) : p := h ⟨k⟩
theorem Zas {p q : Prop} (k : q) (h : BkZ p q := by
 intro kZ
 refine Aa ?_
 refine Ga1 ?_
 exact kZ.out) : p := h ⟨k⟩
theorem Zdg {p q : Prop} (k : q) (h : BkZ p q := by
 intro kZ
 refine s_B (cs := (Af (Ap x) (Av x.frames s.n)).1.cells) Try.sizeOf49 ?_
 refine ZH ?_
 exact kZ.out) : p := h ⟨k⟩
theorem Zdh {p q : Prop} (k : q) (h : BkZ p q := by
 intro kZ
 refine JC.shut (v := v74) (xs := [A8 8 id home m.line m.turn 0]) pkk ?_
 refine ZS ?_
 exact kZ.out) : p := h ⟨k⟩
theorem Zeb {p q : Prop} (k : q) (h : BkZ p q := by
 intro kZ
 refine Gn (v := v1) (b := b) 8 mm (by omega) ?_
 refine Gn (v := v1) (b := b) 9 mm (by omega) ?_
 refine ZB ?_
 refine ob (Fx (i := 8) Cz) ?_
 refine rn3 ?_
 exact kZ.out) : p := h ⟨k⟩
theorem Zb3 {p q : Prop} (k : q) (h : BkZ p q := by
 intro kZ
 refine ZM ?_
 refine Zai ?_
 refine Js ?_
 exact kZ.out) : p := h ⟨k⟩
theorem Zb4 {p q : Prop} (k : q) (h : BkZ p q := by
 intro kZ
 refine ZZ ?_
 refine ZR ?_
 refine Dm ?_
 exact kZ.out) : p := h ⟨k⟩
theorem Zax {p q : Prop} (k : q) (h : BkZ p q := by
 intro kZ
 refine Aa ?_
 refine rn5 ?_
 exact kZ.out) : p := h ⟨k⟩
theorem Zay {p q : Prop} (k : q) (h : BkZ p q := by
 intro kZ
 refine rn2 ?_
 refine gy ?_
 exact kZ.out) : p := h ⟨k⟩
theorem ZbN {p q : Prop} (k : q) (h : BkZ p q := by
 intro kZ
 refine Ed rfl rfl (Nw (by omega) (by omega)) ?_
 exact kZ.out) : p := h ⟨k⟩
theorem Zec {p q : Prop} (k : q) (h : BkZ p q := by
 intro kZ
 refine cq_ (blk b3 28 s.cells :: blk b 33 [cv, hv, fv] :: L) ?_
 refine jd_ (fun ρ S => blk b3 28 s.cells :: blk b 33 [cv, hv, fv] :: L) ?_
 refine dn6 ?_
 exact kZ.out) : p := h ⟨k⟩
theorem Za9 {p q : Prop} (k : q) (h : BkZ p q := by
 intro kZ
 refine Fi ?_
 refine Aw ?_
 exact kZ.out) : p := h ⟨k⟩
theorem Zed {p q : Prop} (k : q) (h : BkZ p q := by
 intro kZ
 refine Za9 ?_
 refine ZM ?_
 refine Bm rfl ?_
 refine Xu (α := UInt8) [b.getD k 0] Gy rfl rfl rfl rfl rfl rfl (fun j hj => ⟨⟨_, rfl, rfl⟩, trivial⟩) ?_; intro v43
 refine Zd6 ?_;intro v44 w hs
 revert v43 v44 w hs
 exact kZ.out) : p := h ⟨k⟩
theorem Zee {p q : Prop} (k : q) (h : BkZ p q := by
 intro kZ
 refine dn11 ?_
 refine es_ 23 0 [] [] (fun ρ => b2) (fun ρ => zConfig.cells) (fun ρ => [vi (x.cores.length : Int), vi (x.home.length : Int)]) Try.sizeOf23 ?_
 refine dnl ?_; intro ρ
 revert ρ
 exact kZ.out) : p := h ⟨k⟩
theorem Zef {p q : Prop} (k : q) (h : BkZ p q := by
 intro kZ
 refine dc (fun _ _ => F1 (a := (((Ad l m.line).need.toNat / 2 ^ m.src.toNat : Nat) : Int)) (b := 1) (Tt (by omega) (by omega) (by omega) (by omega))) ?_
 exact kZ.out) : p := h ⟨k⟩
theorem Zeg {p q : Prop} (k : q) (h : BkZ p q := by
 intro kZ
 refine dn8 ?_
 refine es_ 57 0 [] [] (fun ρ => b8) (fun ρ => [.slice none 0 0, vi 0, vi 0, vi 0]) (fun ρ => [vL, vi 0, vi 0, vi 0]) Try.sizeOf57 ?_
 exact kZ.out) : p := h ⟨k⟩
theorem Zdi {p q : Prop} (k : q) (h : BkZ p q := by
 intro kZ
 refine dc (fun _ _ => C3 (hc := D9 (xs := e.last) pkk (by omega)) Try.isAgg3) ?_
 exact kZ.out) : p := h ⟨k⟩
theorem ZaA {p q : Prop} (k : q) (h : BkZ p q := by
 intro kZ
 refine Gb1 ?_
 refine Ga3 ?_
 exact kZ.out) : p := h ⟨k⟩
theorem Zdj {p q : Prop} (k : q) (h : BkZ p q := by
 intro kZ
 refine al_ (cs := [.slice none 0 0, .slice none 0 0, .slice none 0 0]) Try.zeroValue33 ?_; intro b6
 revert b6
 exact kZ.out) : p := h ⟨k⟩
theorem Zeh {p q : Prop} (k : q) (h : BkZ p q := by
 intro kZ
 refine ZZ ?_
 refine ZR ?_
 refine ob (Am (a := 8) (b := ((Av x.frames s.n).length : Int)) rfl rfl (Nw (by omega) (by omega))) ?_
 refine gy ?_
 exact kZ.out) : p := h ⟨k⟩
theorem Zb5 {p q : Prop} (k : q) (h : BkZ p q := by
 intro kZ
 have hn := h.n1
 have hb := h.bit i hi
 have hgi := h.gi i hi
 revert hn hb hgi
 exact kZ.out) : p := h ⟨k⟩
theorem Zei {p q : Prop} (k : q) (h : BkZ p q := by
 intro kZ
 have hb1 := Fw (Hz (by omega) hb.1) (show p < 4 by omega)
 have hb2 := Fw (Hz (by omega) hb.2) (show p < 4 by omega)
 have hown := hgi.f23 (by show 2 ≤ (ent x i).phase; omega)
 simp only [ab] at hown
 revert hb1 hb2 hown
 exact kZ.out) : p := h ⟨k⟩
theorem Zej {p q : Prop} (k : q) (h : BkZ p q := by
 intro kZ
 refine ZcS ?_
 refine Cs ?_
 refine Gd5 ?_
 refine ZG ?_
 refine ZG ?_
 refine ZK ?_
 refine Cs ?_
 refine Gmc ?_
 refine ZG ?_
 refine Zam ?_
 exact kZ.out) : p := h ⟨k⟩
theorem Zek {p q : Prop} (k : q) (h : BkZ p q := by
 intro kZ
 refine Zal ?_
 refine djc (fun _ _ => Am rfl rfl (F6 (by omega))) ?_
 refine djm ?_
 refine dn8 ?_
 refine Zav ?_
 refine dn3 ?_
 refine ZO ?_
 exact kZ.out) : p := h ⟨k⟩
theorem ZaB {p q : Prop} (k : q) (h : BkZ p q := by
 intro kZ
 refine JC.rowNil 66 Done ?_
 exact kZ.out) : p := h ⟨k⟩
theorem Zel {p q : Prop} (k : q) (h : BkZ p q := by
 intro kZ
 refine Bb (k + 1, v77, told) ⟨by show k + 1 ≤ m.length; omega, by show told = _; rw [e2, ht, e3]⟩ (by show m.length - (k + 1) < m.length - k; omega) alT (fun w hs => ?_)
 revert w hs
 exact kZ.out) : p := h ⟨k⟩
theorem Zem {p q : Prop} (k : q) (h : BkZ p q := by
 intro kZ
 refine h.home hi (by simpa using hla) ⟨hb.1, ⟨by simp only; omega, by have : 0 < 2 ^ n := Nat.two_pow_pos n; simp only; omega⟩⟩ ?_
 exact kZ.out) : p := h ⟨k⟩
theorem Zcy {p q : Prop} (k : q) (h : BkZ p q := by
 intro kZ
 refine Ga3 ?_
 have er : Db m o = ([], 0, 1) := H4 (by omega)
 rw [er]
 revert er
 exact kZ.out) : p := h ⟨k⟩
theorem Zdk {p q : Prop} (k : q) (h : BkZ p q := by
 intro kZ
 refine Bv ?_
 refine dn7 ?_
 refine dj ?_
 refine dc (fun _ _ => It (v := vL) (i := q.line) Ml (hl := Dq (α := Line) (xs := ls) pkk)) ?_
 exact kZ.out) : p := h ⟨k⟩
theorem Zen {p q : Prop} (k : q) (h : BkZ p q := by
 intro kZ
 have hnx : A7 ⟨x.cores, x.home, fs⟩ = (n : Int) := by unfold A7; simp only; rw [h.nc]
 rw [hnx]
 have hcn : (Ef n nl).cores = (n : Int) := rfl
 have hln : (Ef n nl).lines = (nl : Int) := rfl
 revert hnx hcn hln
 exact kZ.out) : p := h ⟨k⟩
theorem Zeo {p q : Prop} (k : q) (h : BkZ p q := by
 intro kZ
 refine Ga1 ?_
 have er : Lv x node = 5 ∧ Fo x node = x.frames := by unfold Lv Fo A7; rw [if_pos (by omega), if_pos (by omega)]; exact ⟨rfl, rfl⟩
 rw [er.1, er.2]
 revert er
 exact kZ.out) : p := h ⟨k⟩
theorem Zep {p q : Prop} (k : q) (h : BkZ p q := by
 intro kZ
 refine Bb (k + 1, v77, m.getD k 0) ⟨by show k + 1 ≤ m.length; omega, by show _ = _; rw [e2]⟩ (by show m.length - (k + 1) < m.length - k; omega) alT (fun w hs => ?_)
 revert w hs
 exact kZ.out) : p := h ⟨k⟩
theorem ZaC {p q : Prop} (k : q) (h : BkZ p q := by
 intro kZ
 refine Aa ?_
 refine Zai ?_
 exact kZ.out) : p := h ⟨k⟩
theorem ZbO {p q : Prop} (k : q) (h : BkZ p q := by
 intro kZ
 refine sc ?_
 refine Gm ?_
 refine Ga5 ?_
 exact kZ.out) : p := h ⟨k⟩
theorem ZaD {p q : Prop} (k : q) (h : BkZ p q := by
 intro kZ
 refine ZN ?_
 refine Ei ?_
 exact kZ.out) : p := h ⟨k⟩
theorem Zdl {p q : Prop} (k : q) (h : BkZ p q := by
 intro kZ
 refine Zci ?_
 refine ob (Am rfl rfl (De (by decide))) ?_
 refine Gmc ?_
 exact kZ.out) : p := h ⟨k⟩
theorem Zeq {p q : Prop} (k : q) (h : BkZ p q := by
 intro kZ
 refine cq_ (blk b2 33 [cv, hv, fv] :: blk b3 28 s.cells :: blk b4 33 [.slice none 0 0, .slice none 0 0, .slice none 0 0] :: L) ?_
 exact kZ.out) : p := h ⟨k⟩
theorem Zer {p q : Prop} (k : q) (h : BkZ p q := by
 intro kZ
 refine kp [7, 8, 9, 10, 11, 12, 13, 119, 120, 121, 122, 123, 124, 125, 126, 127, 128, 129, 130, 131, 132, 133, 134, 135, 136] ?_
 exact kZ.out) : p := h ⟨k⟩
theorem Zdm {p q : Prop} (k : q) (h : BkZ p q := by
 intro kZ
 refine kp [0, 1, 5, 6, 7, 8, 48, 205] ?_
 refine Aa ?_
 refine Ga3 ?_
 exact kZ.out) : p := h ⟨k⟩
theorem Zdn {p q : Prop} (k : q) (h : BkZ p q := by
 intro kZ
 refine ZF ?_
 refine ZF ?_
 refine ZF ?_
 refine As ?_
 refine Gc1 ?_
 exact kZ.out) : p := h ⟨k⟩
theorem Zaz {p q : Prop} (k : q) (h : BkZ p q := by
 intro kZ
 refine Gm ?_
 refine bx ?_; intro b3
 revert b3
 exact kZ.out) : p := h ⟨k⟩
theorem Zdo {p q : Prop} (k : q) (h : BkZ p q := by
 intro kZ
 refine H2 (ls := ls) (l := l) (i := q.line) pkk hl (by omega) (by omega) (fun hlw hA => ?_)
 have hlw0 := hlw
 unfold Line.wf An at hlw0
 have honeL : (ep vL 7 q.line.toNat 0).oneCell' = true := hA.one
 revert hlw hA hlw0 honeL
 exact kZ.out) : p := h ⟨k⟩
theorem Zcz {p q : Prop} (k : q) (h : BkZ p q := by
 intro kZ
 refine Bf (.inr rfl) (fun B w hs => Afa rfl rfl B w) (fun w hs => ?_)
 revert w hs
 exact kZ.out) : p := h ⟨k⟩
theorem ZaQ {p q : Prop} (k : q) (h : BkZ p q := by
 intro kZ
 refine Gm ?_
 refine Gb2 ?_
 exact kZ.out) : p := h ⟨k⟩
theorem ZaR {p q : Prop} (k : q) (h : BkZ p q := by
 intro kZ
 refine As ?_
 refine Gmc ?_
 exact kZ.out) : p := h ⟨k⟩
theorem Zes {p q : Prop} (k : q) (h : BkZ p q := by
 intro kZ
 refine J9 (v := vi (Ah (Aq x s.node) s.node (x.cores.length : Int) s.op).2.2.2) (fun _ _ => q_x) (fun _ _ _ _ _ => rfl) ?_
 exact kZ.out) : p := h ⟨k⟩
theorem Zet {p : Prop} (h : p := by
 refine ZI ?_
 refine Ao Try.call83 rfl (fun w hs => M5 (v := (Ac c q.line).value) (o := q) hs (by unfold Line.wf at hlw; exact hlw.2.1) (by omega) (by omega) (by omega)) ?_; intro _
 refine ZbH ?_
 refine Zbo ?_;intro hvb
 have hXw : ({ (Ac c q.line) with value := (Ay (Ac c q.line).value q).1 } : Line).wf := by unfold Line.wf An at hlw ⊢; simp only; omega
 refine ZbQ ?_;intro hvb
 refine es_ 57 0 [] [] (fun ρ => b8) (fun ρ => [.slice none 0 0, vi 0, vi 0, vi 0]) (fun ρ => [Gh.dec (γ := Value) (ρ 4), vi c.wait.kind, vi c.wait.line, vi c.wait.value]) Try.sizeOf57 (h1 := (fun ρ R w L' hd hs => Bi (isSlice.one (hs.fact (hd.dep (it := ⟨4, _, _, _, _⟩) (by repeat (first | exact List.Mem.head _ | refine List.Mem.tail _ ?_)) ⟨9, rfl⟩ (List.Mem.head _)))) (by repeat (first | exact D7 | refine Bi rfl ?_)))) ?_
 refine ZbU ?_;intro ρ v126 v131 eb ed hz et er
 exact Fc (v126, .slice none 0 0, v131) Try.isAgg57 Try.sizeOf57) : p := h
theorem Zeu {p : Prop} (h : p := by
 refine Zap ?_
 rcases (show ((Ad l m.line).phase ≠ 0) ∨ ((Ad l m.line).phase = 0 ∧ m.serial ≤ (Ad l m.line).last.getD m.src.toNat 0) ∨ ((Ad l m.line).phase = 0 ∧ (Ad l m.line).last.getD m.src.toNat 0 < m.serial ∧ 65535 ≤ (Ad l m.line).turn) ∨ ((Ad l m.line).phase = 0 ∧ (Ad l m.line).last.getD m.src.toNat 0 < m.serial ∧ (Ad l m.line).turn < 65535) from by omega) with hc | hc | hc | hc
 ·refine Zek ?_
  refine Zbt ?_;intro ρ er
  exact Ci (v0, .slice none 0 0) (hs := fun w hs => Ai (St.shut (hs.rowNil 49 Msg)))
 ·refine Zbu ?_
  refine dj (dgy ?_)
  refine Zbw ?_
  refine dj (dgy ?_)
  refine dc (fun _ _ => Am rfl rfl (Qc (by omega))) ?_
  refine Zae ?_
  refine dn3 ?_
  refine ZO ?_
  refine Zbt ?_;intro ρ er
  exact Ci (v0, .slice none 0 0) (hs := fun w hs => Ai (St.shut (hs.rowNil 49 Msg)))
 ·refine Zbu ?_
  refine dj (dgy ?_)
  refine Zbw ?_
  refine dj (dgy ?_)
  refine Zbx ?_
  refine dn2 ?_
  refine dj (dgy ?_)
  refine ZbK ?_
  refine Zbt ?_;intro ρ er
  exact Ci (v0, .slice none 0 0) (hs := fun w hs => Ai (St.shut (hs.rowNil 49 Msg)))
 ·refine Zbu ?_
  refine dj (dgy ?_)
  refine Zbw ?_
  refine dj (dgy ?_)
  refine Zbx ?_
  refine dn2 ?_
  refine dj (dgy ?_)
  refine Zdw ?_;intro ρ hone9
  refine Ig (v := vi (Ad l m.line).turn) (fun ρ S hS hB hA => by have h20 : S 20 = false := hA 20 ⟨0, rfl⟩; simp only [h20, cond_false]; exact C3 (hc := A0 pkk (by repeat (first | exact rfl | refine Dd rfl ?_))) Try.isAgg3) (fun _ _ _ _ _ => rfl) ?_
  first | refine epc (fun _ _ => Fj) ?_ | refine epc (fun _ _ => Gc) ?_ | refine epp (fun _ _ => Fj) ?_ | refine epp (fun _ _ => Gc) ?_
  refine dn1 ?_
  refine es_ 80 9 [] [14, 16, 18, 20] (fun ρ => b8) (fun ρ => [vi (Ad l m.line).value, vi (Ad l m.line).owner, vi (Ad l m.line).sharers, vi (Ad l m.line).phase, vi (Ad l m.line).who, vi (Ad l m.line).serial, .bool (Ad l m.line).alone, vi (Ad l m.line).turn, vi (Ad l m.line).need, u]) (fun ρ => [v46]) Try.sizeOf68 (h1 := (fun ρ R w L' hd hs u hu => by cases List.mem_singleton.1 hu; exact hone9)) (hv := (fun _ => Hn hone9)) ?_
  refine Zdx ?_;intro ρ hX
  refine Ao Try.call86 rfl (fun w hs => J0 (e := { (Ad l m.line) with last := ((Ad l m.line).last.set m.src.toNat m.serial), who := m.src, serial := m.serial, alone := m.kind == 2, turn := (Ad l m.line).turn + 1 }) (u := v46) hs hX (by assumption)) ?_; intro _
  refine Zdr ?_;intro er ρ v287 v292
  exact Ci (v287, v292)) : p := h
theorem Zev {p : Prop} (h : p := by
 intro ht95
 refine Zd7 ?_
 refine Ig (v := vd) (fun ρ S hS hB hA => by have h19 : S 19 = false := hA 19 ⟨0, rfl⟩; simp only [h19, cond_false]; exact C3 (hc := A0 pkk (by repeat (first | exact rfl | refine Dd rfl ?_))) Try.isAgg34) (fun _ _ _ _ _ => rfl) ?_
 refine dn3 ?_
 refine Ig (v := vi id) (fun ρ S hS hB hA => by have h19 : S 19 = false := hA 19 ⟨0, rfl⟩; simp only [h19, cond_false]; exact C3 (hc := A0 pkk (by repeat (first | exact rfl | refine Dd rfl ?_))) Try.isAgg3) (fun _ _ _ _ _ => rfl) ?_
 refine ZdE ?_
 first | refine epc (fun _ _ => Eo Ik) ?_ | refine epc (fun _ _ => Fn Ik) ?_ | refine epp (fun _ _ => Eo Ik) ?_ | refine epp (fun _ _ => Fn Ik) ?_
 refine ZcL ?_
 refine F9 (e := 66) (xs := ds) (ys := [(⟨id, q, 0⟩ : Done)]) (v := vd) F4 (fun _ => rfl) (fun _ => rfl) rfl (by decide) (fun ρ R hd => (hd.dep (it := ⟨15, _, _, _, _⟩) (by repeat (first | exact List.Mem.head _ | refine List.Mem.tail _ ?_)) ⟨9, rfl⟩ (List.Mem.head _))) (by have : maxN = 16777216 := rfl; simp only [List.length_cons, List.length_nil]; omega) (fun ρ g S hS hB hA => ?_) ?_
 ·have ui : upS S 16 16 = true := rfl; have u19 : upS S 16 19 = S 19 := rfl; have h19 : S 19 = false := hA 19 ⟨0, rfl⟩; have rs : (Gh.dec (γ := Value) (Rho.set ρ 16 (Gh.enc g) 16)) = g := rfl
  simp only [ui, hS, u19, h19, rs, cond_true, cond_false]
  exact pex
 refine dn2 ?_
 refine Eu (T0 := 120) (f := 7) (vs := fun ρ => [vL, vi q.kind, vi q.line, vi q.value, vi id, vi home, vo, vd]) (v := fun ρ => (Gh.dec (γ := Value) (ρ 16))) (fun ρ => bk) Try.sizeOf34 (fun _ => rfl) (fun _ => rfl) (fun ρ S R w L9 hB hd hs => by have h16 : S 16 = true := hB 16 ⟨9, rfl⟩; simp only [h16, cond_true] at hs; exact Cn pkk hs) (fun _ => rfl) (fun ρ g S hS hB hA => ?_) ?_
 ·have ui : upS S 19 19 = true := rfl; have u16 : upS S 19 16 = S 16 := rfl; have r16 : Rho.set ρ 19 g 16 = ρ 16 := rfl
  simp only [ui, hS, u16, r16, cond_true, cond_false]
  exact pex
 refine Zdz ?_;intro v120 v121 ρ v142 ef er
 refine Bf (.inl rfl) (fun B w hs => Im rfl _ w) (fun w hs => ⟨(v142, v121), rfl, Ai (Ds ({ l with seen := m.turn, gave := m.turn, given := l.value, state := 0, value := 0, want := 0 }) (by unfold Line.wf An; simp only; omega) (hs.pick pkk))⟩)) : p := h
theorem Zew {p : Prop} (h : p := by
 refine ZB ?_
 refine Zaq ?_
 refine Gl ?_
 have hXw : ({ (Ac c q.line) with state := 0, value := 0 } : Line).wf := by unfold Line.wf An at hlw ⊢; simp only; omega
 refine ZbS ?_;intro hvb
 refine es_ 57 0 [] [] (fun ρ => b8) (fun ρ => [.slice none 0 0, vi 0, vi 0, vi 0]) (fun ρ => [Gh.dec (γ := Value) (ρ 4), vi c.wait.kind, vi c.wait.line, vi c.wait.value]) Try.sizeOf57 (h1 := (fun ρ R w L' hd hs => Bi (isSlice.one (hs.fact (hd.dep (it := ⟨4, _, _, _, _⟩) (by repeat (first | exact List.Mem.head _ | refine List.Mem.tail _ ?_)) ⟨9, rfl⟩ (List.Mem.head _)))) (by repeat (first | exact D7 | refine Bi rfl ?_)))) ?_
 refine ZbV ?_;intro ρ v126 v131 eb ed hz et er
 exact Fc (v126, .slice none 0 0, v131) Try.isAgg57 Try.sizeOf57) : p := h
theorem Zex {p : Prop} (h : p := by
 refine ZD ?_
 refine Zct ?_
 refine cdy ?_ ?_
 ·intro ht111
  refine kp [1, 4, 7, 8, 9, 10, 11, 12, 15, 112, 113] ?_
  exact Zew
 ·intro ht111
  refine kp [1, 4, 7, 8, 9, 10, 11, 12, 15, 114, 115, 116, 117, 118, 119, 120, 121] ?_
  exact Zet) : p := h
theorem Zey {p : Prop} (h : p := by
 refine kp [1, 2, 4, 7, 8, 9, 10, 11, 12, 13, 83, 84] ?_
 refine ZW ?_
 refine Zct ?_
 refine cdy ?_ ?_
 ·intro ht111
  exact Zew
 ·intro ht111
  exact Zet) : p := h
theorem Zez {p : Prop} (h : p := by
 refine ZdC ?_
 rintro ⟨k, v4⟩ hk
 try simp only at hk ⊢
 refine Gl ?_
 refine kp [2, 4, 35, 36, 37, 38] ?_
 refine Zas ?_
 refine cdy ?_ ?_
 ·intro ht38
  refine Gl ?_
  refine ZdR ?_;intro hpw v44
  refine ap Gy (hb := fun w hs => by have : maxN = 16777216 := rfl; first | (rw [Jf]; simp only [List.length_cons, List.length_nil]; omega) | (rw [List.length_take, List.length_map]; simp only [List.length_cons, List.length_nil]; omega)) (k := ?_); intro v45
  refine ZH ?_
  refine Bb (k + 1, v45) (by show k + 1 ≤ 10; omega) (by show 10 - (k + 1) < 10 - k; omega) alT (fun w hs => ?_)
  try simp only
  have e9 : (xs.map u8).take (k + 1) = (xs.map u8).take k ++ [u8 (xs.getD k 0)] := by rw [G7 0 (by rw [List.length_map]; omega)]; simp [List.getD_eq_getElem?_getD, List.getElem?_map, List.getElem?_eq_getElem (show k < xs.length by omega)]
  rw [e9]; exact Ai hs
 ·intro ht38
  refine Gl ?_
  have hk10 : k = 10 := by omega
  subst hk10
  rw [List.take_of_length_le (by rw [List.length_map]; omega), hxb]
  have hsm := Oe (Ck m)
  refine ZB ?_
  refine Ao (γ := Unit) (val := fun _ => vi (Hq (Ck m))) Try.call63 rfl (fun w hs => lend .hd (fun L R w hs hf _ => Ip hs hf) hs) ?_; intro _
  refine Zd9 ?_;intro hsr v56
  refine ap Gy (hb := fun w hs => by have : maxN = 16777216 := rfl; first | (rw [Jf]; simp only [List.length_cons, List.length_nil]; omega) | (rw [List.length_take, List.length_map]; simp only [List.length_cons, List.length_nil]; omega)) (k := ?_); intro v57
  refine Ga1 ?_
  exact Co v57 (hs := fun w hs => Ai (St.shut (hs.pick pkk)))) : p := h
theorem Ze0 {p : Prop} (h : p := by
 refine Zbu ?_
 refine dj (dgy ?_)
 refine Zbw ?_
 refine dj (dgy ?_)
 refine Zbx ?_
 refine dn2 ?_
 refine dj (dgy ?_)
 refine Zdw ?_;intro ρ hone9
 refine Ig (v := vi (Ad l m.line).turn) (fun ρ S hS hB hA => by have h20 : S 20 = false := hA 20 ⟨0, rfl⟩; simp only [h20, cond_false]; exact C3 (hc := A0 pkk (by repeat (first | exact rfl | refine Dd rfl ?_))) Try.isAgg3) (fun _ _ _ _ _ => rfl) ?_
 first | refine epc (fun _ _ => Fj) ?_ | refine epc (fun _ _ => Gc) ?_ | refine epp (fun _ _ => Fj) ?_ | refine epp (fun _ _ => Gc) ?_
 refine dn1 ?_
 refine es_ 80 9 [] [14, 16, 18, 20] (fun ρ => b8) (fun ρ => [vi (Ad l m.line).value, vi (Ad l m.line).owner, vi (Ad l m.line).sharers, vi (Ad l m.line).phase, vi (Ad l m.line).who, vi (Ad l m.line).serial, .bool (Ad l m.line).alone, vi (Ad l m.line).turn, vi (Ad l m.line).need, u]) (fun ρ => [v46]) Try.sizeOf68 (h1 := (fun ρ R w L' hd hs u hu => by cases List.mem_singleton.1 hu; exact hone9)) (hv := (fun _ => Hn hone9)) ?_
 refine Zdx ?_;intro ρ hX
 refine Ao Try.call86 rfl (fun w hs => J0 (e := { (Ad l m.line) with last := ((Ad l m.line).last.set m.src.toNat m.serial), who := m.src, serial := m.serial, alone := m.kind == 2, turn := (Ad l m.line).turn + 1 }) (u := v46) hs hX (by assumption)) ?_; intro _
 refine Zdr ?_;intro er ρ v287 v292
 exact Ci (v287, v292)) : p := h
theorem Ze1 {p : Prop} (h : p := by
 exact Ci (v0, .slice none 0 0) (hs := fun w hs => Ai (St.shut (hs.rowNil 49 Msg)))) : p := h
theorem Ze2 {p : Prop} (h : p := by
 have et : Bl x.frames s.n = ([], [], 5) := by unfold Bl; rw [if_pos (by unfold Cp at hc; exact hc)]
 refine ZC ?_
 refine Ao (γ := Value × Value) (val := fun v => .tuple #[v.1, v.2, vi 5]) (Rf := fun v => sl v.1 ([] : Frames) :: sl v.2 ([] : List UInt8) :: R) Try.call55 rfl (fun w hs => by have h9 := Io (l := x.frames) (n := s.n) hs mm hsN; rw [et] at h9; exact h9) ?_; intro ⟨va, vb⟩
 refine Zci ?_
 refine ZaK ?_
 refine ZA ?_
 refine Bz (caps := []) (vs := [vi 5]) rfl Try.call49 rfl (fun w hs => K1 hs) ?_; intro _
 refine Zcu ?_;intro er
 exact Cf (.slice none 0 0, .slice none 0 0, .slice none 0 0, .slice none 0 0) Try.isAgg33 Try.sizeOf33) : p := h
theorem Ze3 {p : Prop} (h : p := by
 exact Fc (.slice none 0 0, .slice none 0 0, .slice none 0 0) Try.isAgg57 Try.sizeOf57) : p := h
theorem Ze4 {p : Prop} (h : p := by
 rcases (show s = 0 ∨ s = 1 ∨ s = 2 ∨ s = 3 ∨ s = 4 ∨ s = 5 ∨ s = 6 ∨ s = 7 ∨ s = 8 ∨ s = 9 ∨ s = 10 ∨ s = 11 ∨ s = 12 ∨ s = 13 ∨ s = 14 ∨ s = 15 by omega) with h | h | h | h | h | h | h | h | h | h | h | h | h | h | h | h <;> rcases (show k = 0 ∨ k = 1 ∨ k = 2 ∨ k = 3 by omega) with g | g | g | g <;> subst h <;> subst g <;> rfl) : p := h
theorem Ze5 {p : Prop} (h : p := by
 refine Zap ?_
 refine ZU ?_
 refine ZaB ?_
 have hkd : m.kind = 5 ∨ m.kind = 6 := by omega
 refine ZB ?_
 refine Ao Try.call105 rfl (fun w hs => R7 (vL := vL) (vo := .slice none 0 0) (vd := .slice none 0 0) (bk := b18) (bm := b7) (q := q) (id := id) (home := home) (ls := ls) (l := l) (ms := []) (ds := []) (m := m) (LX := blk b8 57 [.slice none 0 0, vi 0, vi 0, vi 0] :: L) (Ai hs) hl (by omega) (by omega) hm hid hhome (by simp) (by simp) hk.wwf hkd) ?_; intro ⟨g1, g2⟩
 refine J.conseq (L' := blk b18 120 [vL, vi (Ae ⟨ls, q⟩ id home m).1.wait.kind, vi (Ae ⟨ls, q⟩ id home m).1.wait.line, vi (Ae ⟨ls, q⟩ id home m).1.wait.value, vi id, vi home, g1, g2] :: row 82 vL (Ae ⟨ls, q⟩ id home m).1.lines :: row 49 g1 (Ae ⟨ls, q⟩ id home m).2.1 :: row 66 g2 (Ae ⟨ls, q⟩ id home m).2.2 :: blk b8 57 [.slice none 0 0, vi 0, vi 0, vi 0] :: L) (fun w hs => by rw [List.nil_append, List.nil_append] at hs; exact Ai hs) ?_
 refine Zc0 ?_;intro ρ
 exact Cf (vL, g1, g2) Try.isAgg57 Try.sizeOf57) : p := h
theorem Ze6 {p : Prop} (h : p := by
 constructor
 ·have g0 := hG.own; have g1 := hG.own; grind
 ·have g0 := hG.own; have g1 := hG.ph; grind
 ·have g0 := hG.own; have g1 := hG.idle; grind
 ·have g0 := hG.own; have g1 := hG.whor; grind
 ·have g0 := hG.own; have g1 := hG.f1; grind
 ·have g0 := hG.own; have g1 := hG.f23; grind
 ·intro h2; omega
 ·have g0 := hG.own; have g1 := hG.al; grind
 ·have g0 := hG.own; have g1 := hG.tu; grind
 ·have g0 := hG.own; have g1 := hG.va; grind
 ·have g0 := hG.own; have g1 := hG.se; grind) : p := h
theorem Ze7 {p : Prop} (h : p := by
 exact Ci (g13.1, .slice none 0 0) (hs := fun w hs => Ai (St.shut (hs.pick pkk)))) : p := h
theorem Ze8 {p : Prop} (h : p := by
 refine Az ?_ (fun w hs => hs)
 refine ⟨by first | exact congrArg (fun b => some (Value.bool b)) (decide_eq_false (by first | exact .inl hm | exact .inr hm | exact .inl ⟨hc1, hal⟩ | exact .inr ⟨hc1, hal⟩ | (rintro (⟨a, b⟩ | ⟨a, b⟩) <;> first | omega | exact absurd (hal.symm.trans b) (by decide)))).symm | exact congrArg (fun b => some (Value.bool b)) (by simp; omega), alT⟩) : p := h
theorem Ze9 {p : Prop} (h : p := by
 exact Gt (.slice none 0 0) (hs := fun w hs => Ai (St.shut (hs.rowNil 3 Int)))) : p := h
theorem ZeA {p : Prop} (h : p := by
 rcases (show (m.turn ≤ (Ac c m.line).seen) ∨ ((Ac c m.line).seen < m.turn ∧ (Ac c m.line).state = 2) ∨ ((Ac c m.line).seen < m.turn ∧ (Ac c m.line).state = 3) ∨ ((Ac c m.line).seen < m.turn ∧ (Ac c m.line).state ≠ 2 ∧ (Ac c m.line).state ≠ 3) from by omega) with hm | hm | hm | hm
 ·refine ZC ?_
  refine Agw ?_
  refine Ga10 ?_
  refine Az ?_ (fun w hs => hs)
  exact meT
 ·refine ZC ?_
  refine S4 ?_
  refine ZQ ?_
  refine K5 ?_
  refine Ga6 ?_
  refine Az ?_ (fun w hs => hs)
  exact meF
 ·refine Zcw ?_
  refine K5 ?_
  refine Ga2 ?_
  refine Az ?_ (fun w hs => hs)
  exact meF
 ·refine Zck ?_
  refine Zcw ?_
  refine Kk ?_
  refine Ga2 ?_
  refine Az ?_ (fun w hs => hs)
  exact meT) : p := h
theorem ZeB {p : Prop} (h : p := by
 have al := hG.al; have f23 := hG.f23; have f1 := hG.f1; cases h; constructor <;> (try simp only) <;> grind) : p := h
theorem ZeC {p : Prop} (h : p := by
 refine ZaJ ?_
 have er : Af c b = (zMsg, 2) := by
  unfold Af
  rw [if_neg (by omega), if_neg (by show ¬ Hq (b.take 10) ≠ _; unfold at8; omega), if_pos (by unfold at8; omega)]
 rw [er]
 exact G2 () Try.isAgg49 Try.sizeOf49) : p := h
theorem ZeD {p : Prop} (h : p := by
 refine Zdm ?_
 have er : Al l id m = (l, []) := C8 (by omega) (by unfold Ag; rw [if_neg (by omega), if_neg (by omega), if_neg (by omega), if_neg (by first | omega | (intro h; have h4 := h.2.2.2; unfold Lx at h4; rw [hhas] at h4; rw [h4] at ht204; exact absurd ht204 (by decide))), if_neg (by omega)])
 rw [er]
 exact Ze1) : p := h
theorem ZeE {p : Prop} (h : p := by
 refine Az ?_ (fun w hs => hs)
 exact meT) : p := h
theorem ZeF {p : Prop} (h : p := by
 refine Az ?_ (fun w hs => hs)
 exact meF) : p := h
theorem ZeG {p : Prop} (h : p := by
 exact Cf (.slice none 0 0, .slice none 0 0, .slice none 0 0, .slice none 0 0) Try.isAgg33 Try.sizeOf33) : p := h
theorem ZeH {p : Prop} (h : p := by
 refine ⟨?_, fun m' hm' => ?_⟩
 ·exact ZeB
 ·have al := hG.al; have f23 := hG.f23; have f1 := hG.f1; cases h; cases hm'; constructor <;> (try simp only) <;> first | assumption | grind) : p := h
theorem ZeI {p : Prop} (h : p := by
 refine ⟨?_, fun m hm => ?_⟩
 ·exact ZeB
 ·have al := hG.al; have f23 := hG.f23; have f1 := hG.f1; cases h; cases hm; constructor <;> (try simp only) <;> first | assumption | grind) : p := h
theorem ZeJ {p : Prop} (h : p := by
 have al := hG.al; have f23 := hG.f23; have f1 := hG.f1; cases h; cases hm; constructor <;> (try simp only) <;> first | assumption | grind) : p := h
theorem ZeK {p : Prop} (h : p := by
 have ui : upS S 23 23 = true := rfl; have u26 : upS S 23 26 = S 26 := rfl; have h26 : S 26 = false := hA 26 ⟨0, rfl⟩; have rs : (Gh.dec (γ := Value) (Rho.set ρ 23 (Gh.enc g) 23)) = g := rfl
 simp only [ui, hS, u26, h26, rs, cond_true, cond_false]
 exact pex) : p := h
theorem ZeL {p : Prop} (h : p := by
 rcases (show (¬ 0 < m.turn) ∨ (0 < m.turn ∧ ¬ m.turn = (Ac c m.line).gave) ∨ (0 < m.turn ∧ m.turn = (Ac c m.line).gave) from by omega) with hm | hm | hm
 ·refine ZA ?_
  refine Fd ?_
  refine Ga7 ?_
  exact ZeF
 ·refine ZA ?_
  refine G3 ?_
  refine ZR ?_
  refine As ?_
  refine Ga1 ?_
  exact ZeF
 ·refine ZA ?_
  refine G3 ?_
  refine ZR ?_
  refine Cs ?_
  refine Ga1 ?_
  exact ZeE) : p := h
theorem ZeM {p : Prop} (h : p := by
 exact Ins.perm (by repeat (first | exact .hd | exact .hc | refine .tl ?_ | refine .ap ?_))) : p := h
theorem ZeN {p : Prop} (h : p := by
 refine Az ?_ (fun w hs => hs)
 refine ⟨by first | exact congrArg (fun b => some (Value.bool b)) (decide_eq_true (by first | exact hna | exact fun h => h hna)).symm | exact congrArg (fun b => some (Value.bool b)) (by simp; omega), alT⟩) : p := h
theorem ZeO {p : Prop} (h : p := by
 exact Cf (u, .slice none 0 0, .slice none 0 0) Try.isAgg57 Try.sizeOf57) : p := h
theorem ZeP {p : Prop} (h : p := by
 constructor
 ·have k0 := hm'.get; grind
 ·have k0 := hm'.put; have c0 := hCq.own; grind
 ·have k0 := hm'.inv; have c0 := hCq.ga; grind
 ·have k0 := hm'.fet; have c0 := hCq.ga; grind
 ·have k0 := hm'.gra; have c0 := hCq.taken; have c1 := hCq.la; have c2 := hCq.wa; grind
 ·have k0 := hm'.gon; grind
 ·have k0 := hm'.dat; have c0 := hCq.ga; grind
 ·have k0 := hm'.tha; grind
 ·have k0 := hm'.tak; grind) : p := h
theorem ZeQ {p : Prop} (h : p := by
 rw [er]
 exact Ci (.slice none 0 0) (hs := fun w hs => Ai (hs.rowNil 52 (List UInt8)))) : p := h
theorem ZeR {p : Prop} (h : p := by
 refine Az ?_ (fun w hs => hs)
 refine ⟨by first | exact congrArg (fun b => some (Value.bool b)) (decide_eq_true (by first | exact .inl hm | exact .inr hm | exact .inl ⟨hc1, hal⟩ | exact .inr ⟨hc1, hal⟩ | (rintro (⟨a, b⟩ | ⟨a, b⟩) <;> first | omega | exact absurd (hal.symm.trans b) (by decide)))).symm | exact congrArg (fun b => some (Value.bool b)) (by simp; omega), alT⟩) : p := h
theorem ZeS {p : Prop} (h : p := by
 have ui : upS S 26 26 = true := rfl; have u23 : upS S 26 23 = S 23 := rfl; have r23 : Rho.set ρ 26 g 23 = ρ 23 := rfl
 simp only [ui, hS, u23, r23, cond_true, cond_false]
 exact pex) : p := h
theorem ZeT {p : Prop} (h : p := by
 constructor
 ·have k0 := hm'.get; grind
 ·have k0 := hm'.put; grind
 ·have k0 := hm'.inv; have c0 := hCq.ga; grind
 ·have k0 := hm'.fet; grind
 ·have k0 := hm'.gra; have c0 := hCq.taken; have c1 := hCq.cur; have c2 := hCq.wa; grind
 ·have k0 := hm'.gon; grind
 ·have k0 := hm'.dat; grind
 ·have k0 := hm'.tha; grind
 ·have k0 := hm'.tak; grind) : p := h
theorem ZeU {p : Prop} (h : p := by
 refine Gl ?_
 refine ZdF ?_;intro h12
 obtain ⟨hone1, hone2, hone3⟩ := h12
 refine ZA ?_
 refine Zbj ?_
 refine Ga1 ?_
 have ek : l.take k = l.take 300 := by
  first
   | rw [show k = 300 by omega]
   | rw [List.take_of_length_le (by omega), List.take_of_length_le (by omega)]
 rw [U8 hok ek]
 exact G2 (cv, hv, fv, dv) Try.isAgg33 Try.sizeOf33) : p := h
theorem ZeV {p : Prop} (h : p := by
 constructor
 ·have k0 := hm'.get; grind
 ·have k0 := hm'.put; grind
 ·have k0 := hm'.inv; grind
 ·have k0 := hm'.fet; grind
 ·have k0 := hm'.gra; have c0 := hCq.taken; have c1 := hCq.la; have c2 := hCq.wa; grind
 ·have k0 := hm'.gon; grind
 ·have k0 := hm'.dat; grind
 ·have k0 := hm'.tha; grind
 ·have k0 := hm'.tak; grind) : p := h
theorem ZeW {p : Prop} (h : p := by
 refine Zej ?_
 have hXw : ({ (Ac c m.line) with seen := m.turn, gave := m.turn, given := (Ac c m.line).value, state := 0, value := 0, want := 0 } : Line).wf := by first | exact hlw | (unfold Line.wf An at hlw ⊢; simp only; omega)
 refine Zdu ?_;intro v138 hone138 b15 ρ v144 ef er
 exact Cf (v138, v118, v144) Try.isAgg57 Try.sizeOf57) : p := h
theorem ZeX {p : Prop} (h : p := by
 refine Gm ?_
 refine ob (Eo (cs := zMsg.cells) Ec) ?_
 refine rn1 ?_
 refine ZbC ?_
 have er : Af c b = (zMsg, Bd c (G4 b)) := by
  unfold Af
  rw [if_neg (by omega), if_neg (by show ¬ Hq (b.take 10) ≠ _; unfold at8; omega), if_neg (by unfold at8; omega), if_pos (by omega)]
 rw [er]
 exact G2 () Try.isAgg49 Try.sizeOf49) : p := h
theorem ZeY {p : Prop} (h : p := by
 refine Zaa ?_
 refine kp [2, 3, 4, 5, 6, 7, 8, 15, 16, 17, 205, 206, 207, 208, 209] ?_
 refine ZB ?_
 refine Bz (caps := []) (vs := [vi 3]) rfl Try.call49 rfl (fun w hs => K1 hs) ?_; intro _
 refine ZdQ ?_;intro er
 exact Cf (.slice none 0 0, .slice none 0 0, .slice none 0 0, .slice none 0 0) Try.isAgg33 Try.sizeOf33) : p := h
theorem ZeZ {p : Prop} (h : p := by
 rw [hw']
 have hc3 := Ow (by omega) hc1 (show w < 4 by omega)
 refine I3 (Hz (by omega) hc3) fun q hq4 => ?_
 rw [Fw (Hz (by omega) hc1) (by omega), hb1]
 unfold upd
 split
 ·rfl
 ·split
  ·rfl
  ·by_cases hq : q < n
   ·exact hsh q hq (by omega) (by assumption)
   ·unfold C6
    refine Zch ?_
    rfl) : p := h
theorem Zfa {p : Prop} (h : p := by
 generalize (Gh.dec (γ := Value) (ρ 4)) = v131
 generalize (Gh.dec (γ := Value) (ρ 13)) = v140
 refine Gl ?_
 rw [er]
 exact Ci (v131, v140)) : p := h
theorem Zfb {p : Prop} (h : p := by
 refine Co () (hs := fun w hs => hs.perm (Pick.perm hp).symm) (hv := ?_)
 first | rw [decide_eq_true (by omega)] | rw [decide_eq_false (by omega)]) : p := h
theorem Zfc {p : Prop} (h : p := by
 have ui : upS S 47 47 = true := rfl; have u48 : upS S 47 48 = S 48 := rfl; have h48 : S 48 = false := hA 48 ⟨0, rfl⟩; have rs : (Gh.dec (γ := Nat) (Rho.set ρ 47 (Gh.enc b) 47)) = b := rfl
 simp only [ui, hS, u48, h48, rs, cond_true, cond_false, List.nil_append]
 exact ZeM) : p := h
theorem Zfd {p : Prop} (h : p := by
 rw [List.getElem?_map] at he
 obtain ⟨x, hx, hxe⟩ := Option.map_eq_some_iff.1 he
 have h3 := r3 k x r hx hkr
 refine ⟨x.u, ?_, ?_, ?_⟩
 ·rw [← hxe]; exact h3.1
 ·rw [← hxe]; exact hr _ (hf x (List.mem_of_getElem? hx))
 ·rw [← hxe]; exact h3.2.1) : p := h
theorem Zfe {p : Prop} (h : p := by
 have ui : upS S 13 13 = true := rfl; have u16 : upS S 13 16 = S 16 := rfl; have h16 : S 16 = false := hA 16 ⟨0, rfl⟩; have rs : (Gh.dec (γ := Value) (Rho.set ρ 13 (Gh.enc g) 13)) = g := rfl
 simp only [ui, hS, u16, h16, rs, cond_true, cond_false]
 exact pex) : p := h
theorem Zff {p : Prop} (h : p := by
 refine Zaa ?_
 refine ZB ?_
 refine Bz (caps := []) (vs := [vi 5]) rfl Try.call49 rfl (fun w hs => K1 hs) ?_; intro _
 refine rn3 ?_
 refine Zcn ?_;intro er
 exact Cf (.slice none 0 0, .slice none 0 0, .slice none 0 0, .slice none 0 0) Try.isAgg33 Try.sizeOf33) : p := h
theorem Zfg {p : Prop} (h : p := by
 refine ZJ ?_
 refine ZbC ?_
 have er : Af c b = (G4 b, 0) := by
  unfold Af
  rw [if_neg (by omega), if_neg (by show ¬ Hq (b.take 10) ≠ _; unfold at8; omega), if_neg (by unfold at8; omega), if_neg (by omega)]
 rw [er]
 exact G2 () Try.isAgg49 Try.sizeOf49) : p := h
theorem Zfh {p : Prop} (h : p := by
 refine Zcd ?_;intro er
 exact G2 (.slice none 0 0, .slice none 0 0) Try.isAgg33 Try.sizeOf33) : p := h
theorem Zfi {p : Prop} (h : p := by
 refine Zaa ?_
 refine ZB ?_
 refine Bz (caps := []) (vs := [vi 5]) rfl Try.call49 rfl (fun w hs => K1 hs) ?_; intro _
 refine ZdV ?_;intro er
 exact Cf (.slice none 0 0, .slice none 0 0, .slice none 0 0, .slice none 0 0) Try.isAgg33 Try.sizeOf33) : p := h
theorem Zfj {p : Prop} (h : p := by
 obtain ⟨b1, b2, _⟩ := Cr hE0.2.1.1 hE0.2.1.2 (show 0 ≤ m.src by omega) (show m.src < 4 by omega)
 obtain ⟨c1, _⟩ := Cr hE0.2.2.1.1 hE0.2.2.1.2 (show 0 ≤ m.src by omega) (show m.src < 4 by omega)
 unfold Cc
 rw [(c1 hh).2, (b1 hhS).2]) : p := h
theorem Zfk {p : Prop} (h : p := by
 obtain ⟨b1, b2, _⟩ := Cr hE0.2.1.1 hE0.2.1.2 (show 0 ≤ m.src by omega) (show m.src < 4 by omega)
 obtain ⟨c1, _⟩ := Cr hE0.2.2.1.1 hE0.2.2.1.2 (show 0 ≤ m.src by omega) (show m.src < 4 by omega)
 unfold Cc
 rw [(c1 hh).2, (b2 hhS).2]) : p := h
theorem Zfl {p : Prop} (h : p := by
 have e : ∀ x y : Int, x % 256 = y % 256 → u8 x = u8 y := fun x y h => by unfold u8; rw [h]
 unfold Ck
 simp only [List.map_cons, List.map_nil]
 rw [ht9, e (m.serial % 256) m.serial (by omega), e (m.turn % 256) m.turn (by omega)]; rfl) : p := h
theorem Zfm {p : Prop} (h : p := by
 refine Az ?_ (fun w hs => hs)
 refine ⟨by first | exact congrArg (fun b => some (Value.bool b)) (decide_eq_false (by first | exact hna | exact fun h => h hna)).symm | exact congrArg (fun b => some (Value.bool b)) (by simp; omega), alT⟩) : p := h
theorem Zfn {p : Prop} (h : p := by
 intro a ha; rw [List.mem_singleton.1 ha]; exact Mf h1 h2 h3 (by omega) ht (by omega)) : p := h
theorem Zfo {p : Prop} (h : p := by
 refine Bf (.inr rfl) (fun B w hs => Im rfl _ w) (fun w hs => ⟨vo, rfl, Ai hs⟩)) : p := h
theorem Zfp {p : Prop} (h : p := by
 rcases List.mem_cons.1 h1 with e | e
 ·rw [e] at h2; exact .inr ⟨m, h2, h3⟩
 ·exact .inl ⟨c, e, m, h2, h3⟩) : p := h
theorem Zfq {p : Prop} (h : p := by
 refine Aa ?_
 refine Zbe ?_;intro er
 exact Ze1) : p := h
theorem Zfr {p : Prop} (h : p := by
 refine Gm ?_
 refine ZaJ ?_
 have er : Af c b = (zMsg, 7) := by
  unfold Af
  rw [if_neg (by omega), if_pos (by show Hq (b.take 10) ≠ _; unfold at8; omega)]
 rw [er]
 exact G2 () Try.isAgg49 Try.sizeOf49) : p := h
theorem Zfs {p : Prop} (h : p := by
 rw [er]
 exact Co ()) : p := h
theorem Zft {p : Prop} (h : p := by
 exact Cf (vL, .slice none 0 0, .slice none 0 0) Try.isAgg57 Try.sizeOf57) : p := h
theorem Zfu {p : Prop} (h : p := by
 rw [er]
 exact Gt v40 (hs := fun w hs => Ai (St.shut (hs.pick pkk)))) : p := h
theorem Zfv {p : Prop} (h : p := by
 refine ZaI ?_;intro er
 exact Ze9) : p := h
theorem Zfw {p : Prop} (h : p := by
 have ui : upS S 16 16 = true := rfl; have u13 : upS S 16 13 = S 13 := rfl; have r13 : Rho.set ρ 16 g 13 = ρ 13 := rfl
 simp only [ui, hS, u13, r13, cond_true, cond_false]
 exact pex) : p := h
theorem Zfx {p : Prop} (h : p := by
 intro h; exact absurd h (by simp)) : p := h
theorem Zfy {p : Prop} (h : p := by
 refine Zeo ?_;intro er
 exact Co fv (hs := fun w hs => (Ai hs : St _ R w).sub .refl (fun f hf => by rcases List.mem_cons.1 hf with e | e; rw [e]; exact hfv; exact e))) : p := h
theorem Zfz {p : Prop} (h : p := by
 unfold EB Entry.wf An; simp only; omega) : p := h
theorem Zf0 {p : Prop} (h : p := by
 rw [hz, Dr] at this
 unfold upd at this
 rw [if_neg hqp] at this
 exact this.symm) : p := h
theorem Zf1 {p : Prop} (h : p := by
 refine Zcs ?_;intro er
 exact Gt (.slice none 0 0, .slice none 0 0) (hs := fun w hs => Ai (St.shut (St.rowNil 52 (List UInt8) (St.shut (hs.rowNil 5 UInt8)))))) : p := h
theorem Zf2 {p : Prop} (h : p := by
 refine ZaN ?_
 have er : Ah c id home q = (E4, [], [], 8) := by unfold Ah; rw [if_neg (by omega), if_neg (by omega), if_pos (by omega)]
 rw [er]
 exact Ze3) : p := h
theorem Zf3 {p : Prop} (h : p := by
 rw [er, List.append_nil, List.append_nil]
 refine Bf (.inr rfl) (fun B w hs => Im rfl _ w) (fun w hs => ⟨(vo, vd), rfl, Ai (Ep hl hlw (hs.pick pkk))⟩)) : p := h
theorem Zf4 {p : Prop} (h : p := by
 refine Gm ?_
 refine ZaJ ?_
 have er : Af c b = (zMsg, 2) := by
  unfold Af
  rw [if_pos (by omega)]
 rw [er]
 exact G2 () Try.isAgg49 Try.sizeOf49) : p := h
theorem Zf5 {p : Prop} (h : p := by
 refine Zbz ?_;intro eh hEB ρ er
 exact Ze7) : p := h
theorem Zf6 {p : Prop} (h : p := by
 refine ZbB ?_
 refine Za4 ?_;intro hEB
 refine Za5 ?_;intro ρ er
 exact Ze7) : p := h
theorem Zf7 {p : Prop} (h : p := by
 refine ZaN ?_
 have er : (Ah ⟨ls, q0⟩ id home q) = (E4, [], [], 8) := beg_8 hl (by omega) (by omega) (by omega) (by omega)
 rw [er]
 exact Ze3) : p := h
theorem Zf8 {p : Prop} (h : p := by
 refine dnl ?_; intro ρ
 refine Gmc ?_
 refine ZbD ?_;intro er
 exact Ci (v0, .slice none 0 0) (hs := fun w hs => Ai (St.shut (hs.rowNil 49 Msg)))) : p := h
theorem Zf9 {p : Prop} (h : p := by
 refine Zcs ?_;intro er
 exact Gt (.slice none 0 0, .slice none 0 0) (hs := fun w hs => Ai (St.shut (((hs.rowNil 52 (List UInt8)).rowNil 5 UInt8))))) : p := h
theorem ZfA {p : Prop} (h : p := by
 refine ZcA ?_;intro hno e1 e2 w hs
 try simp only
 rw [e1, e2]; exact Ai hs) : p := h
theorem ZfB {p : Prop} (h : p := by
 exact (show SB _ N from h).mono (by omega)) : p := h
theorem ZfC {p : Prop} (h : p := by
 have : (3 : Int) = Gg (cor x p).wait.kind := by rw [← w3]; exact hw.symm
 unfold Gg at this; split at this <;> (try split at this) <;> omega) : p := h
theorem ZfD {p : Prop} (h : p := by
 intro a ha; cases ha) : p := h
theorem ZfE {p : Prop} (h : p := by
 have er : Bd c m = 1 := by unfold Bd; rw [if_pos (by omega)]
 exact Zfs) : p := h
theorem ZfF {p : Prop} (h : p := by
 rw [er]
 exact Cf (vL, v74, .slice none 0 0) Try.isAgg57 Try.sizeOf57) : p := h
theorem ZfG {p : Prop} (h : p := by
 repeat' split
 all_goals (intro hok; first | exact ⟨rfl, rfl⟩ | exact absurd hok (by assumption) | exact absurd hok (by simp))) : p := h
theorem ZfH {p : Prop} (h : p := by
 exact .inl ⟨rfl, rfl⟩) : p := h
theorem ZfI {p : Prop} (h : p := by
 rw [getD_some 0 (show k < (Bp b bit).length by omega)]
 have hg : (Bp b bit).getD k 0 = b.getD k 0 := hget
 rw [hg]; rfl) : p := h
theorem ZfJ {p : Prop} (h : p := by
 refine ZaN ?_
 have er : Ah c id home q = (E4, [], [], 1) := by unfold Ah; rw [if_pos (by omega)]
 rw [er]
 exact Ze3) : p := h
theorem ZfK {p : Prop} (h : p := by
 refine Ga2 ?_
 have er : Cg l n bit = ([], 3) := by unfold Cg Av; rw [if_neg (by omega), if_pos (by omega)]
 exact ZeQ) : p := h
theorem ZfL {p : Prop} (h : p := by
 intro q hq hqw hqp
 have := (h.ci i hi q hq).cle h0 hqw
 simp only [ab] at this
 rw [← this]; exact hrest q hqp hq) : p := h
theorem ZfM {p : Prop} (h : p := by
 show (⟨((x.cores.length : Nat) : Int), ((x.home.length : Nat) : Int)⟩ : Config) = Ef n nl
 rw [h.nc, h.nh]; rfl) : p := h
theorem ZfN {p : Prop} (h : p := by
 refine ZaN ?_
 have er : (Ah ⟨ls, q0⟩ id home q) = (E4, [], [], 1) := beg_1 (by omega)
 rw [er]
 exact Ze3) : p := h
theorem ZfO {p : Prop} (h : p := by
 refine ZdD ?_;intro hbn v72
 refine Bf (.inl rfl) (fun B w hs => Im rfl _ w) (fun w hs => ⟨v72, rfl, Ai hs⟩)) : p := h
theorem ZfP {p : Prop} (h : p := by
 intro ht80
 refine Zd1 ?_;intro ρ v87 er
 exact Cf (u, v87, .slice none 0 0) Try.isAgg57 Try.sizeOf57) : p := h
theorem ZfQ {p : Prop} (h : p := by
 generalize (if e.alone = true then e.sharers else Hr e.sharers e.owner) = z at hs4 ⊢
 exact Zfz) : p := h
theorem ZfR {p : Prop} (h : p := by
 refine Ga2 ?_
 have er : Cg l n bit = ([], 5) := by unfold Cg; rw [if_pos (by omega)]
 exact ZeQ) : p := h
theorem ZfS {p : Prop} (h : p := by
 refine kp [0, 1, 5, 6, 7, 8, 48, 160] ?_
 exact Zfq) : p := h
theorem ZfT {p : Prop} (h : p := by
 exact congrArg (fun z => some (vi z)) (show (q : Int) - 1 = 7 - ((j + 1 : Nat) : Int) by omega)) : p := h
theorem ZfU {p : Prop} (h : p := by
 refine Ga2 ?_
 have er : Fh l n = ([], 5) := by unfold Fh; rw [if_pos (by omega)]
 exact ZeQ) : p := h
theorem ZfV {p : Prop} (h : p := by
 rw [er]
 refine Bf (.inl rfl) (fun B w hs => Im rfl _ w) (fun w hs => ⟨v29, rfl, Ai hs⟩)) : p := h
theorem ZfW {p : Prop} (h : p := by
 refine ZbF ?_
 have er : Ae c id home m = (c, [], []) := Ma (by omega)
 rw [er]
 exact ZeO) : p := h
theorem ZfX {p : Prop} (h : p := by
 show Dg _ [] M
 simp only [Dg]
 rw [Hi (.inr hk4), w2, Int.toNat_natCast, h.same i hin]) : p := h
theorem ZfY {p : Prop} (h : p := by
 refine ZO ?_
 refine ZP ?_;intro ρ
 exact ZeE) : p := h
theorem ZfZ {p : Prop} (h : p := by
 refine kp [0, 1, 5, 6, 7, 8, 254] ?_
 exact Zfq) : p := h
theorem Zga {p : Prop} (h : p := by
 refine Zcy ?_;intro er
 exact Ze9) : p := h
theorem Zgb {p : Prop} (h : p := by
 refine Zcm ?_;intro er
 exact Ze3) : p := h
theorem Zgc {p : Prop} (h : p := by
 refine Zcq ?_;intro er
 exact Ze3) : p := h
theorem Zgd {p : Prop} (h : p := by
 simp only; rw [Ch _ _ _ _ _ (by rw [hla]; exact hp), if_pos rfl]; exact Int.le_refl _) : p := h
theorem Zge {p : Prop} (h : p := by
 refine ZP ?_;intro ρ
 exact ZeF) : p := h
theorem Zgf {p : Prop} (h : p := by
 have c0 := hCp.bits; grind) : p := h
theorem Zgg {p : Prop} (h : p := by
 have c0 := hCq.back; grind) : p := h
theorem Zgh {p : Prop} (h : p := by
 refine Zcb ?_;intro eh hEB ρ er
 exact Ze7) : p := h
theorem Zgi {p : Prop} (h : p := by
 refine ZdX ?_
 refine Bb (p + 1) (by omega) (by omega) alT (fun w hs => Ai hs)) : p := h
theorem Zgj {p : Prop} (h : p := by
 unfold E3; rw [List.range_succ, List.filter_append, List.map_append]; simp [h]) : p := h
theorem Zgk {p : Prop} (h : p := by
 rename_i h; exact absurd h.2.2.1 (by omega)) : p := h
theorem Zgl {p : Prop} (h : p := by
 unfold Bp
 split
 ·rw [Ch _ _ _ _ _ (by omega), if_neg (by omega)]
 ·rfl) : p := h
theorem Zgm {p : Prop} (h : p := by
 have c0 := hCp.cle; grind) : p := h
theorem Zgn {p : Prop} (h : p := by
 have c0 := hCp.gra; grind) : p := h
theorem Zgo {p : Prop} (h : p := by
 have c0 := hCq.cle; grind) : p := h
theorem Zgp {p : Prop} (h : p := by
 refine Zcp ?_;intro ρ
 refine Gmc ?_
 refine ZbD ?_;intro er
 exact Ze1) : p := h
theorem Zgq {p : Prop} (h : p := by
 refine Zal ?_
 refine ZaE ?_
 exact Zf5) : p := h
theorem Zgr {p : Prop} (h : p := by
 rw [er]
 exact Cf (v149, v118, .slice none 0 0) Try.isAgg57 Try.sizeOf57) : p := h
theorem Zgs {p : Prop} (h : p := by
 rw [er]
 exact Cf (cv, hv, va, .slice none 0 0) Try.isAgg33 Try.sizeOf33) : p := h
theorem Zgt {p : Prop} (h : p := by
 rw [er]
 exact Cf (cY, hY, va, .slice none 0 0) Try.isAgg33 Try.sizeOf33) : p := h
theorem Zgu {p : Prop} (h : p := by
 have c0 := hCp.ga; grind) : p := h
theorem Zgv {p : Prop} (h : p := by
 have c0 := hCp.la; grind) : p := h
theorem Zgw {p : Prop} (h : p := by
 have c0 := hCq.ga; grind) : p := h
theorem Zgx {p : Prop} (h : p := by
 have c0 := hCq.la; grind) : p := h
theorem Zgy {p : Prop} (h : p := by
 intro a ha; rw [List.mem_singleton.1 ha]; unfold MsgIn; simp only; omega) : p := h
variable {L : List Chunk} {R : List Fact} {w : World}
theorem Ox {v0 : Value} {xs : List UInt8} (hs : St (L) R w) (h0 : sl v0 xs ∈ R) : Calls Try.prog 92 [v0].toArray w (Bw (fun v : Value => v) (fun v => row 5 v xs :: L) (fun v => R)) := by
 refine Aj Try.func92 rfl Try.ntmps92 rfl hs ?_
 clear hs
 refine ZL ?_
 refine rn1 ?_
 refine ob (Agr Try.underlying52 (Er h0)) ?_
 refine Gl ?_
 refine Bk (b := ?b1) ?e1 ?_ ?_; case e1 => exact rfl
 ·intro ht4
  refine JC.nilOf ht4 h0 (fun hx => ?_)
  refine ZE ?_
  exact Co (.slice none 0 0) (hs := fun w hs => by rw [hx]; exact Ai (hs.rowNil 5 UInt8))
 ·intro ht4
  refine Gm ?_
  refine liO ([] : List UInt8) Gy rfl (fun j h => Gu) ?_; intro v5
  refine rn1 ?_
  refine ap Gy (hb := fun w hs => by have := Bg h0 hs; have : maxN = 16777216 := rfl; simp; omega) (k := ?_); intro v7
  refine Ga1 ?_
  exact Co v7
theorem Uk {v0 : Value} {l : Frames} (hs : St (L) R w) (h0 : sl v0 l ∈ R) : Calls Try.prog 61 [v0].toArray w (Bw (fun v : Value => v) (fun v => row 52 v l :: L) (fun v => R)) := by
 have hlen := Bg h0 hs
 refine Aj Try.func61 rfl Try.ntmps61 rfl hs ?_
 clear hs
 refine ZL ?_
 refine ZaA ?_
 refine JC.rowNil 52 (List UInt8) ?_
 refine Bx (γ := Nat × Value) (fun g => g.1 ≤ l.length) (fun g => row 52 g.2 (l.take g.1) :: L) (fun _ => R) (fun g => [(0, v0), (3, g.2), (6, v0), (7, vi (l.length : Int)), (8, vi (g.1 : Int))]) (fun g => l.length - g.1) (0, .slice none 0 0) (Nat.zero_le _) alT (fun w hs => hs) ?_
 rintro ⟨k, vs⟩ hk
 try simp only at hk ⊢
 refine ZE ?_
 refine cdy ?_ ?_
 ·intro ht9
  refine Gl ?_
  refine JC.open1 (xs := l) k mm (by omega) (fun _ u => ?_)
  refine Aa ?_
  refine Gb3 ?_
  refine rn2 ?_
  refine Ao Try.call92 rfl (fun w hs => Ox hs mm) ?_; intro v14
  refine J.shut .hd ?_
  refine li [_] Kp rfl Abm ?_; intro v15
  refine ap Kp (hb := fun w hs => by have : maxN = 16777216 := rfl; have := hlen; simp only [List.length_cons, List.length_nil, List.length_take, List.length_append]; omega) (k := ?_); intro v16
  refine ZH ?_
  refine Bb (k + 1, v16) (by show k + 1 ≤ l.length; omega) (by show l.length - (k + 1) < l.length - k; omega) alT (fun w hs => ?_)
  try simp only
  rw [G7 [] (by omega)]; exact Ai hs
 ·intro ht9
  refine ZD ?_
  have hkl : k = l.length := by omega
  subst hkl
  exact Co vs (hs := fun w hs => by rw [List.take_length] at hs; exact Ai hs)
theorem Uj {v0 v1 : Value} {l : Frames} {b : List UInt8} (hs : St (L) R w) (h0 : sl v0 l ∈ R) (h1 : sl v1 b ∈ R) : Calls Try.prog 71 [v0, v1].toArray w (Bw (fun v : Value => v) (fun v => row 52 v (Cy l b) :: L) (fun v => R)) := by
 have hlen := Bg h0 hs
 refine Aj Try.func71 rfl Try.ntmps71 rfl hs ?_
 clear hs
 refine ZL ?_
 refine rn1 ?_
 refine Ao Try.call61 rfl (fun w hs => Uk hs mm) ?_; intro v7
 refine ZaA ?_
 refine cdy ?_ ?_
 ·intro ht10
  refine ZA ?_
  refine Ao Try.call92 rfl (fun w hs => Ox hs mm) ?_; intro v13
  refine J.shut .hd ?_
  refine li [_] Kp rfl Abm ?_; intro v14
  refine ap Kp (hb := fun w hs => by have : maxN = 16777216 := rfl; have := hlen; simp only [List.length_cons, List.length_nil, List.length_take, List.length_append]; omega) (k := ?_); intro v15
  refine ZH ?_
  have e : Cy l b = l ++ [b] := by unfold Cy; rw [if_pos (by omega)]
  rw [e]
  exact Co v15
 ·intro ht10
  refine ZD ?_
  have e : Cy l b = l := by unfold Cy; rw [if_neg (by omega)]
  rw [e]
  exact Co v7
theorem Xo {v0 v1 : Value} {l : Frames} {b : List UInt8} (hs : St (L) R w) (h0 : sl v0 l ∈ R) (h1 : sl v1 b ∈ R) : Calls Try.prog 56 [v0, v1].toArray w (Bw (fun v : Value => v) (fun v => L) (fun v => sl v (Cy l b) :: R)) := by
 have hlen := Bg h0 hs
 refine Aj Try.func56 rfl Try.ntmps56 rfl hs ?_
 clear hs
 refine ZL ?_
 refine Ga3 ?_
 refine cdy ?_ ?_
 ·intro ht7
  refine ZD ?_
  have e : Cy l b = l := by unfold Cy; rw [if_neg (by omega)]
  rw [e]
  exact Co v0
 ·intro ht7
  refine Gm ?_
  refine liO ([] : Frames) Kp rfl (fun j h => Gu) ?_; intro v9
  refine rn1 ?_
  refine ap Kp (hb := fun w hs => by have : maxN = 16777216 := rfl; have := hlen; simp only [List.length_cons, List.length_nil, List.length_take, List.length_append]; omega) (k := ?_); intro v11
  refine rn1 ?_
  refine li [_] Kp rfl Abm ?_; intro v13
  refine ap Kp (hb := fun w hs => by have : maxN = 16777216 := rfl; have := hlen; simp only [List.length_cons, List.length_nil, List.length_take, List.length_append]; omega) (k := ?_); intro v14
  refine Ga1 ?_
  have e : Cy l b = l ++ [b] := by unfold Cy; rw [if_pos (by omega)]
  rw [e]
  exact Co v14 (hs := fun w hs => Ai (St.shut hs))
theorem eq_int {P : Program} {t : TypeId} {k : IntKind} {d : Nat} {a b : Int} (ht : P.underlying t = some (.int k)) (w : World) : (Op.equalIn (d + 1) t (.int k a) (.int k b)).run P w = .ok (a == b) w := by
 unfold Op.equalIn; simp [Dl ht]
theorem eq_Op (x y : Op) {d : Nat} (w : World) : (Op.equalIn (d + 3) 26 (.agg x.cells.toArray) (.agg y.cells.toArray)).run Try.prog w = .ok (decide (x = y)) w := by
 show (Op.equalIn ((d + 2) + 1) 26 _ _).run _ _ = _
 rw [run_equalIn_struct w (d + 2) 26 _ _ (by kernel_rfl) (by kernel_rfl)]
 have e3 : ∀ (a b : Int) w, (Op.equalIn (d + 2) 3 (vi a) (vi b)).run Try.prog w = .ok (a == b) w := fun a b w => eq_int (d := d + 1) Try.underlying3 w
 simp only [Program.fieldsOf, Try.underlying26]
 simp [Op.eqFields, part, Try.isAgg3, Op.cells, e3]
 cases x; cases y; simp
 repeat' split
 all_goals simp_all
theorem ag_Op (x y : Op) {xo yo : Operand} (op : BinOp) (w : World) : (eqGuard op 26 xo yo (.agg x.cells.toArray) (.agg y.cells.toArray)).run Try.prog w = .ok () w := by
 have h : Try.prog.eqGuardType Try.prog.depth 26 = false := by kernel_rfl
 unfold eqGuard
 cases op <;> simp [h]
theorem bn_Op (x y : Op) (w : World) : (binOp .neq 26 (.agg x.cells.toArray) (.agg y.cells.toArray)).run Try.prog w = .ok (.bool (!decide (x = y))) w := by
 show (Op.equal 26 (.agg x.cells.toArray) (.agg y.cells.toArray) >>= fun r => Pure.pure (Value.bool (!r))).run _ w = _
 rw [Sem.run_bind, show Op.equal 26 (.agg x.cells.toArray) (.agg y.cells.toArray) = Op.equalIn (9997 + 3) 26 _ _ from rfl, eq_Op x y w]; rfl
theorem Akb {x y : Op} (h : x = y) (w : World) : (binOp .neq 26 (.agg x.cells.toArray) (.agg y.cells.toArray)).run Try.prog w = .ok (.bool false) w := by rw [bn_Op, decide_eq_true h]; rfl
theorem On {z k : Nat} (hs : St (L) R w) (hz : z ≤ 1000) (hk : k ≤ 60) : Calls Try.prog 85 [vi (z : Int), vi (k : Int)].toArray w (Bw (fun _ : Unit => .bool (z.testBit k)) (fun _ => L) (fun _ => R)) := by
 refine Aj Try.func85 rfl Try.ntmps85 rfl hs ?_
 clear hs
 refine Gm ?_
 refine ZH ?_
 refine Bx (γ := Nat) (fun j => j ≤ k) (fun _ => L) (fun _ => R) (fun j => [(0, vi ((z / 2 ^ j : Nat) : Int)), (5, vi (k : Int)), (6, vi (j : Int))]) (fun j => k - j) 0 (Nat.zero_le _) ⟨congrArg (fun q : Nat => some (vi (q : Int))) (by simp), alT⟩ (fun w hs => hs) ?_
 intro j hj
 have hz := Nat.div_le_self z (2 ^ j)
 refine ZE ?_
 refine cdy ?_ ?_
 ·intro ht7
  refine ZJ ?_
  refine ob (Am rfl rfl (Afu (b := 2) (by omega) (by decide))) ?_
  refine ZH ?_
  refine Bb (j + 1) (by omega) (by omega) ⟨congrArg (fun q : Nat => some (vi (q : Int))) (by rw [Nat.div_div_eq_div_mul, ← Nat.pow_succ]), alT⟩ (fun w hs => hs)
 ·intro ht7
  refine ZJ ?_
  refine ob (Am rfl rfl (Aft (b := 2) (by decide) (by decide))) ?_
  refine Ga2 ?_
  have hjk : j = k := by omega
  subst hjk
  refine Co () (hv := ?_)
  rw [Nat.testBit_eq_decide_div_mod_eq]; exact congrArg Value.bool (decide_eq_decide.2 (by omega))
theorem M6 {k : Nat} (hs : St (L) R w) (hk : k ≤ 60) : Calls Try.prog 88 [vi (k : Int)].toArray w (Bw (fun _ : Unit => vi ((2 ^ k : Nat) : Int)) (fun _ => L) (fun _ => R)) := by
 refine Aj Try.func88 rfl Try.ntmps88 rfl hs ?_
 clear hs
 refine ZL ?_
 refine ZH ?_
 refine Bx (γ := Nat) (fun j => j ≤ k) (fun _ => L) (fun _ => R) (fun j => [(3, vi ((2 ^ j : Nat) : Int)), (4, vi (k : Int)), (5, vi (j : Int))]) (fun j => k - j) 0 (Nat.zero_le _) alT (fun w hs => hs) ?_
 intro j hj
 have hp := Nat.pow_le_pow_right (show 0 < 2 by decide) (show j ≤ 60 by omega)
 have hp1 : (0 : Int) ≤ ((2 ^ j : Nat) : Int) := Int.natCast_nonneg _
 have hp2 : ((2 ^ j : Nat) : Int) ≤ 1152921504606846976 := Int.ofNat_le.2 hp
 refine ZE ?_
 refine cdy ?_ ?_
 ·intro ht6
  refine ZJ ?_
  refine ob (Am (a := 2) rfl rfl (Nw (by omega) (by omega))) ?_
  refine ZH ?_
  refine Bb (j + 1) (by omega) (by omega) ⟨congrArg (fun q => some (vi q)) (show 2 * ((2 ^ j : Nat) : Int) = ((2 ^ (j + 1) : Nat) : Int) by rw [Nat.pow_succ, Int.natCast_mul]; exact Int.mul_comm _ _), alT⟩ (fun w hs => hs)
 ·intro ht6
  refine ZD ?_
  have hjk : j = k := by omega
  subst hjk
  exact Co ()
def C7 (e : Entry) : Nat → Nat
 | 0 => 0
 | j + 1 => if e.alone = true ∧ (j : Int) ≠ e.who ∧ e.sharers.toNat.testBit j = true then C7 e j + 2 ^ j else C7 e j
def phT (e : Entry) (j : Nat) : Int := if C7 e j = 0 then 3 else 2
def nxt (e : Entry) (j : Nat) : Entry := { e with need := (C7 e j : Int), phase := if C7 e j = 0 then 3 else 2 }
def EB (e : Entry) : Prop := e.wf ∧ (0 ≤ e.sharers ∧ e.sharers < 16) ∧ (0 ≤ e.need ∧ e.need < 16) ∧ (0 ≤ e.who ∧ e.who < 4) ∧ (-1 ≤ e.owner ∧ e.owner < 4) ∧ 0 ≤ e.turn
theorem Rd (e : Entry) : ∀ j, C7 e j < 2 ^ j
 | 0 => Nat.one_pos
 | j + 1 => by
  have := Rd e j
  rw [Nat.pow_succ]
  unfold C7
  split <;> omega
theorem Abw {e : Entry} (hb : EB e) (ho : ¬ 0 ≤ e.owner) : nxt e 4 = A9 e := by
 obtain ⟨_, ⟨h1, h2⟩, _, ⟨h3, h4⟩, _, _⟩ := hb
 cases e with | mk value owner sharers phase who serial alone turn need last =>
 simp only at h1 h2 h3 h4 ho
 obtain ⟨s, rfl⟩ := Int.eq_ofNat_of_zero_le h1
 obtain ⟨k, rfl⟩ := Int.eq_ofNat_of_zero_le h3
 cases alone with
 | false => simp [nxt, A9, C7, ho]
 | true =>
  have key : ∀ (s : _root_.Fin 16) (k : _root_.Fin 4), (C7 ⟨0, -1, (s.val : Int), 0, (k.val : Int), 0, true, 0, 0, []⟩ 4 : Int) = Gs (s.val : Int) (k.val : Int) := by decide
  have e1 : C7 ⟨value, owner, (s : Int), phase, (k : Int), serial, true, turn, need, last⟩ 4 = C7 ⟨0, -1, (s : Int), 0, (k : Int), 0, true, 0, 0, []⟩ 4 := rfl
  have e2 := key ⟨s, by omega⟩ ⟨k, by omega⟩
  simp only at e2
  unfold nxt A9
  simp only [e1, if_neg ho]
  by_cases hc : Gs (s : Int) (k : Int) = 0
  ·rw [hc] at e2
   have e3 : C7 ⟨0, -1, (s : Int), 0, (k : Int), 0, true, 0, 0, []⟩ 4 = 0 := by omega
   simp [e3, hc]
  ·have e3 : C7 ⟨0, -1, (s : Int), 0, (k : Int), 0, true, 0, 0, []⟩ 4 ≠ 0 := by omega
   simp [e3, hc, e2]
def zEC : List Value := [vi 0, vi 0, vi 0, vi 0, vi 0, vi 0, .bool false, vi 0, vi 0, .slice none 0 0]
theorem J0 {u : Value} {e : Entry} (hs : St (L) R w) (hb : EB e) (hu : u.oneCell' = true) : Calls Try.prog 86 [.agg (e.cells u).toArray].toArray w (Bw (fun _ : Unit => .agg ((A9 e).cells u).toArray) (fun _ => L) (fun _ => R)) := by
 have hb0 := hb
 unfold EB Entry.wf An at hb0
 refine Aj Try.func86 rfl Try.ntmps86 rfl hs ?_
 clear hs
 refine Gm ?_
 refine bx ?_; intro b1
 refine al_ (cs := zEC) Try.zeroValue80 ?_; intro b2
 refine Gm ?_
 refine ZG ?_
 refine Gm ?_
 refine ZG ?_
 refine Zad ?_
 refine cdy ?_ ?_
 ·intro ht8
  refine Gm ?_
  refine ZG ?_
  refine ZJ ?_
  refine s_B Try.sizeOf80 ?_
  refine Gl ?_
  have er : A9 e = { e with need := 0, phase := 1 } := by unfold A9; rw [if_pos ht8]
  refine N7 () Try.isAgg80 Try.sizeOf80 (hv := ?_)
  rw [er]; rfl
 ·intro ht8
  refine ZE ?_
  refine Bx (γ := Nat) (fun k => k ≤ 4) (fun k => blk b1 80 [vi e.value, vi e.owner, vi e.sharers, vi (phT e k), vi e.who, vi e.serial, .bool e.alone, vi e.turn, vi (C7 e k : Int), u] :: blk b2 80 zEC :: L) (fun _ => R) (fun k => [(1, bp b1 0), (2, bp b2 0), (11, vi (k : Int))]) (fun k => 4 - k) 0 (Nat.zero_le _) alT (fun w hs => Ai hs) ?_
  intro k hk
  have hn := Rd e k
  have hn4 : C7 e k < 16 := Nat.lt_of_lt_of_le hn (Nat.pow_le_pow_right (n := 2) (by decide) (show k ≤ 4 by omega))
  refine ZE ?_
  refine cdy ?_ ?_
  ·intro ht12
   refine ZaQ ?_
   refine rn3 ?_
   refine K8 (t := 16) (b := ?b3) ?e3 ?_ ?_; case e3 => exact rfl
   ·intro ht16
    refine rn6 ?_
    refine jgx (t := 22) (p := ?p4) (hd := ?d4) ?e4 ?_ ?_; case e4 => exact rfl
    ·intro ht22
     refine ZQ ?_
     refine Ao Try.call85 rfl (fun w hs => by have h := On (z := e.sharers.toNat) (k := k) hs (by omega) (by omega); rw [Int.toNat_of_nonneg hb.2.1.1] at h; exact h) ?_; intro _
     refine Ga1 ?_
     first | (refine cdx (p := ?p5) (hd := ?d5) ?e5 ?_ ?_; case e5 => exact rfl) | (refine Bk (b := ?b5) ?e5 ?_ ?_; case e5 => exact rfl)
     ·intro ht27
      refine Gl ?_
      have hyes : e.alone = true ∧ (k : Int) ≠ e.who ∧ e.sharers.toNat.testBit k = true := ⟨ht16, ht22, ht27⟩
      have h16 : ((2 ^ k : Nat) : Int) ≤ 8 := Int.ofNat_le.2 (Nat.pow_le_pow_right (n := 2) (by decide) (show k ≤ 3 by omega))
      have h17 : (0 : Int) ≤ ((2 ^ k : Nat) : Int) := Int.natCast_nonneg _
      refine cq_ (blk b1 80 [vi e.value, vi e.owner, vi e.sharers, vi (phT e k), vi e.who, vi e.serial, .bool e.alone, vi e.turn, vi (C7 e k : Int), u] :: blk b2 80 zEC :: L) ?_
      refine jd_ (fun ρ S => blk b1 80 [vi e.value, vi e.owner, vi e.sharers, vi (phT e k), vi e.who, vi e.serial, .bool e.alone, vi e.turn, vi (C7 e k : Int), u] :: blk b2 80 zEC :: L) ?_
      refine dn3 ?_
      refine Bt (γ := Unit) (val := fun _ => vi ((2 ^ k : Nat) : Int)) (F := fun _ => []) Try.call88 (fun _ => rfl) (fun ρ L R w hd hs => M6 hs (by omega)) (fun _ _ _ _ _ => rfl) ?_
      first | refine epc (fun _ _ => Fj) ?_ | refine epc (fun _ _ => Gc) ?_ | refine epp (fun _ _ => Fj) ?_ | refine epp (fun _ _ => Gc) ?_
      refine dn1 ?_
      refine dtl ?_; intro ρ
      refine J.conseq (L' := blk b1 80 [vi e.value, vi e.owner, vi e.sharers, vi (phT e k), vi e.who, vi e.serial, .bool e.alone, vi e.turn, vi (C7 e k : Int), u] :: blk b2 80 zEC :: L) (fun w hs => hs) ?_
      refine s_b Try.sizeOf3 ?_
      intro cs_ hcs_; subst hcs_
      refine Gl ?_
      refine kp [1, 2, 3, 11, 12, 13, 14, 15, 16, 17, 18, 19, 20, 21, 22, 23, 24, 25, 26, 27, 28, 29, 30, 31, 32, 33, 34] ?_
      refine ZB ?_
      refine sc ?_
      refine ZD ?_
      have e1 : phT e (k + 1) = 2 := by
       have h9 : C7 e (k + 1) = C7 e k + 2 ^ k := by rw [C7, if_pos hyes]
       have h8 : 0 < 2 ^ k := Nat.two_pow_pos k
       unfold phT; rw [h9, if_neg (by omega)]
      have e2 : (C7 e (k + 1) : Int) = (C7 e k : Int) + ((2 ^ k : Nat) : Int) := by
       have h9 : C7 e (k + 1) = C7 e k + 2 ^ k := by rw [C7, if_pos hyes]
       rw [h9]; exact Int.natCast_add _ _
      refine Bb (k + 1) (by omega) (by omega) alT (fun w hs => ?_)
      try simp only
      rw [e1, e2]; exact Ai hs
     ·intro ht27
      refine Gm ?_
      exact ZfA
    ·intro ht22
     refine Gd5 ?_
     exact ZfA
   ·intro ht16
    refine Gd11 ?_
    exact ZfA
  ·intro ht12
   refine ZJ ?_
   refine s_B Try.sizeOf80 ?_
   refine Gl ?_
   have hk4 : k = 4 := by omega
   subst hk4
   refine N7 () Try.isAgg80 Try.sizeOf80 (hv := ?_)
   rw [← Abw hb ht8]; rfl
theorem Cj {v0 u : Value} {l : List Entry} {i : Int} {e : Entry} (hs : St (L) R w) (h0 : sl v0 l ∈ R) (hu : sl u e.last ∈ R) (hw : e.wf) (hi : 0 ≤ i ∧ i < (l.length : Int)) : Calls Try.prog 87 [v0, vi i, .agg (e.cells u).toArray].toArray w (Bw (fun v : Value => v) (fun v => L) (fun v => sl v (l.set i.toNat e) :: R)) := by
 have hlen := Bg h0 hs
 refine Aj Try.func87 rfl Try.ntmps87 rfl hs ?_
 clear hs
 refine Gm ?_
 refine bx ?_; intro b5
 refine Gb1 ?_
 refine liO ([] : List Entry) Wm rfl (fun j h => Gu) ?_; intro v8
 refine rn1 ?_
 refine ap Wm (hb := fun w hs => by have := Bg h0 hs; have : maxN = 16777216 := rfl; simp; omega) (k := ?_); intro v10
 refine Gb1 ?_
 refine rn3 ?_
 refine ob (It N5) ?_
 refine s_W (xs := l) (i := i.toNat) e Try.sizeOf80 rfl rfl rfl .hd (by omega) (D6 mm hw) ?_
 refine ZD ?_
 exact Co v10 (hs := fun w hs => Ai (St.shut hs))
theorem Bq {u : Value} {c : Core} {i : Int} {l : Line} (hs : St (L) R w) (hu : sl u c.lines ∈ R) (hw : l.wf) (hi : 0 ≤ i ∧ i < (c.lines.length : Int)) : Calls Try.prog 81 [.agg (c.cells u).toArray, vi i, .agg l.cells.toArray].toArray w (Bw (fun v : Value => .agg (Core.cells v (A2 c i l c.wait)).toArray) (fun v => L) (fun v => sl v (c.lines.set i.toNat l) :: R)) := by
 have hlen := Bg hu hs
 refine Za2 ?_;intro hone0
 refine Aj Try.func81 rfl Try.ntmps81 rfl hs ?_
 clear hs
 refine Zaz ?_;intro b3
 refine bx ?_; intro b5
 refine al_ (cs := [.slice none 0 0, vi 0, vi 0, vi 0]) Try.zeroValue57 ?_; intro b6
 refine Gm ?_
 refine liO ([] : List Line) Y2 rfl (fun j h => Gu) ?_; intro v8
 refine rn2 ?_
 refine ap Y2 (hb := fun w hs => by have := Bg hu hs; have : maxN = 16777216 := rfl; simp; omega) (k := ?_); intro v11
 refine Gb1 ?_
 refine rn3 ?_
 refine ob (It Ml) ?_
 refine s_W (xs := c.lines) (i := i.toNat) l Try.sizeOf82 rfl rfl rfl pkk (by omega) (rdLine hw) ?_
 refine Gl ?_
 refine JC.shut (v := v11) pkk ?_
 refine JC.know (p := v11.oneCell' = true) (fun w hs => isSlice.one (hs.fact (List.Mem.head _))) (fun hone => ?_)
 refine ZC ?_
 refine s_B (cs := Core.cells v11 (A2 c i l c.wait)) Try.sizeOf57 ?_
 refine Gl ?_
 exact N7 v11 Try.isAgg57 Try.sizeOf57
theorem M3 {cv hv fv u : Value} {x : Chip} {i : Int} {k : Core} (hs : St (L) R w) (hc : sl cv x.cores ∈ R) (hh : hv.oneCell' = true) (hf : fv.oneCell' = true) (hu : sl u k.lines ∈ R) (hw : k.wait.wf) (hi : 0 ≤ i ∧ i < (x.cores.length : Int)) : Calls Try.prog 51 [.agg #[cv, hv, fv], vi i, .agg (k.cells u).toArray].toArray w (Bw (fun v : Value => .agg #[v, hv, fv]) (fun v => L) (fun v => sl v (x.cores.set i.toNat k) :: R)) := by
 have hlen := Bg hc hs
 refine Za2 ?_;intro hone0
 refine Aj Try.func51 rfl Try.ntmps51 rfl hs ?_
 clear hs
 refine Zaz ?_;intro b3
 refine bx ?_; intro b5
 refine Zdj ?_;intro b6
 refine Gm ?_
 refine liO ([] : List Core) Wn rfl (fun j h => Gu) ?_; intro v8
 refine rn2 ?_
 refine ap Wn (hb := fun w hs => by have := Bg hc hs; have : maxN = 16777216 := rfl; simp; omega) (k := ?_); intro v11
 refine Gb1 ?_
 refine rn3 ?_
 refine ob (It Qq) ?_
 refine s_W (xs := x.cores) (i := i.toNat) k Try.sizeOf57 rfl rfl rfl pkk (by omega) (Xr mm hw) ?_
 refine Gl ?_
 refine JC.shut (v := v11) pkk ?_
 refine JC.know (p := v11.oneCell' = true) (fun w hs => isSlice.one (hs.fact (List.Mem.head _))) (fun hone => ?_)
 refine Za0 ?_
 refine s_B (cs := [v11, hv, fv]) Try.sizeOf33 ?_
 refine Gl ?_
 exact N7 v11 Try.isAgg33 Try.sizeOf33
theorem Pf {l : Line} {id home i : Int} (hs : St (L) R w) : Calls Try.prog 82 [.agg l.cells.toArray, vi id, vi home, vi i].toArray w (Bw (fun _ : Unit => .agg (By l id home i).cells.toArray) (fun _ => L) (fun _ => R)) := by
 refine Aj Try.func82 rfl Try.ntmps82 rfl hs ?_
 clear hs
 refine Gm ?_
 refine bx ?_; intro b4
 refine al_ (cs := zMsg.cells) Try.zeroValue49 ?_; intro b8
 refine Gm ?_
 refine rn8 ?_
 refine al_ (cs := zMsg.cells) Try.zeroValue49 ?_; intro b9
 refine s_B Try.sizeOf49 ?_
 refine Zad ?_
 refine cdy ?_ ?_
 ·intro ht20
  refine ZI ?_
  refine sc ?_
  refine ZJ ?_
  refine s_B Try.sizeOf49 ?_
  refine Gl ?_
  have er : By l id home i = ⟨l.want, id, home, i, l.serial, 0, l.value, false⟩ := by unfold By; rw [if_pos ht20]
  refine N7 () Try.isAgg49 Try.sizeOf49 (hv := ?_)
  rw [er]; rfl
 ·intro ht20
  refine ZJ ?_
  refine s_B Try.sizeOf49 ?_
  refine Gl ?_
  have er : By l id home i = ⟨l.want, id, home, i, l.serial, 0, 0, false⟩ := by unfold By; rw [if_neg ht20]
  refine N7 () Try.isAgg49 Try.sizeOf49 (hv := ?_)
  rw [er]; rfl
theorem Hf (id home : Int) : ∀ (l : List Line) (i : Int) (x : Line), Br id home i (l ++ [x]) = Br id home i l ++ if x.want ≠ 0 then [By x id home (i + (l.length : Int))] else []
 | [], i, x => by simp only [List.nil_append, Br, List.length_nil]; split <;> simp
 | a :: l, i, x => by
  have ih := Hf id home l (i + 1) x
  have e : i + 1 + (l.length : Int) = i + ((a :: l).length : Int) := by simp only [List.length_cons]; omega
  rw [e] at ih
  simp only [List.cons_append, Br]
  split <;> simp [ih]
theorem Mg (id home : Int) : ∀ (l : List Line) (i : Int), (Br id home i l).length ≤ l.length
 | [], i => Nat.le_refl _
 | a :: l, i => by
  have := Mg id home l (i + 1)
  simp only [Br]; split <;> simp only [List.length_cons] <;> omega
theorem Vd {l : Line} (h : l.wf) {id home i : Int} (h1 : An id) (h2 : An home) (h3 : An i) : (By l id home i).wf := by
 unfold By Msg.wf; unfold Line.wf at h; unfold An at *; simp only
 split <;> omega
theorem Q3 {u : Value} {c : Core} {id home : Int} (hs : St (L) R w) (hu : sl u c.lines ∈ R) (hid : An id) (hhome : An home) : Calls Try.prog 53 [.agg (c.cells u).toArray, vi id, vi home].toArray w (Bw (fun v : Value => v) (fun v => L) (fun v => sl v (C9 c id home) :: R)) := by
 have hlen := Bg hu hs
 refine Za2 ?_;intro hone0
 refine Aj Try.func53 rfl Try.ntmps53 rfl hs ?_
 clear hs
 refine Zaz ?_;intro b3
 refine Gb1 ?_
 refine Gb1 ?_
 refine Ga4 ?_
 refine ZU ?_
 refine Bx (γ := Nat × Value) (fun g => g.1 ≤ c.lines.length) (fun g => row 49 g.2 (Br id home 0 (c.lines.take g.1)) :: L) (fun _ => R) (fun g => [(1, vi id), (2, vi home), (7, g.2), (11, u), (12, vi (c.lines.length : Int)), (13, vi (g.1 : Int))]) (fun g => c.lines.length - g.1) (0, .slice none 0 0) (Nat.zero_le _) alT (fun w hs => Ai hs) ?_
 rintro ⟨k, vs⟩ hk
 try simp only at hk ⊢
 refine ZE ?_
 refine cdy ?_ ?_
 ·intro ht14
  refine Gl ?_
  refine JC.open0 (xs := c.lines) (v := u) k mm (by omega) (fun hlw => ?_)
  refine ZI ?_
  refine al_ (cs := zLine.cells) Try.zeroValue82 ?_; intro b9
  refine rn1 ?_
  refine s_B (cs := (c.lines.getD k zLine).cells) Try.sizeOf82 ?_
  refine Zad ?_
  refine cdy ?_ ?_
  ·intro ht20
   refine Zax ?_
   refine Ao Try.call82 rfl (fun w hs => Pf (l := c.lines.getD k zLine) (id := id) (home := home) (i := (k : Int)) hs) ?_; intro _
   refine li ([By (c.lines.getD k zLine) id home (k : Int)] : List Msg) Fy rfl (Is (Vd hlw hid hhome (by unfold An; omega))) ?_; intro v27
   refine ap Fy (hb := fun w hs => by have : maxN = 16777216 := rfl; have h9 := Mg id home (c.lines.take k) 0; rw [List.length_take] at h9; simp only [List.length_cons, List.length_nil]; omega) (k := ?_); intro v28
   refine ZH ?_
   refine Bb (k + 1, v28) (by show k + 1 ≤ c.lines.length; omega) (by show c.lines.length - (k + 1) < c.lines.length - k; omega) alT (fun w hs => ?_)
   try simp only
   rw [G7 zLine (by omega), Hf, if_pos ht20, List.length_take, Nat.min_eq_left (by omega), Int.zero_add]
   exact Ai hs
  ·intro ht20
   refine ZD ?_
   refine Bb (k + 1, vs) (by show k + 1 ≤ c.lines.length; omega) (by show c.lines.length - (k + 1) < c.lines.length - k; omega) alT (fun w hs => ?_)
   try simp only
   rw [G7 zLine (by omega), Hf, if_neg ht20, List.append_nil]
   exact Ai hs
 ·intro ht14
  refine ZD ?_
  exact Co vs (hs := fun w hs => by rw [show k = c.lines.length by omega, List.take_length] at hs; exact Ai (St.shut hs))
def E3 (e : Entry) (line id : Int) (k : Nat) : List Msg := ((List.range k).filter (fun p => e.need.toNat.testBit p)).map fun (p : Nat) => (⟨4, id, (p : Int), line, 0, e.turn, 0, false⟩ : Msg)
theorem Oi {e : Entry} {line id : Int} {k : Nat} (h : e.need.toNat.testBit k = true) : E3 e line id (k + 1) = E3 e line id k ++ [⟨4, id, (k : Int), line, 0, e.turn, 0, false⟩] := by
 exact Zgj
theorem Qt {e : Entry} {line id : Int} {k : Nat} (h : e.need.toNat.testBit k = false) : E3 e line id (k + 1) = E3 e line id k := by
 exact Zgj
theorem Oj (e : Entry) (line id : Int) (k : Nat) : (E3 e line id k).length ≤ k := by
 unfold E3; rw [List.length_map]
 exact Nat.le_trans (List.length_filter_le ..) (by simp)
theorem Ol {e : Entry} {line id : Int} (h : e.phase = 2) : E3 e line id 4 = D4 e line id := by
 unfold E3 D4
 rw [if_neg (by omega), if_pos h]
 show _ = List.map _ (List.filter _ ([0, 1, 2, 3].map (fun p : Nat => (p : Int))))
 rw [List.filter_map, List.map_map]
 rfl
theorem Iq {u : Value} {e : Entry} {line id : Int} (hs : St (L) R w) (hb : EB e) (hu : u.oneCell' = true) (hl : An line) (hid : An id) : Calls Try.prog 54 [.agg (e.cells u).toArray, vi line, vi id].toArray w (Bw (fun v : Value => v) (fun v => L) (fun v => sl v (D4 e line id) :: R)) := by
 have hb0 := hb
 unfold EB Entry.wf An at hb0
 unfold An at hl hid
 refine Aj Try.func54 rfl Try.ntmps54 rfl hs ?_
 clear hs
 refine Zaz ?_;intro b3
 refine Gb1 ?_
 refine Gb1 ?_
 refine rn5 ?_
 refine al_ (cs := zMsg.cells) Try.zeroValue49 ?_; intro b8
 refine s_B (cs := [vi 0, vi id, vi 0, vi line, vi 0, vi e.turn, vi 0, .bool false]) Try.sizeOf49 ?_
 refine ZaQ ?_
 refine Ga2 ?_
 refine cdy ?_ ?_
 ·intro ht17
  refine Gl ?_
  refine cq_ (blk b8 49 [vi 0, vi id, vi 0, vi line, vi 0, vi e.turn, vi 0, .bool false] :: blk b3 80 (e.cells u) :: L) ?_
  refine jd_ (fun ρ S => blk b8 49 (bif S 5 then [vi 5, vi id, vi e.owner, vi line, vi 0, vi e.turn, vi 0, .bool false] else (bif S 3 then [vi 5, vi id, vi 0, vi line, vi 0, vi e.turn, vi 0, .bool false] else [vi 0, vi id, vi 0, vi line, vi 0, vi e.turn, vi 0, .bool false])) :: blk b3 80 (e.cells u) :: L) ?_
  refine dn3 ?_
  refine es_ 49 0 [] [5] (fun ρ => b8) (fun ρ => [vi 0, vi id, vi 0, vi line, vi 0, vi e.turn, vi 0, .bool false]) (fun ρ => [vi 5]) Try.sizeOf3 ?_
  refine dn1 ?_
  refine es_ 49 2 [3] [] (fun ρ => b8) (fun ρ => [vi 5, vi id, vi 0, vi line, vi 0, vi e.turn, vi 0, .bool false]) (fun ρ => [vi e.owner]) Try.sizeOf3 ?_
  refine dnl ?_; intro ρ
  refine xq_ (blk b8 49 [vi 5, vi id, vi e.owner, vi line, vi 0, vi e.turn, vi 0, .bool false] :: blk b3 80 (e.cells u) :: L) ?_
  refine ZD ?_
  refine Bk (b := ?b2) ?e2 ?_ ?_; case e2 => exact rfl
  ·intro ht24
   refine ZB ?_
   refine sc ?_
   refine Gl ?_
   refine ZU ?_
   refine ZA ?_
   refine li ([⟨6, id, e.owner, line, 0, e.turn, 0, false⟩] : List Msg) Fy rfl (Is (by unfold Msg.wf An; simp only; omega)) ?_; intro v28
   refine ap Fy (hb := fun w hs => by have : maxN = 16777216 := rfl; simp only [List.length_cons, List.length_nil, List.length_take, List.length_append]; omega) (k := ?_); intro v29
   refine ZH ?_
   have er : D4 e line id = [⟨6, id, e.owner, line, 0, e.turn, 0, false⟩] := by unfold D4; rw [if_pos ht17, ht24]; rfl
   rw [er]
   exact Co v29 (hs := fun w hs => Ai (St.shut (hs.pick pkk)))
  ·intro ht24
   refine Gl ?_
   refine ZU ?_
   refine ZA ?_
   refine li ([⟨5, id, e.owner, line, 0, e.turn, 0, false⟩] : List Msg) Fy rfl (Is (by unfold Msg.wf An; simp only; omega)) ?_; intro v28
   refine ap Fy (hb := fun w hs => by have : maxN = 16777216 := rfl; simp only [List.length_cons, List.length_nil, List.length_take, List.length_append]; omega) (k := ?_); intro v29
   refine ZH ?_
   have er : D4 e line id = [⟨5, id, e.owner, line, 0, e.turn, 0, false⟩] := by unfold D4; rw [if_pos ht17, ht24]; rfl
   rw [er]
   exact Co v29 (hs := fun w hs => Ai (St.shut (hs.pick pkk)))
 ·intro ht17
  refine ZD ?_
  refine cdy ?_ ?_
  ·intro ht30
   refine Gl ?_
   refine ZU ?_
   refine Zas ?_
   refine Bx (γ := Nat × Value × Int × Int) (fun g => g.1 ≤ 4) (fun g => row 49 g.2.1 (E3 e line id g.1) :: blk b8 49 [vi g.2.2.1, vi id, vi g.2.2.2, vi line, vi 0, vi e.turn, vi 0, .bool false] :: blk b3 80 (e.cells u) :: L) (fun _ => R) (fun g => [(3, bp b3 0), (7, g.2.1), (8, bp b8 0), (32, vi (g.1 : Int))]) (fun g => 4 - g.1) (0, .slice none 0 0, 0, 0) (Nat.zero_le _) alT (fun w hs => Ai hs) ?_
   rintro ⟨k, vs, x0, x2⟩ hk
   try simp only at hk ⊢
   have hsl := Oj e line id k
   refine ZE ?_
   refine cdy ?_ ?_
   ·intro ht33
    refine ZaQ ?_
    refine rn3 ?_
    refine Ao Try.call85 rfl (fun w hs => by have h := On (z := e.need.toNat) (k := k) hs (by omega) (by omega); rw [Int.toNat_of_nonneg hb.2.2.1.1] at h; exact h) ?_; intro _
    refine Gl ?_
    first | (refine cdx (p := ?p5) (hd := ?d5) ?e5 ?_ ?_; case e5 => exact rfl) | (refine Bk (b := ?b5) ?e5 ?_ ?_; case e5 => exact rfl)
    ·intro ht38
     refine ZK ?_
     refine Zaq ?_
     refine ZK ?_
     refine li ([⟨4, id, (k : Int), line, 0, e.turn, 0, false⟩] : List Msg) Fy rfl (Is (by unfold Msg.wf An; simp only; omega)) ?_; intro v44
     refine ap Fy (hb := fun w hs => by have : maxN = 16777216 := rfl; simp only [List.length_cons, List.length_nil, List.length_take, List.length_append]; omega) (k := ?_); intro v45
     refine Ga1 ?_
     refine kp [3, 6, 7, 8, 9, 16, 32, 33, 34, 35, 36, 37, 38, 39, 40, 41, 42, 43, 44, 45, 46] ?_
     refine ZW ?_
     refine Bb (k + 1, v45, 4, (k : Int)) (by show k + 1 ≤ 4; omega) (by show 4 - (k + 1) < 4 - k; omega) alT (fun w hs => ?_)
     try simp only
     rw [Oi ht38]; exact Ai hs
    ·intro ht38
     refine ZD ?_
     refine Bb (k + 1, vs, x0, x2) (by show k + 1 ≤ 4; omega) (by show 4 - (k + 1) < 4 - k; omega) alT (fun w hs => ?_)
     try simp only
     rw [Qt ht38]; exact Ai hs
   ·intro ht33
    refine ZD ?_
    have hk4 : k = 4 := by omega
    subst hk4
    have er : D4 e line id = E3 e line id 4 := (Ol ht30).symm
    rw [er]
    exact Co vs (hs := fun w hs => Ai (St.shut (hs.pick pkk)))
  ·intro ht30
   refine ZD ?_
   refine cdy ?_ ?_
   ·intro ht47
    refine Gl ?_
    refine cq_ (blk b8 49 [vi 0, vi id, vi 0, vi line, vi 0, vi e.turn, vi 0, .bool false] :: blk b3 80 (e.cells u) :: L) ?_
    refine jd_ (fun ρ S => blk b8 49 (bif S 17 then [vi 7, vi id, vi e.who, vi line, vi e.serial, vi e.turn, vi e.value, .bool e.alone] else (bif S 15 then [vi 7, vi id, vi e.who, vi line, vi e.serial, vi e.turn, vi e.value, .bool false] else (bif S 13 then [vi 7, vi id, vi e.who, vi line, vi e.serial, vi e.turn, vi 0, .bool false] else (bif S 11 then [vi 7, vi id, vi e.who, vi line, vi 0, vi e.turn, vi 0, .bool false] else (bif S 9 then [vi 7, vi id, vi 0, vi line, vi 0, vi e.turn, vi 0, .bool false] else [vi 0, vi id, vi 0, vi line, vi 0, vi e.turn, vi 0, .bool false]))))) :: blk b3 80 (e.cells u) :: L) ?_
    refine dn9 ?_
    refine es_ 49 0 [] [11, 13, 15, 17] (fun ρ => b8) (fun ρ => [vi 0, vi id, vi 0, vi line, vi 0, vi e.turn, vi 0, .bool false]) (fun ρ => [vi 7]) Try.sizeOf3 ?_
    refine dn1 ?_
    refine es_ 49 2 [9] [13, 15, 17] (fun ρ => b8) (fun ρ => [vi 7, vi id, vi 0, vi line, vi 0, vi e.turn, vi 0, .bool false]) (fun ρ => [vi e.who]) Try.sizeOf3 ?_
    refine dn1 ?_
    refine es_ 49 4 [9, 11] [15, 17] (fun ρ => b8) (fun ρ => [vi 7, vi id, vi e.who, vi line, vi 0, vi e.turn, vi 0, .bool false]) (fun ρ => [vi e.serial]) Try.sizeOf3 ?_
    refine dn1 ?_
    refine es_ 49 6 [9, 11, 13] [17] (fun ρ => b8) (fun ρ => [vi 7, vi id, vi e.who, vi line, vi e.serial, vi e.turn, vi 0, .bool false]) (fun ρ => [vi e.value]) Try.sizeOf3 ?_
    refine dn1 ?_
    refine es_ 49 7 [9, 11, 13, 15] [] (fun ρ => b8) (fun ρ => [vi 7, vi id, vi e.who, vi line, vi e.serial, vi e.turn, vi e.value, .bool false]) (fun ρ => [.bool e.alone]) Try.sizeOf4 ?_
    refine dnl ?_; intro ρ
    refine xq_ (blk b8 49 [vi 7, vi id, vi e.who, vi line, vi e.serial, vi e.turn, vi e.value, .bool e.alone] :: blk b3 80 (e.cells u) :: L) ?_
    refine Gl ?_
    refine ZU ?_
    refine kp [6, 7, 8, 62, 63, 64, 65] ?_
    refine ZA ?_
    refine li ([⟨7, id, e.who, line, e.serial, e.turn, e.value, e.alone⟩] : List Msg) Fy rfl (Is (by unfold Msg.wf An; simp only; omega)) ?_; intro v64
    refine ap Fy (hb := fun w hs => by have : maxN = 16777216 := rfl; simp only [List.length_cons, List.length_nil, List.length_take, List.length_append]; omega) (k := ?_); intro v65
    refine ZH ?_
    have er : D4 e line id = [⟨7, id, e.who, line, e.serial, e.turn, e.value, e.alone⟩] := by unfold D4; rw [if_neg ht17, if_neg ht30, if_pos ht47]
    rw [er]
    exact Co v65 (hs := fun w hs => Ai (St.shut (hs.pick pkk)))
   ·intro ht47
    refine ZD ?_
    have er : D4 e line id = [] := by unfold D4; rw [if_neg ht17, if_neg ht30, if_neg ht47]
    rw [er]
    exact Co (.slice none 0 0) (hs := fun w hs => Ai (St.shut (hs.rowNil 49 Msg)))
def dX (m : List Int) (o : Op) : List Int := m.set o.line.toNat (Ay (m.getD o.line.toNat 0) o).1
def Zg (m : List Int) (o : Op) (k : Nat) : List Int := (dX m o).take k
def Ob (m : List Int) (o : Op) (k : Nat) : Int := if o.line.toNat < k then (Ay (m.getD o.line.toNat 0) o).2 else 0
theorem Kr (m : List Int) (o : Op) (k : Nat) : (Zg m o k).length ≤ k := by unfold Zg; rw [List.length_take]; omega
theorem Ajm {m : List Int} {o : Op} {k : Nat} (h : k < m.length) (h0 : 0 ≤ o.line) (hn : ¬ (k : Int) = o.line) : Zg m o (k + 1) = Zg m o k ++ [m.getD k 0] ∧ Ob m o (k + 1) = Ob m o k := by
 have hk : o.line.toNat ≠ k := by omega
 constructor
 ·unfold Zg dX
  rw [G7 0 (by rw [List.length_set]; exact h)]
  simp [List.getD_eq_getElem?_getD, List.getElem?_set_ne hk]
 ·unfold Ob
  by_cases h1 : o.line.toNat < k
  ·rw [if_pos h1, if_pos (by omega)]
  ·rw [if_neg h1, if_neg (by omega)]
theorem P3 {m : List Int} {o : Op} {k : Nat} (h : k < m.length) (h0 : 0 ≤ o.line) (hn : (k : Int) = o.line) : Zg m o (k + 1) = Zg m o k ++ [(Ay (m.getD k 0) o).1] ∧ Ob m o (k + 1) = (Ay (m.getD k 0) o).2 ∧ Ob m o k = 0 := by
 have hk : o.line.toNat = k := by omega
 refine ⟨?_, ?_, ?_⟩
 ·unfold Zg dX
  rw [G7 0 (by rw [List.length_set]; exact h)]
  subst hk
  simp [List.getD_eq_getElem?_getD, h]
 ·unfold Ob; rw [hk, if_pos (by omega)]
 ·unfold Ob; rw [hk, if_neg (by omega)]
theorem opv1 {v : Int} {o : Op} (h : o.kind = 1) : Ay v o = (v, v) := by unfold Ay; rw [if_pos h]
theorem opv2 {v : Int} {o : Op} (h : o.kind = 2) : Ay v o = (o.value, 0) := by unfold Ay; rw [if_neg (by omega), if_pos h]
theorem opv3 {v : Int} {o : Op} (h : o.kind = 3) : Ay v o = ((v + o.value) % 256, v) := by unfold Ay; rw [if_neg (by omega), if_neg (by omega), if_pos h]
theorem opv4 {v : Int} {o : Op} (h : o.kind = 4) : Ay v o = (v, 0) := by unfold Ay; rw [if_neg (by omega), if_neg (by omega), if_neg (by omega)]
theorem Xq {R : List Fact} {c : Int} (h : An c) : ∀ j, (∀ q ∈ R, q.p j) → RdV [c] [vi c] j := rd_0 (cs := [vi c]) (fun _ => ⟨rfl, h⟩)
theorem refDo {v0 : Value} {m : List Int} {o : Op} (hs : St (L) R w) (h0 : sl v0 m ∈ R) : Calls Try.prog 66 [v0, .agg o.cells.toArray].toArray w (Bw (fun v : Value => .tuple #[v, vi (Db m o).2.1, vi (Db m o).2.2]) (fun v => L) (fun v => sl v (Db m o).1 :: R)) := by
 have hlen := Bg h0 hs
 refine Aj Try.func66 rfl Try.ntmps66 rfl hs ?_
 clear hs
 refine Zaz ?_;intro b3
 refine Ga3 ?_
 rcases (show (o.kind < 1) ∨ (¬ o.kind < 1 ∧ 4 < o.kind) ∨ (1 ≤ o.kind ∧ o.kind ≤ 4) from by omega) with hc | hc | hc
 ·refine ZX ?_
  refine Gd5 ?_
  exact Zga
 ·refine Zbl ?_
  refine Gd1 ?_
  exact Zga
 ·refine Za8 ?_
  refine Gc1 ?_
  rcases (show (o.line < 0) ∨ (0 ≤ o.line ∧ (m.length : Int) ≤ o.line) ∨ (0 ≤ o.line ∧ o.line < (m.length : Int) ∧ o.value < 0) ∨ (0 ≤ o.line ∧ o.line < (m.length : Int) ∧ 255 < o.value) ∨ (0 ≤ o.line ∧ o.line < (m.length : Int) ∧ 0 ≤ o.value ∧ o.value ≤ 255) from by omega) with hc | hc | hc | hc | hc
  ·refine ZX ?_
   refine Gc17 ?_
   exact Zfv
  ·refine ZZ ?_
   refine ZR ?_
   refine Hj ?_
   refine Gc11 ?_
   exact Zfv
  ·refine Zb4 ?_
   refine ZaD ?_
   refine Gc6 ?_
   exact Zfv
  ·refine Zb4 ?_
   refine Za6 ?_
   refine G3 ?_
   refine Gc1 ?_
   exact Zfv
  ·refine Zb4 ?_
   refine Zaw ?_
   refine Gc1 ?_
   refine kp [0, 3, 4, 5, 6, 7] ?_
   refine Aa ?_
   refine Gb1 ?_
   refine ZaA ?_
   refine JC.rowNil 3 Int ?_
   refine Bx (γ := Nat × Value × Int) (fun g => g.1 ≤ m.length ∧ g.2.2 = Ob m o g.1) (fun g => row 3 g.2.1 (Zg m o g.1) :: blk b3 26 o.cells :: L) (fun _ => R) (fun g => [(3, bp b3 0), (7, g.2.1), (8, vi g.2.2), (39, v0), (40, vi (m.length : Int)), (41, vi (g.1 : Int))]) (fun g => m.length - g.1) (0, .slice none 0 0, 0) ⟨Nat.zero_le _, by unfold Ob; rw [if_neg (by omega)]⟩ alT (fun w hs => Ai hs) ?_
   rintro ⟨k, vs, told⟩ ⟨hk, ht⟩
   try simp only at hk ht ⊢
   refine ZE ?_
   refine cdy ?_ ?_
   ·intro ht42
    refine Gl ?_
    refine JC.open0 (xs := m) (v := v0) k mm (by omega) (fun hw => ?_)
    have hw9 : An (m.getD k 0) := hw
    refine Aa ?_
    refine Gb5 ?_
    refine Ga4 ?_
    refine cdy ?_ ?_
    ·intro ht49
     refine Gl ?_
     rcases (show (o.kind = 1) ∨ (o.kind = 2) ∨ (o.kind = 3) ∨ (o.kind = 4) from by omega) with hc | hc | hc | hc
     ·refine Aa ?_
      first | refine ob (Aad H3) ?_ | refine ob (Aac H3) ?_
      refine rn1 ?_
      refine Cs ?_
      refine Gd5 ?_
      refine Gb2 ?_
      refine rn2 ?_
      refine ZaR ?_
      refine ZdL ?_
      refine li ([m.getD k 0] : List Int) Ff rfl (Xq (by unfold An at hw9 ⊢; omega)) ?_; intro v76
      refine ap Ff (hb := fun w hs => by have : maxN = 16777216 := rfl; have h9 := Kr m o k; simp only [List.length_cons, List.length_nil]; omega) (k := ?_); intro v77
      refine ZH ?_
      obtain ⟨e1, e2, e3⟩ := P3 (m := m) (o := o) (k := k) (by omega) (by omega) ht49
      rw [opv1 hc] at e1 e2
      refine Zep ?_;intro w hs
      try simp only
      rw [e1]
      exact Ai hs
     ·refine Aa ?_
      first | refine ob (Aad H3) ?_ | refine ob (Aac H3) ?_
      refine rn1 ?_
      refine As ?_
      refine ZQ ?_
      refine ZF ?_
      refine rn2 ?_
      refine Cs ?_
      refine Gmc ?_
      refine Gb3 ?_
      refine ZdL ?_
      refine li ([o.value] : List Int) Ff rfl (Xq (by unfold An at hw9 ⊢; omega)) ?_; intro v76
      refine ap Ff (hb := fun w hs => by have : maxN = 16777216 := rfl; have h9 := Kr m o k; simp only [List.length_cons, List.length_nil]; omega) (k := ?_); intro v77
      refine ZH ?_
      obtain ⟨e1, e2, e3⟩ := P3 (m := m) (o := o) (k := k) (by omega) (by omega) ht49
      rw [opv2 hc] at e1 e2
      refine Zel ?_;intro w hs
      try simp only
      rw [e1]
      exact Ai hs
     ·refine Aa ?_
      first | refine ob (Aad H3) ?_ | refine ob (Aac H3) ?_
      refine rn1 ?_
      refine As ?_
      refine ZQ ?_
      refine Cs ?_
      refine Gd1 ?_
      refine Gb2 ?_
      refine rn2 ?_
      refine ZaR ?_
      refine rn2 ?_
      refine Cs ?_
      refine Glc ?_
      refine kp [3, 4, 5, 6, 7, 8, 9, 10, 39, 40, 41, 42, 43, 44, 45, 46, 47, 48, 49, 50, 51, 52, 53, 54, 55, 56, 57, 58, 59, 60, 61, 62, 63, 64, 65, 66, 67, 68, 69, 70, 71, 72, 73] ?_
      refine ZI ?_
      refine ob (F1 (a := m.getD k 0) (b := o.value) Afw) ?_
      refine ob (F1 (b := 256) (Aem (by decide) (O5 _ (by decide) (by decide)).1 (O5 _ (by decide) (by decide)).2)) ?_
      refine ob (F1 (a := (IntKind.i64.wrap (m.getD k 0 + o.value)).tmod 256) (b := 256) (Ly (by have := Lz (IntKind.i64.wrap (m.getD k 0 + o.value)) (show (0 : Int) < 256 by decide); omega) (by have := Lz (IntKind.i64.wrap (m.getD k 0 + o.value)) (show (0 : Int) < 256 by decide); omega))) ?_
      refine ob (F1 (b := 256) (Aem (by decide) (O5 _ (by decide) (by decide)).1 (O5 _ (by decide) (by decide)).2)) ?_
      rw [Aam, Oc]
      refine Gb1 ?_
      refine rn2 ?_
      refine li ([(m.getD k 0 + o.value) % 256] : List Int) Ff rfl (Xq (by unfold An at hw9 ⊢; omega)) ?_; intro v76
      refine ap Ff (hb := fun w hs => by have : maxN = 16777216 := rfl; have h9 := Kr m o k; simp only [List.length_cons, List.length_nil]; omega) (k := ?_); intro v77
      refine ZH ?_
      obtain ⟨e1, e2, e3⟩ := P3 (m := m) (o := o) (k := k) (by omega) (by omega) ht49
      rw [opv3 hc] at e1 e2
      refine Zep ?_;intro w hs
      try simp only
      rw [e1]
      exact Ai hs
     ·refine Aa ?_
      first | refine ob (Aad H3) ?_ | refine ob (Aac H3) ?_
      refine rn1 ?_
      refine As ?_
      refine ZQ ?_
      refine ZF ?_
      refine rn2 ?_
      refine ZaR ?_
      refine rn2 ?_
      refine ZaR ?_
      refine rn2 ?_
      refine li ([m.getD k 0] : List Int) Ff rfl (Xq (by unfold An at hw9 ⊢; omega)) ?_; intro v76
      refine ap Ff (hb := fun w hs => by have : maxN = 16777216 := rfl; have h9 := Kr m o k; simp only [List.length_cons, List.length_nil]; omega) (k := ?_); intro v77
      refine Ga1 ?_
      refine kp [3, 4, 5, 6, 7, 8, 9, 10, 39, 40, 41, 42, 43, 44, 45, 46, 47, 48, 49, 50, 51, 52, 53, 54, 55, 56, 57, 58, 59, 60, 61, 62, 63, 64, 65, 66, 67, 68, 69, 70, 71, 72, 73, 74, 75, 76, 77, 78] ?_
      refine ZW ?_
      obtain ⟨e1, e2, e3⟩ := P3 (m := m) (o := o) (k := k) (by omega) (by omega) ht49
      rw [opv4 hc] at e1 e2
      refine Zel ?_;intro w hs
      try simp only
      rw [e1]
      exact Ai hs
    ·intro ht49
     refine ZK ?_
     refine li ([m.getD k 0] : List Int) Ff rfl (Xq (by unfold An at hw9 ⊢; omega)) ?_; intro v76
     refine ap Ff (hb := fun w hs => by have : maxN = 16777216 := rfl; have h9 := Kr m o k; simp only [List.length_cons, List.length_nil]; omega) (k := ?_); intro v77
     refine ZH ?_
     obtain ⟨e1, e2⟩ := Ajm (m := m) (o := o) (k := k) (by omega) (by omega) ht49
     refine Bb (k + 1, v77, told) ⟨by show k + 1 ≤ m.length; omega, by show told = _; rw [e2]; exact ht⟩ (by show m.length - (k + 1) < m.length - k; omega) alT (fun w hs => ?_)
     try simp only
     rw [e1]; exact Ai hs
   ·intro ht42
    refine Gm ?_
    refine Ga5 ?_
    have hkl : k = m.length := by omega
    have er : Db m o = (dX m o, (Ay (m.getD o.line.toNat 0) o).2, 0) := by unfold Db; rw [if_neg (by omega), if_neg (by omega)]; rfl
    rw [er]
    have e1 : Zg m o k = dX m o := by unfold Zg; rw [List.take_of_length_le (by unfold dX; rw [List.length_set]; omega)]
    have e2 : told = (Ay (m.getD o.line.toNat 0) o).2 := by rw [ht]; unfold Ob; rw [if_pos (by omega)]
    rw [e1]
    rw [e2]
    exact Gt vs (hs := fun w hs => Ai (St.shut (hs.pick pkk)))
def Jx (v : Int) (o : Op) : List Int := (List.replicate (o.line + 1).toNat 0).set o.line.toNat v
theorem Mh {v : Int} {o : Op} (h : 0 ≤ o.line) : (Jx v o).length = o.line.toNat + 1 := by unfold Jx; rw [List.length_set, List.length_replicate]; omega
theorem L3 {v : Int} {o : Op} (h : 0 ≤ o.line) : (Jx v o).getD o.line.toNat 0 = v := by
 unfold Jx
 rw [List.getD_eq_getElem?_getD, List.getElem?_set_self (by rw [List.length_replicate]; omega)]; rfl
theorem Aev {v : Int} {o : Op} (hk : 1 ≤ o.kind ∧ o.kind ≤ 4) (h : 0 ≤ o.line) (h2 : 0 ≤ o.value ∧ o.value ≤ 255) : Db (Jx v o) o = (dX (Jx v o) o, (Ay v o).2, 0) := by
 have hl := Mh (v := v) h
 unfold Db; rw [if_neg (by omega), if_neg (by omega), L3 h]; unfold dX; rw [L3 h]
theorem dX_at {m : List Int} {o : Op} (h : o.line.toNat < m.length) : (dX m o).getD o.line.toNat 0 = (Ay (m.getD o.line.toNat 0) o).1 := by
 unfold dX; rw [List.getD_eq_getElem?_getD, List.getElem?_set_self h]; rfl
theorem Gd {v : Int} {o : Op} (h0 : 0 ≤ v ∧ v ≤ 255) (h2 : 0 ≤ o.value ∧ o.value ≤ 255) : (0 ≤ (Ay v o).1 ∧ (Ay v o).1 ≤ 255) ∧ (0 ≤ (Ay v o).2 ∧ (Ay v o).2 ≤ 255) := by
 unfold Ay; split
 ·exact ⟨h0, h0⟩
 split
 ·exact ⟨h2, by simp only; omega⟩
 split
 ·simp only; omega
 ·exact ⟨h0, by simp only; omega⟩
theorem M5 {v : Int} {o : Op} (hs : St (L) R w) (hv : An v) (hk : 1 ≤ o.kind ∧ o.kind ≤ 4) (hl : 0 ≤ o.line ∧ o.line < 1000) (hval : 0 ≤ o.value ∧ o.value ≤ 255) : Calls Try.prog 83 [vi v, .agg o.cells.toArray].toArray w (Bw (fun _ : Unit => .tuple #[vi (Ay v o).1, vi (Ay v o).2]) (fun _ => L) (fun _ => R)) := by
 refine Aj Try.func83 rfl Try.ntmps83 rfl hs ?_
 clear hs
 refine Zaz ?_;intro b3
 refine Gb2 ?_
 refine rn3 ?_
 refine Afb (α := Int) (x0 := 0) (zc := [vi 0]) Ff rfl (by decide) rfl rfl rfl (fun j => ⟨rfl, by unfold An; omega⟩) (by omega) (by omega) ?_; intro v13
 refine Gb1 ?_
 refine rn4 ?_
 refine ob (It Xh (h1 := by rw [List.length_replicate]; omega)) ?_
 refine Ez (xs := List.replicate (o.line + 1).toNat 0) Try.sizeOf3 rfl rfl pkk (getD_some 0 (by rw [List.length_replicate]; omega)) hv ?_
 refine Gl ?_
 refine JC.shut (xs := Jx v o) (v := v13) pkk ?_
 have hml := Mh (v := v) hl.1
 refine ZA ?_
 refine Ao Try.call66 rfl (fun w hs => by have h := refDo (o := o) hs (List.Mem.head _); rw [Aev hk hl.1 hval] at h; exact h) ?_; intro v22
 refine Ga7 ?_
 refine JC.open0 (xs := dX (Jx v o) o) (v := v22) o.line.toNat mm (by unfold dX; rw [List.length_set, hml]; omega) (fun hw => ?_)
 refine ZI ?_
 refine ob (It Xh (len := (dX (Jx v o) o).length) (hl := Er (.tail _ (.head _))) (h1 := by unfold dX; rw [List.length_set, hml]; omega)) ?_
 refine Ga4 ?_
 have e9 : (dX (Jx v o) o).getD o.line.toNat 0 = (Ay v o).1 := by rw [dX_at (by rw [hml]; omega), L3 hl.1]
 refine Ci () (hv := ?_)
 exact congrArg (fun z => Value.tuple #[vi z, vi (Ay v o).2]) e9
theorem Aej : ∀ (s : _root_.Fin 16) (k : _root_.Fin 4), (s.val.testBit k.val = true → Hr (s.val : Int) (k.val : Int) = (s.val : Int) ∧ Gs (s.val : Int) (k.val : Int) = (s.val : Int) - ((2 ^ k.val : Nat) : Int)) ∧ (s.val.testBit k.val = false → Hr (s.val : Int) (k.val : Int) = (s.val : Int) + ((2 ^ k.val : Nat) : Int) ∧ Gs (s.val : Int) (k.val : Int) = (s.val : Int)) ∧ (0 ≤ Hr (s.val : Int) (k.val : Int) ∧ Hr (s.val : Int) (k.val : Int) < 16) ∧ (0 ≤ Gs (s.val : Int) (k.val : Int) ∧ Gs (s.val : Int) (k.val : Int) < 16) := by decide
theorem Cr {s k : Int} (h0 : 0 ≤ s) (h1 : s < 16) (h2 : 0 ≤ k) (h3 : k < 4) : (s.toNat.testBit k.toNat = true → Hr s k = s ∧ Gs s k = s - ((2 ^ k.toNat : Nat) : Int)) ∧ (s.toNat.testBit k.toNat = false → Hr s k = s + ((2 ^ k.toNat : Nat) : Int) ∧ Gs s k = s) ∧ (0 ≤ Hr s k ∧ Hr s k < 16) ∧ (0 ≤ Gs s k ∧ Gs s k < 16) := by
 obtain ⟨a, rfl⟩ := Int.eq_ofNat_of_zero_le h0
 obtain ⟨b, rfl⟩ := Int.eq_ofNat_of_zero_le h2
 exact Aej ⟨a, by omega⟩ ⟨b, by omega⟩
theorem D8 (e : Entry) : (A9 e).last = e.last := by
 unfold A9; split
 ·rfl
 ·split <;> rfl
theorem Di {e : Entry} (h : EB e) : EB (A9 e) := by
 obtain ⟨h1, h2, h3, h4, h5, h6⟩ := h
 obtain ⟨_, _, _, r⟩ := Cr h2.1 h2.2 h4.1 h4.2
 unfold Entry.wf An at h1
 unfold A9 EB Entry.wf An
 split
 ·simp only; omega
 split
 ·simp only; omega
 ·simp only; omega
theorem Xl {l : List Entry} {i : Int} (h : i.toNat < l.length) : l.set i.toNat (Ad l i) = l := by
 have : Ad l i = l[i.toNat] := by unfold Ad; simp [List.getD_eq_getElem?_getD, h]
 rw [this, List.set_getElem_self]
theorem D9 {L L' : List Chunk} {R : List Fact} {T : TypeId} {v : Value} {xs : List Int} {i : Nat} (hp : Pick L (row T v xs) L') (hi : i < xs.length) : C2 L R (ep v 1 i 0) [vi (xs.getD i 0)] := Z7 hp (getD_some 0 hi)
theorem E8 {l : List Entry} {id : Int} {m : Msg} {X : Entry} {ms : List Msg} (h0 : ¬ (m.line < 0 ∨ (l.length : Int) ≤ m.line ∨ m.src < 0 ∨ ((Ad l m.line).last.length : Int) ≤ m.src)) (h : Ag (Ad l m.line) id m = (X, ms)) : Al l id m = (l.set m.line.toNat X, ms) := by
 unfold Al; rw [if_neg h0, h]
theorem C8 {l : List Entry} {id : Int} {m : Msg} (h0 : ¬ (m.line < 0 ∨ (l.length : Int) ≤ m.line ∨ m.src < 0 ∨ ((Ad l m.line).last.length : Int) ≤ m.src)) (h : Ag (Ad l m.line) id m = (Ad l m.line, [])) : Al l id m = (l, []) := by
 rw [E8 h0 h, Xl (by omega)]
theorem E5 {P : Program} {n : Nat} {Q : Exit → Act → World → Prop} {L : List Chunk} {R : List Fact} {al : List (Nat × Value)} {c : Code} {v : Value} {l : List Entry} (i : Int) (hm : sl v l ∈ R) (h0 : 0 ≤ i) (hi : i < l.length) (k : (Ad l i).wf → ∀ u, JC P n c Q L (cF v 10 i.toNat (Entry.cells u (Ad l i)) :: sl u (Ad l i).last :: R) al) : JC P n c Q L R al := JC.open1 i.toNat hm (by omega) k
theorem Aek {s k : Int} (h0 : 0 ≤ s) (h1 : s < 16) (h2 : 0 ≤ k) (h3 : k < 4) (ht : s.toNat.testBit k.toNat = false) : 0 ≤ s + ((2 ^ k.toNat : Nat) : Int) ∧ s + ((2 ^ k.toNat : Nat) : Int) < 16 := by
 obtain ⟨_, b, c, _⟩ := Cr h0 h1 h2 h3
 rw [← (b ht).1]; exact c
theorem Qa {s k : Int} (h0 : 0 ≤ s) (h1 : s < 16) (h2 : 0 ≤ k) (h3 : k < 4) (ht : s.toNat.testBit k.toNat = true) : 0 ≤ s - ((2 ^ k.toNat : Nat) : Int) ∧ s - ((2 ^ k.toNat : Nat) : Int) < 16 := by
 obtain ⟨b, _, _, c⟩ := Cr h0 h1 h2 h3
 rw [← (b ht).2]; exact c
theorem E7 {v : Value} {xs : List Int} (hm : sl v xs ∈ R) (hs : St L R w) : ∀ x ∈ xs, An x := by
 intro x hx
 obtain ⟨i, hi, rfl⟩ := List.getElem_of_mem hx
 obtain ⟨cs, m, hr⟩ := sl_rd hm (List.getElem?_eq_getElem hi) hs
 exact hr.2
end Go.Proofs.Ytehpekiedfpnkaa
namespace Go.Proofs.Ytehpekiedfpnkaa
namespace Abs
structure Ab where
 value : Int
 owner : Int
 phase : Int
 who : Int
 serial : Int
 alone : Int
 turn : Int
 last : Nat → Int
 sh : Nat → Int
 nd : Nat → Int
structure GI (n : Nat) (e : Ab) : Prop where
 own : -1 ≤ e.owner ∧ e.owner < n
 ph : 0 ≤ e.phase ∧ e.phase ≤ 3
 idle : e.phase = 0 → e.who = 0 ∧ e.serial = 0 ∧ e.alone = 0
 whor : e.phase ≠ 0 → 0 ≤ e.who ∧ e.who < n
 f1 : e.phase = 1 → 0 ≤ e.owner ∧ e.owner ≠ e.who
 f23 : 2 ≤ e.phase → e.owner = -1
 c2 : e.phase = 2 → e.alone = 1 ∧ ∃ p : Nat, p < n ∧ e.nd p = 1
 al : 0 ≤ e.alone ∧ e.alone ≤ 1
 tu : 0 ≤ e.turn ∧ e.turn ≤ 65535
 va : 0 ≤ e.value ∧ e.value ≤ 255
 se : 0 ≤ e.serial ∧ e.serial ≤ 65535
structure CI (e : Ab) (p : Nat) (l : Line) (V : Int) : Prop where
 st : 0 ≤ l.state ∧ l.state ≤ 3
 va : 0 ≤ l.value ∧ l.value ≤ 255
 wa : 0 ≤ l.want ∧ l.want ≤ 3
 se : 0 ≤ l.serial ∧ l.serial ≤ 65535
 ga : 0 ≤ l.gave ∧ l.gave ≤ l.seen ∧ l.seen ≤ e.turn
 gi : 0 ≤ l.given ∧ l.given ≤ 255
 la : 0 ≤ e.last p ∧ e.last p ≤ l.serial
 bits : 0 ≤ e.sh p ∧ e.sh p ≤ 1 ∧ 0 ≤ e.nd p ∧ e.nd p ≤ 1
 leav : l.state = 3 ↔ l.want = 3
 w1 : l.want = 1 → l.state = 0
 w2 : l.want = 2 → l.state ≤ 1
 taken : l.want = 1 ∨ l.want = 2 → e.last p = l.serial → e.phase ≠ 0 ∧ e.who = p
 back : l.want = 3 → e.last p = l.serial → e.owner ≠ p
 cur : e.phase ≠ 0 → e.who = p → e.serial = e.last p ∧
  ((l.serial = e.serial ∧ l.want = 1 + e.alone ∧ l.seen < e.turn) ∨
   ((l.serial ≠ e.serial ∨ l.want = 0) ∧ e.phase = 3 ∧ l.seen = e.turn ∧ (e.alone = 1 → 2 ≤ l.state) ∧ (e.alone = 0 → l.state ≤ 1)))
 own : e.owner = p → (2 ≤ l.state ∧ (e.phase = 1 → l.seen < e.turn)) ∨ (l.state < 2 ∧ e.phase = 1 ∧ l.gave = e.turn ∧ l.given = V ∧ (e.alone = 1 → l.state = 0))
 alo : l.state = 2 ∨ (l.state = 3 ∧ e.last p < l.serial) → (e.owner = p ∨ (e.phase = 3 ∧ e.who = p ∧ e.alone = 1)) ∧ l.value = V
 cop : l.state = 1 → (e.sh p = 1 ∨ e.owner = p ∨ (e.phase = 3 ∧ e.who = p ∧ l.seen = e.turn)) ∧ l.value = V
 shs : e.sh p = 1 → (l.state ≤ 1 ∨ (e.phase = 3 ∧ e.who = p ∧ e.alone = 1)) ∧ e.owner = -1
 ned : e.nd p = 1 → e.phase = 2 ∧ e.who ≠ p ∧ (l.seen = e.turn → l.state = 0)
 cle : e.phase = 2 → e.who ≠ p → e.nd p = e.sh p
 gra : e.phase = 3 → e.alone = 1 → e.who ≠ p → e.sh p = 0
 val : e.owner = -1 → (e.phase = 3 → e.alone = 1 → e.who = p ∧ l.seen < e.turn) → e.value = V
structure MI (e : Ab) (p : Nat) (l : Line) (m : Msg) : Prop where
 get : m.kind = 1 ∨ m.kind = 2 → m.serial ≤ l.serial ∧ (e.last p < m.serial → m.serial = l.serial ∧ l.want = m.kind)
 put : m.kind = 3 → m.serial ≤ l.serial ∧ (e.last p < m.serial → (m.serial = l.serial ∧ l.want = 3 ∧ m.value = l.value) ∨
  ((m.serial < l.serial ∨ l.want = 0) ∧ (e.owner ≠ p ∨ (e.phase = 1 ∧ l.gave = e.turn)) ∧ (e.phase = 0 ∨ e.who ≠ p)))
 inv : m.kind = 4 → m.turn ≤ e.turn ∧ (l.seen < m.turn → m.turn = e.turn ∧ e.phase = 2 ∧ e.nd p = 1)
 fet : m.kind = 5 ∨ m.kind = 6 → m.turn ≤ e.turn ∧ (l.seen < m.turn → m.turn = e.turn ∧ e.phase = 1 ∧ e.owner = p ∧ m.kind = 5 + e.alone)
 gra : m.kind = 7 → m.serial ≤ e.last p ∧ (m.serial = l.serial → l.want ≠ 0 → e.phase = 3 ∧ e.who = p ∧ m.turn = e.turn ∧ (m.alone = true ↔ e.alone = 1) ∧ m.value = e.value) ∧
  ((m.serial ≠ l.serial ∨ l.want = 0) → m.turn ≤ l.seen)
 gon : m.kind = 8 → m.turn ≤ l.seen
 dat : m.kind = 9 → m.turn ≤ l.seen ∧ (m.turn = e.turn → e.phase = 1 → e.owner = p → l.gave = e.turn ∧ m.value = l.given)
 tha : m.kind = 10 → m.turn ≤ l.seen
 tak : m.kind = 11 → m.serial ≤ e.last p
def upd {α : Type} (f : Nat → α) (p : Nat) (x : α) : Nat → α := fun q => if q = p then x else f q
theorem Aak {α : Type} (f : Nat → α) (p : Nat) (x : α) : upd f p x p = x := by simp [upd]
end Abs
end Go.Proofs.Ytehpekiedfpnkaa
namespace Go.Proofs.Ytehpekiedfpnkaa
namespace Abs
set_option maxHeartbeats 2000000
section core
variable {n : Nat} {e : Ab} {p : Nat} {l : Line} {V : Int}
theorem Aei (hG : GI n e) (h : CI e p l V) (hw : l.want = 0) (hs : l.state ≠ 2) : CI e p { l with state := 0, value := 0 } V ∧ ∀ m, MI e p l m → MI e p { l with state := 0, value := 0 } m := by
 exact ZeI
theorem c_put (hG : GI n e) (h : CI e p l V) (hw : l.want = 0) (hs : l.state = 2) (hn : l.serial < 65535) : CI e p { l with state := 3, want := 3, serial := l.serial + 1 } V ∧ ∀ m, MI e p l m → MI e p { l with state := 3, want := 3, serial := l.serial + 1 } m := by
 exact ZeI
theorem c_ask {k : Int} (hG : GI n e) (h : CI e p l V) (hw : l.want = 0) (hk : k = 1 ∧ l.state = 0 ∨ k = 2 ∧ l.state ≤ 1) (hn : l.serial < 65535) : CI e p { l with want := k, serial := l.serial + 1 } V ∧ ∀ m, MI e p l m → MI e p { l with want := k, serial := l.serial + 1 } m := by
 rcases hk with ⟨rfl, hk⟩ | ⟨rfl, hk⟩ <;> refine ⟨?_, fun m hm => ?_⟩
 ·exact ZeB
 ·exact ZeJ
 ·exact ZeB
 ·exact ZeJ
theorem Ajv {v : Int} (hG : GI n e) (h : CI e p l V) (hs : l.state = 2) (hv : 0 ≤ v ∧ v ≤ 255) : CI e p { l with value := v } v ∧ ∀ m, MI e p l m → MI e p { l with value := v } m := by
 exact ZeI
theorem Aeh {q : Nat} {k : Line} {v : Int} (hG : GI n e) (h : CI e p l V) (hs : 2 ≤ l.state) (hl : l.state = 3 → e.last p < l.serial) (hq : q ≠ p) (hk : CI e q k V) : CI e q k v := by
 have ho : (e.owner = p ∨ (e.phase = 3 ∧ e.who = p ∧ e.alone = 1)) ∧ l.value = V := h.alo (by have := h.st; omega)
 have h1 := hk.own; have h2 := hk.alo; have h3 := hk.cop; have h4 := hk.val
 have h5 := h.own; have h6 := h.cur; have g1 := hG.f23; have g2 := hk.shs; have g3 := hk.gra; have g4 := hk.bits
 have g5 := hk.ga
 refine ⟨hk.st, hk.va, hk.wa, hk.se, hk.ga, hk.gi, hk.la, hk.bits, hk.leav, hk.w1, hk.w2, hk.taken, hk.back, hk.cur, ?_, ?_, ?_, hk.shs, hk.ned, hk.cle, hk.gra, ?_⟩
 ·clear h2 h3 h4; grind
 ·clear h1 h3 h4; grind
 ·clear h1 h2 h4; grind
 ·clear h1 h2 h3; grind
theorem c_inv {m : Msg} (hG : GI n e) (h : CI e p l V) (hm : MI e p l m) (hk : m.kind = 4) : CI e p (C5 l m.turn) V ∧ ∀ m', MI e p l m' → MI e p (C5 l m.turn) m' := by
 unfold C5
 have := hm.inv hk
 split
 ·split
  ·exact ZeH
  ·exact ZeH
 ·exact ⟨h, fun _ h => h⟩
theorem Ajy {m : Msg} (hG : GI n e) (h : CI e p l V) (hm : MI e p l m) (hk : m.kind = 5 ∨ m.kind = 6) (hf : D1 l m.turn) :
  CI e p (Cv l m.kind m.turn) V ∧ (∀ m', MI e p l m' → MI e p (Cv l m.kind m.turn) m') ∧ l.value = V ∧ ∀ m' : Msg, m'.kind = 9 → m'.turn = m.turn → m'.value = l.value → MI e p (Cv l m.kind m.turn) m' := by
 obtain ⟨hf1, hf2, hf3⟩ := hf
 obtain ⟨g0, g1, g2, g3⟩ := (hm.fet hk).2 hf2
 have hown := hG.f1 g1
 have how : e.who ≠ p := by rw [← g2]; exact fun h => hown.2 h.symm
 have hse := h.ga
 have hl0 : l.want = 3 → e.last p < l.serial := by intro hw; have := h.back hw; have := h.la; grind
 have hv : l.value = V := (h.alo (by have := h.leav; have := h.st; grind)).2
 have h2 := h.own g2
 have hwant : l.want = 0 ∨ l.want = 3 := by have := h.wa; have := h.w1; have := h.w2; grind
 have hsh : e.sh p = 0 := by have := h.shs; have := h.bits; grind
 have hnd : e.nd p = 0 := by have := h.ned; have := h.bits; grind
 have hal := hG.al
 have hmt : m.turn = e.turn := g0
 rw [hmt]
 unfold Cv
 have key : ∀ (st va wa : Int), (st = 0 ∨ st = 1 ∧ e.alone = 0) → wa = 0 → 0 ≤ va ∧ va ≤ 255 → (st = 1 → va = l.value) →
   CI e p ⟨st, va, wa, l.serial, e.turn, e.turn, l.value⟩ V ∧ (∀ m', MI e p l m' → MI e p ⟨st, va, wa, l.serial, e.turn, e.turn, l.value⟩ m') ∧ ∀ m' : Msg, m'.kind = 9 → m'.turn = e.turn → m'.value = l.value → MI e p ⟨st, va, wa, l.serial, e.turn, e.turn, l.value⟩ m' := by
  intro st va wa h1 h2 h3 h4
  refine ⟨?_, fun m' hm' => ?_, fun m' k1 k2 k3 => ?_⟩
  ·have k1 := h.se; have k2 := h.la; have k3 := h.va; have k4 := hG.tu; have k5 := h.bits
   constructor <;> (try simp only) <;> grind
  ·have k1 := hm'.get; have k2 := hm'.put; have k3 := hm'.inv; have k4 := hm'.fet; have k5 := hm'.gra; have k6 := hm'.gon; have k7 := hm'.dat; have k8 := hm'.tha; have k9 := hm'.tak
   constructor <;> (try simp only)
   ·clear k2 k3 k4 k5 k6 k7 k8 k9; grind
   ·clear k1 k3 k4 k5 k6 k7 k8 k9; grind
   ·clear k1 k2 k4 k5 k6 k7 k8 k9; grind
   ·clear k1 k2 k3 k5 k6 k7 k8 k9; grind
   ·clear k1 k2 k3 k4 k6 k7 k8 k9; grind
   ·clear k1 k2 k3 k4 k5 k7 k8 k9; grind
   ·clear k1 k2 k3 k4 k5 k6 k8 k9; grind
   ·clear k1 k2 k3 k4 k5 k6 k7 k9; grind
   ·clear k1 k2 k3 k4 k5 k6 k7 k8; grind
  ·constructor <;> (try simp only) <;> grind
 split
 ·obtain ⟨c1, c2, c3⟩ := key 0 0 0 (.inl rfl) rfl (by omega) (by omega)
  exact ⟨c1, c2, hv, c3⟩
 ·rename_i hw
  have hw0 : l.want = 0 := by omega
  split
  ·obtain ⟨c1, c2, c3⟩ := key 0 0 l.want (.inl rfl) hw0 (by omega) (by omega)
   exact ⟨c1, c2, hv, c3⟩
  ·obtain ⟨c1, c2, c3⟩ := key 1 l.value l.want (.inr ⟨rfl, by omega⟩) hw0 h.va (fun _ => rfl)
   exact ⟨c1, c2, hv, c3⟩
theorem Ajw {m : Msg} (hG : GI n e) (h : CI e p l V) (hm : MI e p l m) (hk : m.kind = 11) (hw : l.want = 3) (hs : m.serial = l.serial) :
  CI e p { l with state := 0, value := 0, want := 0 } V ∧ ∀ m', MI e p l m' → MI e p { l with state := 0, value := 0, want := 0 } m' := by
 have h1 := hm.tak hk
 exact ZeH
theorem Ajx {m : Msg} {v : Int} (hG : GI n e) (h : CI e p l V) (hm : MI e p l m) (hk : m.kind = 7) (ha : Gp l m) (hv : 0 ≤ v ∧ v ≤ 255) (hsame : m.alone = false → v = m.value) :
    CI e p { l with state := if m.alone then 2 else 1, value := v, want := 0, seen := m.turn } v ∧ (∀ m', MI e p l m' → MI e p { l with state := if m.alone then 2 else 1, value := v, want := 0, seen := m.turn } m') ∧
    m.value = V ∧ (∀ (q : Nat) (k : Line), q ≠ p → CI e q k V → CI e q k v) ∧ ∀ m' : Msg, m'.kind = 10 → m'.turn = m.turn → MI e p { l with state := if m.alone then 2 else 1, value := v, want := 0, seen := m.turn } m' := by
 obtain ⟨ha1, ha2⟩ := ha
 have hne : l.want ≠ 0 := by omega
 obtain ⟨g1, g2, g3, g4, g5⟩ := (hm.gra hk).2.1 ha1 hne
 have hcur := h.cur (by omega) g2
 have hown := hG.f23 (by omega)
 have hst : l.state ≤ 1 := by have := h.w1; have := h.w2; grind
 have hse : e.last p = l.serial := by have := h.la; have := (hm.gra hk).1; omega
 have hse' : l.serial = e.serial := by have := hcur.1; omega
 have hseen : l.seen < e.turn := by have := hcur.2; grind
 have hal := hG.al
 have hV : e.value = V := h.val hown (fun _ _ => ⟨g2, hseen⟩)
 have hwa : l.want = 1 + e.alone := by have := hcur.2; grind
 have halone : m.alone = true ∧ e.alone = 1 ∨ m.alone = false ∧ e.alone = 0 := by
  cases h' : m.alone with
  | true => exact .inl ⟨rfl, g4.1 h'⟩
  | false => right; refine ⟨rfl, ?_⟩; have : ¬ e.alone = 1 := fun h1 => by have := g4.2 h1; rw [h'] at this; cases this
             omega
 have hvV : e.alone = 0 → v = V := by intro h0; rw [hsame (halone.elim (fun h' => by omega) (fun h' => h'.1)), g5, hV]
 have hnd : e.nd p = 0 := by have := h.ned; have := h.bits; grind
 have key : ∀ st : Int, st = 1 + e.alone → CI e p ⟨st, v, 0, l.serial, m.turn, l.gave, l.given⟩ v ∧ (∀ m', MI e p l m' → MI e p ⟨st, v, 0, l.serial, m.turn, l.gave, l.given⟩ m') ∧ ∀ m' : Msg, m'.kind = 10 → m'.turn = m.turn → MI e p ⟨st, v, 0, l.serial, m.turn, l.gave, l.given⟩ m' := by
  intro st h1
  refine ⟨?_, fun m' hm' => ?_, fun m' k1 k2 => ?_⟩
  ·have k1 := h.se; have k2 := h.la; have k3 := h.va; have k4 := hG.tu; have k5 := h.bits; have k6 := h.gi; have k7 := h.ga; have k8 := h.gra; have k9 := h.shs
   have k10 := hcur.1; have k11 := h.cop; have k12 := h.alo
   constructor <;> (try simp only) <;> grind
  ·have k1 := hm'.get; have k2 := hm'.put; have k3 := hm'.inv; have k4 := hm'.fet; have k5 := hm'.gra; have k6 := hm'.gon; have k7 := hm'.dat; have k8 := hm'.tha; have k9 := hm'.tak
   constructor <;> (try simp only)
   ·clear k2 k3 k4 k5 k6 k7 k8 k9; grind
   ·clear k1 k3 k4 k5 k6 k7 k8 k9; grind
   ·clear k1 k2 k4 k5 k6 k7 k8 k9; grind
   ·clear k1 k2 k3 k5 k6 k7 k8 k9; grind
   ·clear k1 k2 k3 k4 k6 k7 k8 k9; grind
   ·clear k1 k2 k3 k4 k5 k7 k8 k9; grind
   ·clear k1 k2 k3 k4 k5 k6 k8 k9; grind
   ·clear k1 k2 k3 k4 k5 k6 k7 k9; grind
   ·clear k1 k2 k3 k4 k5 k6 k7 k8; grind
  ·constructor <;> (try simp only) <;> grind
 have hst2 : (if m.alone = true then (2 : Int) else 1) = 1 + e.alone := by rcases halone with h | h <;> rw [h.1, h.2] <;> rfl
 obtain ⟨c1, c2, c3⟩ := key _ hst2
 refine ⟨c1, c2, by rw [g5, hV], fun q k hq hk' => ?_, c3⟩
 have h1 := hk'.own; have h2 := hk'.alo; have h3 := hk'.cop; have h4 := hk'.val; have h5 := hk'.gra; have h6 := hk'.bits
 refine ⟨hk'.st, hk'.va, hk'.wa, hk'.se, hk'.ga, hk'.gi, hk'.la, hk'.bits, hk'.leav, hk'.w1, hk'.w2, hk'.taken, hk'.back, hk'.cur, ?_, ?_, ?_, hk'.shs, hk'.ned, hk'.cle, hk'.gra, ?_⟩
 ·clear h2 h3 h4; grind
 ·clear h1 h3 h4; grind
 ·clear h1 h2 h4; grind
 ·clear h1 h2 h3; grind
end core
end Abs
end Go.Proofs.Ytehpekiedfpnkaa
namespace Go.Proofs.Ytehpekiedfpnkaa
namespace Abs
set_option maxHeartbeats 2000000
section home
variable {n : Nat} {e e' : Ab} {L : Nat → Line} {V : Int}
theorem Ahq {m : Msg} {p : Nat} (hG : GI n e) (hC : ∀ q, q < n → CI e q (L q) V) (hp : p < n) (hM : MI e p (L p) m) (hk : m.kind = 1 ∨ m.kind = 2) (hms : 0 ≤ m.serial ∧ m.serial ≤ 65535) (h0 : e.phase = 0) (hs : e.last p < m.serial) (ht : e.turn < 65535)
  (f1 : e'.value = e.value) (f2 : e'.owner = e.owner) (f3 : e'.sh = e.sh) (f4 : e'.who = p) (f5 : e'.serial = m.serial) (f6 : e'.alone = m.kind - 1) (f7 : e'.turn = e.turn + 1) (f8 : e'.last = upd e.last p m.serial)
  (f9 : (0 ≤ e.owner ∧ e'.phase = 1 ∧ ∀ q, e'.nd q = 0) ∨ (e.owner < 0 ∧ m.kind = 2 ∧ e'.phase = 2 ∧ (∃ q : Nat, q < n ∧ e'.nd q = 1) ∧ (∀ q : Nat, e'.nd q = if q = p then 0 else e.sh q)) ∨
   (e.owner < 0 ∧ e'.phase = 3 ∧ (∀ q, e'.nd q = 0) ∧ (m.kind = 2 → ∀ q : Nat, q < n → q ≠ p → e.sh q = 0))) :
  GI n e' ∧ (∀ q, q < n → CI e' q (L q) V) ∧ ∀ q, q < n → ∀ m', MI e q (L q) m' → MI e' q (L q) m' := by
 have h1 := (hM.get hk).2 hs
 have hCp := hC p hp
 have hst : (L p).state ≤ 1 := by have := hCp.w1; have := hCp.w2; grind
 have hnow : e.owner ≠ p := by have := hCp.own; grind
 have how := hG.own
 have hval : e.owner < 0 → e.value = V := by intro h; exact hCp.val (by omega) (by omega)
 have hph : (0 ≤ e.owner ∧ e'.phase = 1) ∨ (e.owner < 0 ∧ m.kind = 2 ∧ e'.phase = 2) ∨ (e.owner < 0 ∧ e'.phase = 3) := by
  rcases f9 with ⟨g1, g2, _⟩ | ⟨g1, g2, g3, _⟩ | ⟨g1, g2, _⟩
  ·exact .inl ⟨g1, g2⟩
  ·exact .inr (.inl ⟨g1, g2, g3⟩)
  ·exact .inr (.inr ⟨g1, g2⟩)
 have hc2 : e'.phase = 2 → ∃ q : Nat, q < n ∧ e'.nd q = 1 := by
  intro h2
  rcases f9 with ⟨g1, g2, _⟩ | ⟨g1, g2, g3, g4, _⟩ | ⟨g1, g2, _⟩
  ·omega
  ·exact g4
  ·omega
 have hnp : e'.nd p = 0 := by
  rcases f9 with ⟨_, _, g⟩ | ⟨_, _, _, _, g⟩ | ⟨_, _, g, _⟩
  ·exact g p
  ·rw [g p, if_pos rfl]
  ·exact g p
 have hnq : ∀ q : Nat, q < n → q ≠ p → (e'.phase = 2 → e'.nd q = e.sh q) ∧ (e'.phase ≠ 2 → e'.nd q = 0) ∧ (e'.phase = 3 → m.kind = 2 → e.sh q = 0) := by
  intro q hq hqp
  rcases f9 with ⟨_, g1, g⟩ | ⟨_, _, g1, _, g⟩ | ⟨_, g1, g, g'⟩
  ·exact ⟨by omega, fun _ => g q, by omega⟩
  ·exact ⟨fun _ => by rw [g q, if_neg hqp], by omega, by omega⟩
  ·exact ⟨by omega, fun _ => g q, fun _ hk => g' hk q hq hqp⟩
 have hlp : e'.last p = m.serial := by rw [f8]; simp [upd]
 have hlq : ∀ q, q ≠ p → e'.last q = e.last q := fun q hqp => by rw [f8]; simp [upd, hqp]
 clear f8 f9
 refine ⟨?_, fun q hq => ?_, fun q hq m' hm' => ?_⟩
 ·constructor
  ·have g0 := hG.own; have g1 := hG.own; grind
  ·have g0 := hG.own; have g1 := hG.ph; grind
  ·have g0 := hG.own; have g1 := hG.idle; grind
  ·intro _; rw [f4]; clear hc2; omega
  ·have g0 := hG.own; have g1 := hG.f1; grind
  ·have g0 := hG.own; have g1 := hG.f23; grind
  ·intro h2; exact ⟨by clear hc2; grind, hc2 h2⟩
  ·have g0 := hG.own; have g1 := hG.al; grind
  ·have g0 := hG.own; have g1 := hG.tu; grind
  ·have g0 := hG.own; have g1 := hG.va; grind
  ·have g0 := hG.own; have g1 := hG.se; grind
 ·have hCq := hC q hq
  have hsh : e'.sh q = e.sh q := by rw [f3]
  clear f3 hc2
  by_cases hqp : q = p
  ·subst hqp
   clear hnq hlq
   have w0 := hCp.wa
   constructor
   ·exact hCp.st
   ·exact hCp.va
   ·exact hCp.wa
   ·exact hCp.se
   ·exact Zgu
   ·exact hCp.gi
   ·exact Zgv
   ·exact Zgf
   ·exact hCp.leav
   ·exact hCp.w1
   ·exact hCp.w2
   ·have c0 := hCp.taken; grind
   ·have c0 := hCp.back; have c1 := hCp.wa; grind
   ·have c0 := hCp.cur; have c1 := hCp.ga; grind
   ·have c0 := hCp.own; have c1 := hCp.st; grind
   ·have c0 := hCp.alo; have c1 := hCp.leav; grind
   ·have c0 := hCp.cop; grind
   ·have c0 := hCp.shs; grind
   ·have c0 := hCp.ned; have c1 := hCp.ga; grind
   ·exact Zgm
   ·exact Zgn
   ·have c0 := hCp.val; have c1 := hCp.ga; grind
  ·have hn2 := hnq q hq hqp
   have hl2 := hlq q hqp
   clear hnq hlq hlp hnp hCp
   constructor
   ·exact hCq.st
   ·exact hCq.va
   ·exact hCq.wa
   ·exact hCq.se
   ·exact Zgw
   ·exact hCq.gi
   ·exact Zgx
   ·have c0 := hCq.bits; have c1 := hCq.bits; grind
   ·exact hCq.leav
   ·exact hCq.w1
   ·exact hCq.w2
   ·have c0 := hCq.taken; grind
   ·exact Zgg
   ·have c0 := hCq.cur; grind
   ·have c0 := hCq.own; have c1 := hCq.ga; grind
   ·have c0 := hCq.alo; grind
   ·have c0 := hCq.cop; grind
   ·have c0 := hCq.shs; grind
   ·have c0 := hCq.ned; have c1 := hCq.ga; have c2 := hCq.bits; grind
   ·exact Zgo
   ·have c0 := hCq.gra; grind
   ·have c0 := hCq.val; grind
 ·have hCq := hC q hq
  clear hc2 f3
  by_cases hqp : q = p
  ·subst hqp
   clear hnq hlq
   exact ZeP
  ·have hn2 := hnq q hq hqp
   have hl2 := hlq q hqp
   clear hnq hlq hlp hnp hCp
   exact ZeP
theorem h_put {m : Msg} {p : Nat} (hG : GI n e) (hC : ∀ q, q < n → CI e q (L q) V) (hp : p < n) (hM : MI e p (L p) m) (hk : m.kind = 3) (hmv : 0 ≤ m.value ∧ m.value ≤ 255) (h0 : e.phase = 0) (hs : e.last p < m.serial)
  (f3 : e'.sh = e.sh) (f4 : e'.who = e.who) (f5 : e'.serial = e.serial) (f6 : e'.alone = e.alone) (f7 : e'.turn = e.turn) (f8 : e'.last = upd e.last p m.serial) (f9 : e'.phase = e.phase) (f10 : e'.nd = e.nd)
  (f1 : (e.owner = p ∧ e'.owner = -1 ∧ e'.value = m.value) ∨ (e.owner ≠ p ∧ e'.owner = e.owner ∧ e'.value = e.value)) :
  GI n e' ∧ (∀ q, q < n → CI e' q (L q) V) ∧ ∀ q, q < n → ∀ m', MI e q (L q) m' → MI e' q (L q) m' := by
 have h1 := (hM.put hk).2 hs
 have h2 := (hM.put hk).1
 have hCp := hC p hp
 have how := hG.own
 have hA : e.owner = p → (L p).state = 3 ∧ (L p).want = 3 ∧ m.serial = (L p).serial ∧ m.value = V := by
  intro ho
  have hc : m.serial = (L p).serial ∧ (L p).want = 3 ∧ m.value = (L p).value := by grind
  have h3 := hCp.leav.2 hc.2.1
  exact ⟨h3, hc.2.1, hc.1, by rw [hc.2.2]; exact (hCp.alo (.inr ⟨h3, by omega⟩)).2⟩
 have hB : e.owner ≠ p → m.serial < (L p).serial ∨ (L p).want = 0 := by
  intro ho
  rcases h1 with h1 | h1
  ·exfalso
   have h3 := hCp.leav.2 h1.2.1
   have := (hCp.alo (.inr ⟨h3, by omega⟩)).1
   grind
  ·exact h1.1
 have hlp : e'.last p = m.serial := by rw [f8]; simp [upd]
 have hlq : ∀ q, q ≠ p → e'.last q = e.last q := fun q hqp => by rw [f8]; simp [upd, hqp]
 clear f8
 refine ⟨?_, fun q hq => ?_, fun q hq m' hm' => ?_⟩
 ·exact Ze6
 ·have hCq := hC q hq
  have hsh : e'.sh q = e.sh q := by rw [f3]
  have hnd : e'.nd q = e.nd q := by rw [f10]
  clear f3 f10
  by_cases hqp : q = p
  ·subst hqp
   clear hlq
   have l0 := hCp.leav
   have a0 := hCp.la
   constructor
   ·exact hCp.st
   ·exact hCp.va
   ·exact hCp.wa
   ·exact hCp.se
   ·exact Zgu
   ·exact hCp.gi
   ·exact Zgv
   ·exact Zgf
   ·exact hCp.leav
   ·exact hCp.w1
   ·exact hCp.w2
   ·have c0 := hCp.taken; have c1 := hCp.wa; grind
   ·have c0 := hCp.back; grind
   ·have c0 := hCp.cur; grind
   ·have c0 := hCp.own; have c1 := hCp.st; grind
   ·have c0 := hCp.alo; grind
   ·have c0 := hCp.cop; have c1 := hCp.cop; grind
   ·have c0 := hCp.shs; have c1 := hCp.st; grind
   ·have c0 := hCp.ned; grind
   ·exact Zgm
   ·exact Zgn
   ·have c0 := hCp.val; have c1 := hCp.val; grind
  ·have hl2 := hlq q hqp
   clear hlq hlp hCp
   constructor
   ·exact hCq.st
   ·exact hCq.va
   ·exact hCq.wa
   ·exact hCq.se
   ·exact Zgw
   ·exact hCq.gi
   ·exact Zgx
   ·have c0 := hCq.bits; grind
   ·exact hCq.leav
   ·exact hCq.w1
   ·exact hCq.w2
   ·have c0 := hCq.taken; grind
   ·exact Zgg
   ·have c0 := hCq.cur; grind
   ·have c0 := hCq.own; grind
   ·have c0 := hCq.alo; grind
   ·have c0 := hCq.cop; grind
   ·have c0 := hCq.shs; grind
   ·have c0 := hCq.ned; grind
   ·exact Zgo
   ·have c0 := hCq.gra; grind
   ·have c0 := hCq.val; grind
 ·have hCq := hC q hq
  have hnd : e'.nd q = e.nd q := by rw [f10]
  clear f3 f10
  by_cases hqp : q = p
  ·subst hqp
   clear hlq
   exact ZeV
  ·have hl2 := hlq q hqp
   clear hlq hlp hCp
   exact ZeV
theorem h_data {m : Msg} {p : Nat} (hG : GI n e) (hC : ∀ q, q < n → CI e q (L q) V) (hp : p < n) (hM : MI e p (L p) m) (hk : m.kind = 9) (hmv : 0 ≤ m.value ∧ m.value ≤ 255) (h0 : e.phase = 1) (ht : m.turn = e.turn) (ho : e.owner = p)
  (f1 : e'.value = m.value) (f2 : e'.owner = -1) (f3 : ∀ q : Nat, e'.sh q = if q = p ∧ e.alone = 0 then 1 else e.sh q) (f4 : e'.who = e.who) (f5 : e'.serial = e.serial) (f6 : e'.alone = e.alone) (f7 : e'.turn = e.turn) (f8 : e'.last = e.last) (f9 : e'.phase = 3) (f10 : ∀ q, e'.nd q = 0) :
  GI n e' ∧ (∀ q, q < n → CI e' q (L q) V) ∧ ∀ q, q < n → ∀ m', MI e q (L q) m' → MI e' q (L q) m' := by
 have h1 := (hM.dat hk).2 ht h0 ho
 have hCp := hC p hp
 have hga := hCp.ga
 have hown := hCp.own ho
 have hmV : m.value = V ∧ (L p).state < 2 ∧ (L p).seen = e.turn ∧ (e.alone = 1 → (L p).state = 0) := by grind
 have hf := hG.f1 h0
 have hwp : e.who ≠ p := by rw [← ho]; exact fun h => hf.2 h.symm
 have hw0 : (L p).want ≠ 3 := by have := hCp.leav; have := hCp.st; grind
 have hal := hG.al
 have hsp : (e.alone = 0 → e'.sh p = 1) ∧ (e.alone ≠ 0 → e'.sh p = e.sh p) := by have := f3 p; grind
 have hsq : ∀ q, q ≠ p → e'.sh q = e.sh q := by intro q hq; have := f3 q; grind
 clear f3
 refine ⟨?_, fun q hq => ?_, fun q hq m' hm' => ?_⟩
 ·exact Ze6
 ·refine Zb1 ?_;intro hCq hl
  have hnd := f10 q
  have b0 := hCq.bits
  have s0 := hCq.shs
  clear f10 f8
  by_cases hqp : q = p
  ·subst hqp
   clear hsq
   constructor
   ·exact hCp.st
   ·exact hCp.va
   ·exact hCp.wa
   ·exact hCp.se
   ·exact Zgu
   ·exact hCp.gi
   ·exact Zgv
   ·exact Zgf
   ·exact hCp.leav
   ·exact hCp.w1
   ·exact hCp.w2
   ·have c0 := hCp.taken; grind
   ·have c0 := hCp.back; grind
   ·have c0 := hCp.cur; have c1 := hCp.cur; grind
   ·have c0 := hCp.own; grind
   ·have c0 := hCp.alo; have c1 := hCp.st; have c2 := hCp.leav; grind
   ·have c0 := hCp.cop; grind
   ·have c0 := hCp.shs; grind
   ·have c0 := hCp.ned; grind
   ·exact Zgm
   ·exact Zgn
   ·have c0 := hCp.val; grind
  ·have hs2 := hsq q hqp
   clear hsq hsp hCp
   constructor
   ·exact hCq.st
   ·exact hCq.va
   ·exact hCq.wa
   ·exact hCq.se
   ·exact Zgw
   ·exact hCq.gi
   ·exact Zgx
   ·have c0 := hCq.bits; grind
   ·exact hCq.leav
   ·exact hCq.w1
   ·exact hCq.w2
   ·have c0 := hCq.taken; have c1 := hCq.taken; grind
   ·exact Zgg
   ·have c0 := hCq.cur; have c1 := hCq.cur; grind
   ·have c0 := hCq.own; grind
   ·have c0 := hCq.alo; have c1 := hCq.alo; grind
   ·have c0 := hCq.cop; grind
   ·have c0 := hCq.shs; grind
   ·have c0 := hCq.ned; grind
   ·exact Zgo
   ·have c0 := hCq.gra; have c1 := hCq.gra; grind
   ·have c0 := hCq.val; grind
 ·refine Zb1 ?_;intro hCq hl
  have hnd := f10 q
  clear f10 f8
  by_cases hqp : q = p
  ·subst hqp
   constructor
   ·have k0 := hm'.get; grind
   ·have k0 := hm'.put; have c0 := hCq.st; grind
   ·have k0 := hm'.inv; grind
   ·have k0 := hm'.fet; grind
   ·have k0 := hm'.gra; have c0 := hCq.taken; have c1 := hCq.cur; grind
   ·have k0 := hm'.gon; grind
   ·have k0 := hm'.dat; grind
   ·have k0 := hm'.tha; grind
   ·have k0 := hm'.tak; grind
  ·clear hCp
   constructor
   ·have k0 := hm'.get; grind
   ·have k0 := hm'.put; have c0 := hCq.st; grind
   ·have k0 := hm'.inv; grind
   ·have k0 := hm'.fet; grind
   ·have k0 := hm'.gra; have c0 := hCq.taken; have c1 := hCq.cur; have c2 := hCq.wa; grind
   ·have k0 := hm'.gon; grind
   ·have k0 := hm'.dat; grind
   ·have k0 := hm'.tha; grind
   ·have k0 := hm'.tak; grind
theorem Afh {m : Msg} {p : Nat} (hG : GI n e) (hC : ∀ q, q < n → CI e q (L q) V) (hp : p < n) (hM : MI e p (L p) m) (hk : m.kind = 8) (h0 : e.phase = 2) (ht : m.turn = e.turn) (ho : e.nd p = 1)
  (f1 : e'.value = e.value) (f2 : e'.owner = e.owner) (f3 : e'.sh = upd e.sh p 0) (f4 : e'.who = e.who) (f5 : e'.serial = e.serial) (f6 : e'.alone = e.alone) (f7 : e'.turn = e.turn) (f8 : e'.last = e.last)
  (f9 : (e'.phase = 2 ∧ (e'.nd = upd e.nd p 0) ∧ ∃ q : Nat, q < n ∧ e'.nd q = 1) ∨ (e'.phase = 3 ∧ (∀ q, e'.nd q = 0) ∧ ∀ q : Nat, q ≠ p → q < n → e.nd q = 0)) :
  GI n e' ∧ (∀ q, q < n → CI e' q (L q) V) ∧ ∀ q, q < n → ∀ m', MI e q (L q) m' → MI e' q (L q) m' := by
 have h1 := hM.gon hk
 have hCp := hC p hp
 have hga := hCp.ga
 have hned := hCp.ned ho
 have hst : (L p).state = 0 ∧ (L p).seen = e.turn ∧ e.who ≠ p := by grind
 have how := hG.f23 (by omega)
 have hal := (hG.c2 h0).1
 have hph : e'.phase = 2 ∨ e'.phase = 3 := by rcases f9 with ⟨g, _⟩ | ⟨g, _⟩ <;> omega
 have hc2 : e'.phase = 2 → ∃ q : Nat, q < n ∧ e'.nd q = 1 := by
  intro h2
  rcases f9 with ⟨_, _, g⟩ | ⟨g, _⟩
  ·exact g
  ·omega
 have hnp : e'.nd p = 0 := by
  rcases f9 with ⟨_, g, _⟩ | ⟨_, g, _⟩
  ·rw [g]; simp [upd]
  ·exact g p
 have hnq : ∀ q : Nat, q < n → q ≠ p → e'.nd q = e.nd q ∧ (e'.phase = 3 → e.nd q = 0) := by
  intro q hq hqp
  rcases f9 with ⟨g1, g, _⟩ | ⟨g1, g, g'⟩
  ·exact ⟨by rw [g]; simp [upd, hqp], by omega⟩
  ·exact ⟨by rw [g q, g' q hqp hq], fun _ => g' q hqp hq⟩
 have hsp : e'.sh p = 0 := by rw [f3]; simp [upd]
 have hsq : ∀ q, q ≠ p → e'.sh q = e.sh q := fun q hqp => by rw [f3]; simp [upd, hqp]
 clear f9 f3
 refine ⟨?_, fun q hq => ?_, fun q hq m' hm' => ?_⟩
 ·constructor
  ·have g0 := hG.own; have g1 := hG.own; grind
  ·have g0 := hG.own; have g1 := hG.ph; grind
  ·have g0 := hG.own; have g1 := hG.idle; grind
  ·have g0 := hG.own; have g1 := hG.whor; grind
  ·have g0 := hG.own; have g1 := hG.f1; grind
  ·have g0 := hG.own; have g1 := hG.f23; grind
  ·intro h2; exact ⟨by clear hc2; grind, hc2 h2⟩
  ·have g0 := hG.own; have g1 := hG.al; grind
  ·have g0 := hG.own; have g1 := hG.tu; grind
  ·have g0 := hG.own; have g1 := hG.va; grind
  ·have g0 := hG.own; have g1 := hG.se; grind
 ·refine Zb1 ?_;intro hCq hl
  clear f8 hc2
  by_cases hqp : q = p
  ·subst hqp
   clear hnq hsq
   constructor
   ·exact hCp.st
   ·exact hCp.va
   ·exact hCp.wa
   ·exact hCp.se
   ·exact Zgu
   ·exact hCp.gi
   ·exact Zgv
   ·exact Zgf
   ·exact hCp.leav
   ·exact hCp.w1
   ·exact hCp.w2
   ·have c0 := hCp.taken; grind
   ·have c0 := hCp.back; grind
   ·have c0 := hCp.cur; grind
   ·have c0 := hCp.own; grind
   ·have c0 := hCp.alo; have c1 := hCp.st; grind
   ·have c0 := hCp.cop; grind
   ·have c0 := hCp.shs; grind
   ·have c0 := hCp.ned; grind
   ·exact Zgm
   ·exact Zgn
   ·have c0 := hCp.val; grind
  ·have hn2 := hnq q hq hqp
   have hs2 := hsq q hqp
   have b0 := hCq.bits
   clear hnq hsq hCp
   constructor
   ·exact hCq.st
   ·exact hCq.va
   ·exact hCq.wa
   ·exact hCq.se
   ·exact Zgw
   ·exact hCq.gi
   ·exact Zgx
   ·have c0 := hCq.bits; grind
   ·exact hCq.leav
   ·exact hCq.w1
   ·exact hCq.w2
   ·have c0 := hCq.taken; grind
   ·exact Zgg
   ·have c0 := hCq.cur; have c1 := hCq.cur; grind
   ·have c0 := hCq.own; grind
   ·have c0 := hCq.alo; have c1 := hCq.alo; grind
   ·have c0 := hCq.cop; have c1 := hCq.cop; grind
   ·have c0 := hCq.shs; grind
   ·have c0 := hCq.ned; have c1 := hCq.ned; grind
   ·exact Zgo
   ·have c0 := hCq.gra; have c1 := hCq.cle; grind
   ·have c0 := hCq.val; grind
 ·refine Zb1 ?_;intro hCq hl
  clear f8 hc2
  by_cases hqp : q = p
  ·subst hqp
   clear hnq hsq
   exact ZeT
  ·have hn2 := hnq q hq hqp
   clear hnq hsq hCp
   exact ZeT
theorem Us {m : Msg} {p : Nat} (hG : GI n e) (hC : ∀ q, q < n → CI e q (L q) V) (hp : p < n) (hM : MI e p (L p) m) (hk : m.kind = 10) (h0 : e.phase = 3) (ht : m.turn = e.turn) (hw : e.who = p)
  (f1 : e'.value = e.value) (f4 : e'.who = 0) (f5 : e'.serial = 0) (f6 : e'.alone = 0) (f7 : e'.turn = e.turn) (f8 : e'.last = e.last) (f9 : e'.phase = 0) (f10 : ∀ q, e'.nd q = e.nd q)
  (f2 : (e.alone = 1 ∧ e'.owner = p ∧ ∀ q, e'.sh q = 0) ∨ (e.alone = 0 ∧ e'.owner = e.owner ∧ ∀ q : Nat, e'.sh q = if q = p then 1 else e.sh q)) :
  GI n e' ∧ (∀ q, q < n → CI e' q (L q) V) ∧ ∀ q, q < n → ∀ m', MI e q (L q) m' → MI e' q (L q) m' := by
 have h1 := hM.tha hk
 have hCp := hC p hp
 have hga := hCp.ga
 have hcur := hCp.cur (by omega) hw
 have hst : (L p).seen = e.turn ∧ (e.alone = 1 → 2 ≤ (L p).state) ∧ (e.alone = 0 → (L p).state ≤ 1) ∧ ((L p).serial ≠ e.serial ∨ (L p).want = 0) := by grind
 have how := hG.f23 (by omega)
 have hal := hG.al
 have ha2 : (e.alone = 1 ∧ e'.owner = p) ∨ (e.alone = 0 ∧ e'.owner = -1) := by
  rcases f2 with ⟨g1, g2, _⟩ | ⟨g1, g2, _⟩
  ·exact .inl ⟨g1, g2⟩
  ·exact .inr ⟨g1, by rw [g2]; exact how⟩
 have hsp : (e.alone = 1 → e'.sh p = 0) ∧ (e.alone = 0 → e'.sh p = 1) := by
  rcases f2 with ⟨g1, _, g⟩ | ⟨g1, _, g⟩
  ·exact ⟨fun _ => g p, by omega⟩
  ·exact ⟨by omega, fun _ => by rw [g p, if_pos rfl]⟩
 have hsq : ∀ q : Nat, q ≠ p → (e.alone = 1 → e'.sh q = 0) ∧ (e.alone = 0 → e'.sh q = e.sh q) := by
  intro q hqp
  rcases f2 with ⟨g1, _, g⟩ | ⟨g1, _, g⟩
  ·exact ⟨fun _ => g q, by omega⟩
  ·exact ⟨by omega, fun _ => by rw [g q, if_neg hqp]⟩
 clear f2
 refine ⟨?_, fun q hq => ?_, fun q hq m' hm' => ?_⟩
 ·exact Ze6
 ·refine Zb1 ?_;intro hCq hl
  have hnd := f10 q
  have n0 := hCq.ned
  have b0 := hCq.bits
  clear f10 f8
  by_cases hqp : q = p
  ·subst hqp
   clear hsq
   have l0 := hCp.leav
   have s0 := hCp.st
   constructor
   ·exact hCp.st
   ·exact hCp.va
   ·exact hCp.wa
   ·exact hCp.se
   ·exact Zgu
   ·exact hCp.gi
   ·exact Zgv
   ·exact Zgf
   ·exact hCp.leav
   ·exact hCp.w1
   ·exact hCp.w2
   ·have c0 := hCp.taken; have c1 := hCp.wa; grind
   ·have c0 := hCp.back; have c1 := hCp.la; grind
   ·have c0 := hCp.cur; grind
   ·have c0 := hCp.own; have c1 := hCp.own; grind
   ·have c0 := hCp.alo; have c1 := hCp.alo; grind
   ·have c0 := hCp.cop; grind
   ·have c0 := hCp.shs; grind
   ·have c0 := hCp.ned; grind
   ·exact Zgm
   ·exact Zgn
   ·have c0 := hCp.val; grind
  ·have hs2 := hsq q hqp
   clear hsq hsp hCp
   constructor
   ·exact hCq.st
   ·exact hCq.va
   ·exact hCq.wa
   ·exact hCq.se
   ·exact Zgw
   ·exact hCq.gi
   ·exact Zgx
   ·have c0 := hCq.bits; grind
   ·exact hCq.leav
   ·exact hCq.w1
   ·exact hCq.w2
   ·have c0 := hCq.taken; grind
   ·exact Zgg
   ·have c0 := hCq.cur; grind
   ·have c0 := hCq.own; grind
   ·have c0 := hCq.alo; grind
   ·have c0 := hCq.cop; have c1 := hCq.gra; grind
   ·have c0 := hCq.shs; have c1 := hCq.gra; grind
   ·have c0 := hCq.ned; grind
   ·exact Zgo
   ·have c0 := hCq.gra; grind
   ·have c0 := hCq.val; have c1 := hCq.val; grind
 ·refine Zb1 ?_;intro hCq hl
  have hnd := f10 q
  have n0 := hCq.ned
  clear f10 f8
  by_cases hqp : q = p
  ·subst hqp
   have l0 := hCp.leav
   have s0 := hCp.st
   constructor
   ·have k0 := hm'.get; grind
   ·have k0 := hm'.put; have c0 := hCq.la; grind
   ·have k0 := hm'.inv; grind
   ·have k0 := hm'.fet; grind
   ·have k0 := hm'.gra; have c0 := hCq.la; have c1 := hCq.wa; have c2 := hCq.ga; grind
   ·have k0 := hm'.gon; grind
   ·have k0 := hm'.dat; grind
   ·have k0 := hm'.tha; grind
   ·have k0 := hm'.tak; grind
  ·clear hCp
   constructor
   ·have k0 := hm'.get; grind
   ·have k0 := hm'.put; grind
   ·have k0 := hm'.inv; grind
   ·have k0 := hm'.fet; grind
   ·have k0 := hm'.gra; have c0 := hCq.la; have c1 := hCq.wa; have c2 := hCq.taken; grind
   ·have k0 := hm'.gon; grind
   ·have k0 := hm'.dat; grind
   ·have k0 := hm'.tha; grind
   ·have k0 := hm'.tak; grind
end home
end Abs
end Go.Proofs.Ytehpekiedfpnkaa
namespace Go.Proofs.Ytehpekiedfpnkaa
open Abs
def C6 (s : Int) (p : Nat) : Int := if s.toNat.testBit p then 1 else 0
def ab (e : Entry) : Ab :=
  { value := e.value, owner := e.owner, phase := e.phase, who := e.who, serial := e.serial, alone := if e.alone then 1 else 0, turn := e.turn,
    last := fun p => e.last.getD p 0, sh := C6 e.sharers, nd := C6 e.need }
def ent (x : Chip) (i : Nat) : Entry := x.home.getD i A1
def cor (x : Chip) (p : Nat) : Core := x.cores.getD p E4
def lin (x : Chip) (i p : Nat) : Line := (cor x p).lines.getD i zLine
def J1 (n : Nat) (m : Msg) : Nat := if m.dst = (n : Int) then m.src.toNat else m.dst.toNat
def Gg (k : Int) : Int := if k = 1 then 1 else if k = 4 then 3 else 2
structure CW (k : Core) (nl : Nat) : Prop where
 free : k.wait.kind = 0 → k.wait = zOp ∧ ∀ i, i < nl → (k.lines.getD i zLine).want = 0
 busy : k.wait.kind ≠ 0 → (1 ≤ k.wait.kind ∧ k.wait.kind ≤ 4) ∧ (0 ≤ k.wait.line ∧ k.wait.line < nl) ∧ (0 ≤ k.wait.value ∧ k.wait.value ≤ 255) ∧
  ∀ i, i < nl → (k.lines.getD i zLine).want = if (i : Int) = k.wait.line then Gg k.wait.kind else 0
def MX (n : Nat) (x : Chip) (m : Msg) : Prop := MI (ab (ent x m.line.toNat)) (J1 n m) (lin x m.line.toNat (J1 n m)) m
def Ef (n nl : Nat) : Config := ⟨(n : Int), (nl : Int)⟩
structure Inv (n nl : Nat) (x : Chip) (M : List Int) : Prop where
 n1 : 1 ≤ n ∧ n ≤ 4
 l1 : 1 ≤ nl ∧ nl ≤ 4
 nc : x.cores.length = n
 nh : x.home.length = nl
 ncl : ∀ p, p < n → (cor x p).lines.length = nl
 nla : ∀ i, i < nl → (ent x i).last.length = n
 ml : M.length = nl
 mv : ∀ i, i < nl → 0 ≤ M.getD i 0 ∧ M.getD i 0 ≤ 255
 bit : ∀ i, i < nl → (0 ≤ (ent x i).sharers ∧ (ent x i).sharers < (2 ^ n : Nat)) ∧ (0 ≤ (ent x i).need ∧ (ent x i).need < (2 ^ n : Nat))
 gi : ∀ i, i < nl → GI n (ab (ent x i))
 ci : ∀ i, i < nl → ∀ p, p < n → CI (ab (ent x i)) p (lin x i p) (M.getD i 0)
 cw : ∀ p, p < n → CW (cor x p) nl
 fr : x.frames.length ≤ 40
 mi : ∀ b ∈ x.frames, b.length = 12 ∧ ∀ m, Af (Ef n nl) b = (m, 0) → MX n x m
section
variable {n nl : Nat} {x : Chip} {M : List Int}
theorem Inv.core {p i : Nat} {l' : Line} {w' : Op} {V' : Int} (h : Inv n nl x M) (hp : p < n) (hi : i < nl) (hl : CI (ab (ent x i)) p l' V') (ho : ∀ q, q < n → q ≠ p → CI (ab (ent x i)) q (lin x i q) (M.getD i 0) → CI (ab (ent x i)) q (lin x i q) V')
  (hm : ∀ m, MI (ab (ent x i)) p (lin x i p) m → MI (ab (ent x i)) p l' m) (hw : CW (A2 (cor x p) i l' w') nl) (hv : 0 ≤ V' ∧ V' ≤ 255) :
  Inv n nl ⟨x.cores.set p (A2 (cor x p) i l' w'), x.home, x.frames⟩ (M.set i V') := by
 have hpc : p < x.cores.length := by rw [h.nc]; exact hp
 have hcl := h.ncl p hp
 have hcor : ∀ q, cor ⟨x.cores.set p (A2 (cor x p) i l' w'), x.home, x.frames⟩ q = if q = p then A2 (cor x p) i l' w' else cor x q := fun q => Ch _ _ _ _ _ hpc
 have hlin : ∀ j q, lin ⟨x.cores.set p (A2 (cor x p) i l' w'), x.home, x.frames⟩ j q = if q = p ∧ j = i then l' else lin x j q := by
  intro j q
  unfold lin
  rw [hcor]
  by_cases hq : q = p
  ·subst hq
   rw [if_pos rfl]
   show ((cor x q).lines.set _ l').getD j zLine = _
   rw [Int.toNat_natCast, Ch _ _ _ _ _ (by rw [hcl]; exact hi)]
   by_cases hj : j = i
   ·rw [if_pos hj, if_pos ⟨rfl, hj⟩]
   ·rw [if_neg hj, if_neg (by simp [hj])]
  ·rw [if_neg hq, if_neg (by simp [hq])]
 have hM : ∀ j, (M.set i V').getD j 0 = if j = i then V' else M.getD j 0 := fun j => Ch _ _ _ _ _ (by rw [h.ml]; exact hi)
 refine ⟨h.n1, h.l1, by simp [h.nc], h.nh, ?_, h.nla, by simp [h.ml], ?_, h.bit, h.gi, ?_, ?_, h.fr, ?_⟩
 ·intro q hq
  rw [hcor]
  split
  ·show ((cor x p).lines.set _ l').length = nl
   rw [List.length_set]; exact hcl
  ·exact h.ncl q hq
 ·intro j hj
  rw [hM]; split
  ·exact hv
  ·exact h.mv j hj
 ·intro j hj q hq
  rw [hlin, hM]
  by_cases hji : j = i
  ·subst hji
   rw [if_pos rfl]
   by_cases hqp : q = p
   ·subst hqp; rw [if_pos ⟨rfl, rfl⟩]; exact hl
   ·rw [if_neg (by simp [hqp])]; exact ho q hq hqp (h.ci j hj q hq)
  ·rw [if_neg (by simp [hji]), if_neg hji]; exact h.ci j hj q hq
 ·intro q hq
  rw [hcor]; split
  ·exact hw
  ·exact h.cw q hq
 ·intro b hb
  obtain ⟨h1, h2⟩ := h.mi b hb
  refine ⟨h1, fun m hmp => ?_⟩
  have h3 := h2 m hmp
  unfold MX at h3 ⊢
  rw [hlin]
  show MI (ab (ent x m.line.toNat)) _ _ m
  split
  ·rename_i hc
   rw [hc.1, hc.2] at h3 ⊢
   exact hm m h3
  ·exact h3
theorem Inv.home {i : Nat} {e' : Entry} (h : Inv n nl x M) (hi : i < nl) (hla : e'.last.length = n) (hb : (0 ≤ e'.sharers ∧ e'.sharers < (2 ^ n : Nat)) ∧ (0 ≤ e'.need ∧ e'.need < (2 ^ n : Nat)))
  (hg : GI n (ab e') ∧ (∀ q, q < n → CI (ab e') q (lin x i q) (M.getD i 0)) ∧ ∀ q, q < n → ∀ m, MI (ab (ent x i)) q (lin x i q) m → MI (ab e') q (lin x i q) m) :
  Inv n nl ⟨x.cores, x.home.set i e', x.frames⟩ M := by
 have hic : i < x.home.length := by rw [h.nh]; exact hi
 have hent : ∀ j, ent ⟨x.cores, x.home.set i e', x.frames⟩ j = if j = i then e' else ent x j := fun q => Ch _ _ _ _ _ hic
 obtain ⟨hg1, hg2, hg3⟩ := hg
 refine ⟨h.n1, h.l1, h.nc, by simp [h.nh], h.ncl, ?_, h.ml, h.mv, ?_, ?_, ?_, h.cw, h.fr, ?_⟩
 ·intro j hj; rw [hent]; split
  ·exact hla
  ·exact h.nla j hj
 ·intro j hj; rw [hent]; split
  ·exact hb
  ·exact h.bit j hj
 ·intro j hj; rw [hent]; split
  ·exact hg1
  ·exact h.gi j hj
 ·intro j hj q hq
  rw [hent]
  show CI _ q (lin x j q) _
  by_cases hji : j = i
  ·subst hji; rw [if_pos rfl]; exact hg2 q hq
  ·rw [if_neg hji]; exact h.ci j hj q hq
 ·intro b hb
  obtain ⟨h1, h2⟩ := h.mi b hb
  refine ⟨h1, fun m hmp => ?_⟩
  have h3 := h2 m hmp
  have hw := Ey (Fg hmp).2.2.2.2.1
  have hpe : J1 n m < n := by
   unfold J1
   have h4 : m.src = (n : Int) ↔ ¬ m.dst = (n : Int) := by
    have := hw.2.2.2.2.2.2
    simp only [Ef] at this
    by_cases h : m.src = (n : Int) <;> by_cases h' : m.dst = (n : Int) <;> simp_all
   have h5 := hw.2.1
   simp only [Ef] at h5
   split
   ·have : ¬ m.src = (n : Int) := by rename_i hd; intro hs; exact h4.1 hs hd
    omega
   ·omega
  unfold MX at h3 ⊢
  rw [hent]
  show MI _ _ (lin x m.line.toNat _) m
  split
  ·rename_i hc
   rw [hc] at h3 ⊢
   exact hg3 _ hpe m h3
  ·exact h3
theorem Inv.frames {f : Frames} (h : Inv n nl x M) (hl : f.length ≤ 40) (hf : ∀ b ∈ f, b.length = 12 ∧ ∀ m, Af (Ef n nl) b = (m, 0) → MX n x m) : Inv n nl ⟨x.cores, x.home, f⟩ M :=
 ⟨h.n1, h.l1, h.nc, h.nh, h.ncl, h.nla, h.ml, h.mv, h.bit, h.gi, h.ci, h.cw, hl, hf⟩
theorem Inv.send {b : List UInt8} (h : Inv n nl x M) (hb : b.length = 12 ∧ ∀ m, Af (Ef n nl) b = (m, 0) → MX n x m) : Inv n nl ⟨x.cores, x.home, Cy x.frames b⟩ M := by
 unfold Cy
 have := h.fr
 split
 ·refine h.frames (by simp; omega) fun b' hb' => ?_
  rcases List.mem_append.1 hb' with e | e
  ·exact h.mi b' e
  ·rw [List.mem_singleton.1 e]; exact hb
 ·exact h
theorem Inv.msg {m : Msg} (h : Inv n nl x M) (hw : Bd (Ef n nl) m = 0) (hm : MX n x m) : (msgBytes m).length = 12 ∧ ∀ m', Af (Ef n nl) (msgBytes m) = (m', 0) → MX n x m' := by
 refine ⟨Ri m, fun m' h' => ?_⟩
 have h1 := h.n1; have h2 := h.l1
 rw [M9 hw (by simp only [Ef]; omega) (by simp only [Ef]; omega)] at h'
 cases h'; exact hm
theorem Inv.way {ms : List Msg} : ∀ {x : Chip}, Inv n nl x M → (∀ m ∈ ms, Bd (Ef n nl) m = 0 ∧ MX n x m) → Inv n nl ⟨x.cores, x.home, way x.frames ms⟩ M := by
 induction ms with
 | nil => intro x h _; exact h
 | cons m ms ih =>
  intro x h hm
  have h1 := hm m (List.mem_cons_self ..)
  have h2 := h.send (h.msg h1.1 h1.2)
  exact ih h2 fun m' hm' => hm m' (List.mem_cons_of_mem _ hm')
theorem Inv.erase (h : Inv n nl x M) (k : Nat) : Inv n nl ⟨x.cores, x.home, x.frames.eraseIdx k⟩ M := by
 have := h.fr
 refine h.frames (Nat.le_trans (List.length_eraseIdx_le _ _) h.fr) fun b hb => h.mi b (List.mem_of_mem_eraseIdx hb)
theorem Iv {l : Frames} {k : Int} (h : ¬ (k < 0 ∨ (l.length : Int) ≤ k)) : Av l k ∈ l := by
 unfold Av
 rw [List.getD_eq_getElem?_getD, List.getElem?_eq_getElem (by omega)]
 exact List.getElem_mem _
theorem Inv.spoil {k bit : Int} (h : Inv n nl x M) (h1 : ¬ (k < 0 ∨ (x.frames.length : Int) ≤ k)) (h2 : (Af (Ef n nl) (Av x.frames k)).2 = 0) (h3 : 0 ≤ bit) (h4 : bit < 8 * ((Av x.frames k).length : Int)) :
  Inv n nl ⟨x.cores, x.home, x.frames.set k.toNat (Bp (Av x.frames k) bit)⟩ M := by
 refine h.frames (by rw [List.length_set]; exact h.fr) fun b hb => ?_
 rcases List.mem_or_eq_of_mem_set hb with e | e
 ·exact h.mi b e
 ·subst e
  have hl := (h.mi _ (Iv h1)).1
  refine ⟨by rw [I9]; exact hl, fun m hm => ?_⟩
  have hp : Af (Ef n nl) (Av x.frames k) = ((Af (Ef n nl) (Av x.frames k)).1, 0) := by rw [← h2]
  rw [Vf hp h3 (by rw [hl] at h4; exact h4)] at hm
  cases hm
end
end Go.Proofs.Ytehpekiedfpnkaa
