/- This file proves how sums of bytes are reckoned with numbers, and where bytes and numbers of lists lie. No conditions. -/
import Derived.Test.YthnokijkdobdfaaOps2
set_option linter.unusedVariables false
set_option linter.unusedSimpArgs false
namespace Go.Proofs.Ythnokijkdobdfaa
open Go

theorem lt63 (x : BitVec 16) : x.toNat < 9223372036854775808 := by have := x.isLt; omega
theorem top_bit (x : BitVec 16) : x.msb = true ↔ x.toNat &&& 32768 ≠ 0 := by
  have h : (x &&& BitVec.twoPow 16 15).toNat = x.toNat &&& 32768 := by rw [BitVec.toNat_and]; rfl
  rw [← h, BitVec.and_twoPow, BitVec.msb_eq_getLsbD_last]
  show x.getLsbD 15 = true ↔ _
  cases x.getLsbD 15 <;> simp
theorem shl1 (x : BitVec 16) : (x <<< 1).toNat = (x.toNat * 2 ^ 1) % 65536 := by rw [BitVec.toNat_shiftLeft, Nat.shiftLeft_eq]
theorem and_low (a : Nat) : a &&& 65535 = a % 65536 := Nat.and_two_pow_sub_one_eq_mod a 16
theorem crc_hi (x : BitVec 16) (h : x.toNat &&& 32768 ≠ 0) : ((x.toNat * 2 ^ 1) ^^^ 4129) &&& 65535 = (crcBit x).toNat := by
  unfold crcBit
  rw [if_pos ((top_bit x).2 h), BitVec.toNat_xor, shl1, and_low]
  have : (65536 : Nat) = 2 ^ 16 := rfl
  rw [this, Nat.xor_mod_two_pow]; rfl
theorem crc_lo (x : BitVec 16) (h : x.toNat &&& 32768 = 0) : (x.toNat * 2 ^ 1) &&& 65535 = (crcBit x).toNat := by
  unfold crcBit
  have : ¬ x.msb = true := fun hm => (top_bit x).1 hm h
  rw [if_neg this, BitVec.xor_zero, shl1, and_low]
theorem crc_in (x : BitVec 16) (c : UInt8) : x.toNat ^^^ (c.toNat * 2 ^ 8) = (x ^^^ (wideByte c <<< 8)).toNat := by
  rw [BitVec.toNat_xor, BitVec.toNat_shiftLeft, Nat.shiftLeft_eq]
  unfold wideByte
  rw [BitVec.toNat_setWidth]
  have := c.toNat_lt
  show _ = x.toNat ^^^ (c.toNat % 2 ^ 16 * 2 ^ 8 % 2 ^ 16)
  rw [Nat.mod_eq_of_lt (by omega), Nat.mod_eq_of_lt (by omega)]
theorem ref_top (x : BitVec 16) : (x.toNat : Int).tdiv 32768 = if x.msb then 1 else 0 := by
  rw [BitVec.msb_eq_decide]
  have := x.isLt
  have h : (x.toNat : Int).tdiv 32768 = (x.toNat : Int) / 32768 := Int.tdiv_eq_ediv_of_nonneg (by omega)
  rw [h]
  by_cases hx : 2 ^ (16 - 1) ≤ x.toNat
  · simp only [hx, decide_true, if_true]; have : (2 : Nat) ^ (16 - 1) = 32768 := rfl; omega
  · simp only [hx, decide_false, Bool.false_eq_true, if_false]; have : (2 : Nat) ^ (16 - 1) = 32768 := rfl; omega
theorem ref_dbl (x : BitVec 16) : (IntKind.i64.wrap ((x.toNat : Int) * 2)).tmod 65536 = ((x <<< 1).toNat : Int) := by
  rw [shl1, IntKind.wrap_i64]
  have := x.isLt
  have h : ((x.toNat : Int) * 2 + 9223372036854775808) % 18446744073709551616 - 9223372036854775808 = (x.toNat : Int) * 2 := by omega
  rw [h, Int.tmod_eq_emod_of_nonneg (by omega)]; omega
theorem ref_bitI (c : UInt8) (k : Nat) (hk : k ≤ 7) : (((c.toNat : Int) / 2 ^ k).toNat &&& 1 : Nat) = if c.toBitVec.getLsbD k then 1 else 0 := by
  have e : ((c.toNat : Int) / 2 ^ k).toNat = c.toNat / 2 ^ k := by
    have : ((2 : Int) ^ k) = ((2 ^ k : Nat) : Int) := by push_cast; rfl
    rw [this, ← Int.natCast_ediv, Int.toNat_natCast]
  rw [e, show (1 : Nat) = 2 ^ 1 - 1 from rfl, Nat.and_two_pow_sub_one_eq_mod]
  have h1 : c.toBitVec.getLsbD k = c.toNat.testBit k := rfl
  rw [h1, Nat.testBit_eq_decide_div_mod_eq]
  by_cases h : c.toNat / 2 ^ k % 2 = 1
  · simp [h]
  · have : c.toNat / 2 ^ k % 2 = 0 := by omega
    simp [this]
theorem ref_xor (x : BitVec 16) : (x <<< 1).toNat ^^^ 4129 = ((x <<< 1) ^^^ crcP).toNat := by rw [BitVec.toNat_xor]; rfl
theorem refBits_succ (c : UInt8) (j : Nat) (s : BitVec 16) : refBits c (j + 1) s = refBit (refBits c j s) (c.toBitVec.getLsbD (7 - j)) := rfl
def zConfig : Config := ⟨0, 0⟩
def zDone : Done := ⟨0, zOp, 0⟩
def zStep : Step := ⟨0, 0, 0, 0, zOp⟩
def zAnswer : Answer := ⟨0, 0⟩
def zSeen : Seen := ⟨0, 0, false⟩
/-- What the sum is behind the first ones. -/
def sumTo (b : List UInt8) (k : Nat) : BitVec 16 := (b.take k).foldl crcByte 65535#16
theorem sumTo_succ {b : List UInt8} {k : Nat} (h : k < b.length) : sumTo b (k + 1) = crcByte (sumTo b k) (b.getD k 0) := by
  unfold sumTo
  rw [List.take_add_one, List.getElem?_eq_getElem h, List.foldl_append, List.getD_eq_getElem?_getD, List.getElem?_eq_getElem h]; rfl
theorem sumTo_all (b : List UInt8) : sumTo b b.length = sumOf b := by unfold sumTo sumOf; rw [List.take_length]
theorem sum_vi (b : List UInt8) : vi (sumI b) = vi ((sumTo b b.length).toNat : Int) := by rw [sumTo_all]; rfl

theorem b_shlN {P : Program} {T : TypeId} {k : IntKind} {a s : Nat} (hs : s ≤ 62) (h : a * 2 ^ s < 9223372036854775808) (w : World) : (binOp .shl T (vi (a : Int)) (.int k (s : Int))).run P w = .ok (vi ((a * 2 ^ s : Nat) : Int)) w := by
  rw [b_shl (by omega) (by omega)]
  have : ((a : Int)) * 2 ^ ((s : Int)).toNat = ((a * 2 ^ s : Nat) : Int) := by rw [Int.toNat_natCast]; push_cast; rfl
  rw [this, wrap64_nat h]
section
variable {P : Program} {n : Nat} {ops : Array Oper} {Q : Exit → Act → World → Prop} {rest : List Oper} {L L' : List Chunk} {R : List Fact} {al : List (Nat × Value)} {d : Nat} {x y : Operand} {T ty : TypeId} {pos : String} {aft : Array Edge}
theorem r_indexAddrN {v : Value} {T e : TypeId} {sz len i : Nat} (ht : SliceOf P T e sz) (hx : ev n al x = some v) (hy : ev n al y = some (vi (i : Int))) (hl : SliceLen L R v len) (h1 : i < len)
    (k : J P n ops Q rest L R ((d, ep v sz i 0) :: al)) : J P n ops Q (⟨some d, .indexAddr T x y, ty, pos, aft, none⟩ :: rest) L R al := by
  refine r_indexAddr ht hx hy hl (by omega) (by omega) ?_
  rw [Int.toNat_natCast]; exact k
variable {v : Value} {i f : Nat} {c : Value}
theorem getD_some {α : Type} {xs : List α} {i : Nat} (d : α) (h : i < xs.length) : xs[i]? = some (xs.getD i d) := by
  rw [List.getD_eq_getElem?_getD, List.getElem?_eq_getElem h]; rfl
theorem at_intD {xs : List Int} (hm : sl v xs ∈ R) (hi : i < xs.length) : CellsAt L R (ep v 1 i 0) [vi (xs.getD i 0)] := at_int hm (getD_some 0 hi)
theorem at_byteD {xs : List UInt8} (hm : sl v xs ∈ R) (hi : i < xs.length) : CellsAt L R (ep v 1 i 0) [vb (xs.getD i 0)] := at_sl1 hm (getD_some 0 hi) (fun cs m hr => by rw [show cs = [vb _] from hr]; rfl)
theorem at_byterow {T : TypeId} {xs : List UInt8} (hp : Pick L (row T v xs) L') (hi : i < xs.length) : CellsAt L R (ep v 1 i 0) [vb (xs.getD i 0)] := at_row1 hp (getD_some 0 hi) (fun cs m hr => by rw [show cs = [vb _] from hr]; rfl)
theorem at_StepD {xs : List Step} (hm : sl v xs ∈ R) (hi : i < xs.length) : CellsAt L R (ep v 7 i 0) (xs.getD i default).cells := at_Step hm (getD_some default hi)
theorem at_LineD {xs : List Line} (hm : sl v xs ∈ R) (hi : i < xs.length) : CellsAt L R (ep v 7 i 0) (xs.getD i zLine).cells := at_Line hm (getD_some zLine hi)
theorem at_LineDf {xs : List Line} (hm : sl v xs ∈ R) (hi : i < xs.length) (hc : (xs.getD i zLine).cells[f]? = some c) : CellsAt L R (ep v 7 i f) [c] := at_Linef hm (getD_some zLine hi) hc
theorem at_LineDrow {T : TypeId} {xs : List Line} (hp : Pick L (row T v xs) L') (hi : i < xs.length) : CellsAt L R (ep v 7 i 0) (xs.getD i zLine).cells := at_Linerow hp (getD_some zLine hi)
theorem at_LineDfrow {T : TypeId} {xs : List Line} (hp : Pick L (row T v xs) L') (hi : i < xs.length) (hc : (xs.getD i zLine).cells[f]? = some c) : CellsAt L R (ep v 7 i f) [c] := at_Linefrow hp (getD_some zLine hi) hc
theorem at_MsgD {xs : List Msg} (hm : sl v xs ∈ R) (hi : i < xs.length) : CellsAt L R (ep v 8 i 0) (xs.getD i zMsg).cells := at_Msg hm (getD_some zMsg hi)
theorem at_DoneD {xs : List Done} (hm : sl v xs ∈ R) (hi : i < xs.length) : CellsAt L R (ep v 5 i 0) (xs.getD i default).cells := at_Done hm (getD_some default hi)
theorem at_OpD {xs : List Op} (hm : sl v xs ∈ R) (hi : i < xs.length) : CellsAt L R (ep v 3 i 0) (xs.getD i zOp).cells := at_Op hm (getD_some zOp hi)
end
end Go.Proofs.Ythnokijkdobdfaa
