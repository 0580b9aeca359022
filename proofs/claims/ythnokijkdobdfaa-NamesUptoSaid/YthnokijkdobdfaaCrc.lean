/- This file proves plain laws of the sum of bytes: two ways to reckon it are one, and one byte that is unlike turns it. No program in sight. No conditions. -/
import Derived.Test.YthnokijkdobdfaaTypes
set_option linter.unusedVariables false
set_option linter.unusedSimpArgs false
namespace Go.Proofs.Ythnokijkdobdfaa
def crcP : BitVec 16 := 4129#16
def crcBit (x : BitVec 16) : BitVec 16 := (x <<< 1) ^^^ (if x.msb then crcP else 0#16)
def crcBits : Nat → BitVec 16 → BitVec 16
  | 0, x => x
  | j + 1, x => crcBit (crcBits j x)
def wideByte (c : UInt8) : BitVec 16 := c.toBitVec.setWidth 16
def crcByte (s : BitVec 16) (c : UInt8) : BitVec 16 := crcBits 8 (s ^^^ (wideByte c <<< 8))
def sumOf (l : List UInt8) : BitVec 16 := l.foldl crcByte 65535#16
def refBit (r : BitVec 16) (b : Bool) : BitVec 16 := (r <<< 1) ^^^ (if r.msb ^^ b then crcP else 0#16)
def refBits (c : UInt8) : Nat → BitVec 16 → BitVec 16
  | 0, s => s
  | j + 1, s => refBit (refBits c j s) (c.toBitVec.getLsbD (7 - j))
theorem crcBit_xor (r y : BitVec 16) : crcBit (r ^^^ y) = refBit r y.msb ^^^ (y <<< 1) := by
  unfold crcBit refBit
  rw [BitVec.shiftLeft_xor_distrib, BitVec.msb_xor]
  ac_rfl
theorem wide_msb (c : UInt8) (j : Nat) (hj : j ≤ 7) : (wideByte c <<< (8 + j)).msb = c.toBitVec.getLsbD (7 - j) := by
  rw [BitVec.msb_eq_getLsbD_last, BitVec.getLsbD_shiftLeft]
  unfold wideByte
  rw [BitVec.getLsbD_setWidth]
  rw [show 16 - 1 - (8 + j) = 7 - j by omega]
  have h1 : decide (16 - 1 < 16) = true := by decide
  have h2 : decide (16 - 1 < 8 + j) = false := by simp; omega
  have h3 : decide (7 - j < 16) = true := by simp; omega
  rw [h1, h2, h3]; simp
theorem crc_ref (c : UInt8) (s : BitVec 16) : ∀ j, j ≤ 8 → crcBits j (s ^^^ (wideByte c <<< 8)) = refBits c j s ^^^ (wideByte c <<< (8 + j))
  | 0, _ => rfl
  | j + 1, h => by
    simp only [crcBits, refBits]
    rw [crc_ref c s j (by omega), crcBit_xor, wide_msb c j (by omega), ← BitVec.shiftLeft_add]; rfl
theorem crcByte_ref (s : BitVec 16) (c : UInt8) : crcByte s c = refBits c 8 s := by
  unfold crcByte
  rw [crc_ref c s 8 (by omega)]
  have : wideByte c <<< (8 + 8) = 0#16 := by
    apply BitVec.eq_of_getLsbD_eq
    intro i hi
    rw [BitVec.getLsbD_shiftLeft]
    simp [show i < 16 from hi]
  rw [this, BitVec.xor_zero]
theorem crcBit_inj {x y : BitVec 16} (h : crcBit x = crcBit y) : x = y := by
  have h0 : x.msb = y.msb := by
    have := congrArg (fun z => BitVec.getLsbD z 0) h
    simp only [crcBit, BitVec.getLsbD_xor, BitVec.getLsbD_shiftLeft] at this
    cases hx : x.msb <;> cases hy : y.msb <;> rw [hx, hy] at this <;> simp [crcP] at this <;> rfl
  have h1 : x <<< 1 = y <<< 1 := by
    unfold crcBit at h
    rw [h0] at h
    have := congrArg (fun z => z ^^^ (if y.msb then crcP else 0#16)) h
    simpa [BitVec.xor_assoc] using this
  apply BitVec.eq_of_getLsbD_eq
  intro i hi
  by_cases hi15 : i = 15
  · subst hi15
    have := h0
    rw [BitVec.msb_eq_getLsbD_last, BitVec.msb_eq_getLsbD_last] at this
    exact this
  · have := congrArg (fun z => BitVec.getLsbD z (i + 1)) h1
    simp only [BitVec.getLsbD_shiftLeft] at this
    have e1 : decide (i + 1 < 16) = true := by simp; omega
    have e2 : decide (i + 1 < 1) = false := by simp
    rw [e1, e2] at this
    simpa using this
theorem crcBits_inj : ∀ {j : Nat} {x y : BitVec 16}, crcBits j x = crcBits j y → x = y
  | 0, _, _, h => h
  | j + 1, _, _, h => crcBits_inj (crcBit_inj h)
theorem wide_inj {c d : UInt8} (h : wideByte c <<< 8 = wideByte d <<< 8) : c = d := by
  have : c.toBitVec = d.toBitVec := by
    apply BitVec.eq_of_getLsbD_eq
    intro i hi
    have := congrArg (fun z => BitVec.getLsbD z (i + 8)) h
    simp only [BitVec.getLsbD_shiftLeft, wideByte, BitVec.getLsbD_setWidth] at this
    have e1 : decide (i + 8 < 16) = true := by simp; omega
    have e2 : decide (i + 8 < 8) = false := by simp
    have e3 : decide (i + 8 - 8 < 16) = true := by simp; omega
    rw [e1, e2, e3] at this
    simpa using this
  exact UInt8.toBitVec_inj.1 this
theorem crcByte_state {s t : BitVec 16} {c : UInt8} (h : crcByte s c = crcByte t c) : s = t := by
  have := congrArg (fun z => z ^^^ (wideByte c <<< 8)) (crcBits_inj h)
  simpa [BitVec.xor_assoc] using this
theorem crcByte_byte {s : BitVec 16} {c d : UInt8} (h : crcByte s c = crcByte s d) : c = d := by
  have := congrArg (fun z => s ^^^ z) (crcBits_inj h)
  exact wide_inj (by simpa [← BitVec.xor_assoc] using this)
theorem fold_state : ∀ {l : List UInt8} {s t : BitVec 16}, l.foldl crcByte s = l.foldl crcByte t → s = t
  | [], _, _, h => h
  | c :: l, _, _, h => crcByte_state (fold_state (l := l) h)
/-- One byte that is unlike turns the sum. -/
theorem sum_unlike {a b : List UInt8} {c d : UInt8} (h : sumOf (a ++ c :: b) = sumOf (a ++ d :: b)) : c = d := by
  unfold sumOf at h
  rw [List.foldl_append, List.foldl_append] at h
  exact crcByte_byte (fold_state (l := b) h)
end Go.Proofs.Ythnokijkdobdfaa
