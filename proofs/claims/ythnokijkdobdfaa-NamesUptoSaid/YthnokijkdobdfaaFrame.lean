/- This file proves plain laws of frames: what is sent is read, what is read was so sent, and one bit turned is found. No program in sight. No conditions. -/
import Derived.Test.YthnokijkdobdfaaSpec
set_option linter.unusedVariables false
set_option linter.unusedSimpArgs false
namespace Go.Proofs.Ythnokijkdobdfaa

theorem getD_set {α : Type} (l : List α) (i j : Nat) (a d : α) (h : i < l.length) : (l.set i a).getD j d = if j = i then a else l.getD j d := by
  rw [List.getD_eq_getElem?_getD, List.getD_eq_getElem?_getD]
  by_cases hj : j = i
  · subst hj; rw [List.getElem?_set_self h, if_pos rfl]; rfl
  · rw [List.getElem?_set_ne (Ne.symm hj), if_neg hj]

theorem u8_in {x : Int} (h0 : 0 ≤ x) (h1 : x ≤ 255) : ((u8 x).toNat : Int) = x := by
  unfold u8
  rw [UInt8.toNat_ofNat']
  omega
theorem u8_mod (x : Int) : ((u8 x).toNat : Int) = x % 256 := by
  unfold u8
  rw [UInt8.toNat_ofNat']
  omega
theorem u8_back (b : UInt8) : u8 (b.toNat : Int) = b := by
  apply UInt8.toNat.inj
  have := u8_mod (b.toNat : Int)
  have h := b.toNat_lt
  omega
theorem u8_eq {x : Int} {b : UInt8} (h : x = (b.toNat : Int)) : u8 x = b := by rw [h]; exact u8_back b
theorem byte_lt (b : UInt8) : (b.toNat : Int) ≤ 255 ∧ 0 ≤ (b.toNat : Int) := by have := b.toNat_lt; omega
theorem sum_in (l : List UInt8) : 0 ≤ sumI l ∧ sumI l ≤ 65535 := by
  unfold sumI
  have := (sumOf l).isLt
  omega
theorem len_head (m : Msg) : (msgHead m).length = 10 := rfl
theorem len_bytes (m : Msg) : (msgBytes m).length = 12 := rfl
theorem take_bytes (m : Msg) : (msgBytes m).take 10 = msgHead m := rfl
/-- What a message that is not wrong is. -/
theorem wrong_ok {c : Config} {m : Msg} (h : msgWrong c m = 0) : (1 ≤ m.kind ∧ m.kind ≤ 11) ∧ (0 ≤ m.src ∧ m.src ≤ c.cores ∧ 0 ≤ m.dst ∧ m.dst ≤ c.cores) ∧ (0 ≤ m.line ∧ m.line < c.lines) ∧ (0 ≤ m.serial ∧ m.serial ≤ 65535) ∧ (0 ≤ m.turn ∧ m.turn ≤ 65535) ∧ (0 ≤ m.value ∧ m.value ≤ 255) ∧ ¬ (m.src = c.cores ↔ m.dst = c.cores) := by
  unfold msgWrong at h
  split at h
  · omega
  · split at h
    · omega
    · split at h
      · omega
      · refine ⟨by omega, by omega, by omega, by omega, by omega, by omega, by assumption⟩
theorem wrong_of {c : Config} {m : Msg} (h1 : 1 ≤ m.kind ∧ m.kind ≤ 11) (h2 : 0 ≤ m.src ∧ m.src ≤ c.cores ∧ 0 ≤ m.dst ∧ m.dst ≤ c.cores) (h3 : 0 ≤ m.line ∧ m.line < c.lines) (h4 : 0 ≤ m.serial ∧ m.serial ≤ 65535) (h5 : 0 ≤ m.turn ∧ m.turn ≤ 65535) (h6 : 0 ≤ m.value ∧ m.value ≤ 255) (h7 : ¬ (m.src = c.cores ↔ m.dst = c.cores)) : msgWrong c m = 0 := by
  unfold msgWrong
  rw [if_neg (by omega), if_neg (by omega), if_neg h7]
theorem msg_back {m : Msg} (h1 : 0 ≤ m.kind ∧ m.kind ≤ 255) (h2 : 0 ≤ m.src ∧ m.src ≤ 15 ∧ 0 ≤ m.dst ∧ m.dst ≤ 15) (h3 : 0 ≤ m.line ∧ m.line ≤ 255) (h4 : 0 ≤ m.serial ∧ m.serial ≤ 65535) (h5 : 0 ≤ m.turn ∧ m.turn ≤ 65535) (h6 : 0 ≤ m.value ∧ m.value ≤ 255) : msgOf (msgBytes m) = m := by
  obtain ⟨kind, src, dst, line, serial, turn, value, alone⟩ := m
  simp only at h1 h2 h3 h4 h5 h6
  have e0 : at8 (msgBytes ⟨kind, src, dst, line, serial, turn, value, alone⟩) 0 = kind := u8_in h1.1 h1.2
  have e1 : at8 (msgBytes ⟨kind, src, dst, line, serial, turn, value, alone⟩) 1 = 16 * src + dst := u8_in (by simp only; omega) (by simp only; omega)
  have e2 : at8 (msgBytes ⟨kind, src, dst, line, serial, turn, value, alone⟩) 2 = line := u8_in h3.1 h3.2
  have e3 : at8 (msgBytes ⟨kind, src, dst, line, serial, turn, value, alone⟩) 3 = serial / 256 := u8_in (by simp only; omega) (by simp only; omega)
  have e4 : at8 (msgBytes ⟨kind, src, dst, line, serial, turn, value, alone⟩) 4 = serial % 256 := u8_mod _
  have e5 : at8 (msgBytes ⟨kind, src, dst, line, serial, turn, value, alone⟩) 5 = turn / 256 := u8_in (by simp only; omega) (by simp only; omega)
  have e6 : at8 (msgBytes ⟨kind, src, dst, line, serial, turn, value, alone⟩) 6 = turn % 256 := u8_mod _
  have e7 : at8 (msgBytes ⟨kind, src, dst, line, serial, turn, value, alone⟩) 7 = value := u8_in h6.1 h6.2
  have e8 : (at8 (msgBytes ⟨kind, src, dst, line, serial, turn, value, alone⟩) 8 == 1) = alone := by cases alone <;> rfl
  unfold msgOf
  rw [e0, e1, e2, e3, e4, e5, e6, e7, e8]
  congr 1 <;> omega
theorem sum_back (x : Int) (h0 : 0 ≤ x) (h1 : x ≤ 65535) : 256 * ((u8 (x / 256)).toNat : Int) + ((u8 x).toNat : Int) = x := by
  rw [u8_in (by omega) (by omega), u8_mod]; omega
/-- What is sent is read. -/
theorem parse_bytes {c : Config} {m : Msg} (h : msgWrong c m = 0) (hc : c.cores ≤ 15) (hl : c.lines ≤ 256) : msgParse c (msgBytes m) = (m, 0) := by
  obtain ⟨h1, h2, h3, h4, h5, h6, h7⟩ := wrong_ok h
  have hb : msgOf (msgBytes m) = m := msg_back (by omega) (by omega) (by omega) h4 h5 h6
  unfold msgParse
  rw [if_neg (by rw [len_bytes]; omega), take_bytes]
  have e10 : at8 (msgBytes m) 10 = ((u8 (sumI (msgHead m) / 256)).toNat : Int) := rfl
  have e11 : at8 (msgBytes m) 11 = ((u8 (sumI (msgHead m))).toNat : Int) := rfl
  have e8 : at8 (msgBytes m) 8 = if m.alone then 1 else 0 := by cases m with | mk a b c d e f g al => cases al <;> rfl
  have e9 : at8 (msgBytes m) 9 = 0 := rfl
  rw [e10, e11, sum_back _ (sum_in _).1 (sum_in _).2, if_neg (by simp), e8, e9, hb, if_neg (by split <;> omega), if_neg (by omega)]
theorem list12 {b : List UInt8} (h : b.length = 12) : ∃ b0 b1 b2 b3 b4 b5 b6 b7 b8 b9 b10 b11, b = [b0, b1, b2, b3, b4, b5, b6, b7, b8, b9, b10, b11] := by
  match b, h with
  | [b0, b1, b2, b3, b4, b5, b6, b7, b8, b9, b10, b11], _ => exact ⟨_, _, _, _, _, _, _, _, _, _, _, _, rfl⟩
theorem parse_ok {c : Config} {b : List UInt8} {m : Msg} (h : msgParse c b = (m, 0)) : b.length = 12 ∧ sumI (b.take 10) = 256 * at8 b 10 + at8 b 11 ∧ at8 b 8 ≤ 1 ∧ at8 b 9 = 0 ∧ msgWrong c m = 0 ∧ m = msgOf b := by
  unfold msgParse at h
  split at h
  · cases h
  · split at h
    · cases h
    · split at h
      · cases h
      · split at h
        · rename_i hw
          have := congrArg Prod.snd h
          exact absurd this hw
        · have e : msgOf b = m := congrArg Prod.fst h
          subst e
          refine ⟨by omega, by omega, by omega, by omega, by omega, rfl⟩
theorem parse_err {c : Config} {b : List UInt8} (h : (msgParse c b).2 ≠ 0) : (msgParse c b).1 = zMsg := by
  unfold msgParse at h ⊢
  split
  · rfl
  · split
    · rfl
    · split
      · rfl
      · split
        · rfl
        · rename_i h1 h2 h3 h4; rw [if_neg h1, if_neg h2, if_neg h3, if_neg h4] at h; exact absurd rfl h
/-- What is read was so sent. -/
theorem bytes_parse {c : Config} {b : List UInt8} {m : Msg} (h : msgParse c b = (m, 0)) : msgBytes m = b := by
  obtain ⟨h1, h2, h3, h4, h5, h6⟩ := parse_ok h
  obtain ⟨b0, b1, b2, b3, b4, b5, b6, b7, b8, b9, b10, b11, rfl⟩ := list12 h1
  have l0 := byte_lt b0; have l1 := byte_lt b1; have l2 := byte_lt b2; have l3 := byte_lt b3; have l4 := byte_lt b4; have l5 := byte_lt b5
  have l6 := byte_lt b6; have l7 := byte_lt b7; have l8 := byte_lt b8; have l9 := byte_lt b9; have l10 := byte_lt b10; have l11 := byte_lt b11
  have e8 : (b8.toNat : Int) ≤ 1 := h3
  have e9 : (b9.toNat : Int) = 0 := h4
  have hm : msgHead m = [b0, b1, b2, b3, b4, b5, b6, b7, b8, b9] := by
    rw [h6]
    unfold msgHead
    have g0 : u8 (msgOf [b0, b1, b2, b3, b4, b5, b6, b7, b8, b9, b10, b11]).kind = b0 := u8_back b0
    have g1 : u8 (16 * (msgOf [b0, b1, b2, b3, b4, b5, b6, b7, b8, b9, b10, b11]).src + (msgOf [b0, b1, b2, b3, b4, b5, b6, b7, b8, b9, b10, b11]).dst) = b1 := u8_eq (by show 16 * ((b1.toNat : Int) / 16) + (b1.toNat : Int) % 16 = _; omega)
    have g2 : u8 (msgOf [b0, b1, b2, b3, b4, b5, b6, b7, b8, b9, b10, b11]).line = b2 := u8_back b2
    have g3 : u8 ((msgOf [b0, b1, b2, b3, b4, b5, b6, b7, b8, b9, b10, b11]).serial / 256) = b3 := u8_eq (by show (256 * (b3.toNat : Int) + (b4.toNat : Int)) / 256 = _; omega)
    have g4 : u8 (msgOf [b0, b1, b2, b3, b4, b5, b6, b7, b8, b9, b10, b11]).serial = b4 := by
      apply UInt8.toNat.inj
      have : ((u8 (256 * (b3.toNat : Int) + (b4.toNat : Int))).toNat : Int) = (256 * (b3.toNat : Int) + (b4.toNat : Int)) % 256 := u8_mod _
      have e : (u8 (256 * (b3.toNat : Int) + (b4.toNat : Int))).toNat = b4.toNat := by omega
      exact e
    have g5 : u8 ((msgOf [b0, b1, b2, b3, b4, b5, b6, b7, b8, b9, b10, b11]).turn / 256) = b5 := u8_eq (by show (256 * (b5.toNat : Int) + (b6.toNat : Int)) / 256 = _; omega)
    have g6 : u8 (msgOf [b0, b1, b2, b3, b4, b5, b6, b7, b8, b9, b10, b11]).turn = b6 := by
      apply UInt8.toNat.inj
      have : ((u8 (256 * (b5.toNat : Int) + (b6.toNat : Int))).toNat : Int) = (256 * (b5.toNat : Int) + (b6.toNat : Int)) % 256 := u8_mod _
      have e : (u8 (256 * (b5.toNat : Int) + (b6.toNat : Int))).toNat = b6.toNat := by omega
      exact e
    have g7 : u8 (msgOf [b0, b1, b2, b3, b4, b5, b6, b7, b8, b9, b10, b11]).value = b7 := u8_back b7
    have g8 : (if (msgOf [b0, b1, b2, b3, b4, b5, b6, b7, b8, b9, b10, b11]).alone then (1 : UInt8) else 0) = b8 := by
      show (if ((b8.toNat : Int) == 1) = true then (1 : UInt8) else 0) = b8
      by_cases h : (b8.toNat : Int) = 1
      · rw [if_pos (by simp [h])]; apply UInt8.toNat.inj; show 1 = b8.toNat; omega
      · rw [if_neg (by simp [h])]; apply UInt8.toNat.inj; show 0 = b8.toNat; omega
    have g9 : (0 : UInt8) = b9 := by apply UInt8.toNat.inj; show 0 = b9.toNat; omega
    rw [g0, g1, g2, g3, g4, g5, g6, g7, g8, ← g9]
  have hs : sumI (msgHead m) = 256 * (b10.toNat : Int) + (b11.toNat : Int) := by rw [hm]; exact h2
  unfold msgBytes
  rw [hs, hm]
  have k10 : u8 ((256 * (b10.toNat : Int) + (b11.toNat : Int)) / 256) = b10 := u8_eq (by omega)
  have k11 : u8 (256 * (b10.toNat : Int) + (b11.toNat : Int)) = b11 := by
    apply UInt8.toNat.inj
    have := u8_mod (256 * (b10.toNat : Int) + (b11.toNat : Int))
    omega
  rw [k10, k11]; rfl

/-! ### One bit turned -/
theorem turn_len (b : List UInt8) (bit : Int) : (bitTurn b bit).length = b.length := by unfold bitTurn; split <;> simp
theorem mask_ne (c : UInt8) (k : Nat) (hk : k < 8) : c ^^^ (1 <<< UInt8.ofNat k) ≠ c := by
  have : ∀ (k : Fin 8), (1 : UInt8) <<< UInt8.ofNat k.val ≠ 0 := by decide
  intro h
  have h2 : c ^^^ (c ^^^ (1 <<< UInt8.ofNat k)) = c ^^^ c := by rw [h]
  rw [← UInt8.xor_assoc, UInt8.xor_self, UInt8.zero_xor] at h2
  exact this ⟨k, hk⟩ h2
theorem turn_twice (b : List UInt8) (bit : Int) : bitTurn (bitTurn b bit) bit = b := by
  by_cases h : 0 ≤ bit ∧ bit < 8 * (b.length : Int)
  · have e : bitTurn b bit = b.set (bit / 8).toNat (b.getD (bit / 8).toNat 0 ^^^ (1 <<< UInt8.ofNat (bit % 8).toNat)) := by unfold bitTurn; rw [if_pos h]
    have hl := turn_len b bit
    rw [e] at hl ⊢
    unfold bitTurn
    rw [hl, if_pos h, List.set_set]
    have hi : (bit / 8).toNat < b.length := by omega
    rw [List.getD_eq_getElem?_getD, List.getElem?_set_self hi]
    simp only [Option.getD_some]
    rw [UInt8.xor_assoc, UInt8.xor_self, UInt8.xor_zero]
    rw [List.getD_eq_getElem?_getD, List.getElem?_eq_getElem hi]
    simp
  · have e : bitTurn b bit = b := by unfold bitTurn; rw [if_neg h]
    rw [e, e]
/-- One bit turned is found. -/
theorem turn_found {c c' : Config} {b : List UInt8} {m : Msg} {bit : Int} (h : msgParse c b = (m, 0)) (h0 : 0 ≤ bit) (h1 : bit < 96) : msgParse c' (bitTurn b bit) = (zMsg, 7) := by
  obtain ⟨g1, g2, g3, g4, g5, g6⟩ := parse_ok h
  have hl := turn_len b bit
  unfold msgParse
  rw [hl, if_neg (by omega), if_pos]
  intro hs
  have e : bitTurn b bit = b.set (bit / 8).toNat (b.getD (bit / 8).toNat 0 ^^^ (1 <<< UInt8.ofNat (bit % 8).toNat)) := by unfold bitTurn; rw [if_pos (by omega)]
  have hi : (bit / 8).toNat < 12 := by omega
  have hk : (bit % 8).toNat < 8 := by omega
  generalize (bit / 8).toNat = i at e hi
  have hne := mask_ne (b.getD i 0) _ hk
  generalize b.getD i 0 ^^^ (1 <<< UInt8.ofNat (bit % 8).toNat) = d at e hne
  rw [e] at hs
  by_cases h10 : i < 10
  · have a10 : at8 (b.set i d) 10 = at8 b 10 := by unfold at8; rw [List.getD_eq_getElem?_getD, List.getElem?_set_ne (by omega), ← List.getD_eq_getElem?_getD]
    have a11 : at8 (b.set i d) 11 = at8 b 11 := by unfold at8; rw [List.getD_eq_getElem?_getD, List.getElem?_set_ne (by omega), ← List.getD_eq_getElem?_getD]
    rw [a10, a11, ← g2] at hs
    have hs' : sumOf ((b.set i d).take 10) = sumOf (b.take 10) := by
      apply BitVec.eq_of_toNat_eq
      have : ((sumOf ((b.set i d).take 10)).toNat : Int) = ((sumOf (b.take 10)).toNat : Int) := hs
      omega
    rw [List.take_set] at hs'
    have hib : i < (b.take 10).length := by rw [List.length_take]; omega
    have hsp : b.take 10 = (b.take 10).take i ++ (b.take 10)[i] :: (b.take 10).drop (i + 1) := by
      rw [List.getElem_cons_drop, List.take_append_drop]
    rw [List.set_eq_take_append_cons_drop, if_pos hib] at hs'
    have hs2 : sumOf ((b.take 10).take i ++ d :: (b.take 10).drop (i + 1)) = sumOf ((b.take 10).take i ++ (b.take 10)[i] :: (b.take 10).drop (i + 1)) := by rw [← hsp]; exact hs'
    have := sum_unlike hs2
    apply hne
    rw [this, List.getElem_take, List.getD_eq_getElem?_getD, List.getElem?_eq_getElem (by omega)]
    simp
  · have ht : (b.set i d).take 10 = b.take 10 := by
      rw [List.take_set, List.set_eq_of_length_le (by rw [List.length_take]; omega)]
    rw [ht, g2] at hs
    apply hne
    have l1 := byte_lt d
    have hget : b.getD i 0 = b.getD i 0 := rfl
    have hi2 : i = 10 ∨ i = 11 := by omega
    rcases hi2 with rfl | rfl
    · have a10 : at8 (b.set 10 d) 10 = (d.toNat : Int) := by unfold at8; rw [List.getD_eq_getElem?_getD, List.getElem?_set_self (by omega)]; rfl
      have a11 : at8 (b.set 10 d) 11 = at8 b 11 := by unfold at8; rw [List.getD_eq_getElem?_getD, List.getElem?_set_ne (by omega), ← List.getD_eq_getElem?_getD]
      rw [a10, a11] at hs
      apply UInt8.toNat.inj
      have : at8 b 10 = ((b.getD 10 0).toNat : Int) := rfl
      omega
    · have a11 : at8 (b.set 11 d) 11 = (d.toNat : Int) := by unfold at8; rw [List.getD_eq_getElem?_getD, List.getElem?_set_self (by omega)]; rfl
      have a10 : at8 (b.set 11 d) 10 = at8 b 10 := by unfold at8; rw [List.getD_eq_getElem?_getD, List.getElem?_set_ne (by omega), ← List.getD_eq_getElem?_getD]
      rw [a10, a11] at hs
      apply UInt8.toNat.inj
      have : at8 b 11 = ((b.getD 11 0).toNat : Int) := rfl
      omega
end Go.Proofs.Ythnokijkdobdfaa
