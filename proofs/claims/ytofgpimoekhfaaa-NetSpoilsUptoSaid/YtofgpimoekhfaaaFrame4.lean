/- This file proves what frame.Turn and its twin in shref1 compute. No conditions. -/
import Derived.Test.YtofgpimoekhfaaaFacts
import Derived.Test.YtofgpimoekhfaaaFrame1
set_option linter.unusedVariables false
set_option linter.unusedSimpArgs false
set_option maxHeartbeats 1000000
namespace Go.Proofs.Ytofgpimoekhfaaa
open Go
theorem frameTurn_calls {L : List Chunk} {R : List Fact} {w : World} {v0 : Value} {b : List UInt8} {bit : Int} (hs : St L R w) (h0 : sl v0 b ∈ R) (hbit : In64 bit) : Calls Try.prog 63 [v0, vi bit].toArray w (Post (fun v : Value => v) (fun _ => L) (fun v => sl v (bitTurn b bit) :: R)) := by
  have hlen := sl_len h0 hs
  have hbit' := hbit
  unfold In64 at hbit'
  refine calls_args Try.func63 rfl Try.ntmps63 rfl hs ?_
  clear hs
  repeat refine jc_seq ?_
  refine jc_region ?_
  refine r_assign rfl ?_
  refine J.nil ?_
  refine jx_then ?_
  repeat refine jc_seq ?_
  refine jc_region ?_
  refine r_move rfl ?_
  refine J.rowNil 5 UInt8 ?_
  refine r_append eo_23 rfl rfl rfl (by decide) .hd h0 (fun w hs => by have : maxN = 16777216 := rfl; simp; omega) ?_; intro v7
  rw [List.nil_append]
  refine r_assign rfl ?_
  refine J.nil ?_
  refine jx_then ?_
  repeat refine jc_seq ?_
  refine jc_region ?_
  refine r_move rfl ?_
  refine r_bin rfl rfl b_geq ?_
  refine r_move rfl ?_
  refine j_cases (t := 10) (b := ?b1) ?e1 ?_ ?_
  case e1 => exact rfl
  · -- t10 True
    intro ht10
    try simp only [decide_eq_true_eq, decide_eq_false_iff_not, beq_iff_eq, bne_iff_ne, beq_eq_false_iff_ne, bne_eq_false_iff_eq, Int.not_lt, Int.not_le, Bool.not_eq_true, ne_eq, Bool.not_eq_eq_eq_not, Bool.not_true, Bool.not_false] at ht10
    refine J.guardYes ?_ ?_
    · exact rfl
    refine r_move rfl ?_
    refine J.guardYes ?_ ?_
    · exact rfl
    refine r_move rfl ?_
    refine J.guardYes ?_ ?_
    · exact rfl
    refine r_len Try.underlying23 rfl (by first | exact len_row (by first | exact .hd | exact .tl .hd | exact .tl (.tl .hd) | exact .tl (.tl (.tl .hd)) | exact .tl (.tl (.tl (.tl .hd))) | exact .tl (.tl (.tl (.tl (.tl .hd)))) | exact .tl (.tl (.tl (.tl (.tl (.tl .hd))))) | exact .tl (.tl (.tl (.tl (.tl (.tl (.tl .hd)))))) | exact .tl (.tl (.tl (.tl (.tl (.tl (.tl (.tl .hd)))))))) | exact len_sl (by first | assumption | exact .head _ | (refine .tail _ ?_; first | assumption | exact .head _ | (refine .tail _ ?_; first | assumption | exact .head _ | (refine .tail _ ?_; first | assumption | exact .head _ | (refine .tail _ ?_; first | assumption | exact .head _ | (refine .tail _ ?_; first | assumption | exact .head _ | (refine .tail _ ?_; first | assumption | exact .head _ | (refine .tail _ ?_; first | assumption | exact .head _ | (refine .tail _ ?_; first | assumption | exact .head _ | (refine .tail _ ?_; first | assumption | exact .head _))))))))))) ?_
    refine J.guardYes ?_ ?_
    · exact rfl
    refine r_bin rfl rfl (b_mul (by omega) (by omega)) ?_
    refine J.guardYes ?_ ?_
    · exact rfl
    refine r_bin rfl rfl b_lss ?_
    refine r_pickT rfl rfl ?_
    refine J.nil ?_
    refine jx_then ?_
    repeat refine jc_seq ?_
    refine jc_cond rfl (fun ht16 => ?_) (fun ht16 => ?_)
    · -- t16 True
      try simp only [decide_eq_true_eq, decide_eq_false_iff_not, beq_iff_eq, bne_iff_ne, beq_eq_false_iff_ne, bne_eq_false_iff_eq, Int.not_lt, Int.not_le, Bool.not_eq_true, ne_eq, Bool.not_eq_eq_eq_not, Bool.not_true, Bool.not_false] at ht16
      obtain ⟨q, rfl⟩ : ∃ q : Nat, bit = (q : Int) := ⟨bit.toNat, by omega⟩
      have hq : q / 8 < b.length := by omega
      have hq8 : q % 8 < 8 := by omega
      refine jc_draw mixed (by kernel_rfl) (by kernel_rfl) (fun _ _ => _) (fun _ => rfl) ?_
      refine dj ?_
      refine d_move (fun _ => rfl) (by first | exact Ind.const _ | exact fun _ _ _ _ _ => rfl | exact Ind.self | exact Ind.gh _ 3 rfl) (fun _ _ _ _ => rfl) ?_
      refine dj ?_
      refine d_move (fun _ => rfl) (by first | exact Ind.const _ | exact fun _ _ _ _ _ => rfl | exact Ind.self | exact Ind.gh _ 3 rfl) (fun _ _ _ _ => rfl) ?_
      refine dj ?_
      refine d_pc (fun _ _ => p_int rfl rfl (b_quoN (b := 8) (by omega) (by decide))) rfl (fun _ _ _ _ => rfl) ?_
      refine dj ?_
      first | refine d_pc (fun _ _ => p_indexAddrN so_23 rfl rfl (by first | exact len_row (by first | exact .hd | exact .tl .hd | exact .tl (.tl .hd) | exact .tl (.tl (.tl .hd)) | exact .tl (.tl (.tl (.tl .hd))) | exact .tl (.tl (.tl (.tl (.tl .hd)))) | exact .tl (.tl (.tl (.tl (.tl (.tl .hd))))) | exact .tl (.tl (.tl (.tl (.tl (.tl (.tl .hd)))))) | exact .tl (.tl (.tl (.tl (.tl (.tl (.tl (.tl .hd)))))))) | exact len_sl (by first | assumption | exact .head _ | (refine .tail _ ?_; first | assumption | exact .head _ | (refine .tail _ ?_; first | assumption | exact .head _ | (refine .tail _ ?_; first | assumption | exact .head _ | (refine .tail _ ?_; first | assumption | exact .head _ | (refine .tail _ ?_; first | assumption | exact .head _ | (refine .tail _ ?_; first | assumption | exact .head _ | (refine .tail _ ?_; first | assumption | exact .head _ | (refine .tail _ ?_; first | assumption | exact .head _ | (refine .tail _ ?_; first | assumption | exact .head _))))))))))) (by first | assumption | omega | (simp only [List.length_nil, List.length_cons, List.length_append, List.length_take, List.length_drop, List.length_set, List.length_replicate]; omega))) rfl (fun _ _ _ _ => rfl) ?_ | refine d_indexAddr so_23 (fun _ => rfl) (fun _ => rfl) (fun _ _ => (by first | exact len_row (by first | exact .hd | exact .tl .hd | exact .tl (.tl .hd) | exact .tl (.tl (.tl .hd)) | exact .tl (.tl (.tl (.tl .hd))) | exact .tl (.tl (.tl (.tl (.tl .hd)))) | exact .tl (.tl (.tl (.tl (.tl (.tl .hd))))) | exact .tl (.tl (.tl (.tl (.tl (.tl (.tl .hd)))))) | exact .tl (.tl (.tl (.tl (.tl (.tl (.tl (.tl .hd)))))))) | exact len_sl (by first | assumption | exact .head _ | (refine .tail _ ?_; first | assumption | exact .head _ | (refine .tail _ ?_; first | assumption | exact .head _ | (refine .tail _ ?_; first | assumption | exact .head _ | (refine .tail _ ?_; first | assumption | exact .head _ | (refine .tail _ ?_; first | assumption | exact .head _ | (refine .tail _ ?_; first | assumption | exact .head _ | (refine .tail _ ?_; first | assumption | exact .head _ | (refine .tail _ ?_; first | assumption | exact .head _ | (refine .tail _ ?_; first | assumption | exact .head _)))))))))))) (by first | assumption | omega | (simp only [List.length_nil, List.length_cons, List.length_append, List.length_take, List.length_drop, List.length_set, List.length_replicate]; omega)) (by first | assumption | omega | (simp only [List.length_nil, List.length_cons, List.length_append, List.length_take, List.length_drop, List.length_set, List.length_replicate]; omega)) (fun _ _ _ _ => rfl) ?_
      refine dj ?_
      first | refine d_load1 Try.isAgg5 (fun _ => rfl) (fun _ _ => at_blk1 (by first | exact .hd | exact .tl .hd | exact .tl (.tl .hd) | exact .tl (.tl (.tl .hd)) | exact .tl (.tl (.tl (.tl .hd))) | exact .tl (.tl (.tl (.tl (.tl .hd)))) | exact .tl (.tl (.tl (.tl (.tl (.tl .hd))))) | exact .tl (.tl (.tl (.tl (.tl (.tl (.tl .hd)))))) | exact .tl (.tl (.tl (.tl (.tl (.tl (.tl (.tl .hd)))))))) (by exact rfl)) (fun _ _ _ _ => rfl) ?_ | refine d_load1 Try.isAgg5 (fun _ => rfl) (fun _ _ => at_byterow (by first | exact .hd | exact .tl .hd | exact .tl (.tl .hd) | exact .tl (.tl (.tl .hd)) | exact .tl (.tl (.tl (.tl .hd))) | exact .tl (.tl (.tl (.tl (.tl .hd)))) | exact .tl (.tl (.tl (.tl (.tl (.tl .hd))))) | exact .tl (.tl (.tl (.tl (.tl (.tl (.tl .hd)))))) | exact .tl (.tl (.tl (.tl (.tl (.tl (.tl (.tl .hd)))))))) (by first | assumption | omega | (simp only [List.length_nil, List.length_cons, List.length_append, List.length_take, List.length_drop, List.length_set, List.length_replicate]; omega))) (fun _ _ _ _ => rfl) ?_ | refine d_load1 Try.isAgg5 (fun _ => rfl) (fun _ _ => at_byteD (by first | assumption | exact .head _ | (refine .tail _ ?_; first | assumption | exact .head _ | (refine .tail _ ?_; first | assumption | exact .head _ | (refine .tail _ ?_; first | assumption | exact .head _ | (refine .tail _ ?_; first | assumption | exact .head _ | (refine .tail _ ?_; first | assumption | exact .head _ | (refine .tail _ ?_; first | assumption | exact .head _ | (refine .tail _ ?_; first | assumption | exact .head _ | (refine .tail _ ?_; first | assumption | exact .head _ | (refine .tail _ ?_; first | assumption | exact .head _)))))))))) (by first | assumption | omega | (simp only [List.length_nil, List.length_cons, List.length_append, List.length_take, List.length_drop, List.length_set, List.length_replicate]; omega))) (fun _ _ _ _ => rfl) ?_
      refine dj ?_
      refine d_move (fun _ => rfl) (by first | exact Ind.const _ | exact fun _ _ _ _ _ => rfl | exact Ind.self | exact Ind.gh _ 3 rfl) (fun _ _ _ _ => rfl) ?_
      refine dj ?_
      refine d_pc (fun _ _ => p_int rfl rfl (b_remN (b := 8) (by decide) (by decide))) rfl (fun _ _ _ _ => rfl) ?_
      refine dj ?_
      refine d_pc (fun _ _ => p_int rfl rfl (b_shl8 (x := 1) (by omega) (by omega))) rfl (fun _ _ _ _ => rfl) ?_
      refine dj ?_
      first | refine d_pc (fun _ _ => p_int rfl rfl b_xor8) rfl (fun _ _ _ _ => rfl) ?_ | refine d_p (fun _ _ => p_int rfl rfl b_xor8) rfl (by first | exact Ind.const _ | exact fun _ _ _ _ _ => rfl | exact Ind.self | exact Ind.gh _ 3 rfl) (fun _ _ _ _ => rfl) ?_
      refine d_tailC (by kernel_rfl) ?_; intro ρ; simp only [chunks, facts, alOf, List.append_nil, List.nil_append, List.cons_append]
      first | refine r_indexAddrN so_23 rfl rfl (by first | exact len_row (by first | exact .hd | exact .tl .hd | exact .tl (.tl .hd) | exact .tl (.tl (.tl .hd)) | exact .tl (.tl (.tl (.tl .hd))) | exact .tl (.tl (.tl (.tl (.tl .hd)))) | exact .tl (.tl (.tl (.tl (.tl (.tl .hd))))) | exact .tl (.tl (.tl (.tl (.tl (.tl (.tl .hd)))))) | exact .tl (.tl (.tl (.tl (.tl (.tl (.tl (.tl .hd)))))))) | exact len_sl (by first | assumption | exact .head _ | (refine .tail _ ?_; first | assumption | exact .head _ | (refine .tail _ ?_; first | assumption | exact .head _ | (refine .tail _ ?_; first | assumption | exact .head _ | (refine .tail _ ?_; first | assumption | exact .head _ | (refine .tail _ ?_; first | assumption | exact .head _ | (refine .tail _ ?_; first | assumption | exact .head _ | (refine .tail _ ?_; first | assumption | exact .head _ | (refine .tail _ ?_; first | assumption | exact .head _ | (refine .tail _ ?_; first | assumption | exact .head _))))))))))) (by first | assumption | omega | (simp only [List.length_nil, List.length_cons, List.length_append, List.length_take, List.length_drop, List.length_set, List.length_replicate]; omega)) ?_ | refine r_indexAddr so_23 rfl rfl (by first | exact len_row (by first | exact .hd | exact .tl .hd | exact .tl (.tl .hd) | exact .tl (.tl (.tl .hd)) | exact .tl (.tl (.tl (.tl .hd))) | exact .tl (.tl (.tl (.tl (.tl .hd)))) | exact .tl (.tl (.tl (.tl (.tl (.tl .hd))))) | exact .tl (.tl (.tl (.tl (.tl (.tl (.tl .hd)))))) | exact .tl (.tl (.tl (.tl (.tl (.tl (.tl (.tl .hd)))))))) | exact len_sl (by first | assumption | exact .head _ | (refine .tail _ ?_; first | assumption | exact .head _ | (refine .tail _ ?_; first | assumption | exact .head _ | (refine .tail _ ?_; first | assumption | exact .head _ | (refine .tail _ ?_; first | assumption | exact .head _ | (refine .tail _ ?_; first | assumption | exact .head _ | (refine .tail _ ?_; first | assumption | exact .head _ | (refine .tail _ ?_; first | assumption | exact .head _ | (refine .tail _ ?_; first | assumption | exact .head _ | (refine .tail _ ?_; first | assumption | exact .head _))))))))))) (by first | assumption | omega | (simp only [List.length_nil, List.length_cons, List.length_append, List.length_take, List.length_drop, List.length_set, List.length_replicate]; omega)) (by first | assumption | omega | (simp only [List.length_nil, List.length_cons, List.length_append, List.length_take, List.length_drop, List.length_set, List.length_replicate]; omega)) ?_
      refine r_storeRow (α := UInt8) (f := 0) (e' := b.getD (q / 8) 0 ^^^ ((1 : UInt8) <<< UInt8.ofNat (q % 8))) Try.sizeOf5 rfl rfl rfl rfl (by intro u hu; cases List.mem_singleton.1 hu; rfl) (by first | exact .hd | exact .tl .hd | exact .tl (.tl .hd) | exact .tl (.tl (.tl .hd)) | exact .tl (.tl (.tl (.tl .hd))) | exact .tl (.tl (.tl (.tl (.tl .hd)))) | exact .tl (.tl (.tl (.tl (.tl (.tl .hd))))) | exact .tl (.tl (.tl (.tl (.tl (.tl (.tl .hd)))))) | exact .tl (.tl (.tl (.tl (.tl (.tl (.tl (.tl .hd)))))))) (getD_some 0 hq) (fun ds m hr => by rw [show ds = [vb _] from hr]; exact Nat.le_refl _) (fun j _ ds hr => by rw [show ds = [vb _] from hr]; show [vb (b.getD (q / 8) 0 ^^^ u8 (((1 : UInt8).toNat : Int) * 2 ^ (((q % 8 : Nat) : Int)).toNat))] = [vb _]; rw [Int.toNat_natCast, mask_eq ⟨q % 8, hq8⟩]) ?_
      refine J.nil ?_
      refine jx_then ?_
      repeat refine jc_seq ?_
      refine jc_region ?_
      refine r_move rfl ?_
      refine r_assign rfl ?_
      refine J.nil ?_
      refine jx_then ?_
      refine jc_ret ?_
      repeat (first | refine jx_thenRet ?_ | refine jx_blockRet ?_)
      have e1 : ((q : Int) / 8).toNat = q / 8 := by omega
      have e2 : ((q : Int) % 8).toNat = q % 8 := by omega
      have ht : bitTurn b (q : Int) = b.set (q / 8) (b.getD (q / 8) 0 ^^^ ((1 : UInt8) <<< UInt8.ofNat (q % 8))) := by unfold bitTurn; rw [if_pos (by omega), e1, e2]
      refine jx_body (.inr rfl) (fun B w hs => res1 rfl rfl B w) (fun w hs => ?_)
      refine ⟨v7, rfl, ?_⟩
      rw [ht]
      exact (St.shut (hs.pick (by first | exact .hd | exact .tl .hd | exact .tl (.tl .hd) | exact .tl (.tl (.tl .hd)) | exact .tl (.tl (.tl (.tl .hd))) | exact .tl (.tl (.tl (.tl (.tl .hd)))) | exact .tl (.tl (.tl (.tl (.tl (.tl .hd))))) | exact .tl (.tl (.tl (.tl (.tl (.tl (.tl .hd)))))) | exact .tl (.tl (.tl (.tl (.tl (.tl (.tl (.tl .hd)))))))))).sub (by repeat (first | exact .refl | exact .nil | refine .cons (by first | exact .hd | exact .tl .hd | exact .tl (.tl .hd) | exact .tl (.tl (.tl .hd)) | exact .tl (.tl (.tl (.tl .hd))) | exact .tl (.tl (.tl (.tl (.tl .hd)))) | exact .tl (.tl (.tl (.tl (.tl (.tl .hd))))) | exact .tl (.tl (.tl (.tl (.tl (.tl (.tl .hd)))))) | exact .tl (.tl (.tl (.tl (.tl (.tl (.tl (.tl .hd)))))))) ?_ | refine .drop ?_)) (by repeat (first | exact FSub.refl | exact FSub.nil | refine FSub.cons (by first | assumption | (repeat (first | assumption | exact List.Mem.head _ | refine .tail _ ?_))) ?_ | refine FSub.drop ?_))
    · -- t16 False
      try simp only [decide_eq_true_eq, decide_eq_false_iff_not, beq_iff_eq, bne_iff_ne, beq_eq_false_iff_ne, bne_eq_false_iff_eq, Int.not_lt, Int.not_le, Bool.not_eq_true, ne_eq, Bool.not_eq_eq_eq_not, Bool.not_true, Bool.not_false] at ht16
      refine jc_skip ?_
      refine jx_then ?_
      repeat refine jc_seq ?_
      refine jc_region ?_
      refine r_move rfl ?_
      refine r_assign rfl ?_
      refine J.nil ?_
      refine jx_then ?_
      refine jc_ret ?_
      repeat (first | refine jx_thenRet ?_ | refine jx_blockRet ?_)
      have ht : bitTurn b bit = b := by unfold bitTurn; rw [if_neg (by omega)]
      refine jx_body (.inr rfl) (fun B w hs => res1 rfl rfl B w) (fun w hs => ?_)
      refine ⟨v7, rfl, ?_⟩
      rw [ht]
      exact (St.shut (hs.pick (by first | exact .hd | exact .tl .hd | exact .tl (.tl .hd) | exact .tl (.tl (.tl .hd)) | exact .tl (.tl (.tl (.tl .hd))) | exact .tl (.tl (.tl (.tl (.tl .hd)))) | exact .tl (.tl (.tl (.tl (.tl (.tl .hd))))) | exact .tl (.tl (.tl (.tl (.tl (.tl (.tl .hd)))))) | exact .tl (.tl (.tl (.tl (.tl (.tl (.tl (.tl .hd)))))))))).sub (by repeat (first | exact .refl | exact .nil | refine .cons (by first | exact .hd | exact .tl .hd | exact .tl (.tl .hd) | exact .tl (.tl (.tl .hd)) | exact .tl (.tl (.tl (.tl .hd))) | exact .tl (.tl (.tl (.tl (.tl .hd)))) | exact .tl (.tl (.tl (.tl (.tl (.tl .hd))))) | exact .tl (.tl (.tl (.tl (.tl (.tl (.tl .hd)))))) | exact .tl (.tl (.tl (.tl (.tl (.tl (.tl (.tl .hd)))))))) ?_ | refine .drop ?_)) (by repeat (first | exact FSub.refl | exact FSub.nil | refine FSub.cons (by first | assumption | (repeat (first | assumption | exact List.Mem.head _ | refine .tail _ ?_))) ?_ | refine FSub.drop ?_))
  · -- t10 False
    intro ht10
    try simp only [decide_eq_true_eq, decide_eq_false_iff_not, beq_iff_eq, bne_iff_ne, beq_eq_false_iff_ne, bne_eq_false_iff_eq, Int.not_lt, Int.not_le, Bool.not_eq_true, ne_eq, Bool.not_eq_eq_eq_not, Bool.not_true, Bool.not_false] at ht10
    refine J.guardNo ?_ ?_
    · exact rfl
    refine J.guardNo ?_ ?_
    · exact rfl
    refine J.guardNo ?_ ?_
    · exact rfl
    refine J.guardNo ?_ ?_
    · exact rfl
    refine J.guardNo ?_ ?_
    · exact rfl
    refine r_pickF rfl rfl ?_
    refine J.nil ?_
    refine jx_then ?_
    repeat refine jc_seq ?_
    refine jc_condF rfl ?_
    refine jc_skip ?_
    refine jx_then ?_
    repeat refine jc_seq ?_
    refine jc_region ?_
    refine r_move rfl ?_
    refine r_assign rfl ?_
    refine J.nil ?_
    refine jx_then ?_
    refine jc_ret ?_
    repeat (first | refine jx_thenRet ?_ | refine jx_blockRet ?_)
    have ht : bitTurn b bit = b := by unfold bitTurn; rw [if_neg (by omega)]
    refine jx_body (.inr rfl) (fun B w hs => res1 rfl rfl B w) (fun w hs => ?_)
    refine ⟨v7, rfl, ?_⟩
    rw [ht]
    exact (St.shut (hs.pick (by first | exact .hd | exact .tl .hd | exact .tl (.tl .hd) | exact .tl (.tl (.tl .hd)) | exact .tl (.tl (.tl (.tl .hd))) | exact .tl (.tl (.tl (.tl (.tl .hd)))) | exact .tl (.tl (.tl (.tl (.tl (.tl .hd))))) | exact .tl (.tl (.tl (.tl (.tl (.tl (.tl .hd)))))) | exact .tl (.tl (.tl (.tl (.tl (.tl (.tl (.tl .hd)))))))))).sub (by repeat (first | exact .refl | exact .nil | refine .cons (by first | exact .hd | exact .tl .hd | exact .tl (.tl .hd) | exact .tl (.tl (.tl .hd)) | exact .tl (.tl (.tl (.tl .hd))) | exact .tl (.tl (.tl (.tl (.tl .hd)))) | exact .tl (.tl (.tl (.tl (.tl (.tl .hd))))) | exact .tl (.tl (.tl (.tl (.tl (.tl (.tl .hd)))))) | exact .tl (.tl (.tl (.tl (.tl (.tl (.tl (.tl .hd)))))))) ?_ | refine .drop ?_)) (by repeat (first | exact FSub.refl | exact FSub.nil | refine FSub.cons (by first | assumption | (repeat (first | assumption | exact List.Mem.head _ | refine .tail _ ?_))) ?_ | refine FSub.drop ?_))
theorem refTurned_calls {L : List Chunk} {R : List Fact} {w : World} {v0 : Value} {b : List UInt8} {bit : Int} (hs : St L R w) (h0 : sl v0 b ∈ R) (hbit : In64 bit) : Calls Try.prog 26 [v0, vi bit].toArray w (Post (fun v : Value => v) (fun _ => L) (fun v => sl v (bitTurn b bit) :: R)) := by
  have hlen := sl_len h0 hs
  have hbit' := hbit
  unfold In64 at hbit'
  refine calls_args Try.func26 rfl Try.ntmps26 rfl hs ?_
  clear hs
  repeat refine jc_seq ?_
  refine jc_region ?_
  refine r_assign rfl ?_
  refine J.nil ?_
  refine jx_then ?_
  repeat refine jc_seq ?_
  refine jc_region ?_
  refine r_assign rfl ?_
  refine J.nil ?_
  refine jx_then ?_
  repeat refine jc_seq ?_
  refine jc_region ?_
  refine r_move rfl ?_
  refine r_len Try.underlying23 rfl (by first | exact len_row (by first | exact .hd | exact .tl .hd | exact .tl (.tl .hd) | exact .tl (.tl (.tl .hd)) | exact .tl (.tl (.tl (.tl .hd))) | exact .tl (.tl (.tl (.tl (.tl .hd)))) | exact .tl (.tl (.tl (.tl (.tl (.tl .hd))))) | exact .tl (.tl (.tl (.tl (.tl (.tl (.tl .hd)))))) | exact .tl (.tl (.tl (.tl (.tl (.tl (.tl (.tl .hd)))))))) | exact len_sl (by first | assumption | exact .head _ | (refine .tail _ ?_; first | assumption | exact .head _ | (refine .tail _ ?_; first | assumption | exact .head _ | (refine .tail _ ?_; first | assumption | exact .head _ | (refine .tail _ ?_; first | assumption | exact .head _ | (refine .tail _ ?_; first | assumption | exact .head _ | (refine .tail _ ?_; first | assumption | exact .head _ | (refine .tail _ ?_; first | assumption | exact .head _ | (refine .tail _ ?_; first | assumption | exact .head _ | (refine .tail _ ?_; first | assumption | exact .head _))))))))))) ?_
  refine r_move rfl ?_
  refine J.nil ?_
  refine jx_then ?_
  repeat refine jc_seq ?_
  refine jc_block ?_
  have hbl : (bitTurn b bit).length = b.length := turn_len b bit
  refine JC.rowNil 5 UInt8 ?_
  refine jc_loop (γ := Nat × Value) (fun g => g.1 ≤ b.length) (fun g => row 5 g.2 ((bitTurn b bit).take g.1) :: L) (fun _ => R) (fun g => [(1, vi bit), (5, g.2), (9, v0), (10, vi (b.length : Int)), (11, vi (g.1 : Int))]) (fun g => b.length - g.1) (0, .slice none 0 0) (by omega) ⟨rfl, rfl, rfl, rfl, rfl, trivial⟩ (fun w hs => hs) ?_
  rintro ⟨k, v5⟩ hk
  simp only at hk ⊢
  repeat refine jc_seq ?_
  refine jc_region ?_
  refine r_bin rfl rfl b_lss ?_
  refine J.nil ?_
  refine jx_then ?_
  repeat refine jc_seq ?_
  refine jc_cond rfl (fun ht12 => ?_) (fun ht12 => ?_)
  · -- t12 True
    try simp only [decide_eq_true_eq, decide_eq_false_iff_not, beq_iff_eq, bne_iff_ne, beq_eq_false_iff_ne, bne_eq_false_iff_eq, Int.not_lt, Int.not_le, Bool.not_eq_true, ne_eq, Bool.not_eq_eq_eq_not, Bool.not_true, Bool.not_false] at ht12
    refine jc_skip ?_
    refine jx_then ?_
    repeat refine jc_seq ?_
    refine jc_block ?_
    repeat refine jc_seq ?_
    refine jc_region ?_
    refine r_move rfl ?_
    first | refine r_indexAddrN so_23 rfl rfl (by first | exact len_row (by first | exact .hd | exact .tl .hd | exact .tl (.tl .hd) | exact .tl (.tl (.tl .hd)) | exact .tl (.tl (.tl (.tl .hd))) | exact .tl (.tl (.tl (.tl (.tl .hd)))) | exact .tl (.tl (.tl (.tl (.tl (.tl .hd))))) | exact .tl (.tl (.tl (.tl (.tl (.tl (.tl .hd)))))) | exact .tl (.tl (.tl (.tl (.tl (.tl (.tl (.tl .hd)))))))) | exact len_sl (by first | assumption | exact .head _ | (refine .tail _ ?_; first | assumption | exact .head _ | (refine .tail _ ?_; first | assumption | exact .head _ | (refine .tail _ ?_; first | assumption | exact .head _ | (refine .tail _ ?_; first | assumption | exact .head _ | (refine .tail _ ?_; first | assumption | exact .head _ | (refine .tail _ ?_; first | assumption | exact .head _ | (refine .tail _ ?_; first | assumption | exact .head _ | (refine .tail _ ?_; first | assumption | exact .head _ | (refine .tail _ ?_; first | assumption | exact .head _))))))))))) (by first | assumption | omega | (simp only [List.length_nil, List.length_cons, List.length_append, List.length_take, List.length_drop, List.length_set, List.length_replicate]; omega)) ?_ | refine r_indexAddr so_23 rfl rfl (by first | exact len_row (by first | exact .hd | exact .tl .hd | exact .tl (.tl .hd) | exact .tl (.tl (.tl .hd)) | exact .tl (.tl (.tl (.tl .hd))) | exact .tl (.tl (.tl (.tl (.tl .hd)))) | exact .tl (.tl (.tl (.tl (.tl (.tl .hd))))) | exact .tl (.tl (.tl (.tl (.tl (.tl (.tl .hd)))))) | exact .tl (.tl (.tl (.tl (.tl (.tl (.tl (.tl .hd)))))))) | exact len_sl (by first | assumption | exact .head _ | (refine .tail _ ?_; first | assumption | exact .head _ | (refine .tail _ ?_; first | assumption | exact .head _ | (refine .tail _ ?_; first | assumption | exact .head _ | (refine .tail _ ?_; first | assumption | exact .head _ | (refine .tail _ ?_; first | assumption | exact .head _ | (refine .tail _ ?_; first | assumption | exact .head _ | (refine .tail _ ?_; first | assumption | exact .head _ | (refine .tail _ ?_; first | assumption | exact .head _ | (refine .tail _ ?_; first | assumption | exact .head _))))))))))) (by first | assumption | omega | (simp only [List.length_nil, List.length_cons, List.length_append, List.length_take, List.length_drop, List.length_set, List.length_replicate]; omega)) (by first | assumption | omega | (simp only [List.length_nil, List.length_cons, List.length_append, List.length_take, List.length_drop, List.length_set, List.length_replicate]; omega)) ?_
    first | refine r_load1 Try.isAgg5 rfl (at_blk1 (by first | exact .hd | exact .tl .hd | exact .tl (.tl .hd) | exact .tl (.tl (.tl .hd)) | exact .tl (.tl (.tl (.tl .hd))) | exact .tl (.tl (.tl (.tl (.tl .hd)))) | exact .tl (.tl (.tl (.tl (.tl (.tl .hd))))) | exact .tl (.tl (.tl (.tl (.tl (.tl (.tl .hd)))))) | exact .tl (.tl (.tl (.tl (.tl (.tl (.tl (.tl .hd)))))))) (by exact rfl)) ?_ | refine r_load1 Try.isAgg5 rfl (at_byterow (by first | exact .hd | exact .tl .hd | exact .tl (.tl .hd) | exact .tl (.tl (.tl .hd)) | exact .tl (.tl (.tl (.tl .hd))) | exact .tl (.tl (.tl (.tl (.tl .hd)))) | exact .tl (.tl (.tl (.tl (.tl (.tl .hd))))) | exact .tl (.tl (.tl (.tl (.tl (.tl (.tl .hd)))))) | exact .tl (.tl (.tl (.tl (.tl (.tl (.tl (.tl .hd)))))))) (by first | assumption | omega | (simp only [List.length_nil, List.length_cons, List.length_append, List.length_take, List.length_drop, List.length_set, List.length_replicate]; omega))) ?_ | refine r_load1 Try.isAgg5 rfl (at_byteD (by first | assumption | exact .head _ | (refine .tail _ ?_; first | assumption | exact .head _ | (refine .tail _ ?_; first | assumption | exact .head _ | (refine .tail _ ?_; first | assumption | exact .head _ | (refine .tail _ ?_; first | assumption | exact .head _ | (refine .tail _ ?_; first | assumption | exact .head _ | (refine .tail _ ?_; first | assumption | exact .head _ | (refine .tail _ ?_; first | assumption | exact .head _ | (refine .tail _ ?_; first | assumption | exact .head _ | (refine .tail _ ?_; first | assumption | exact .head _)))))))))) (by first | assumption | omega | (simp only [List.length_nil, List.length_cons, List.length_append, List.length_take, List.length_drop, List.length_set, List.length_replicate]; omega))) ?_
    refine r_assign rfl ?_
    refine r_assign rfl ?_
    refine J.nil ?_
    refine jx_then ?_
    repeat refine jc_seq ?_
    refine jc_region ?_
    refine r_move rfl ?_
    refine r_move rfl ?_
    refine r_bin rfl rfl (b_mul (by omega) (by omega)) ?_
    refine r_bin rfl rfl b_geq ?_
    refine r_move rfl ?_
    refine j_cases (t := 20) (b := ?b1) ?e1 ?_ ?_
    case e1 => exact rfl
    · -- t20 True
      intro ht20
      try simp only [decide_eq_true_eq, decide_eq_false_iff_not, beq_iff_eq, bne_iff_ne, beq_eq_false_iff_ne, bne_eq_false_iff_eq, Int.not_lt, Int.not_le, Bool.not_eq_true, ne_eq, Bool.not_eq_eq_eq_not, Bool.not_true, Bool.not_false] at ht20
      refine J.guardYes ?_ ?_
      · exact rfl
      refine r_move rfl ?_
      refine J.guardYes ?_ ?_
      · exact rfl
      refine r_move rfl ?_
      refine J.guardYes ?_ ?_
      · exact rfl
      refine r_bin rfl rfl (b_mul (by omega) (by omega)) ?_
      refine J.guardYes ?_ ?_
      · exact rfl
      refine r_bin rfl rfl (b_add (by omega) (by omega)) ?_
      refine J.guardYes ?_ ?_
      · exact rfl
      refine r_bin rfl rfl b_lss ?_
      refine r_pickT rfl rfl ?_
      refine J.nil ?_
      refine jx_then ?_
      repeat refine jc_seq ?_
      refine jc_cond rfl (fun ht26 => ?_) (fun ht26 => ?_)
      · -- t26 True
        try simp only [decide_eq_true_eq, decide_eq_false_iff_not, beq_iff_eq, bne_iff_ne, beq_eq_false_iff_ne, bne_eq_false_iff_eq, Int.not_lt, Int.not_le, Bool.not_eq_true, ne_eq, Bool.not_eq_eq_eq_not, Bool.not_true, Bool.not_false] at ht26
        repeat refine jc_seq ?_
        obtain ⟨r, hr⟩ : ∃ r : Nat, bit = 8 * (k : Int) + r := ⟨(bit - 8 * (k : Int)).toNat, by omega⟩
        have hr8 : r < 8 := by omega
        have hget : (bitTurn b bit).getD k 0 = b.getD k 0 ^^^ ((1 : UInt8) <<< UInt8.ofNat r) := by
          have e1 : (bit / 8).toNat = k := by omega
          have e2 : (bit % 8).toNat = r := by omega
          unfold bitTurn
          rw [if_pos (by omega), e1, e2, getD_set _ _ _ _ _ (by omega), if_pos rfl]
        refine jc_region ?_
        refine r_assign rfl ?_
        refine J.nil ?_
        refine jx_then ?_
        repeat refine jc_seq ?_
        refine jc_region ?_
        refine r_move rfl ?_
        refine r_move rfl ?_
        refine r_bin rfl rfl (b_mul (by omega) (by omega)) ?_
        refine r_bin rfl rfl (b_sub (by omega) (by omega)) ?_
        refine r_move rfl ?_
        refine J.nil ?_
        refine jx_then ?_
        repeat refine jc_seq ?_
        refine jc_block ?_
        rw [show bit - 8 * (k : Int) = (r : Int) by omega]
        refine jc_loop (γ := Nat) (fun j => j ≤ r) (fun _ => row 5 v5 ((bitTurn b bit).take k) :: L) (fun _ => R) (fun j => [(1, vi bit), (5, v5), (9, v0), (10, vi (b.length : Int)), (11, vi (k : Int)), (7, vb (b.getD k 0)), (30, vi (r : Int)), (31, vi (j : Int)), (8, vi ((2 ^ j : Nat) : Int))]) (fun j => r - j) 0 (by omega) ⟨rfl, rfl, rfl, rfl, rfl, rfl, rfl, rfl, rfl, trivial⟩ (fun w hs => hs.sub (by repeat (first | exact .refl | exact .nil | refine .cons (by first | exact .hd | exact .tl .hd | exact .tl (.tl .hd) | exact .tl (.tl (.tl .hd)) | exact .tl (.tl (.tl (.tl .hd))) | exact .tl (.tl (.tl (.tl (.tl .hd)))) | exact .tl (.tl (.tl (.tl (.tl (.tl .hd))))) | exact .tl (.tl (.tl (.tl (.tl (.tl (.tl .hd)))))) | exact .tl (.tl (.tl (.tl (.tl (.tl (.tl (.tl .hd)))))))) ?_ | refine .drop ?_)) (by repeat (first | exact FSub.refl | exact FSub.nil | refine FSub.cons (by first | assumption | (repeat (first | assumption | exact List.Mem.head _ | refine .tail _ ?_))) ?_ | refine FSub.drop ?_))) ?_
        intro j hj
        repeat refine jc_seq ?_
        refine jc_region ?_
        refine r_bin rfl rfl b_lss ?_
        refine J.nil ?_
        refine jx_then ?_
        repeat refine jc_seq ?_
        refine jc_cond rfl (fun ht32 => ?_) (fun ht32 => ?_)
        · -- t32 True
          try simp only [decide_eq_true_eq, decide_eq_false_iff_not, beq_iff_eq, bne_iff_ne, beq_eq_false_iff_ne, bne_eq_false_iff_eq, Int.not_lt, Int.not_le, Bool.not_eq_true, ne_eq, Bool.not_eq_eq_eq_not, Bool.not_true, Bool.not_false] at ht32
          refine jc_skip ?_
          refine jx_then ?_
          repeat refine jc_seq ?_
          refine jc_block ?_
          refine jc_region ?_
          refine r_move rfl ?_
          have hp := Nat.pow_le_pow_right (show 0 < 2 by decide) (show j ≤ 8 by omega)
          have hp1 : (0 : Int) ≤ ((2 ^ j : Nat) : Int) := Int.natCast_nonneg _
          have hp2 : ((2 ^ j : Nat) : Int) ≤ 256 := Int.ofNat_le.2 hp
          refine r_bin rfl rfl (b_mul (by omega) (by omega)) ?_
          refine r_assign rfl ?_
          refine J.nil ?_
          refine jx_block ?_
          refine jx_then ?_
          refine jc_region ?_
          refine r_bin rfl rfl (b_add (by omega) (by omega)) ?_
          refine r_move rfl ?_
          refine J.nil ?_
          have hp3 : 2 ^ (j + 1) = 2 ^ j * 2 := Nat.pow_succ ..
          refine jx_head (j + 1) (by omega) (by omega) ⟨rfl, rfl, rfl, rfl, rfl, rfl, rfl, rfl, ?_, trivial⟩ (fun w hs => hs)
          exact congrArg (fun z => some (vi z)) (show 2 * ((2 ^ j : Nat) : Int) = ((2 ^ (j + 1) : Nat) : Int) by rw [hp3, Int.natCast_mul]; exact Int.mul_comm _ _)
        · -- t32 False
          try simp only [decide_eq_true_eq, decide_eq_false_iff_not, beq_iff_eq, bne_iff_ne, beq_eq_false_iff_ne, bne_eq_false_iff_eq, Int.not_lt, Int.not_le, Bool.not_eq_true, ne_eq, Bool.not_eq_eq_eq_not, Bool.not_true, Bool.not_false] at ht32
          refine jc_exit ?_
          repeat (first | refine jx_thenExit ?_ | refine jx_blockMiss rfl ?_)
          refine jx_blockHit ?_
          refine jx_then ?_
          refine jc_region ?_
          refine r_move rfl ?_
          refine r_p (p_convInt Try.underlying5 Try.underlying3 rfl (wrap_byte _)) rfl ?_
          refine r_move rfl ?_
          have hjr : j = r := by omega
          subst hjr
          have hp := Nat.pow_le_pow_right (show 0 < 2 by decide) (show j ≤ 8 by omega)
          refine r_p (p_int rfl rfl (b_xorN (by have := (b.getD k 0).toNat_lt; omega) (by omega))) rfl ?_
          refine r_p (p_convInt Try.underlying3 Try.underlying5 rfl (wrap_u8' _)) rfl ?_
          rw [xor_mask _ _ hr8]
          refine r_assign rfl ?_
          refine J.nil ?_
          refine jx_then ?_
          refine jc_region ?_
          refine r_move rfl ?_
          refine r_move rfl ?_
          refine r_lit (α := UInt8) [b.getD k 0 ^^^ ((1 : UInt8) <<< UInt8.ofNat j)] eo_23 rfl rfl rfl rfl rfl rfl (fun j hj => ⟨⟨_, rfl, rfl⟩, trivial⟩) ?_; intro v43
          refine J.shut .hd ?_
          refine r_append eo_23 rfl rfl rfl (by decide) (by first | exact .hd | exact .tl .hd | exact .tl (.tl .hd) | exact .tl (.tl (.tl .hd)) | exact .tl (.tl (.tl (.tl .hd))) | exact .tl (.tl (.tl (.tl (.tl .hd)))) | exact .tl (.tl (.tl (.tl (.tl (.tl .hd))))) | exact .tl (.tl (.tl (.tl (.tl (.tl (.tl .hd)))))) | exact .tl (.tl (.tl (.tl (.tl (.tl (.tl (.tl .hd)))))))) (.head _) (fun w hs => by have : maxN = 16777216 := rfl; rw [List.length_take, turn_len]; simp only [List.length_cons, List.length_nil]; omega) ?_; intro v44
          refine r_assign rfl ?_
          refine J.nil ?_
          refine jx_block ?_
          refine jx_then ?_
          refine jc_region ?_
          refine r_bin rfl rfl (b_add (by omega) (by omega)) ?_
          refine r_move rfl ?_
          refine J.nil ?_
          refine jx_head (k + 1, v44) (by show k + 1 ≤ b.length; omega) (by show b.length - (k + 1) < b.length - k; omega) ⟨rfl, rfl, rfl, rfl, rfl, trivial⟩ (fun w hs => ?_)
          have hxk : ((bitTurn b bit)[k]?).toList = [b.getD k 0 ^^^ ((1 : UInt8) <<< UInt8.ofNat j)] := by
            rw [getD_some 0 (show k < (bitTurn b bit).length by omega)]
            have hg : (bitTurn b bit).getD k 0 = b.getD k 0 ^^^ ((1 : UInt8) <<< UInt8.ofNat j) := hget
            rw [hg]; rfl
          show St (row 5 v44 ((bitTurn b bit).take (k + 1)) :: _) _ w
          rw [List.take_add_one, hxk]; exact hs.sub (by repeat (first | exact .refl | exact .nil | refine .cons (by first | exact .hd | exact .tl .hd | exact .tl (.tl .hd) | exact .tl (.tl (.tl .hd)) | exact .tl (.tl (.tl (.tl .hd))) | exact .tl (.tl (.tl (.tl (.tl .hd)))) | exact .tl (.tl (.tl (.tl (.tl (.tl .hd))))) | exact .tl (.tl (.tl (.tl (.tl (.tl (.tl .hd)))))) | exact .tl (.tl (.tl (.tl (.tl (.tl (.tl (.tl .hd)))))))) ?_ | refine .drop ?_)) (by repeat (first | exact FSub.refl | exact FSub.nil | refine FSub.cons (by first | assumption | (repeat (first | assumption | exact List.Mem.head _ | refine .tail _ ?_))) ?_ | refine FSub.drop ?_))
      · -- t26 False
        try simp only [decide_eq_true_eq, decide_eq_false_iff_not, beq_iff_eq, bne_iff_ne, beq_eq_false_iff_ne, bne_eq_false_iff_eq, Int.not_lt, Int.not_le, Bool.not_eq_true, ne_eq, Bool.not_eq_eq_eq_not, Bool.not_true, Bool.not_false] at ht26
        have hget : (bitTurn b bit).getD k 0 = b.getD k 0 := by
          unfold bitTurn
          split
          · rw [getD_set _ _ _ _ _ (by omega), if_neg (by omega)]
          · rfl
        refine jc_skip ?_
        refine jx_then ?_
        refine jc_region ?_
        refine r_move rfl ?_
        refine r_move rfl ?_
        refine r_lit (α := UInt8) [b.getD k 0] eo_23 rfl rfl rfl rfl rfl rfl (fun j hj => ⟨⟨_, rfl, rfl⟩, trivial⟩) ?_; intro v43
        refine J.shut .hd ?_
        refine r_append eo_23 rfl rfl rfl (by decide) (by first | exact .hd | exact .tl .hd | exact .tl (.tl .hd) | exact .tl (.tl (.tl .hd)) | exact .tl (.tl (.tl (.tl .hd))) | exact .tl (.tl (.tl (.tl (.tl .hd)))) | exact .tl (.tl (.tl (.tl (.tl (.tl .hd))))) | exact .tl (.tl (.tl (.tl (.tl (.tl (.tl .hd)))))) | exact .tl (.tl (.tl (.tl (.tl (.tl (.tl (.tl .hd)))))))) (.head _) (fun w hs => by have : maxN = 16777216 := rfl; rw [List.length_take, turn_len]; simp only [List.length_cons, List.length_nil]; omega) ?_; intro v44
        refine r_assign rfl ?_
        refine J.nil ?_
        refine jx_block ?_
        refine jx_then ?_
        refine jc_region ?_
        refine r_bin rfl rfl (b_add (by omega) (by omega)) ?_
        refine r_move rfl ?_
        refine J.nil ?_
        refine jx_head (k + 1, v44) (by show k + 1 ≤ b.length; omega) (by show b.length - (k + 1) < b.length - k; omega) ⟨rfl, rfl, rfl, rfl, rfl, trivial⟩ (fun w hs => ?_)
        have hxk : ((bitTurn b bit)[k]?).toList = [b.getD k 0] := by
          rw [getD_some 0 (show k < (bitTurn b bit).length by omega)]
          have hg : (bitTurn b bit).getD k 0 = b.getD k 0 := hget
          rw [hg]; rfl
        show St (row 5 v44 ((bitTurn b bit).take (k + 1)) :: _) _ w
        rw [List.take_add_one, hxk]; exact hs.sub (by repeat (first | exact .refl | exact .nil | refine .cons (by first | exact .hd | exact .tl .hd | exact .tl (.tl .hd) | exact .tl (.tl (.tl .hd)) | exact .tl (.tl (.tl (.tl .hd))) | exact .tl (.tl (.tl (.tl (.tl .hd)))) | exact .tl (.tl (.tl (.tl (.tl (.tl .hd))))) | exact .tl (.tl (.tl (.tl (.tl (.tl (.tl .hd)))))) | exact .tl (.tl (.tl (.tl (.tl (.tl (.tl (.tl .hd)))))))) ?_ | refine .drop ?_)) (by repeat (first | exact FSub.refl | exact FSub.nil | refine FSub.cons (by first | assumption | (repeat (first | assumption | exact List.Mem.head _ | refine .tail _ ?_))) ?_ | refine FSub.drop ?_))
    · -- t20 False
      intro ht20
      try simp only [decide_eq_true_eq, decide_eq_false_iff_not, beq_iff_eq, bne_iff_ne, beq_eq_false_iff_ne, bne_eq_false_iff_eq, Int.not_lt, Int.not_le, Bool.not_eq_true, ne_eq, Bool.not_eq_eq_eq_not, Bool.not_true, Bool.not_false] at ht20
      have hget : (bitTurn b bit).getD k 0 = b.getD k 0 := by
        unfold bitTurn
        split
        · rw [getD_set _ _ _ _ _ (by omega), if_neg (by omega)]
        · rfl
      refine J.guardNo ?_ ?_
      · exact rfl
      refine J.guardNo ?_ ?_
      · exact rfl
      refine J.guardNo ?_ ?_
      · exact rfl
      refine J.guardNo ?_ ?_
      · exact rfl
      refine J.guardNo ?_ ?_
      · exact rfl
      refine r_pickF rfl rfl ?_
      refine J.nil ?_
      refine jx_then ?_
      repeat refine jc_seq ?_
      refine jc_condF rfl ?_
      refine jc_skip ?_
      refine jx_then ?_
      refine jc_region ?_
      refine r_move rfl ?_
      refine r_move rfl ?_
      refine r_lit (α := UInt8) [b.getD k 0] eo_23 rfl rfl rfl rfl rfl rfl (fun j hj => ⟨⟨_, rfl, rfl⟩, trivial⟩) ?_; intro v43
      refine J.shut .hd ?_
      refine r_append eo_23 rfl rfl rfl (by decide) (by first | exact .hd | exact .tl .hd | exact .tl (.tl .hd) | exact .tl (.tl (.tl .hd)) | exact .tl (.tl (.tl (.tl .hd))) | exact .tl (.tl (.tl (.tl (.tl .hd)))) | exact .tl (.tl (.tl (.tl (.tl (.tl .hd))))) | exact .tl (.tl (.tl (.tl (.tl (.tl (.tl .hd)))))) | exact .tl (.tl (.tl (.tl (.tl (.tl (.tl (.tl .hd)))))))) (.head _) (fun w hs => by have : maxN = 16777216 := rfl; rw [List.length_take, turn_len]; simp only [List.length_cons, List.length_nil]; omega) ?_; intro v44
      refine r_assign rfl ?_
      refine J.nil ?_
      refine jx_block ?_
      refine jx_then ?_
      refine jc_region ?_
      refine r_bin rfl rfl (b_add (by omega) (by omega)) ?_
      refine r_move rfl ?_
      refine J.nil ?_
      refine jx_head (k + 1, v44) (by show k + 1 ≤ b.length; omega) (by show b.length - (k + 1) < b.length - k; omega) ⟨rfl, rfl, rfl, rfl, rfl, trivial⟩ (fun w hs => ?_)
      have hxk : ((bitTurn b bit)[k]?).toList = [b.getD k 0] := by
        rw [getD_some 0 (show k < (bitTurn b bit).length by omega)]
        have hg : (bitTurn b bit).getD k 0 = b.getD k 0 := hget
        rw [hg]; rfl
      show St (row 5 v44 ((bitTurn b bit).take (k + 1)) :: _) _ w
      rw [List.take_add_one, hxk]; exact hs.sub (by repeat (first | exact .refl | exact .nil | refine .cons (by first | exact .hd | exact .tl .hd | exact .tl (.tl .hd) | exact .tl (.tl (.tl .hd)) | exact .tl (.tl (.tl (.tl .hd))) | exact .tl (.tl (.tl (.tl (.tl .hd)))) | exact .tl (.tl (.tl (.tl (.tl (.tl .hd))))) | exact .tl (.tl (.tl (.tl (.tl (.tl (.tl .hd)))))) | exact .tl (.tl (.tl (.tl (.tl (.tl (.tl (.tl .hd)))))))) ?_ | refine .drop ?_)) (by repeat (first | exact FSub.refl | exact FSub.nil | refine FSub.cons (by first | assumption | (repeat (first | assumption | exact List.Mem.head _ | refine .tail _ ?_))) ?_ | refine FSub.drop ?_))
  · -- t12 False
    try simp only [decide_eq_true_eq, decide_eq_false_iff_not, beq_iff_eq, bne_iff_ne, beq_eq_false_iff_ne, bne_eq_false_iff_eq, Int.not_lt, Int.not_le, Bool.not_eq_true, ne_eq, Bool.not_eq_eq_eq_not, Bool.not_true, Bool.not_false] at ht12
    refine jc_exit ?_
    repeat (first | refine jx_thenExit ?_ | refine jx_blockMiss rfl ?_)
    refine jx_blockHit ?_
    refine jx_then ?_
    repeat refine jc_seq ?_
    refine jc_region ?_
    refine r_move rfl ?_
    refine r_assign rfl ?_
    refine J.nil ?_
    refine jx_then ?_
    refine jc_ret ?_
    repeat (first | refine jx_thenRet ?_ | refine jx_blockRet ?_)
    have hkl : k = b.length := by omega
    refine jx_body (.inr rfl) (fun B w hs => res1 rfl rfl B w) (fun w hs => ?_)
    refine ⟨v5, rfl, ?_⟩
    have h := St.shut (hs.pick (by first | exact .hd | exact .tl .hd | exact .tl (.tl .hd) | exact .tl (.tl (.tl .hd)) | exact .tl (.tl (.tl (.tl .hd))) | exact .tl (.tl (.tl (.tl (.tl .hd)))) | exact .tl (.tl (.tl (.tl (.tl (.tl .hd))))) | exact .tl (.tl (.tl (.tl (.tl (.tl (.tl .hd)))))) | exact .tl (.tl (.tl (.tl (.tl (.tl (.tl (.tl .hd)))))))))
    rw [List.take_of_length_le (by omega)] at h
    exact h.sub (by repeat (first | exact .refl | exact .nil | refine .cons (by first | exact .hd | exact .tl .hd | exact .tl (.tl .hd) | exact .tl (.tl (.tl .hd)) | exact .tl (.tl (.tl (.tl .hd))) | exact .tl (.tl (.tl (.tl (.tl .hd)))) | exact .tl (.tl (.tl (.tl (.tl (.tl .hd))))) | exact .tl (.tl (.tl (.tl (.tl (.tl (.tl .hd)))))) | exact .tl (.tl (.tl (.tl (.tl (.tl (.tl (.tl .hd)))))))) ?_ | refine .drop ?_)) (by repeat (first | exact FSub.refl | exact FSub.nil | refine FSub.cons (by first | assumption | (repeat (first | assumption | exact List.Mem.head _ | refine .tail _ ?_))) ?_ | refine FSub.drop ?_))
end Go.Proofs.Ytofgpimoekhfaaa
