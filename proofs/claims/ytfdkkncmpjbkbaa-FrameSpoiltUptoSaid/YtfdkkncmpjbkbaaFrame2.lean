/- This file proves what frame.Wrong and its twin in shref1 tell. No conditions. -/
import Derived.Test.YtfdkkncmpjbkbaaFacts
import Derived.Test.YtfdkkncmpjbkbaaFrame1
set_option linter.unusedVariables false
set_option linter.unusedSimpArgs false
set_option maxHeartbeats 1000000
namespace Go.Proofs.Ytfdkkncmpjbkbaa
open Go
theorem wrongNode_calls {L L' : List Chunk} {R : List Fact} {w : World} {k : Int} {b : Nat} {c : Config} (hs : St L R w) (hp : Pick L (blk b 37 c.cells) L') : Calls Try.prog 125 ([vi k] ++ [bp b 0]).toArray w (Post (fun _ : Unit => .bool (decide (0 ≤ k ∧ k ≤ c.cores))) (fun _ => L) (fun _ => R)) := by
  refine calls_args Try.func125 rfl Try.ntmps125 rfl hs ?_
  clear hs
  repeat refine jc_seq ?_
  refine jc_region ?_
  refine r_assign rfl ?_
  refine J.nil ?_
  refine jx_then ?_
  repeat refine jc_seq ?_
  refine jc_region ?_
  refine r_move rfl ?_
  refine r_bin rfl rfl b_geq ?_
  refine r_move rfl ?_
  refine j_cases (t := 6) (b := ?b1) ?e1 ?_ ?_
  case e1 => exact rfl
  · -- t6 True
    intro ht6
    try simp only [decide_eq_true_eq, decide_eq_false_iff_not, beq_iff_eq, bne_iff_ne, beq_eq_false_iff_ne, bne_eq_false_iff_eq, Int.not_lt, Int.not_le, Bool.not_eq_true, ne_eq, Bool.not_eq_eq_eq_not, Bool.not_true, Bool.not_false] at ht6
    refine J.guardYes ?_ ?_
    · exact rfl
    refine r_move rfl ?_
    refine J.guardYes ?_ ?_
    · exact rfl
    first | refine r_fieldAddr fo_37_0 rfl ?_ | refine r_fieldAddrE fo_37_0 rfl (by first | exact len_row (by first | exact .hd | exact .tl .hd | exact .tl (.tl .hd) | exact .tl (.tl (.tl .hd)) | exact .tl (.tl (.tl (.tl .hd))) | exact .tl (.tl (.tl (.tl (.tl .hd)))) | exact .tl (.tl (.tl (.tl (.tl (.tl .hd))))) | exact .tl (.tl (.tl (.tl (.tl (.tl (.tl .hd)))))) | exact .tl (.tl (.tl (.tl (.tl (.tl (.tl (.tl .hd)))))))) | exact len_sl (by first | assumption | exact .head _ | (refine .tail _ ?_; first | assumption | exact .head _ | (refine .tail _ ?_; first | assumption | exact .head _ | (refine .tail _ ?_; first | assumption | exact .head _ | (refine .tail _ ?_; first | assumption | exact .head _ | (refine .tail _ ?_; first | assumption | exact .head _ | (refine .tail _ ?_; first | assumption | exact .head _ | (refine .tail _ ?_; first | assumption | exact .head _ | (refine .tail _ ?_; first | assumption | exact .head _ | (refine .tail _ ?_; first | assumption | exact .head _))))))))))) (by first | assumption | omega | simp) ?_
    refine J.guardYes ?_ ?_
    · exact rfl
    refine r_load1 Try.isAgg3 rfl (at_blk1 hp (by exact rfl)) ?_
    refine J.guardYes ?_ ?_
    · exact rfl
    refine r_bin rfl rfl b_leq ?_
    refine r_pickT rfl rfl ?_
    refine r_assign rfl ?_
    refine J.nil ?_
    refine jx_then ?_
    refine jc_ret ?_
    repeat (first | refine jx_thenRet ?_ | refine jx_blockRet ?_)
    refine jx_body (.inr rfl) (fun B w _ => res1 rfl rfl B w) (fun w hs => ⟨(), ?_, hs.sub (by repeat (first | exact .refl | exact .nil | refine .cons (by first | exact .hd | exact .tl .hd | exact .tl (.tl .hd) | exact .tl (.tl (.tl .hd)) | exact .tl (.tl (.tl (.tl .hd))) | exact .tl (.tl (.tl (.tl (.tl .hd)))) | exact .tl (.tl (.tl (.tl (.tl (.tl .hd))))) | exact .tl (.tl (.tl (.tl (.tl (.tl (.tl .hd)))))) | exact .tl (.tl (.tl (.tl (.tl (.tl (.tl (.tl .hd)))))))) ?_ | refine .drop ?_)) (by repeat (first | exact FSub.refl | exact FSub.nil | refine FSub.cons (by first | assumption | (repeat (first | assumption | exact List.Mem.head _ | refine .tail _ ?_))) ?_ | refine FSub.drop ?_))⟩)
    congr 1; simp only [Bool.decide_and]; first | (rw [decide_eq_true (show 0 ≤ k by omega)]; rfl) | (rw [decide_eq_false (show ¬ 0 ≤ k by omega)]; rfl)
  · -- t6 False
    intro ht6
    try simp only [decide_eq_true_eq, decide_eq_false_iff_not, beq_iff_eq, bne_iff_ne, beq_eq_false_iff_ne, bne_eq_false_iff_eq, Int.not_lt, Int.not_le, Bool.not_eq_true, ne_eq, Bool.not_eq_eq_eq_not, Bool.not_true, Bool.not_false] at ht6
    refine J.guardNo ?_ ?_
    · exact rfl
    refine J.guardNo ?_ ?_
    · exact rfl
    refine J.guardNo ?_ ?_
    · exact rfl
    refine J.guardNo ?_ ?_
    · exact rfl
    refine r_pickF rfl rfl ?_
    refine r_assign rfl ?_
    refine J.nil ?_
    refine jx_then ?_
    refine jc_ret ?_
    repeat (first | refine jx_thenRet ?_ | refine jx_blockRet ?_)
    refine jx_body (.inr rfl) (fun B w _ => res1 rfl rfl B w) (fun w hs => ⟨(), ?_, hs.sub (by repeat (first | exact .refl | exact .nil | refine .cons (by first | exact .hd | exact .tl .hd | exact .tl (.tl .hd) | exact .tl (.tl (.tl .hd)) | exact .tl (.tl (.tl (.tl .hd))) | exact .tl (.tl (.tl (.tl (.tl .hd)))) | exact .tl (.tl (.tl (.tl (.tl (.tl .hd))))) | exact .tl (.tl (.tl (.tl (.tl (.tl (.tl .hd)))))) | exact .tl (.tl (.tl (.tl (.tl (.tl (.tl (.tl .hd)))))))) ?_ | refine .drop ?_)) (by repeat (first | exact FSub.refl | exact FSub.nil | refine FSub.cons (by first | assumption | (repeat (first | assumption | exact List.Mem.head _ | refine .tail _ ?_))) ?_ | refine FSub.drop ?_))⟩)
    congr 1; simp only [Bool.decide_and]; first | (rw [decide_eq_true (show 0 ≤ k by omega)]; rfl) | (rw [decide_eq_false (show ¬ 0 ≤ k by omega)]; rfl)
theorem frameWrong_calls {L : List Chunk} {R : List Fact} {w : World} {c : Config} {m : Msg} (hs : St L R w) : Calls Try.prog 48 [.agg c.cells.toArray, .agg m.cells.toArray].toArray w (Post (fun _ : Unit => vi (msgWrong c m)) (fun _ => L) (fun _ => R)) := by
  refine calls_args Try.func48 rfl Try.ntmps48 rfl hs ?_
  clear hs
  repeat refine jc_seq ?_
  refine jc_region ?_
  refine r_box rfl rfl ?_; intro b2
  refine r_box rfl rfl ?_; intro b3
  refine r_assign rfl ?_
  refine J.nil ?_
  refine jx_then ?_
  repeat refine jc_seq ?_
  refine jc_region ?_
  refine r_makeFunc rfl ?_
  refine r_assign rfl ?_
  refine J.nil ?_
  refine jx_then ?_
  repeat refine jc_seq ?_
  refine jc_block ?_
  repeat refine jc_seq ?_
  refine jc_region ?_
  first | refine r_fieldAddr fo_39_0 rfl ?_ | refine r_fieldAddrE fo_39_0 rfl (by first | exact len_row (by first | exact .hd | exact .tl .hd | exact .tl (.tl .hd) | exact .tl (.tl (.tl .hd)) | exact .tl (.tl (.tl (.tl .hd))) | exact .tl (.tl (.tl (.tl (.tl .hd)))) | exact .tl (.tl (.tl (.tl (.tl (.tl .hd))))) | exact .tl (.tl (.tl (.tl (.tl (.tl (.tl .hd)))))) | exact .tl (.tl (.tl (.tl (.tl (.tl (.tl (.tl .hd)))))))) | exact len_sl (by first | assumption | exact .head _ | (refine .tail _ ?_; first | assumption | exact .head _ | (refine .tail _ ?_; first | assumption | exact .head _ | (refine .tail _ ?_; first | assumption | exact .head _ | (refine .tail _ ?_; first | assumption | exact .head _ | (refine .tail _ ?_; first | assumption | exact .head _ | (refine .tail _ ?_; first | assumption | exact .head _ | (refine .tail _ ?_; first | assumption | exact .head _ | (refine .tail _ ?_; first | assumption | exact .head _ | (refine .tail _ ?_; first | assumption | exact .head _))))))))))) (by first | assumption | omega | simp) ?_
  first
    | (refine r_load1 Try.isAgg3 rfl (at_blk1 (by first | exact .hd | exact .tl .hd | exact .tl (.tl .hd) | exact .tl (.tl (.tl .hd)) | exact .tl (.tl (.tl (.tl .hd))) | exact .tl (.tl (.tl (.tl (.tl .hd)))) | exact .tl (.tl (.tl (.tl (.tl (.tl .hd))))) | exact .tl (.tl (.tl (.tl (.tl (.tl (.tl .hd)))))) | exact .tl (.tl (.tl (.tl (.tl (.tl (.tl (.tl .hd)))))))) (by exact rfl)) ?_)
    | (refine r_load1 Try.isAgg3 rfl (at_int (by first | assumption | exact .head _ | (refine .tail _ ?_; first | assumption | exact .head _ | (refine .tail _ ?_; first | assumption | exact .head _ | (refine .tail _ ?_; first | assumption | exact .head _ | (refine .tail _ ?_; first | assumption | exact .head _ | (refine .tail _ ?_; first | assumption | exact .head _ | (refine .tail _ ?_; first | assumption | exact .head _ | (refine .tail _ ?_; first | assumption | exact .head _ | (refine .tail _ ?_; first | assumption | exact .head _ | (refine .tail _ ?_; first | assumption | exact .head _)))))))))) (by assumption)) ?_)
  refine r_bin rfl rfl b_lss ?_
  refine r_move rfl ?_
  refine j_cases (t := 11) (b := ?b1) ?e1 ?_ ?_
  case e1 => exact rfl
  · -- t11 True
    intro ht11
    try simp only [decide_eq_true_eq, decide_eq_false_iff_not, beq_iff_eq, bne_iff_ne, beq_eq_false_iff_ne, bne_eq_false_iff_eq, Int.not_lt, Int.not_le, Bool.not_eq_true, ne_eq, Bool.not_eq_eq_eq_not, Bool.not_true, Bool.not_false] at ht11
    refine J.guardNo ?_ ?_
    · exact rfl
    refine J.guardNo ?_ ?_
    · exact rfl
    refine J.guardNo ?_ ?_
    · exact rfl
    refine r_pickT rfl rfl ?_
    refine r_assign rfl ?_
    refine J.nil ?_
    refine jx_then ?_
    refine jc_condT rfl ?_
    repeat refine jc_seq ?_
    refine jc_region ?_
    refine r_assign rfl ?_
    refine J.nil ?_
    refine jx_then ?_
    refine jc_ret ?_
    repeat (first | refine jx_thenRet ?_ | refine jx_blockRet ?_)
    refine jx_body (.inr rfl) (fun B w _ => res1 rfl rfl B w) (fun w hs => ⟨(), ?_, hs.sub (by repeat (first | exact .refl | exact .nil | refine .cons (by first | exact .hd | exact .tl .hd | exact .tl (.tl .hd) | exact .tl (.tl (.tl .hd)) | exact .tl (.tl (.tl (.tl .hd))) | exact .tl (.tl (.tl (.tl (.tl .hd)))) | exact .tl (.tl (.tl (.tl (.tl (.tl .hd))))) | exact .tl (.tl (.tl (.tl (.tl (.tl (.tl .hd)))))) | exact .tl (.tl (.tl (.tl (.tl (.tl (.tl (.tl .hd)))))))) ?_ | refine .drop ?_)) (by repeat (first | exact FSub.refl | exact FSub.nil | refine FSub.cons (by first | assumption | (repeat (first | assumption | exact List.Mem.head _ | refine .tail _ ?_))) ?_ | refine FSub.drop ?_))⟩)
    unfold msgWrong; rw [if_pos (by omega)]
  · -- t11 False
    intro ht11
    try simp only [decide_eq_true_eq, decide_eq_false_iff_not, beq_iff_eq, bne_iff_ne, beq_eq_false_iff_ne, bne_eq_false_iff_eq, Int.not_lt, Int.not_le, Bool.not_eq_true, ne_eq, Bool.not_eq_eq_eq_not, Bool.not_true, Bool.not_false] at ht11
    refine J.guardYes ?_ ?_
    · exact rfl
    first | refine r_fieldAddr fo_39_0 rfl ?_ | refine r_fieldAddrE fo_39_0 rfl (by first | exact len_row (by first | exact .hd | exact .tl .hd | exact .tl (.tl .hd) | exact .tl (.tl (.tl .hd)) | exact .tl (.tl (.tl (.tl .hd))) | exact .tl (.tl (.tl (.tl (.tl .hd)))) | exact .tl (.tl (.tl (.tl (.tl (.tl .hd))))) | exact .tl (.tl (.tl (.tl (.tl (.tl (.tl .hd)))))) | exact .tl (.tl (.tl (.tl (.tl (.tl (.tl (.tl .hd)))))))) | exact len_sl (by first | assumption | exact .head _ | (refine .tail _ ?_; first | assumption | exact .head _ | (refine .tail _ ?_; first | assumption | exact .head _ | (refine .tail _ ?_; first | assumption | exact .head _ | (refine .tail _ ?_; first | assumption | exact .head _ | (refine .tail _ ?_; first | assumption | exact .head _ | (refine .tail _ ?_; first | assumption | exact .head _ | (refine .tail _ ?_; first | assumption | exact .head _ | (refine .tail _ ?_; first | assumption | exact .head _ | (refine .tail _ ?_; first | assumption | exact .head _))))))))))) (by first | assumption | omega | simp) ?_
    refine J.guardYes ?_ ?_
    · exact rfl
    first
      | (refine r_load1 Try.isAgg3 rfl (at_blk1 (by first | exact .hd | exact .tl .hd | exact .tl (.tl .hd) | exact .tl (.tl (.tl .hd)) | exact .tl (.tl (.tl (.tl .hd))) | exact .tl (.tl (.tl (.tl (.tl .hd)))) | exact .tl (.tl (.tl (.tl (.tl (.tl .hd))))) | exact .tl (.tl (.tl (.tl (.tl (.tl (.tl .hd)))))) | exact .tl (.tl (.tl (.tl (.tl (.tl (.tl (.tl .hd)))))))) (by exact rfl)) ?_)
      | (refine r_load1 Try.isAgg3 rfl (at_int (by first | assumption | exact .head _ | (refine .tail _ ?_; first | assumption | exact .head _ | (refine .tail _ ?_; first | assumption | exact .head _ | (refine .tail _ ?_; first | assumption | exact .head _ | (refine .tail _ ?_; first | assumption | exact .head _ | (refine .tail _ ?_; first | assumption | exact .head _ | (refine .tail _ ?_; first | assumption | exact .head _ | (refine .tail _ ?_; first | assumption | exact .head _ | (refine .tail _ ?_; first | assumption | exact .head _ | (refine .tail _ ?_; first | assumption | exact .head _)))))))))) (by assumption)) ?_)
    refine J.guardYes ?_ ?_
    · exact rfl
    refine r_bin rfl rfl b_gtr ?_
    refine r_pickF rfl rfl ?_
    refine r_assign rfl ?_
    refine J.nil ?_
    refine jx_then ?_
    refine jc_cond rfl (fun ht7 => ?_) (fun ht7 => ?_)
    · -- t7 True
      try simp only [decide_eq_true_eq, decide_eq_false_iff_not, beq_iff_eq, bne_iff_ne, beq_eq_false_iff_ne, bne_eq_false_iff_eq, Int.not_lt, Int.not_le, Bool.not_eq_true, ne_eq, Bool.not_eq_eq_eq_not, Bool.not_true, Bool.not_false] at ht7
      repeat refine jc_seq ?_
      refine jc_region ?_
      refine r_assign rfl ?_
      refine J.nil ?_
      refine jx_then ?_
      refine jc_ret ?_
      repeat (first | refine jx_thenRet ?_ | refine jx_blockRet ?_)
      refine jx_body (.inr rfl) (fun B w _ => res1 rfl rfl B w) (fun w hs => ⟨(), ?_, hs.sub (by repeat (first | exact .refl | exact .nil | refine .cons (by first | exact .hd | exact .tl .hd | exact .tl (.tl .hd) | exact .tl (.tl (.tl .hd)) | exact .tl (.tl (.tl (.tl .hd))) | exact .tl (.tl (.tl (.tl (.tl .hd)))) | exact .tl (.tl (.tl (.tl (.tl (.tl .hd))))) | exact .tl (.tl (.tl (.tl (.tl (.tl (.tl .hd)))))) | exact .tl (.tl (.tl (.tl (.tl (.tl (.tl (.tl .hd)))))))) ?_ | refine .drop ?_)) (by repeat (first | exact FSub.refl | exact FSub.nil | refine FSub.cons (by first | assumption | (repeat (first | assumption | exact List.Mem.head _ | refine .tail _ ?_))) ?_ | refine FSub.drop ?_))⟩)
      unfold msgWrong; rw [if_pos (by omega)]
    · -- t7 False
      try simp only [decide_eq_true_eq, decide_eq_false_iff_not, beq_iff_eq, bne_iff_ne, beq_eq_false_iff_ne, bne_eq_false_iff_eq, Int.not_lt, Int.not_le, Bool.not_eq_true, ne_eq, Bool.not_eq_eq_eq_not, Bool.not_true, Bool.not_false] at ht7
      repeat refine jc_seq ?_
      refine jc_region ?_
      refine r_move rfl ?_
      first | refine r_fieldAddr fo_39_1 rfl ?_ | refine r_fieldAddrE fo_39_1 rfl (by first | exact len_row (by first | exact .hd | exact .tl .hd | exact .tl (.tl .hd) | exact .tl (.tl (.tl .hd)) | exact .tl (.tl (.tl (.tl .hd))) | exact .tl (.tl (.tl (.tl (.tl .hd)))) | exact .tl (.tl (.tl (.tl (.tl (.tl .hd))))) | exact .tl (.tl (.tl (.tl (.tl (.tl (.tl .hd)))))) | exact .tl (.tl (.tl (.tl (.tl (.tl (.tl (.tl .hd)))))))) | exact len_sl (by first | assumption | exact .head _ | (refine .tail _ ?_; first | assumption | exact .head _ | (refine .tail _ ?_; first | assumption | exact .head _ | (refine .tail _ ?_; first | assumption | exact .head _ | (refine .tail _ ?_; first | assumption | exact .head _ | (refine .tail _ ?_; first | assumption | exact .head _ | (refine .tail _ ?_; first | assumption | exact .head _ | (refine .tail _ ?_; first | assumption | exact .head _ | (refine .tail _ ?_; first | assumption | exact .head _ | (refine .tail _ ?_; first | assumption | exact .head _))))))))))) (by first | assumption | omega | simp) ?_
      first
        | (refine r_load1 Try.isAgg3 rfl (at_blk1 (by first | exact .hd | exact .tl .hd | exact .tl (.tl .hd) | exact .tl (.tl (.tl .hd)) | exact .tl (.tl (.tl (.tl .hd))) | exact .tl (.tl (.tl (.tl (.tl .hd)))) | exact .tl (.tl (.tl (.tl (.tl (.tl .hd))))) | exact .tl (.tl (.tl (.tl (.tl (.tl (.tl .hd)))))) | exact .tl (.tl (.tl (.tl (.tl (.tl (.tl (.tl .hd)))))))) (by exact rfl)) ?_)
        | (refine r_load1 Try.isAgg3 rfl (at_int (by first | assumption | exact .head _ | (refine .tail _ ?_; first | assumption | exact .head _ | (refine .tail _ ?_; first | assumption | exact .head _ | (refine .tail _ ?_; first | assumption | exact .head _ | (refine .tail _ ?_; first | assumption | exact .head _ | (refine .tail _ ?_; first | assumption | exact .head _ | (refine .tail _ ?_; first | assumption | exact .head _ | (refine .tail _ ?_; first | assumption | exact .head _ | (refine .tail _ ?_; first | assumption | exact .head _ | (refine .tail _ ?_; first | assumption | exact .head _)))))))))) (by assumption)) ?_)
      refine r_callv rfl Try.call125 rfl (fun w hs => wrongNode_calls hs (by first | exact .hd | exact .tl .hd | exact .tl (.tl .hd) | exact .tl (.tl (.tl .hd)) | exact .tl (.tl (.tl (.tl .hd))) | exact .tl (.tl (.tl (.tl (.tl .hd)))) | exact .tl (.tl (.tl (.tl (.tl (.tl .hd))))) | exact .tl (.tl (.tl (.tl (.tl (.tl (.tl .hd)))))) | exact .tl (.tl (.tl (.tl (.tl (.tl (.tl (.tl .hd))))))))) ?_; intro _
      refine r_not rfl ?_
      refine r_move rfl ?_
      refine j_cases (t := 22) (b := ?b2) ?e2 ?_ ?_
      case e2 => exact rfl
      · -- t22 True
        intro ht22
        try simp only [decide_eq_true_eq, decide_eq_false_iff_not, beq_iff_eq, bne_iff_ne, beq_eq_false_iff_ne, bne_eq_false_iff_eq, Int.not_lt, Int.not_le, Bool.not_eq_true, ne_eq, Bool.not_eq_eq_eq_not, Bool.not_true, Bool.not_false] at ht22
        refine J.guardNo ?_ ?_
        · exact rfl
        refine J.guardNo ?_ ?_
        · exact rfl
        refine J.guardNo ?_ ?_
        · exact rfl
        refine J.guardNo ?_ ?_
        · exact rfl
        refine J.guardNo ?_ ?_
        · exact rfl
        refine r_pickT rfl rfl ?_
        refine r_move rfl ?_
        refine J.guardNo ?_ ?_
        · exact rfl
        refine J.guardNo ?_ ?_
        · exact rfl
        refine J.guardNo ?_ ?_
        · exact rfl
        refine r_pickT rfl rfl ?_
        refine r_move rfl ?_
        refine J.guardNo ?_ ?_
        · exact rfl
        refine J.guardNo ?_ ?_
        · exact rfl
        refine J.guardNo ?_ ?_
        · exact rfl
        refine J.guardNo ?_ ?_
        · exact rfl
        refine J.guardNo ?_ ?_
        · exact rfl
        refine r_pickT rfl rfl ?_
        refine r_move rfl ?_
        refine J.guardNo ?_ ?_
        · exact rfl
        refine J.guardNo ?_ ?_
        · exact rfl
        refine J.guardNo ?_ ?_
        · exact rfl
        refine r_pickT rfl rfl ?_
        refine r_move rfl ?_
        refine J.guardNo ?_ ?_
        · exact rfl
        refine J.guardNo ?_ ?_
        · exact rfl
        refine J.guardNo ?_ ?_
        · exact rfl
        refine r_pickT rfl rfl ?_
        refine r_move rfl ?_
        refine J.guardNo ?_ ?_
        · exact rfl
        refine J.guardNo ?_ ?_
        · exact rfl
        refine J.guardNo ?_ ?_
        · exact rfl
        refine r_pickT rfl rfl ?_
        refine r_move rfl ?_
        refine J.guardNo ?_ ?_
        · exact rfl
        refine J.guardNo ?_ ?_
        · exact rfl
        refine J.guardNo ?_ ?_
        · exact rfl
        refine r_pickT rfl rfl ?_
        refine r_move rfl ?_
        refine J.guardNo ?_ ?_
        · exact rfl
        refine J.guardNo ?_ ?_
        · exact rfl
        refine J.guardNo ?_ ?_
        · exact rfl
        refine r_pickT rfl rfl ?_
        refine r_move rfl ?_
        refine J.guardNo ?_ ?_
        · exact rfl
        refine J.guardNo ?_ ?_
        · exact rfl
        refine J.guardNo ?_ ?_
        · exact rfl
        refine r_pickT rfl rfl ?_
        refine r_assign rfl ?_
        refine J.nil ?_
        refine jx_then ?_
        refine jc_condT rfl ?_
        repeat refine jc_seq ?_
        refine jc_region ?_
        refine r_assign rfl ?_
        refine J.nil ?_
        refine jx_then ?_
        refine jc_ret ?_
        repeat (first | refine jx_thenRet ?_ | refine jx_blockRet ?_)
        refine jx_body (.inr rfl) (fun B w _ => res1 rfl rfl B w) (fun w hs => ⟨(), ?_, hs.sub (by repeat (first | exact .refl | exact .nil | refine .cons (by first | exact .hd | exact .tl .hd | exact .tl (.tl .hd) | exact .tl (.tl (.tl .hd)) | exact .tl (.tl (.tl (.tl .hd))) | exact .tl (.tl (.tl (.tl (.tl .hd)))) | exact .tl (.tl (.tl (.tl (.tl (.tl .hd))))) | exact .tl (.tl (.tl (.tl (.tl (.tl (.tl .hd)))))) | exact .tl (.tl (.tl (.tl (.tl (.tl (.tl (.tl .hd)))))))) ?_ | refine .drop ?_)) (by repeat (first | exact FSub.refl | exact FSub.nil | refine FSub.cons (by first | assumption | (repeat (first | assumption | exact List.Mem.head _ | refine .tail _ ?_))) ?_ | refine FSub.drop ?_))⟩)
        unfold msgWrong; rw [if_neg (by omega), if_pos (by omega)]
      · -- t22 False
        intro ht22
        try simp only [decide_eq_true_eq, decide_eq_false_iff_not, beq_iff_eq, bne_iff_ne, beq_eq_false_iff_ne, bne_eq_false_iff_eq, Int.not_lt, Int.not_le, Bool.not_eq_true, ne_eq, Bool.not_eq_eq_eq_not, Bool.not_true, Bool.not_false] at ht22
        refine J.guardYes ?_ ?_
        · exact rfl
        refine r_move rfl ?_
        refine J.guardYes ?_ ?_
        · exact rfl
        first | refine r_fieldAddr fo_39_2 rfl ?_ | refine r_fieldAddrE fo_39_2 rfl (by first | exact len_row (by first | exact .hd | exact .tl .hd | exact .tl (.tl .hd) | exact .tl (.tl (.tl .hd)) | exact .tl (.tl (.tl (.tl .hd))) | exact .tl (.tl (.tl (.tl (.tl .hd)))) | exact .tl (.tl (.tl (.tl (.tl (.tl .hd))))) | exact .tl (.tl (.tl (.tl (.tl (.tl (.tl .hd)))))) | exact .tl (.tl (.tl (.tl (.tl (.tl (.tl (.tl .hd)))))))) | exact len_sl (by first | assumption | exact .head _ | (refine .tail _ ?_; first | assumption | exact .head _ | (refine .tail _ ?_; first | assumption | exact .head _ | (refine .tail _ ?_; first | assumption | exact .head _ | (refine .tail _ ?_; first | assumption | exact .head _ | (refine .tail _ ?_; first | assumption | exact .head _ | (refine .tail _ ?_; first | assumption | exact .head _ | (refine .tail _ ?_; first | assumption | exact .head _ | (refine .tail _ ?_; first | assumption | exact .head _ | (refine .tail _ ?_; first | assumption | exact .head _))))))))))) (by first | assumption | omega | simp) ?_
        refine J.guardYes ?_ ?_
        · exact rfl
        first
          | (refine r_load1 Try.isAgg3 rfl (at_blk1 (by first | exact .hd | exact .tl .hd | exact .tl (.tl .hd) | exact .tl (.tl (.tl .hd)) | exact .tl (.tl (.tl (.tl .hd))) | exact .tl (.tl (.tl (.tl (.tl .hd)))) | exact .tl (.tl (.tl (.tl (.tl (.tl .hd))))) | exact .tl (.tl (.tl (.tl (.tl (.tl (.tl .hd)))))) | exact .tl (.tl (.tl (.tl (.tl (.tl (.tl (.tl .hd)))))))) (by exact rfl)) ?_)
          | (refine r_load1 Try.isAgg3 rfl (at_int (by first | assumption | exact .head _ | (refine .tail _ ?_; first | assumption | exact .head _ | (refine .tail _ ?_; first | assumption | exact .head _ | (refine .tail _ ?_; first | assumption | exact .head _ | (refine .tail _ ?_; first | assumption | exact .head _ | (refine .tail _ ?_; first | assumption | exact .head _ | (refine .tail _ ?_; first | assumption | exact .head _ | (refine .tail _ ?_; first | assumption | exact .head _ | (refine .tail _ ?_; first | assumption | exact .head _ | (refine .tail _ ?_; first | assumption | exact .head _)))))))))) (by assumption)) ?_)
        refine J.guardYes ?_ ?_
        · exact rfl
        refine r_callv rfl Try.call125 rfl (fun w hs => wrongNode_calls hs (by first | exact .hd | exact .tl .hd | exact .tl (.tl .hd) | exact .tl (.tl (.tl .hd)) | exact .tl (.tl (.tl (.tl .hd))) | exact .tl (.tl (.tl (.tl (.tl .hd)))) | exact .tl (.tl (.tl (.tl (.tl (.tl .hd))))) | exact .tl (.tl (.tl (.tl (.tl (.tl (.tl .hd)))))) | exact .tl (.tl (.tl (.tl (.tl (.tl (.tl (.tl .hd))))))))) ?_; intro _
        refine J.guardYes ?_ ?_
        · exact rfl
        refine r_not rfl ?_
        refine r_pickF rfl rfl ?_
        refine r_move rfl ?_
        refine j_cases (t := 29) (b := ?b3) ?e3 ?_ ?_
        case e3 => exact rfl
        · -- t29 True
          intro ht29
          try simp only [decide_eq_true_eq, decide_eq_false_iff_not, beq_iff_eq, bne_iff_ne, beq_eq_false_iff_ne, bne_eq_false_iff_eq, Int.not_lt, Int.not_le, Bool.not_eq_true, ne_eq, Bool.not_eq_eq_eq_not, Bool.not_true, Bool.not_false] at ht29
          refine J.guardNo ?_ ?_
          · exact rfl
          refine J.guardNo ?_ ?_
          · exact rfl
          refine J.guardNo ?_ ?_
          · exact rfl
          refine r_pickT rfl rfl ?_
          refine r_move rfl ?_
          refine J.guardNo ?_ ?_
          · exact rfl
          refine J.guardNo ?_ ?_
          · exact rfl
          refine J.guardNo ?_ ?_
          · exact rfl
          refine J.guardNo ?_ ?_
          · exact rfl
          refine J.guardNo ?_ ?_
          · exact rfl
          refine r_pickT rfl rfl ?_
          refine r_move rfl ?_
          refine J.guardNo ?_ ?_
          · exact rfl
          refine J.guardNo ?_ ?_
          · exact rfl
          refine J.guardNo ?_ ?_
          · exact rfl
          refine r_pickT rfl rfl ?_
          refine r_move rfl ?_
          refine J.guardNo ?_ ?_
          · exact rfl
          refine J.guardNo ?_ ?_
          · exact rfl
          refine J.guardNo ?_ ?_
          · exact rfl
          refine r_pickT rfl rfl ?_
          refine r_move rfl ?_
          refine J.guardNo ?_ ?_
          · exact rfl
          refine J.guardNo ?_ ?_
          · exact rfl
          refine J.guardNo ?_ ?_
          · exact rfl
          refine r_pickT rfl rfl ?_
          refine r_move rfl ?_
          refine J.guardNo ?_ ?_
          · exact rfl
          refine J.guardNo ?_ ?_
          · exact rfl
          refine J.guardNo ?_ ?_
          · exact rfl
          refine r_pickT rfl rfl ?_
          refine r_move rfl ?_
          refine J.guardNo ?_ ?_
          · exact rfl
          refine J.guardNo ?_ ?_
          · exact rfl
          refine J.guardNo ?_ ?_
          · exact rfl
          refine r_pickT rfl rfl ?_
          refine r_move rfl ?_
          refine J.guardNo ?_ ?_
          · exact rfl
          refine J.guardNo ?_ ?_
          · exact rfl
          refine J.guardNo ?_ ?_
          · exact rfl
          refine r_pickT rfl rfl ?_
          refine r_assign rfl ?_
          refine J.nil ?_
          refine jx_then ?_
          refine jc_condT rfl ?_
          repeat refine jc_seq ?_
          refine jc_region ?_
          refine r_assign rfl ?_
          refine J.nil ?_
          refine jx_then ?_
          refine jc_ret ?_
          repeat (first | refine jx_thenRet ?_ | refine jx_blockRet ?_)
          refine jx_body (.inr rfl) (fun B w _ => res1 rfl rfl B w) (fun w hs => ⟨(), ?_, hs.sub (by repeat (first | exact .refl | exact .nil | refine .cons (by first | exact .hd | exact .tl .hd | exact .tl (.tl .hd) | exact .tl (.tl (.tl .hd)) | exact .tl (.tl (.tl (.tl .hd))) | exact .tl (.tl (.tl (.tl (.tl .hd)))) | exact .tl (.tl (.tl (.tl (.tl (.tl .hd))))) | exact .tl (.tl (.tl (.tl (.tl (.tl (.tl .hd)))))) | exact .tl (.tl (.tl (.tl (.tl (.tl (.tl (.tl .hd)))))))) ?_ | refine .drop ?_)) (by repeat (first | exact FSub.refl | exact FSub.nil | refine FSub.cons (by first | assumption | (repeat (first | assumption | exact List.Mem.head _ | refine .tail _ ?_))) ?_ | refine FSub.drop ?_))⟩)
          unfold msgWrong; rw [if_neg (by omega), if_pos (by omega)]
        · -- t29 False
          intro ht29
          try simp only [decide_eq_true_eq, decide_eq_false_iff_not, beq_iff_eq, bne_iff_ne, beq_eq_false_iff_ne, bne_eq_false_iff_eq, Int.not_lt, Int.not_le, Bool.not_eq_true, ne_eq, Bool.not_eq_eq_eq_not, Bool.not_true, Bool.not_false] at ht29
          refine J.guardYes ?_ ?_
          · exact rfl
          first | refine r_fieldAddr fo_39_3 rfl ?_ | refine r_fieldAddrE fo_39_3 rfl (by first | exact len_row (by first | exact .hd | exact .tl .hd | exact .tl (.tl .hd) | exact .tl (.tl (.tl .hd)) | exact .tl (.tl (.tl (.tl .hd))) | exact .tl (.tl (.tl (.tl (.tl .hd)))) | exact .tl (.tl (.tl (.tl (.tl (.tl .hd))))) | exact .tl (.tl (.tl (.tl (.tl (.tl (.tl .hd)))))) | exact .tl (.tl (.tl (.tl (.tl (.tl (.tl (.tl .hd)))))))) | exact len_sl (by first | assumption | exact .head _ | (refine .tail _ ?_; first | assumption | exact .head _ | (refine .tail _ ?_; first | assumption | exact .head _ | (refine .tail _ ?_; first | assumption | exact .head _ | (refine .tail _ ?_; first | assumption | exact .head _ | (refine .tail _ ?_; first | assumption | exact .head _ | (refine .tail _ ?_; first | assumption | exact .head _ | (refine .tail _ ?_; first | assumption | exact .head _ | (refine .tail _ ?_; first | assumption | exact .head _ | (refine .tail _ ?_; first | assumption | exact .head _))))))))))) (by first | assumption | omega | simp) ?_
          refine J.guardYes ?_ ?_
          · exact rfl
          first
            | (refine r_load1 Try.isAgg3 rfl (at_blk1 (by first | exact .hd | exact .tl .hd | exact .tl (.tl .hd) | exact .tl (.tl (.tl .hd)) | exact .tl (.tl (.tl (.tl .hd))) | exact .tl (.tl (.tl (.tl (.tl .hd)))) | exact .tl (.tl (.tl (.tl (.tl (.tl .hd))))) | exact .tl (.tl (.tl (.tl (.tl (.tl (.tl .hd)))))) | exact .tl (.tl (.tl (.tl (.tl (.tl (.tl (.tl .hd)))))))) (by exact rfl)) ?_)
            | (refine r_load1 Try.isAgg3 rfl (at_int (by first | assumption | exact .head _ | (refine .tail _ ?_; first | assumption | exact .head _ | (refine .tail _ ?_; first | assumption | exact .head _ | (refine .tail _ ?_; first | assumption | exact .head _ | (refine .tail _ ?_; first | assumption | exact .head _ | (refine .tail _ ?_; first | assumption | exact .head _ | (refine .tail _ ?_; first | assumption | exact .head _ | (refine .tail _ ?_; first | assumption | exact .head _ | (refine .tail _ ?_; first | assumption | exact .head _ | (refine .tail _ ?_; first | assumption | exact .head _)))))))))) (by assumption)) ?_)
          refine J.guardYes ?_ ?_
          · exact rfl
          refine r_bin rfl rfl b_lss ?_
          refine r_pickF rfl rfl ?_
          refine r_move rfl ?_
          refine j_cases (t := 34) (b := ?b4) ?e4 ?_ ?_
          case e4 => exact rfl
          · -- t34 True
            intro ht34
            try simp only [decide_eq_true_eq, decide_eq_false_iff_not, beq_iff_eq, bne_iff_ne, beq_eq_false_iff_ne, bne_eq_false_iff_eq, Int.not_lt, Int.not_le, Bool.not_eq_true, ne_eq, Bool.not_eq_eq_eq_not, Bool.not_true, Bool.not_false] at ht34
            refine J.guardNo ?_ ?_
            · exact rfl
            refine J.guardNo ?_ ?_
            · exact rfl
            refine J.guardNo ?_ ?_
            · exact rfl
            refine J.guardNo ?_ ?_
            · exact rfl
            refine J.guardNo ?_ ?_
            · exact rfl
            refine r_pickT rfl rfl ?_
            refine r_move rfl ?_
            refine J.guardNo ?_ ?_
            · exact rfl
            refine J.guardNo ?_ ?_
            · exact rfl
            refine J.guardNo ?_ ?_
            · exact rfl
            refine r_pickT rfl rfl ?_
            refine r_move rfl ?_
            refine J.guardNo ?_ ?_
            · exact rfl
            refine J.guardNo ?_ ?_
            · exact rfl
            refine J.guardNo ?_ ?_
            · exact rfl
            refine r_pickT rfl rfl ?_
            refine r_move rfl ?_
            refine J.guardNo ?_ ?_
            · exact rfl
            refine J.guardNo ?_ ?_
            · exact rfl
            refine J.guardNo ?_ ?_
            · exact rfl
            refine r_pickT rfl rfl ?_
            refine r_move rfl ?_
            refine J.guardNo ?_ ?_
            · exact rfl
            refine J.guardNo ?_ ?_
            · exact rfl
            refine J.guardNo ?_ ?_
            · exact rfl
            refine r_pickT rfl rfl ?_
            refine r_move rfl ?_
            refine J.guardNo ?_ ?_
            · exact rfl
            refine J.guardNo ?_ ?_
            · exact rfl
            refine J.guardNo ?_ ?_
            · exact rfl
            refine r_pickT rfl rfl ?_
            refine r_move rfl ?_
            refine J.guardNo ?_ ?_
            · exact rfl
            refine J.guardNo ?_ ?_
            · exact rfl
            refine J.guardNo ?_ ?_
            · exact rfl
            refine r_pickT rfl rfl ?_
            refine r_assign rfl ?_
            refine J.nil ?_
            refine jx_then ?_
            refine jc_condT rfl ?_
            repeat refine jc_seq ?_
            refine jc_region ?_
            refine r_assign rfl ?_
            refine J.nil ?_
            refine jx_then ?_
            refine jc_ret ?_
            repeat (first | refine jx_thenRet ?_ | refine jx_blockRet ?_)
            refine jx_body (.inr rfl) (fun B w _ => res1 rfl rfl B w) (fun w hs => ⟨(), ?_, hs.sub (by repeat (first | exact .refl | exact .nil | refine .cons (by first | exact .hd | exact .tl .hd | exact .tl (.tl .hd) | exact .tl (.tl (.tl .hd)) | exact .tl (.tl (.tl (.tl .hd))) | exact .tl (.tl (.tl (.tl (.tl .hd)))) | exact .tl (.tl (.tl (.tl (.tl (.tl .hd))))) | exact .tl (.tl (.tl (.tl (.tl (.tl (.tl .hd)))))) | exact .tl (.tl (.tl (.tl (.tl (.tl (.tl (.tl .hd)))))))) ?_ | refine .drop ?_)) (by repeat (first | exact FSub.refl | exact FSub.nil | refine FSub.cons (by first | assumption | (repeat (first | assumption | exact List.Mem.head _ | refine .tail _ ?_))) ?_ | refine FSub.drop ?_))⟩)
            unfold msgWrong; rw [if_neg (by omega), if_pos (by omega)]
          · -- t34 False
            intro ht34
            try simp only [decide_eq_true_eq, decide_eq_false_iff_not, beq_iff_eq, bne_iff_ne, beq_eq_false_iff_ne, bne_eq_false_iff_eq, Int.not_lt, Int.not_le, Bool.not_eq_true, ne_eq, Bool.not_eq_eq_eq_not, Bool.not_true, Bool.not_false] at ht34
            refine J.guardYes ?_ ?_
            · exact rfl
            first | refine r_fieldAddr fo_39_3 rfl ?_ | refine r_fieldAddrE fo_39_3 rfl (by first | exact len_row (by first | exact .hd | exact .tl .hd | exact .tl (.tl .hd) | exact .tl (.tl (.tl .hd)) | exact .tl (.tl (.tl (.tl .hd))) | exact .tl (.tl (.tl (.tl (.tl .hd)))) | exact .tl (.tl (.tl (.tl (.tl (.tl .hd))))) | exact .tl (.tl (.tl (.tl (.tl (.tl (.tl .hd)))))) | exact .tl (.tl (.tl (.tl (.tl (.tl (.tl (.tl .hd)))))))) | exact len_sl (by first | assumption | exact .head _ | (refine .tail _ ?_; first | assumption | exact .head _ | (refine .tail _ ?_; first | assumption | exact .head _ | (refine .tail _ ?_; first | assumption | exact .head _ | (refine .tail _ ?_; first | assumption | exact .head _ | (refine .tail _ ?_; first | assumption | exact .head _ | (refine .tail _ ?_; first | assumption | exact .head _ | (refine .tail _ ?_; first | assumption | exact .head _ | (refine .tail _ ?_; first | assumption | exact .head _ | (refine .tail _ ?_; first | assumption | exact .head _))))))))))) (by first | assumption | omega | simp) ?_
            refine J.guardYes ?_ ?_
            · exact rfl
            first
              | (refine r_load1 Try.isAgg3 rfl (at_blk1 (by first | exact .hd | exact .tl .hd | exact .tl (.tl .hd) | exact .tl (.tl (.tl .hd)) | exact .tl (.tl (.tl (.tl .hd))) | exact .tl (.tl (.tl (.tl (.tl .hd)))) | exact .tl (.tl (.tl (.tl (.tl (.tl .hd))))) | exact .tl (.tl (.tl (.tl (.tl (.tl (.tl .hd)))))) | exact .tl (.tl (.tl (.tl (.tl (.tl (.tl (.tl .hd)))))))) (by exact rfl)) ?_)
              | (refine r_load1 Try.isAgg3 rfl (at_int (by first | assumption | exact .head _ | (refine .tail _ ?_; first | assumption | exact .head _ | (refine .tail _ ?_; first | assumption | exact .head _ | (refine .tail _ ?_; first | assumption | exact .head _ | (refine .tail _ ?_; first | assumption | exact .head _ | (refine .tail _ ?_; first | assumption | exact .head _ | (refine .tail _ ?_; first | assumption | exact .head _ | (refine .tail _ ?_; first | assumption | exact .head _ | (refine .tail _ ?_; first | assumption | exact .head _ | (refine .tail _ ?_; first | assumption | exact .head _)))))))))) (by assumption)) ?_)
            refine J.guardYes ?_ ?_
            · exact rfl
            first | refine r_fieldAddr fo_37_1 rfl ?_ | refine r_fieldAddrE fo_37_1 rfl (by first | exact len_row (by first | exact .hd | exact .tl .hd | exact .tl (.tl .hd) | exact .tl (.tl (.tl .hd)) | exact .tl (.tl (.tl (.tl .hd))) | exact .tl (.tl (.tl (.tl (.tl .hd)))) | exact .tl (.tl (.tl (.tl (.tl (.tl .hd))))) | exact .tl (.tl (.tl (.tl (.tl (.tl (.tl .hd)))))) | exact .tl (.tl (.tl (.tl (.tl (.tl (.tl (.tl .hd)))))))) | exact len_sl (by first | assumption | exact .head _ | (refine .tail _ ?_; first | assumption | exact .head _ | (refine .tail _ ?_; first | assumption | exact .head _ | (refine .tail _ ?_; first | assumption | exact .head _ | (refine .tail _ ?_; first | assumption | exact .head _ | (refine .tail _ ?_; first | assumption | exact .head _ | (refine .tail _ ?_; first | assumption | exact .head _ | (refine .tail _ ?_; first | assumption | exact .head _ | (refine .tail _ ?_; first | assumption | exact .head _ | (refine .tail _ ?_; first | assumption | exact .head _))))))))))) (by first | assumption | omega | simp) ?_
            refine J.guardYes ?_ ?_
            · exact rfl
            first
              | (refine r_load1 Try.isAgg3 rfl (at_blk1 (by first | exact .hd | exact .tl .hd | exact .tl (.tl .hd) | exact .tl (.tl (.tl .hd)) | exact .tl (.tl (.tl (.tl .hd))) | exact .tl (.tl (.tl (.tl (.tl .hd)))) | exact .tl (.tl (.tl (.tl (.tl (.tl .hd))))) | exact .tl (.tl (.tl (.tl (.tl (.tl (.tl .hd)))))) | exact .tl (.tl (.tl (.tl (.tl (.tl (.tl (.tl .hd)))))))) (by exact rfl)) ?_)
              | (refine r_load1 Try.isAgg3 rfl (at_int (by first | assumption | exact .head _ | (refine .tail _ ?_; first | assumption | exact .head _ | (refine .tail _ ?_; first | assumption | exact .head _ | (refine .tail _ ?_; first | assumption | exact .head _ | (refine .tail _ ?_; first | assumption | exact .head _ | (refine .tail _ ?_; first | assumption | exact .head _ | (refine .tail _ ?_; first | assumption | exact .head _ | (refine .tail _ ?_; first | assumption | exact .head _ | (refine .tail _ ?_; first | assumption | exact .head _ | (refine .tail _ ?_; first | assumption | exact .head _)))))))))) (by assumption)) ?_)
            refine J.guardYes ?_ ?_
            · exact rfl
            refine r_bin rfl rfl b_geq ?_
            refine r_pickF rfl rfl ?_
            refine r_move rfl ?_
            refine j_cases (t := 41) (b := ?b5) ?e5 ?_ ?_
            case e5 => exact rfl
            · -- t41 True
              intro ht41
              try simp only [decide_eq_true_eq, decide_eq_false_iff_not, beq_iff_eq, bne_iff_ne, beq_eq_false_iff_ne, bne_eq_false_iff_eq, Int.not_lt, Int.not_le, Bool.not_eq_true, ne_eq, Bool.not_eq_eq_eq_not, Bool.not_true, Bool.not_false] at ht41
              refine J.guardNo ?_ ?_
              · exact rfl
              refine J.guardNo ?_ ?_
              · exact rfl
              refine J.guardNo ?_ ?_
              · exact rfl
              refine r_pickT rfl rfl ?_
              refine r_move rfl ?_
              refine J.guardNo ?_ ?_
              · exact rfl
              refine J.guardNo ?_ ?_
              · exact rfl
              refine J.guardNo ?_ ?_
              · exact rfl
              refine r_pickT rfl rfl ?_
              refine r_move rfl ?_
              refine J.guardNo ?_ ?_
              · exact rfl
              refine J.guardNo ?_ ?_
              · exact rfl
              refine J.guardNo ?_ ?_
              · exact rfl
              refine r_pickT rfl rfl ?_
              refine r_move rfl ?_
              refine J.guardNo ?_ ?_
              · exact rfl
              refine J.guardNo ?_ ?_
              · exact rfl
              refine J.guardNo ?_ ?_
              · exact rfl
              refine r_pickT rfl rfl ?_
              refine r_move rfl ?_
              refine J.guardNo ?_ ?_
              · exact rfl
              refine J.guardNo ?_ ?_
              · exact rfl
              refine J.guardNo ?_ ?_
              · exact rfl
              refine r_pickT rfl rfl ?_
              refine r_move rfl ?_
              refine J.guardNo ?_ ?_
              · exact rfl
              refine J.guardNo ?_ ?_
              · exact rfl
              refine J.guardNo ?_ ?_
              · exact rfl
              refine r_pickT rfl rfl ?_
              refine r_assign rfl ?_
              refine J.nil ?_
              refine jx_then ?_
              refine jc_condT rfl ?_
              repeat refine jc_seq ?_
              refine jc_region ?_
              refine r_assign rfl ?_
              refine J.nil ?_
              refine jx_then ?_
              refine jc_ret ?_
              repeat (first | refine jx_thenRet ?_ | refine jx_blockRet ?_)
              refine jx_body (.inr rfl) (fun B w _ => res1 rfl rfl B w) (fun w hs => ⟨(), ?_, hs.sub (by repeat (first | exact .refl | exact .nil | refine .cons (by first | exact .hd | exact .tl .hd | exact .tl (.tl .hd) | exact .tl (.tl (.tl .hd)) | exact .tl (.tl (.tl (.tl .hd))) | exact .tl (.tl (.tl (.tl (.tl .hd)))) | exact .tl (.tl (.tl (.tl (.tl (.tl .hd))))) | exact .tl (.tl (.tl (.tl (.tl (.tl (.tl .hd)))))) | exact .tl (.tl (.tl (.tl (.tl (.tl (.tl (.tl .hd)))))))) ?_ | refine .drop ?_)) (by repeat (first | exact FSub.refl | exact FSub.nil | refine FSub.cons (by first | assumption | (repeat (first | assumption | exact List.Mem.head _ | refine .tail _ ?_))) ?_ | refine FSub.drop ?_))⟩)
              unfold msgWrong; rw [if_neg (by omega), if_pos (by omega)]
            · -- t41 False
              intro ht41
              try simp only [decide_eq_true_eq, decide_eq_false_iff_not, beq_iff_eq, bne_iff_ne, beq_eq_false_iff_ne, bne_eq_false_iff_eq, Int.not_lt, Int.not_le, Bool.not_eq_true, ne_eq, Bool.not_eq_eq_eq_not, Bool.not_true, Bool.not_false] at ht41
              refine J.guardYes ?_ ?_
              · exact rfl
              first | refine r_fieldAddr fo_39_4 rfl ?_ | refine r_fieldAddrE fo_39_4 rfl (by first | exact len_row (by first | exact .hd | exact .tl .hd | exact .tl (.tl .hd) | exact .tl (.tl (.tl .hd)) | exact .tl (.tl (.tl (.tl .hd))) | exact .tl (.tl (.tl (.tl (.tl .hd)))) | exact .tl (.tl (.tl (.tl (.tl (.tl .hd))))) | exact .tl (.tl (.tl (.tl (.tl (.tl (.tl .hd)))))) | exact .tl (.tl (.tl (.tl (.tl (.tl (.tl (.tl .hd)))))))) | exact len_sl (by first | assumption | exact .head _ | (refine .tail _ ?_; first | assumption | exact .head _ | (refine .tail _ ?_; first | assumption | exact .head _ | (refine .tail _ ?_; first | assumption | exact .head _ | (refine .tail _ ?_; first | assumption | exact .head _ | (refine .tail _ ?_; first | assumption | exact .head _ | (refine .tail _ ?_; first | assumption | exact .head _ | (refine .tail _ ?_; first | assumption | exact .head _ | (refine .tail _ ?_; first | assumption | exact .head _ | (refine .tail _ ?_; first | assumption | exact .head _))))))))))) (by first | assumption | omega | simp) ?_
              refine J.guardYes ?_ ?_
              · exact rfl
              first
                | (refine r_load1 Try.isAgg3 rfl (at_blk1 (by first | exact .hd | exact .tl .hd | exact .tl (.tl .hd) | exact .tl (.tl (.tl .hd)) | exact .tl (.tl (.tl (.tl .hd))) | exact .tl (.tl (.tl (.tl (.tl .hd)))) | exact .tl (.tl (.tl (.tl (.tl (.tl .hd))))) | exact .tl (.tl (.tl (.tl (.tl (.tl (.tl .hd)))))) | exact .tl (.tl (.tl (.tl (.tl (.tl (.tl (.tl .hd)))))))) (by exact rfl)) ?_)
                | (refine r_load1 Try.isAgg3 rfl (at_int (by first | assumption | exact .head _ | (refine .tail _ ?_; first | assumption | exact .head _ | (refine .tail _ ?_; first | assumption | exact .head _ | (refine .tail _ ?_; first | assumption | exact .head _ | (refine .tail _ ?_; first | assumption | exact .head _ | (refine .tail _ ?_; first | assumption | exact .head _ | (refine .tail _ ?_; first | assumption | exact .head _ | (refine .tail _ ?_; first | assumption | exact .head _ | (refine .tail _ ?_; first | assumption | exact .head _ | (refine .tail _ ?_; first | assumption | exact .head _)))))))))) (by assumption)) ?_)
              refine J.guardYes ?_ ?_
              · exact rfl
              refine r_bin rfl rfl b_lss ?_
              refine r_pickF rfl rfl ?_
              refine r_move rfl ?_
              refine j_cases (t := 46) (b := ?b6) ?e6 ?_ ?_
              case e6 => exact rfl
              · -- t46 True
                intro ht46
                try simp only [decide_eq_true_eq, decide_eq_false_iff_not, beq_iff_eq, bne_iff_ne, beq_eq_false_iff_ne, bne_eq_false_iff_eq, Int.not_lt, Int.not_le, Bool.not_eq_true, ne_eq, Bool.not_eq_eq_eq_not, Bool.not_true, Bool.not_false] at ht46
                refine J.guardNo ?_ ?_
                · exact rfl
                refine J.guardNo ?_ ?_
                · exact rfl
                refine J.guardNo ?_ ?_
                · exact rfl
                refine r_pickT rfl rfl ?_
                refine r_move rfl ?_
                refine J.guardNo ?_ ?_
                · exact rfl
                refine J.guardNo ?_ ?_
                · exact rfl
                refine J.guardNo ?_ ?_
                · exact rfl
                refine r_pickT rfl rfl ?_
                refine r_move rfl ?_
                refine J.guardNo ?_ ?_
                · exact rfl
                refine J.guardNo ?_ ?_
                · exact rfl
                refine J.guardNo ?_ ?_
                · exact rfl
                refine r_pickT rfl rfl ?_
                refine r_move rfl ?_
                refine J.guardNo ?_ ?_
                · exact rfl
                refine J.guardNo ?_ ?_
                · exact rfl
                refine J.guardNo ?_ ?_
                · exact rfl
                refine r_pickT rfl rfl ?_
                refine r_move rfl ?_
                refine J.guardNo ?_ ?_
                · exact rfl
                refine J.guardNo ?_ ?_
                · exact rfl
                refine J.guardNo ?_ ?_
                · exact rfl
                refine r_pickT rfl rfl ?_
                refine r_assign rfl ?_
                refine J.nil ?_
                refine jx_then ?_
                refine jc_condT rfl ?_
                repeat refine jc_seq ?_
                refine jc_region ?_
                refine r_assign rfl ?_
                refine J.nil ?_
                refine jx_then ?_
                refine jc_ret ?_
                repeat (first | refine jx_thenRet ?_ | refine jx_blockRet ?_)
                refine jx_body (.inr rfl) (fun B w _ => res1 rfl rfl B w) (fun w hs => ⟨(), ?_, hs.sub (by repeat (first | exact .refl | exact .nil | refine .cons (by first | exact .hd | exact .tl .hd | exact .tl (.tl .hd) | exact .tl (.tl (.tl .hd)) | exact .tl (.tl (.tl (.tl .hd))) | exact .tl (.tl (.tl (.tl (.tl .hd)))) | exact .tl (.tl (.tl (.tl (.tl (.tl .hd))))) | exact .tl (.tl (.tl (.tl (.tl (.tl (.tl .hd)))))) | exact .tl (.tl (.tl (.tl (.tl (.tl (.tl (.tl .hd)))))))) ?_ | refine .drop ?_)) (by repeat (first | exact FSub.refl | exact FSub.nil | refine FSub.cons (by first | assumption | (repeat (first | assumption | exact List.Mem.head _ | refine .tail _ ?_))) ?_ | refine FSub.drop ?_))⟩)
                unfold msgWrong; rw [if_neg (by omega), if_pos (by omega)]
              · -- t46 False
                intro ht46
                try simp only [decide_eq_true_eq, decide_eq_false_iff_not, beq_iff_eq, bne_iff_ne, beq_eq_false_iff_ne, bne_eq_false_iff_eq, Int.not_lt, Int.not_le, Bool.not_eq_true, ne_eq, Bool.not_eq_eq_eq_not, Bool.not_true, Bool.not_false] at ht46
                refine J.guardYes ?_ ?_
                · exact rfl
                first | refine r_fieldAddr fo_39_4 rfl ?_ | refine r_fieldAddrE fo_39_4 rfl (by first | exact len_row (by first | exact .hd | exact .tl .hd | exact .tl (.tl .hd) | exact .tl (.tl (.tl .hd)) | exact .tl (.tl (.tl (.tl .hd))) | exact .tl (.tl (.tl (.tl (.tl .hd)))) | exact .tl (.tl (.tl (.tl (.tl (.tl .hd))))) | exact .tl (.tl (.tl (.tl (.tl (.tl (.tl .hd)))))) | exact .tl (.tl (.tl (.tl (.tl (.tl (.tl (.tl .hd)))))))) | exact len_sl (by first | assumption | exact .head _ | (refine .tail _ ?_; first | assumption | exact .head _ | (refine .tail _ ?_; first | assumption | exact .head _ | (refine .tail _ ?_; first | assumption | exact .head _ | (refine .tail _ ?_; first | assumption | exact .head _ | (refine .tail _ ?_; first | assumption | exact .head _ | (refine .tail _ ?_; first | assumption | exact .head _ | (refine .tail _ ?_; first | assumption | exact .head _ | (refine .tail _ ?_; first | assumption | exact .head _ | (refine .tail _ ?_; first | assumption | exact .head _))))))))))) (by first | assumption | omega | simp) ?_
                refine J.guardYes ?_ ?_
                · exact rfl
                first
                  | (refine r_load1 Try.isAgg3 rfl (at_blk1 (by first | exact .hd | exact .tl .hd | exact .tl (.tl .hd) | exact .tl (.tl (.tl .hd)) | exact .tl (.tl (.tl (.tl .hd))) | exact .tl (.tl (.tl (.tl (.tl .hd)))) | exact .tl (.tl (.tl (.tl (.tl (.tl .hd))))) | exact .tl (.tl (.tl (.tl (.tl (.tl (.tl .hd)))))) | exact .tl (.tl (.tl (.tl (.tl (.tl (.tl (.tl .hd)))))))) (by exact rfl)) ?_)
                  | (refine r_load1 Try.isAgg3 rfl (at_int (by first | assumption | exact .head _ | (refine .tail _ ?_; first | assumption | exact .head _ | (refine .tail _ ?_; first | assumption | exact .head _ | (refine .tail _ ?_; first | assumption | exact .head _ | (refine .tail _ ?_; first | assumption | exact .head _ | (refine .tail _ ?_; first | assumption | exact .head _ | (refine .tail _ ?_; first | assumption | exact .head _ | (refine .tail _ ?_; first | assumption | exact .head _ | (refine .tail _ ?_; first | assumption | exact .head _ | (refine .tail _ ?_; first | assumption | exact .head _)))))))))) (by assumption)) ?_)
                refine J.guardYes ?_ ?_
                · exact rfl
                refine r_bin rfl rfl b_gtr ?_
                refine r_pickF rfl rfl ?_
                refine r_move rfl ?_
                refine j_cases (t := 51) (b := ?b7) ?e7 ?_ ?_
                case e7 => exact rfl
                · -- t51 True
                  intro ht51
                  try simp only [decide_eq_true_eq, decide_eq_false_iff_not, beq_iff_eq, bne_iff_ne, beq_eq_false_iff_ne, bne_eq_false_iff_eq, Int.not_lt, Int.not_le, Bool.not_eq_true, ne_eq, Bool.not_eq_eq_eq_not, Bool.not_true, Bool.not_false] at ht51
                  refine J.guardNo ?_ ?_
                  · exact rfl
                  refine J.guardNo ?_ ?_
                  · exact rfl
                  refine J.guardNo ?_ ?_
                  · exact rfl
                  refine r_pickT rfl rfl ?_
                  refine r_move rfl ?_
                  refine J.guardNo ?_ ?_
                  · exact rfl
                  refine J.guardNo ?_ ?_
                  · exact rfl
                  refine J.guardNo ?_ ?_
                  · exact rfl
                  refine r_pickT rfl rfl ?_
                  refine r_move rfl ?_
                  refine J.guardNo ?_ ?_
                  · exact rfl
                  refine J.guardNo ?_ ?_
                  · exact rfl
                  refine J.guardNo ?_ ?_
                  · exact rfl
                  refine r_pickT rfl rfl ?_
                  refine r_move rfl ?_
                  refine J.guardNo ?_ ?_
                  · exact rfl
                  refine J.guardNo ?_ ?_
                  · exact rfl
                  refine J.guardNo ?_ ?_
                  · exact rfl
                  refine r_pickT rfl rfl ?_
                  refine r_assign rfl ?_
                  refine J.nil ?_
                  refine jx_then ?_
                  refine jc_condT rfl ?_
                  repeat refine jc_seq ?_
                  refine jc_region ?_
                  refine r_assign rfl ?_
                  refine J.nil ?_
                  refine jx_then ?_
                  refine jc_ret ?_
                  repeat (first | refine jx_thenRet ?_ | refine jx_blockRet ?_)
                  refine jx_body (.inr rfl) (fun B w _ => res1 rfl rfl B w) (fun w hs => ⟨(), ?_, hs.sub (by repeat (first | exact .refl | exact .nil | refine .cons (by first | exact .hd | exact .tl .hd | exact .tl (.tl .hd) | exact .tl (.tl (.tl .hd)) | exact .tl (.tl (.tl (.tl .hd))) | exact .tl (.tl (.tl (.tl (.tl .hd)))) | exact .tl (.tl (.tl (.tl (.tl (.tl .hd))))) | exact .tl (.tl (.tl (.tl (.tl (.tl (.tl .hd)))))) | exact .tl (.tl (.tl (.tl (.tl (.tl (.tl (.tl .hd)))))))) ?_ | refine .drop ?_)) (by repeat (first | exact FSub.refl | exact FSub.nil | refine FSub.cons (by first | assumption | (repeat (first | assumption | exact List.Mem.head _ | refine .tail _ ?_))) ?_ | refine FSub.drop ?_))⟩)
                  unfold msgWrong; rw [if_neg (by omega), if_pos (by omega)]
                · -- t51 False
                  intro ht51
                  try simp only [decide_eq_true_eq, decide_eq_false_iff_not, beq_iff_eq, bne_iff_ne, beq_eq_false_iff_ne, bne_eq_false_iff_eq, Int.not_lt, Int.not_le, Bool.not_eq_true, ne_eq, Bool.not_eq_eq_eq_not, Bool.not_true, Bool.not_false] at ht51
                  refine J.guardYes ?_ ?_
                  · exact rfl
                  first | refine r_fieldAddr fo_39_5 rfl ?_ | refine r_fieldAddrE fo_39_5 rfl (by first | exact len_row (by first | exact .hd | exact .tl .hd | exact .tl (.tl .hd) | exact .tl (.tl (.tl .hd)) | exact .tl (.tl (.tl (.tl .hd))) | exact .tl (.tl (.tl (.tl (.tl .hd)))) | exact .tl (.tl (.tl (.tl (.tl (.tl .hd))))) | exact .tl (.tl (.tl (.tl (.tl (.tl (.tl .hd)))))) | exact .tl (.tl (.tl (.tl (.tl (.tl (.tl (.tl .hd)))))))) | exact len_sl (by first | assumption | exact .head _ | (refine .tail _ ?_; first | assumption | exact .head _ | (refine .tail _ ?_; first | assumption | exact .head _ | (refine .tail _ ?_; first | assumption | exact .head _ | (refine .tail _ ?_; first | assumption | exact .head _ | (refine .tail _ ?_; first | assumption | exact .head _ | (refine .tail _ ?_; first | assumption | exact .head _ | (refine .tail _ ?_; first | assumption | exact .head _ | (refine .tail _ ?_; first | assumption | exact .head _ | (refine .tail _ ?_; first | assumption | exact .head _))))))))))) (by first | assumption | omega | simp) ?_
                  refine J.guardYes ?_ ?_
                  · exact rfl
                  first
                    | (refine r_load1 Try.isAgg3 rfl (at_blk1 (by first | exact .hd | exact .tl .hd | exact .tl (.tl .hd) | exact .tl (.tl (.tl .hd)) | exact .tl (.tl (.tl (.tl .hd))) | exact .tl (.tl (.tl (.tl (.tl .hd)))) | exact .tl (.tl (.tl (.tl (.tl (.tl .hd))))) | exact .tl (.tl (.tl (.tl (.tl (.tl (.tl .hd)))))) | exact .tl (.tl (.tl (.tl (.tl (.tl (.tl (.tl .hd)))))))) (by exact rfl)) ?_)
                    | (refine r_load1 Try.isAgg3 rfl (at_int (by first | assumption | exact .head _ | (refine .tail _ ?_; first | assumption | exact .head _ | (refine .tail _ ?_; first | assumption | exact .head _ | (refine .tail _ ?_; first | assumption | exact .head _ | (refine .tail _ ?_; first | assumption | exact .head _ | (refine .tail _ ?_; first | assumption | exact .head _ | (refine .tail _ ?_; first | assumption | exact .head _ | (refine .tail _ ?_; first | assumption | exact .head _ | (refine .tail _ ?_; first | assumption | exact .head _ | (refine .tail _ ?_; first | assumption | exact .head _)))))))))) (by assumption)) ?_)
                  refine J.guardYes ?_ ?_
                  · exact rfl
                  refine r_bin rfl rfl b_lss ?_
                  refine r_pickF rfl rfl ?_
                  refine r_move rfl ?_
                  refine j_cases (t := 56) (b := ?b8) ?e8 ?_ ?_
                  case e8 => exact rfl
                  · -- t56 True
                    intro ht56
                    try simp only [decide_eq_true_eq, decide_eq_false_iff_not, beq_iff_eq, bne_iff_ne, beq_eq_false_iff_ne, bne_eq_false_iff_eq, Int.not_lt, Int.not_le, Bool.not_eq_true, ne_eq, Bool.not_eq_eq_eq_not, Bool.not_true, Bool.not_false] at ht56
                    refine J.guardNo ?_ ?_
                    · exact rfl
                    refine J.guardNo ?_ ?_
                    · exact rfl
                    refine J.guardNo ?_ ?_
                    · exact rfl
                    refine r_pickT rfl rfl ?_
                    refine r_move rfl ?_
                    refine J.guardNo ?_ ?_
                    · exact rfl
                    refine J.guardNo ?_ ?_
                    · exact rfl
                    refine J.guardNo ?_ ?_
                    · exact rfl
                    refine r_pickT rfl rfl ?_
                    refine r_move rfl ?_
                    refine J.guardNo ?_ ?_
                    · exact rfl
                    refine J.guardNo ?_ ?_
                    · exact rfl
                    refine J.guardNo ?_ ?_
                    · exact rfl
                    refine r_pickT rfl rfl ?_
                    refine r_assign rfl ?_
                    refine J.nil ?_
                    refine jx_then ?_
                    refine jc_condT rfl ?_
                    repeat refine jc_seq ?_
                    refine jc_region ?_
                    refine r_assign rfl ?_
                    refine J.nil ?_
                    refine jx_then ?_
                    refine jc_ret ?_
                    repeat (first | refine jx_thenRet ?_ | refine jx_blockRet ?_)
                    refine jx_body (.inr rfl) (fun B w _ => res1 rfl rfl B w) (fun w hs => ⟨(), ?_, hs.sub (by repeat (first | exact .refl | exact .nil | refine .cons (by first | exact .hd | exact .tl .hd | exact .tl (.tl .hd) | exact .tl (.tl (.tl .hd)) | exact .tl (.tl (.tl (.tl .hd))) | exact .tl (.tl (.tl (.tl (.tl .hd)))) | exact .tl (.tl (.tl (.tl (.tl (.tl .hd))))) | exact .tl (.tl (.tl (.tl (.tl (.tl (.tl .hd)))))) | exact .tl (.tl (.tl (.tl (.tl (.tl (.tl (.tl .hd)))))))) ?_ | refine .drop ?_)) (by repeat (first | exact FSub.refl | exact FSub.nil | refine FSub.cons (by first | assumption | (repeat (first | assumption | exact List.Mem.head _ | refine .tail _ ?_))) ?_ | refine FSub.drop ?_))⟩)
                    unfold msgWrong; rw [if_neg (by omega), if_pos (by omega)]
                  · -- t56 False
                    intro ht56
                    try simp only [decide_eq_true_eq, decide_eq_false_iff_not, beq_iff_eq, bne_iff_ne, beq_eq_false_iff_ne, bne_eq_false_iff_eq, Int.not_lt, Int.not_le, Bool.not_eq_true, ne_eq, Bool.not_eq_eq_eq_not, Bool.not_true, Bool.not_false] at ht56
                    refine J.guardYes ?_ ?_
                    · exact rfl
                    first | refine r_fieldAddr fo_39_5 rfl ?_ | refine r_fieldAddrE fo_39_5 rfl (by first | exact len_row (by first | exact .hd | exact .tl .hd | exact .tl (.tl .hd) | exact .tl (.tl (.tl .hd)) | exact .tl (.tl (.tl (.tl .hd))) | exact .tl (.tl (.tl (.tl (.tl .hd)))) | exact .tl (.tl (.tl (.tl (.tl (.tl .hd))))) | exact .tl (.tl (.tl (.tl (.tl (.tl (.tl .hd)))))) | exact .tl (.tl (.tl (.tl (.tl (.tl (.tl (.tl .hd)))))))) | exact len_sl (by first | assumption | exact .head _ | (refine .tail _ ?_; first | assumption | exact .head _ | (refine .tail _ ?_; first | assumption | exact .head _ | (refine .tail _ ?_; first | assumption | exact .head _ | (refine .tail _ ?_; first | assumption | exact .head _ | (refine .tail _ ?_; first | assumption | exact .head _ | (refine .tail _ ?_; first | assumption | exact .head _ | (refine .tail _ ?_; first | assumption | exact .head _ | (refine .tail _ ?_; first | assumption | exact .head _ | (refine .tail _ ?_; first | assumption | exact .head _))))))))))) (by first | assumption | omega | simp) ?_
                    refine J.guardYes ?_ ?_
                    · exact rfl
                    first
                      | (refine r_load1 Try.isAgg3 rfl (at_blk1 (by first | exact .hd | exact .tl .hd | exact .tl (.tl .hd) | exact .tl (.tl (.tl .hd)) | exact .tl (.tl (.tl (.tl .hd))) | exact .tl (.tl (.tl (.tl (.tl .hd)))) | exact .tl (.tl (.tl (.tl (.tl (.tl .hd))))) | exact .tl (.tl (.tl (.tl (.tl (.tl (.tl .hd)))))) | exact .tl (.tl (.tl (.tl (.tl (.tl (.tl (.tl .hd)))))))) (by exact rfl)) ?_)
                      | (refine r_load1 Try.isAgg3 rfl (at_int (by first | assumption | exact .head _ | (refine .tail _ ?_; first | assumption | exact .head _ | (refine .tail _ ?_; first | assumption | exact .head _ | (refine .tail _ ?_; first | assumption | exact .head _ | (refine .tail _ ?_; first | assumption | exact .head _ | (refine .tail _ ?_; first | assumption | exact .head _ | (refine .tail _ ?_; first | assumption | exact .head _ | (refine .tail _ ?_; first | assumption | exact .head _ | (refine .tail _ ?_; first | assumption | exact .head _ | (refine .tail _ ?_; first | assumption | exact .head _)))))))))) (by assumption)) ?_)
                    refine J.guardYes ?_ ?_
                    · exact rfl
                    refine r_bin rfl rfl b_gtr ?_
                    refine r_pickF rfl rfl ?_
                    refine r_move rfl ?_
                    refine j_cases (t := 61) (b := ?b9) ?e9 ?_ ?_
                    case e9 => exact rfl
                    · -- t61 True
                      intro ht61
                      try simp only [decide_eq_true_eq, decide_eq_false_iff_not, beq_iff_eq, bne_iff_ne, beq_eq_false_iff_ne, bne_eq_false_iff_eq, Int.not_lt, Int.not_le, Bool.not_eq_true, ne_eq, Bool.not_eq_eq_eq_not, Bool.not_true, Bool.not_false] at ht61
                      refine J.guardNo ?_ ?_
                      · exact rfl
                      refine J.guardNo ?_ ?_
                      · exact rfl
                      refine J.guardNo ?_ ?_
                      · exact rfl
                      refine r_pickT rfl rfl ?_
                      refine r_move rfl ?_
                      refine J.guardNo ?_ ?_
                      · exact rfl
                      refine J.guardNo ?_ ?_
                      · exact rfl
                      refine J.guardNo ?_ ?_
                      · exact rfl
                      refine r_pickT rfl rfl ?_
                      refine r_assign rfl ?_
                      refine J.nil ?_
                      refine jx_then ?_
                      refine jc_condT rfl ?_
                      repeat refine jc_seq ?_
                      refine jc_region ?_
                      refine r_assign rfl ?_
                      refine J.nil ?_
                      refine jx_then ?_
                      refine jc_ret ?_
                      repeat (first | refine jx_thenRet ?_ | refine jx_blockRet ?_)
                      refine jx_body (.inr rfl) (fun B w _ => res1 rfl rfl B w) (fun w hs => ⟨(), ?_, hs.sub (by repeat (first | exact .refl | exact .nil | refine .cons (by first | exact .hd | exact .tl .hd | exact .tl (.tl .hd) | exact .tl (.tl (.tl .hd)) | exact .tl (.tl (.tl (.tl .hd))) | exact .tl (.tl (.tl (.tl (.tl .hd)))) | exact .tl (.tl (.tl (.tl (.tl (.tl .hd))))) | exact .tl (.tl (.tl (.tl (.tl (.tl (.tl .hd)))))) | exact .tl (.tl (.tl (.tl (.tl (.tl (.tl (.tl .hd)))))))) ?_ | refine .drop ?_)) (by repeat (first | exact FSub.refl | exact FSub.nil | refine FSub.cons (by first | assumption | (repeat (first | assumption | exact List.Mem.head _ | refine .tail _ ?_))) ?_ | refine FSub.drop ?_))⟩)
                      unfold msgWrong; rw [if_neg (by omega), if_pos (by omega)]
                    · -- t61 False
                      intro ht61
                      try simp only [decide_eq_true_eq, decide_eq_false_iff_not, beq_iff_eq, bne_iff_ne, beq_eq_false_iff_ne, bne_eq_false_iff_eq, Int.not_lt, Int.not_le, Bool.not_eq_true, ne_eq, Bool.not_eq_eq_eq_not, Bool.not_true, Bool.not_false] at ht61
                      refine J.guardYes ?_ ?_
                      · exact rfl
                      first | refine r_fieldAddr fo_39_6 rfl ?_ | refine r_fieldAddrE fo_39_6 rfl (by first | exact len_row (by first | exact .hd | exact .tl .hd | exact .tl (.tl .hd) | exact .tl (.tl (.tl .hd)) | exact .tl (.tl (.tl (.tl .hd))) | exact .tl (.tl (.tl (.tl (.tl .hd)))) | exact .tl (.tl (.tl (.tl (.tl (.tl .hd))))) | exact .tl (.tl (.tl (.tl (.tl (.tl (.tl .hd)))))) | exact .tl (.tl (.tl (.tl (.tl (.tl (.tl (.tl .hd)))))))) | exact len_sl (by first | assumption | exact .head _ | (refine .tail _ ?_; first | assumption | exact .head _ | (refine .tail _ ?_; first | assumption | exact .head _ | (refine .tail _ ?_; first | assumption | exact .head _ | (refine .tail _ ?_; first | assumption | exact .head _ | (refine .tail _ ?_; first | assumption | exact .head _ | (refine .tail _ ?_; first | assumption | exact .head _ | (refine .tail _ ?_; first | assumption | exact .head _ | (refine .tail _ ?_; first | assumption | exact .head _ | (refine .tail _ ?_; first | assumption | exact .head _))))))))))) (by first | assumption | omega | simp) ?_
                      refine J.guardYes ?_ ?_
                      · exact rfl
                      first
                        | (refine r_load1 Try.isAgg3 rfl (at_blk1 (by first | exact .hd | exact .tl .hd | exact .tl (.tl .hd) | exact .tl (.tl (.tl .hd)) | exact .tl (.tl (.tl (.tl .hd))) | exact .tl (.tl (.tl (.tl (.tl .hd)))) | exact .tl (.tl (.tl (.tl (.tl (.tl .hd))))) | exact .tl (.tl (.tl (.tl (.tl (.tl (.tl .hd)))))) | exact .tl (.tl (.tl (.tl (.tl (.tl (.tl (.tl .hd)))))))) (by exact rfl)) ?_)
                        | (refine r_load1 Try.isAgg3 rfl (at_int (by first | assumption | exact .head _ | (refine .tail _ ?_; first | assumption | exact .head _ | (refine .tail _ ?_; first | assumption | exact .head _ | (refine .tail _ ?_; first | assumption | exact .head _ | (refine .tail _ ?_; first | assumption | exact .head _ | (refine .tail _ ?_; first | assumption | exact .head _ | (refine .tail _ ?_; first | assumption | exact .head _ | (refine .tail _ ?_; first | assumption | exact .head _ | (refine .tail _ ?_; first | assumption | exact .head _ | (refine .tail _ ?_; first | assumption | exact .head _)))))))))) (by assumption)) ?_)
                      refine J.guardYes ?_ ?_
                      · exact rfl
                      refine r_bin rfl rfl b_lss ?_
                      refine r_pickF rfl rfl ?_
                      refine r_move rfl ?_
                      refine j_cases (t := 66) (b := ?b10) ?e10 ?_ ?_
                      case e10 => exact rfl
                      · -- t66 True
                        intro ht66
                        try simp only [decide_eq_true_eq, decide_eq_false_iff_not, beq_iff_eq, bne_iff_ne, beq_eq_false_iff_ne, bne_eq_false_iff_eq, Int.not_lt, Int.not_le, Bool.not_eq_true, ne_eq, Bool.not_eq_eq_eq_not, Bool.not_true, Bool.not_false] at ht66
                        refine J.guardNo ?_ ?_
                        · exact rfl
                        refine J.guardNo ?_ ?_
                        · exact rfl
                        refine J.guardNo ?_ ?_
                        · exact rfl
                        refine r_pickT rfl rfl ?_
                        refine r_assign rfl ?_
                        refine J.nil ?_
                        refine jx_then ?_
                        refine jc_condT rfl ?_
                        repeat refine jc_seq ?_
                        refine jc_region ?_
                        refine r_assign rfl ?_
                        refine J.nil ?_
                        refine jx_then ?_
                        refine jc_ret ?_
                        repeat (first | refine jx_thenRet ?_ | refine jx_blockRet ?_)
                        refine jx_body (.inr rfl) (fun B w _ => res1 rfl rfl B w) (fun w hs => ⟨(), ?_, hs.sub (by repeat (first | exact .refl | exact .nil | refine .cons (by first | exact .hd | exact .tl .hd | exact .tl (.tl .hd) | exact .tl (.tl (.tl .hd)) | exact .tl (.tl (.tl (.tl .hd))) | exact .tl (.tl (.tl (.tl (.tl .hd)))) | exact .tl (.tl (.tl (.tl (.tl (.tl .hd))))) | exact .tl (.tl (.tl (.tl (.tl (.tl (.tl .hd)))))) | exact .tl (.tl (.tl (.tl (.tl (.tl (.tl (.tl .hd)))))))) ?_ | refine .drop ?_)) (by repeat (first | exact FSub.refl | exact FSub.nil | refine FSub.cons (by first | assumption | (repeat (first | assumption | exact List.Mem.head _ | refine .tail _ ?_))) ?_ | refine FSub.drop ?_))⟩)
                        unfold msgWrong; rw [if_neg (by omega), if_pos (by omega)]
                      · -- t66 False
                        intro ht66
                        try simp only [decide_eq_true_eq, decide_eq_false_iff_not, beq_iff_eq, bne_iff_ne, beq_eq_false_iff_ne, bne_eq_false_iff_eq, Int.not_lt, Int.not_le, Bool.not_eq_true, ne_eq, Bool.not_eq_eq_eq_not, Bool.not_true, Bool.not_false] at ht66
                        refine J.guardYes ?_ ?_
                        · exact rfl
                        first | refine r_fieldAddr fo_39_6 rfl ?_ | refine r_fieldAddrE fo_39_6 rfl (by first | exact len_row (by first | exact .hd | exact .tl .hd | exact .tl (.tl .hd) | exact .tl (.tl (.tl .hd)) | exact .tl (.tl (.tl (.tl .hd))) | exact .tl (.tl (.tl (.tl (.tl .hd)))) | exact .tl (.tl (.tl (.tl (.tl (.tl .hd))))) | exact .tl (.tl (.tl (.tl (.tl (.tl (.tl .hd)))))) | exact .tl (.tl (.tl (.tl (.tl (.tl (.tl (.tl .hd)))))))) | exact len_sl (by first | assumption | exact .head _ | (refine .tail _ ?_; first | assumption | exact .head _ | (refine .tail _ ?_; first | assumption | exact .head _ | (refine .tail _ ?_; first | assumption | exact .head _ | (refine .tail _ ?_; first | assumption | exact .head _ | (refine .tail _ ?_; first | assumption | exact .head _ | (refine .tail _ ?_; first | assumption | exact .head _ | (refine .tail _ ?_; first | assumption | exact .head _ | (refine .tail _ ?_; first | assumption | exact .head _ | (refine .tail _ ?_; first | assumption | exact .head _))))))))))) (by first | assumption | omega | simp) ?_
                        refine J.guardYes ?_ ?_
                        · exact rfl
                        first
                          | (refine r_load1 Try.isAgg3 rfl (at_blk1 (by first | exact .hd | exact .tl .hd | exact .tl (.tl .hd) | exact .tl (.tl (.tl .hd)) | exact .tl (.tl (.tl (.tl .hd))) | exact .tl (.tl (.tl (.tl (.tl .hd)))) | exact .tl (.tl (.tl (.tl (.tl (.tl .hd))))) | exact .tl (.tl (.tl (.tl (.tl (.tl (.tl .hd)))))) | exact .tl (.tl (.tl (.tl (.tl (.tl (.tl (.tl .hd)))))))) (by exact rfl)) ?_)
                          | (refine r_load1 Try.isAgg3 rfl (at_int (by first | assumption | exact .head _ | (refine .tail _ ?_; first | assumption | exact .head _ | (refine .tail _ ?_; first | assumption | exact .head _ | (refine .tail _ ?_; first | assumption | exact .head _ | (refine .tail _ ?_; first | assumption | exact .head _ | (refine .tail _ ?_; first | assumption | exact .head _ | (refine .tail _ ?_; first | assumption | exact .head _ | (refine .tail _ ?_; first | assumption | exact .head _ | (refine .tail _ ?_; first | assumption | exact .head _ | (refine .tail _ ?_; first | assumption | exact .head _)))))))))) (by assumption)) ?_)
                        refine J.guardYes ?_ ?_
                        · exact rfl
                        refine r_bin rfl rfl b_gtr ?_
                        refine r_pickF rfl rfl ?_
                        refine r_assign rfl ?_
                        refine J.nil ?_
                        refine jx_then ?_
                        refine jc_cond rfl (fun ht16 => ?_) (fun ht16 => ?_)
                        · -- t16 True
                          try simp only [decide_eq_true_eq, decide_eq_false_iff_not, beq_iff_eq, bne_iff_ne, beq_eq_false_iff_ne, bne_eq_false_iff_eq, Int.not_lt, Int.not_le, Bool.not_eq_true, ne_eq, Bool.not_eq_eq_eq_not, Bool.not_true, Bool.not_false] at ht16
                          repeat refine jc_seq ?_
                          refine jc_region ?_
                          refine r_assign rfl ?_
                          refine J.nil ?_
                          refine jx_then ?_
                          refine jc_ret ?_
                          repeat (first | refine jx_thenRet ?_ | refine jx_blockRet ?_)
                          refine jx_body (.inr rfl) (fun B w _ => res1 rfl rfl B w) (fun w hs => ⟨(), ?_, hs.sub (by repeat (first | exact .refl | exact .nil | refine .cons (by first | exact .hd | exact .tl .hd | exact .tl (.tl .hd) | exact .tl (.tl (.tl .hd)) | exact .tl (.tl (.tl (.tl .hd))) | exact .tl (.tl (.tl (.tl (.tl .hd)))) | exact .tl (.tl (.tl (.tl (.tl (.tl .hd))))) | exact .tl (.tl (.tl (.tl (.tl (.tl (.tl .hd)))))) | exact .tl (.tl (.tl (.tl (.tl (.tl (.tl (.tl .hd)))))))) ?_ | refine .drop ?_)) (by repeat (first | exact FSub.refl | exact FSub.nil | refine FSub.cons (by first | assumption | (repeat (first | assumption | exact List.Mem.head _ | refine .tail _ ?_))) ?_ | refine FSub.drop ?_))⟩)
                          unfold msgWrong; rw [if_neg (by omega), if_pos (by omega)]
                        · -- t16 False
                          try simp only [decide_eq_true_eq, decide_eq_false_iff_not, beq_iff_eq, bne_iff_ne, beq_eq_false_iff_ne, bne_eq_false_iff_eq, Int.not_lt, Int.not_le, Bool.not_eq_true, ne_eq, Bool.not_eq_eq_eq_not, Bool.not_true, Bool.not_false] at ht16
                          repeat refine jc_seq ?_
                          refine jc_region ?_
                          first | refine r_fieldAddr fo_39_1 rfl ?_ | refine r_fieldAddrE fo_39_1 rfl (by first | exact len_row (by first | exact .hd | exact .tl .hd | exact .tl (.tl .hd) | exact .tl (.tl (.tl .hd)) | exact .tl (.tl (.tl (.tl .hd))) | exact .tl (.tl (.tl (.tl (.tl .hd)))) | exact .tl (.tl (.tl (.tl (.tl (.tl .hd))))) | exact .tl (.tl (.tl (.tl (.tl (.tl (.tl .hd)))))) | exact .tl (.tl (.tl (.tl (.tl (.tl (.tl (.tl .hd)))))))) | exact len_sl (by first | assumption | exact .head _ | (refine .tail _ ?_; first | assumption | exact .head _ | (refine .tail _ ?_; first | assumption | exact .head _ | (refine .tail _ ?_; first | assumption | exact .head _ | (refine .tail _ ?_; first | assumption | exact .head _ | (refine .tail _ ?_; first | assumption | exact .head _ | (refine .tail _ ?_; first | assumption | exact .head _ | (refine .tail _ ?_; first | assumption | exact .head _ | (refine .tail _ ?_; first | assumption | exact .head _ | (refine .tail _ ?_; first | assumption | exact .head _))))))))))) (by first | assumption | omega | simp) ?_
                          first
                            | (refine r_load1 Try.isAgg3 rfl (at_blk1 (by first | exact .hd | exact .tl .hd | exact .tl (.tl .hd) | exact .tl (.tl (.tl .hd)) | exact .tl (.tl (.tl (.tl .hd))) | exact .tl (.tl (.tl (.tl (.tl .hd)))) | exact .tl (.tl (.tl (.tl (.tl (.tl .hd))))) | exact .tl (.tl (.tl (.tl (.tl (.tl (.tl .hd)))))) | exact .tl (.tl (.tl (.tl (.tl (.tl (.tl (.tl .hd)))))))) (by exact rfl)) ?_)
                            | (refine r_load1 Try.isAgg3 rfl (at_int (by first | assumption | exact .head _ | (refine .tail _ ?_; first | assumption | exact .head _ | (refine .tail _ ?_; first | assumption | exact .head _ | (refine .tail _ ?_; first | assumption | exact .head _ | (refine .tail _ ?_; first | assumption | exact .head _ | (refine .tail _ ?_; first | assumption | exact .head _ | (refine .tail _ ?_; first | assumption | exact .head _ | (refine .tail _ ?_; first | assumption | exact .head _ | (refine .tail _ ?_; first | assumption | exact .head _ | (refine .tail _ ?_; first | assumption | exact .head _)))))))))) (by assumption)) ?_)
                          first | refine r_fieldAddr fo_37_0 rfl ?_ | refine r_fieldAddrE fo_37_0 rfl (by first | exact len_row (by first | exact .hd | exact .tl .hd | exact .tl (.tl .hd) | exact .tl (.tl (.tl .hd)) | exact .tl (.tl (.tl (.tl .hd))) | exact .tl (.tl (.tl (.tl (.tl .hd)))) | exact .tl (.tl (.tl (.tl (.tl (.tl .hd))))) | exact .tl (.tl (.tl (.tl (.tl (.tl (.tl .hd)))))) | exact .tl (.tl (.tl (.tl (.tl (.tl (.tl (.tl .hd)))))))) | exact len_sl (by first | assumption | exact .head _ | (refine .tail _ ?_; first | assumption | exact .head _ | (refine .tail _ ?_; first | assumption | exact .head _ | (refine .tail _ ?_; first | assumption | exact .head _ | (refine .tail _ ?_; first | assumption | exact .head _ | (refine .tail _ ?_; first | assumption | exact .head _ | (refine .tail _ ?_; first | assumption | exact .head _ | (refine .tail _ ?_; first | assumption | exact .head _ | (refine .tail _ ?_; first | assumption | exact .head _ | (refine .tail _ ?_; first | assumption | exact .head _))))))))))) (by first | assumption | omega | simp) ?_
                          first
                            | (refine r_load1 Try.isAgg3 rfl (at_blk1 (by first | exact .hd | exact .tl .hd | exact .tl (.tl .hd) | exact .tl (.tl (.tl .hd)) | exact .tl (.tl (.tl (.tl .hd))) | exact .tl (.tl (.tl (.tl (.tl .hd)))) | exact .tl (.tl (.tl (.tl (.tl (.tl .hd))))) | exact .tl (.tl (.tl (.tl (.tl (.tl (.tl .hd)))))) | exact .tl (.tl (.tl (.tl (.tl (.tl (.tl (.tl .hd)))))))) (by exact rfl)) ?_)
                            | (refine r_load1 Try.isAgg3 rfl (at_int (by first | assumption | exact .head _ | (refine .tail _ ?_; first | assumption | exact .head _ | (refine .tail _ ?_; first | assumption | exact .head _ | (refine .tail _ ?_; first | assumption | exact .head _ | (refine .tail _ ?_; first | assumption | exact .head _ | (refine .tail _ ?_; first | assumption | exact .head _ | (refine .tail _ ?_; first | assumption | exact .head _ | (refine .tail _ ?_; first | assumption | exact .head _ | (refine .tail _ ?_; first | assumption | exact .head _ | (refine .tail _ ?_; first | assumption | exact .head _)))))))))) (by assumption)) ?_)
                          refine r_bin rfl rfl b_eql ?_
                          first | refine r_fieldAddr fo_39_2 rfl ?_ | refine r_fieldAddrE fo_39_2 rfl (by first | exact len_row (by first | exact .hd | exact .tl .hd | exact .tl (.tl .hd) | exact .tl (.tl (.tl .hd)) | exact .tl (.tl (.tl (.tl .hd))) | exact .tl (.tl (.tl (.tl (.tl .hd)))) | exact .tl (.tl (.tl (.tl (.tl (.tl .hd))))) | exact .tl (.tl (.tl (.tl (.tl (.tl (.tl .hd)))))) | exact .tl (.tl (.tl (.tl (.tl (.tl (.tl (.tl .hd)))))))) | exact len_sl (by first | assumption | exact .head _ | (refine .tail _ ?_; first | assumption | exact .head _ | (refine .tail _ ?_; first | assumption | exact .head _ | (refine .tail _ ?_; first | assumption | exact .head _ | (refine .tail _ ?_; first | assumption | exact .head _ | (refine .tail _ ?_; first | assumption | exact .head _ | (refine .tail _ ?_; first | assumption | exact .head _ | (refine .tail _ ?_; first | assumption | exact .head _ | (refine .tail _ ?_; first | assumption | exact .head _ | (refine .tail _ ?_; first | assumption | exact .head _))))))))))) (by first | assumption | omega | simp) ?_
                          first
                            | (refine r_load1 Try.isAgg3 rfl (at_blk1 (by first | exact .hd | exact .tl .hd | exact .tl (.tl .hd) | exact .tl (.tl (.tl .hd)) | exact .tl (.tl (.tl (.tl .hd))) | exact .tl (.tl (.tl (.tl (.tl .hd)))) | exact .tl (.tl (.tl (.tl (.tl (.tl .hd))))) | exact .tl (.tl (.tl (.tl (.tl (.tl (.tl .hd)))))) | exact .tl (.tl (.tl (.tl (.tl (.tl (.tl (.tl .hd)))))))) (by exact rfl)) ?_)
                            | (refine r_load1 Try.isAgg3 rfl (at_int (by first | assumption | exact .head _ | (refine .tail _ ?_; first | assumption | exact .head _ | (refine .tail _ ?_; first | assumption | exact .head _ | (refine .tail _ ?_; first | assumption | exact .head _ | (refine .tail _ ?_; first | assumption | exact .head _ | (refine .tail _ ?_; first | assumption | exact .head _ | (refine .tail _ ?_; first | assumption | exact .head _ | (refine .tail _ ?_; first | assumption | exact .head _ | (refine .tail _ ?_; first | assumption | exact .head _ | (refine .tail _ ?_; first | assumption | exact .head _)))))))))) (by assumption)) ?_)
                          first | refine r_fieldAddr fo_37_0 rfl ?_ | refine r_fieldAddrE fo_37_0 rfl (by first | exact len_row (by first | exact .hd | exact .tl .hd | exact .tl (.tl .hd) | exact .tl (.tl (.tl .hd)) | exact .tl (.tl (.tl (.tl .hd))) | exact .tl (.tl (.tl (.tl (.tl .hd)))) | exact .tl (.tl (.tl (.tl (.tl (.tl .hd))))) | exact .tl (.tl (.tl (.tl (.tl (.tl (.tl .hd)))))) | exact .tl (.tl (.tl (.tl (.tl (.tl (.tl (.tl .hd)))))))) | exact len_sl (by first | assumption | exact .head _ | (refine .tail _ ?_; first | assumption | exact .head _ | (refine .tail _ ?_; first | assumption | exact .head _ | (refine .tail _ ?_; first | assumption | exact .head _ | (refine .tail _ ?_; first | assumption | exact .head _ | (refine .tail _ ?_; first | assumption | exact .head _ | (refine .tail _ ?_; first | assumption | exact .head _ | (refine .tail _ ?_; first | assumption | exact .head _ | (refine .tail _ ?_; first | assumption | exact .head _ | (refine .tail _ ?_; first | assumption | exact .head _))))))))))) (by first | assumption | omega | simp) ?_
                          first
                            | (refine r_load1 Try.isAgg3 rfl (at_blk1 (by first | exact .hd | exact .tl .hd | exact .tl (.tl .hd) | exact .tl (.tl (.tl .hd)) | exact .tl (.tl (.tl (.tl .hd))) | exact .tl (.tl (.tl (.tl (.tl .hd)))) | exact .tl (.tl (.tl (.tl (.tl (.tl .hd))))) | exact .tl (.tl (.tl (.tl (.tl (.tl (.tl .hd)))))) | exact .tl (.tl (.tl (.tl (.tl (.tl (.tl (.tl .hd)))))))) (by exact rfl)) ?_)
                            | (refine r_load1 Try.isAgg3 rfl (at_int (by first | assumption | exact .head _ | (refine .tail _ ?_; first | assumption | exact .head _ | (refine .tail _ ?_; first | assumption | exact .head _ | (refine .tail _ ?_; first | assumption | exact .head _ | (refine .tail _ ?_; first | assumption | exact .head _ | (refine .tail _ ?_; first | assumption | exact .head _ | (refine .tail _ ?_; first | assumption | exact .head _ | (refine .tail _ ?_; first | assumption | exact .head _ | (refine .tail _ ?_; first | assumption | exact .head _ | (refine .tail _ ?_; first | assumption | exact .head _)))))))))) (by assumption)) ?_)
                          refine r_bin rfl rfl b_eql ?_
                          refine r_p (p_bool rfl rfl (b_booleq Try.underlying4)) rfl ?_
                          refine r_assign rfl ?_
                          refine J.nil ?_
                          refine jx_then ?_
                          refine jc_cond rfl (fun ht71 => ?_) (fun ht71 => ?_)
                          · -- t71 True
                            try simp only [decide_eq_true_eq, decide_eq_false_iff_not, beq_iff_eq, bne_iff_ne, beq_eq_false_iff_ne, bne_eq_false_iff_eq, Int.not_lt, Int.not_le, Bool.not_eq_true, ne_eq, Bool.not_eq_eq_eq_not, Bool.not_true, Bool.not_false] at ht71
                            replace ht71 : (m.src = c.cores ↔ m.dst = c.cores) := beq_iff2.1 ht71
                            repeat refine jc_seq ?_
                            refine jc_region ?_
                            refine r_assign rfl ?_
                            refine J.nil ?_
                            refine jx_then ?_
                            refine jc_ret ?_
                            repeat (first | refine jx_thenRet ?_ | refine jx_blockRet ?_)
                            refine jx_body (.inr rfl) (fun B w _ => res1 rfl rfl B w) (fun w hs => ⟨(), ?_, hs.sub (by repeat (first | exact .refl | exact .nil | refine .cons (by first | exact .hd | exact .tl .hd | exact .tl (.tl .hd) | exact .tl (.tl (.tl .hd)) | exact .tl (.tl (.tl (.tl .hd))) | exact .tl (.tl (.tl (.tl (.tl .hd)))) | exact .tl (.tl (.tl (.tl (.tl (.tl .hd))))) | exact .tl (.tl (.tl (.tl (.tl (.tl (.tl .hd)))))) | exact .tl (.tl (.tl (.tl (.tl (.tl (.tl (.tl .hd)))))))) ?_ | refine .drop ?_)) (by repeat (first | exact FSub.refl | exact FSub.nil | refine FSub.cons (by first | assumption | (repeat (first | assumption | exact List.Mem.head _ | refine .tail _ ?_))) ?_ | refine FSub.drop ?_))⟩)
                            unfold msgWrong; rw [if_neg (by omega), if_neg (by omega), if_pos ht71]
                          · -- t71 False
                            try simp only [decide_eq_true_eq, decide_eq_false_iff_not, beq_iff_eq, bne_iff_ne, beq_eq_false_iff_ne, bne_eq_false_iff_eq, Int.not_lt, Int.not_le, Bool.not_eq_true, ne_eq, Bool.not_eq_eq_eq_not, Bool.not_true, Bool.not_false] at ht71
                            replace ht71 : ¬ (m.src = c.cores ↔ m.dst = c.cores) := fun h => ht71 (beq_iff2.2 h)
                            refine jc_skip ?_
                            refine jx_block ?_
                            refine jx_then ?_
                            repeat refine jc_seq ?_
                            refine jc_region ?_
                            refine r_assign rfl ?_
                            refine J.nil ?_
                            refine jx_then ?_
                            refine jc_ret ?_
                            repeat (first | refine jx_thenRet ?_ | refine jx_blockRet ?_)
                            refine jx_body (.inr rfl) (fun B w _ => res1 rfl rfl B w) (fun w hs => ⟨(), ?_, hs.sub (by repeat (first | exact .refl | exact .nil | refine .cons (by first | exact .hd | exact .tl .hd | exact .tl (.tl .hd) | exact .tl (.tl (.tl .hd)) | exact .tl (.tl (.tl (.tl .hd))) | exact .tl (.tl (.tl (.tl (.tl .hd)))) | exact .tl (.tl (.tl (.tl (.tl (.tl .hd))))) | exact .tl (.tl (.tl (.tl (.tl (.tl (.tl .hd)))))) | exact .tl (.tl (.tl (.tl (.tl (.tl (.tl (.tl .hd)))))))) ?_ | refine .drop ?_)) (by repeat (first | exact FSub.refl | exact FSub.nil | refine FSub.cons (by first | assumption | (repeat (first | assumption | exact List.Mem.head _ | refine .tail _ ?_))) ?_ | refine FSub.drop ?_))⟩)
                            unfold msgWrong; rw [if_neg (by omega), if_neg (by omega), if_neg ht71]
theorem refWrong_calls {L : List Chunk} {R : List Fact} {w : World} {c : Config} {m : Msg} (hs : St L R w) (hc : c.wf) (hm : m.wf) : Calls Try.prog 49 [.agg c.cells.toArray, .agg m.cells.toArray].toArray w (Post (fun _ : Unit => vi (msgWrong c m)) (fun _ => L) (fun _ => R)) := by
  refine calls_args Try.func49 rfl Try.ntmps49 rfl hs ?_
  clear hs
  repeat refine jc_seq ?_
  refine jc_region ?_
  refine r_box rfl rfl ?_; intro b2
  refine r_box rfl rfl ?_; intro b3
  refine r_assign rfl ?_
  refine J.nil ?_
  refine jx_then ?_
  repeat refine jc_seq ?_
  refine jc_region ?_
  first | refine r_fieldAddr fo_39_0 rfl ?_ | refine r_fieldAddrE fo_39_0 rfl (by first | exact len_row (by first | exact .hd | exact .tl .hd | exact .tl (.tl .hd) | exact .tl (.tl (.tl .hd)) | exact .tl (.tl (.tl (.tl .hd))) | exact .tl (.tl (.tl (.tl (.tl .hd)))) | exact .tl (.tl (.tl (.tl (.tl (.tl .hd))))) | exact .tl (.tl (.tl (.tl (.tl (.tl (.tl .hd)))))) | exact .tl (.tl (.tl (.tl (.tl (.tl (.tl (.tl .hd)))))))) | exact len_sl (by first | assumption | exact .head _ | (refine .tail _ ?_; first | assumption | exact .head _ | (refine .tail _ ?_; first | assumption | exact .head _ | (refine .tail _ ?_; first | assumption | exact .head _ | (refine .tail _ ?_; first | assumption | exact .head _ | (refine .tail _ ?_; first | assumption | exact .head _ | (refine .tail _ ?_; first | assumption | exact .head _ | (refine .tail _ ?_; first | assumption | exact .head _ | (refine .tail _ ?_; first | assumption | exact .head _ | (refine .tail _ ?_; first | assumption | exact .head _))))))))))) (by first | assumption | omega | simp) ?_
  first
    | (refine r_load1 Try.isAgg3 rfl (at_blk1 (by first | exact .hd | exact .tl .hd | exact .tl (.tl .hd) | exact .tl (.tl (.tl .hd)) | exact .tl (.tl (.tl (.tl .hd))) | exact .tl (.tl (.tl (.tl (.tl .hd)))) | exact .tl (.tl (.tl (.tl (.tl (.tl .hd))))) | exact .tl (.tl (.tl (.tl (.tl (.tl (.tl .hd)))))) | exact .tl (.tl (.tl (.tl (.tl (.tl (.tl (.tl .hd)))))))) (by exact rfl)) ?_)
    | (refine r_load1 Try.isAgg3 rfl (at_int (by first | assumption | exact .head _ | (refine .tail _ ?_; first | assumption | exact .head _ | (refine .tail _ ?_; first | assumption | exact .head _ | (refine .tail _ ?_; first | assumption | exact .head _ | (refine .tail _ ?_; first | assumption | exact .head _ | (refine .tail _ ?_; first | assumption | exact .head _ | (refine .tail _ ?_; first | assumption | exact .head _ | (refine .tail _ ?_; first | assumption | exact .head _ | (refine .tail _ ?_; first | assumption | exact .head _ | (refine .tail _ ?_; first | assumption | exact .head _)))))))))) (by assumption)) ?_)
  refine r_bin rfl rfl b_lss ?_
  refine r_move rfl ?_
  refine j_cases (t := 10) (b := ?b1) ?e1 ?_ ?_
  case e1 => exact rfl
  · -- t10 True
    intro ht10
    try simp only [decide_eq_true_eq, decide_eq_false_iff_not, beq_iff_eq, bne_iff_ne, beq_eq_false_iff_ne, bne_eq_false_iff_eq, Int.not_lt, Int.not_le, Bool.not_eq_true, ne_eq, Bool.not_eq_eq_eq_not, Bool.not_true, Bool.not_false] at ht10
    refine J.guardNo ?_ ?_
    · exact rfl
    refine J.guardNo ?_ ?_
    · exact rfl
    refine J.guardNo ?_ ?_
    · exact rfl
    refine r_pickT rfl rfl ?_
    refine J.nil ?_
    refine jx_then ?_
    repeat refine jc_seq ?_
    refine jc_condT rfl ?_
    repeat refine jc_seq ?_
    refine jc_region ?_
    refine r_assign rfl ?_
    refine J.nil ?_
    refine jx_then ?_
    refine jc_ret ?_
    repeat (first | refine jx_thenRet ?_ | refine jx_blockRet ?_)
    refine jx_body (.inr rfl) (fun B w _ => res1 rfl rfl B w) (fun w hs => ⟨(), ?_, hs.sub (by repeat (first | exact .refl | exact .nil | refine .cons (by first | exact .hd | exact .tl .hd | exact .tl (.tl .hd) | exact .tl (.tl (.tl .hd)) | exact .tl (.tl (.tl (.tl .hd))) | exact .tl (.tl (.tl (.tl (.tl .hd)))) | exact .tl (.tl (.tl (.tl (.tl (.tl .hd))))) | exact .tl (.tl (.tl (.tl (.tl (.tl (.tl .hd)))))) | exact .tl (.tl (.tl (.tl (.tl (.tl (.tl (.tl .hd)))))))) ?_ | refine .drop ?_)) (by repeat (first | exact FSub.refl | exact FSub.nil | refine FSub.cons (by first | assumption | (repeat (first | assumption | exact List.Mem.head _ | refine .tail _ ?_))) ?_ | refine FSub.drop ?_))⟩)
    unfold msgWrong; rw [if_pos (by omega)]
  · -- t10 False
    intro ht10
    try simp only [decide_eq_true_eq, decide_eq_false_iff_not, beq_iff_eq, bne_iff_ne, beq_eq_false_iff_ne, bne_eq_false_iff_eq, Int.not_lt, Int.not_le, Bool.not_eq_true, ne_eq, Bool.not_eq_eq_eq_not, Bool.not_true, Bool.not_false] at ht10
    refine J.guardYes ?_ ?_
    · exact rfl
    first | refine r_fieldAddr fo_39_0 rfl ?_ | refine r_fieldAddrE fo_39_0 rfl (by first | exact len_row (by first | exact .hd | exact .tl .hd | exact .tl (.tl .hd) | exact .tl (.tl (.tl .hd)) | exact .tl (.tl (.tl (.tl .hd))) | exact .tl (.tl (.tl (.tl (.tl .hd)))) | exact .tl (.tl (.tl (.tl (.tl (.tl .hd))))) | exact .tl (.tl (.tl (.tl (.tl (.tl (.tl .hd)))))) | exact .tl (.tl (.tl (.tl (.tl (.tl (.tl (.tl .hd)))))))) | exact len_sl (by first | assumption | exact .head _ | (refine .tail _ ?_; first | assumption | exact .head _ | (refine .tail _ ?_; first | assumption | exact .head _ | (refine .tail _ ?_; first | assumption | exact .head _ | (refine .tail _ ?_; first | assumption | exact .head _ | (refine .tail _ ?_; first | assumption | exact .head _ | (refine .tail _ ?_; first | assumption | exact .head _ | (refine .tail _ ?_; first | assumption | exact .head _ | (refine .tail _ ?_; first | assumption | exact .head _ | (refine .tail _ ?_; first | assumption | exact .head _))))))))))) (by first | assumption | omega | simp) ?_
    refine J.guardYes ?_ ?_
    · exact rfl
    first
      | (refine r_load1 Try.isAgg3 rfl (at_blk1 (by first | exact .hd | exact .tl .hd | exact .tl (.tl .hd) | exact .tl (.tl (.tl .hd)) | exact .tl (.tl (.tl (.tl .hd))) | exact .tl (.tl (.tl (.tl (.tl .hd)))) | exact .tl (.tl (.tl (.tl (.tl (.tl .hd))))) | exact .tl (.tl (.tl (.tl (.tl (.tl (.tl .hd)))))) | exact .tl (.tl (.tl (.tl (.tl (.tl (.tl (.tl .hd)))))))) (by exact rfl)) ?_)
      | (refine r_load1 Try.isAgg3 rfl (at_int (by first | assumption | exact .head _ | (refine .tail _ ?_; first | assumption | exact .head _ | (refine .tail _ ?_; first | assumption | exact .head _ | (refine .tail _ ?_; first | assumption | exact .head _ | (refine .tail _ ?_; first | assumption | exact .head _ | (refine .tail _ ?_; first | assumption | exact .head _ | (refine .tail _ ?_; first | assumption | exact .head _ | (refine .tail _ ?_; first | assumption | exact .head _ | (refine .tail _ ?_; first | assumption | exact .head _ | (refine .tail _ ?_; first | assumption | exact .head _)))))))))) (by assumption)) ?_)
    refine J.guardYes ?_ ?_
    · exact rfl
    refine r_bin rfl rfl b_gtr ?_
    refine r_pickF rfl rfl ?_
    refine J.nil ?_
    refine jx_then ?_
    repeat refine jc_seq ?_
    refine jc_cond rfl (fun ht14 => ?_) (fun ht14 => ?_)
    · -- t14 True
      try simp only [decide_eq_true_eq, decide_eq_false_iff_not, beq_iff_eq, bne_iff_ne, beq_eq_false_iff_ne, bne_eq_false_iff_eq, Int.not_lt, Int.not_le, Bool.not_eq_true, ne_eq, Bool.not_eq_eq_eq_not, Bool.not_true, Bool.not_false] at ht14
      repeat refine jc_seq ?_
      refine jc_region ?_
      refine r_assign rfl ?_
      refine J.nil ?_
      refine jx_then ?_
      refine jc_ret ?_
      repeat (first | refine jx_thenRet ?_ | refine jx_blockRet ?_)
      refine jx_body (.inr rfl) (fun B w _ => res1 rfl rfl B w) (fun w hs => ⟨(), ?_, hs.sub (by repeat (first | exact .refl | exact .nil | refine .cons (by first | exact .hd | exact .tl .hd | exact .tl (.tl .hd) | exact .tl (.tl (.tl .hd)) | exact .tl (.tl (.tl (.tl .hd))) | exact .tl (.tl (.tl (.tl (.tl .hd)))) | exact .tl (.tl (.tl (.tl (.tl (.tl .hd))))) | exact .tl (.tl (.tl (.tl (.tl (.tl (.tl .hd)))))) | exact .tl (.tl (.tl (.tl (.tl (.tl (.tl (.tl .hd)))))))) ?_ | refine .drop ?_)) (by repeat (first | exact FSub.refl | exact FSub.nil | refine FSub.cons (by first | assumption | (repeat (first | assumption | exact List.Mem.head _ | refine .tail _ ?_))) ?_ | refine FSub.drop ?_))⟩)
      unfold msgWrong; rw [if_pos (by omega)]
    · -- t14 False
      try simp only [decide_eq_true_eq, decide_eq_false_iff_not, beq_iff_eq, bne_iff_ne, beq_eq_false_iff_ne, bne_eq_false_iff_eq, Int.not_lt, Int.not_le, Bool.not_eq_true, ne_eq, Bool.not_eq_eq_eq_not, Bool.not_true, Bool.not_false] at ht14
      refine jc_skip ?_
      refine jx_then ?_
      repeat refine jc_seq ?_
      refine jc_region ?_
      first | refine r_fieldAddr fo_39_1 rfl ?_ | refine r_fieldAddrE fo_39_1 rfl (by first | exact len_row (by first | exact .hd | exact .tl .hd | exact .tl (.tl .hd) | exact .tl (.tl (.tl .hd)) | exact .tl (.tl (.tl (.tl .hd))) | exact .tl (.tl (.tl (.tl (.tl .hd)))) | exact .tl (.tl (.tl (.tl (.tl (.tl .hd))))) | exact .tl (.tl (.tl (.tl (.tl (.tl (.tl .hd)))))) | exact .tl (.tl (.tl (.tl (.tl (.tl (.tl (.tl .hd)))))))) | exact len_sl (by first | assumption | exact .head _ | (refine .tail _ ?_; first | assumption | exact .head _ | (refine .tail _ ?_; first | assumption | exact .head _ | (refine .tail _ ?_; first | assumption | exact .head _ | (refine .tail _ ?_; first | assumption | exact .head _ | (refine .tail _ ?_; first | assumption | exact .head _ | (refine .tail _ ?_; first | assumption | exact .head _ | (refine .tail _ ?_; first | assumption | exact .head _ | (refine .tail _ ?_; first | assumption | exact .head _ | (refine .tail _ ?_; first | assumption | exact .head _))))))))))) (by first | assumption | omega | simp) ?_
      first
        | (refine r_load1 Try.isAgg3 rfl (at_blk1 (by first | exact .hd | exact .tl .hd | exact .tl (.tl .hd) | exact .tl (.tl (.tl .hd)) | exact .tl (.tl (.tl (.tl .hd))) | exact .tl (.tl (.tl (.tl (.tl .hd)))) | exact .tl (.tl (.tl (.tl (.tl (.tl .hd))))) | exact .tl (.tl (.tl (.tl (.tl (.tl (.tl .hd)))))) | exact .tl (.tl (.tl (.tl (.tl (.tl (.tl (.tl .hd)))))))) (by exact rfl)) ?_)
        | (refine r_load1 Try.isAgg3 rfl (at_int (by first | assumption | exact .head _ | (refine .tail _ ?_; first | assumption | exact .head _ | (refine .tail _ ?_; first | assumption | exact .head _ | (refine .tail _ ?_; first | assumption | exact .head _ | (refine .tail _ ?_; first | assumption | exact .head _ | (refine .tail _ ?_; first | assumption | exact .head _ | (refine .tail _ ?_; first | assumption | exact .head _ | (refine .tail _ ?_; first | assumption | exact .head _ | (refine .tail _ ?_; first | assumption | exact .head _ | (refine .tail _ ?_; first | assumption | exact .head _)))))))))) (by assumption)) ?_)
      first | refine r_fieldAddr fo_37_0 rfl ?_ | refine r_fieldAddrE fo_37_0 rfl (by first | exact len_row (by first | exact .hd | exact .tl .hd | exact .tl (.tl .hd) | exact .tl (.tl (.tl .hd)) | exact .tl (.tl (.tl (.tl .hd))) | exact .tl (.tl (.tl (.tl (.tl .hd)))) | exact .tl (.tl (.tl (.tl (.tl (.tl .hd))))) | exact .tl (.tl (.tl (.tl (.tl (.tl (.tl .hd)))))) | exact .tl (.tl (.tl (.tl (.tl (.tl (.tl (.tl .hd)))))))) | exact len_sl (by first | assumption | exact .head _ | (refine .tail _ ?_; first | assumption | exact .head _ | (refine .tail _ ?_; first | assumption | exact .head _ | (refine .tail _ ?_; first | assumption | exact .head _ | (refine .tail _ ?_; first | assumption | exact .head _ | (refine .tail _ ?_; first | assumption | exact .head _ | (refine .tail _ ?_; first | assumption | exact .head _ | (refine .tail _ ?_; first | assumption | exact .head _ | (refine .tail _ ?_; first | assumption | exact .head _ | (refine .tail _ ?_; first | assumption | exact .head _))))))))))) (by first | assumption | omega | simp) ?_
      first
        | (refine r_load1 Try.isAgg3 rfl (at_blk1 (by first | exact .hd | exact .tl .hd | exact .tl (.tl .hd) | exact .tl (.tl (.tl .hd)) | exact .tl (.tl (.tl (.tl .hd))) | exact .tl (.tl (.tl (.tl (.tl .hd)))) | exact .tl (.tl (.tl (.tl (.tl (.tl .hd))))) | exact .tl (.tl (.tl (.tl (.tl (.tl (.tl .hd)))))) | exact .tl (.tl (.tl (.tl (.tl (.tl (.tl (.tl .hd)))))))) (by exact rfl)) ?_)
        | (refine r_load1 Try.isAgg3 rfl (at_int (by first | assumption | exact .head _ | (refine .tail _ ?_; first | assumption | exact .head _ | (refine .tail _ ?_; first | assumption | exact .head _ | (refine .tail _ ?_; first | assumption | exact .head _ | (refine .tail _ ?_; first | assumption | exact .head _ | (refine .tail _ ?_; first | assumption | exact .head _ | (refine .tail _ ?_; first | assumption | exact .head _ | (refine .tail _ ?_; first | assumption | exact .head _ | (refine .tail _ ?_; first | assumption | exact .head _ | (refine .tail _ ?_; first | assumption | exact .head _)))))))))) (by assumption)) ?_)
      refine r_p (p_buildP Try.underlying146 Try.sizeOf3 Try.zeroValue146 rfl rfl) rfl ?_
      first | refine r_fieldAddr fo_39_2 rfl ?_ | refine r_fieldAddrE fo_39_2 rfl (by first | exact len_row (by first | exact .hd | exact .tl .hd | exact .tl (.tl .hd) | exact .tl (.tl (.tl .hd)) | exact .tl (.tl (.tl (.tl .hd))) | exact .tl (.tl (.tl (.tl (.tl .hd)))) | exact .tl (.tl (.tl (.tl (.tl (.tl .hd))))) | exact .tl (.tl (.tl (.tl (.tl (.tl (.tl .hd)))))) | exact .tl (.tl (.tl (.tl (.tl (.tl (.tl (.tl .hd)))))))) | exact len_sl (by first | assumption | exact .head _ | (refine .tail _ ?_; first | assumption | exact .head _ | (refine .tail _ ?_; first | assumption | exact .head _ | (refine .tail _ ?_; first | assumption | exact .head _ | (refine .tail _ ?_; first | assumption | exact .head _ | (refine .tail _ ?_; first | assumption | exact .head _ | (refine .tail _ ?_; first | assumption | exact .head _ | (refine .tail _ ?_; first | assumption | exact .head _ | (refine .tail _ ?_; first | assumption | exact .head _ | (refine .tail _ ?_; first | assumption | exact .head _))))))))))) (by first | assumption | omega | simp) ?_
      first
        | (refine r_load1 Try.isAgg3 rfl (at_blk1 (by first | exact .hd | exact .tl .hd | exact .tl (.tl .hd) | exact .tl (.tl (.tl .hd)) | exact .tl (.tl (.tl (.tl .hd))) | exact .tl (.tl (.tl (.tl (.tl .hd)))) | exact .tl (.tl (.tl (.tl (.tl (.tl .hd))))) | exact .tl (.tl (.tl (.tl (.tl (.tl (.tl .hd)))))) | exact .tl (.tl (.tl (.tl (.tl (.tl (.tl (.tl .hd)))))))) (by exact rfl)) ?_)
        | (refine r_load1 Try.isAgg3 rfl (at_int (by first | assumption | exact .head _ | (refine .tail _ ?_; first | assumption | exact .head _ | (refine .tail _ ?_; first | assumption | exact .head _ | (refine .tail _ ?_; first | assumption | exact .head _ | (refine .tail _ ?_; first | assumption | exact .head _ | (refine .tail _ ?_; first | assumption | exact .head _ | (refine .tail _ ?_; first | assumption | exact .head _ | (refine .tail _ ?_; first | assumption | exact .head _ | (refine .tail _ ?_; first | assumption | exact .head _ | (refine .tail _ ?_; first | assumption | exact .head _)))))))))) (by assumption)) ?_)
      first | refine r_fieldAddr fo_37_0 rfl ?_ | refine r_fieldAddrE fo_37_0 rfl (by first | exact len_row (by first | exact .hd | exact .tl .hd | exact .tl (.tl .hd) | exact .tl (.tl (.tl .hd)) | exact .tl (.tl (.tl (.tl .hd))) | exact .tl (.tl (.tl (.tl (.tl .hd)))) | exact .tl (.tl (.tl (.tl (.tl (.tl .hd))))) | exact .tl (.tl (.tl (.tl (.tl (.tl (.tl .hd)))))) | exact .tl (.tl (.tl (.tl (.tl (.tl (.tl (.tl .hd)))))))) | exact len_sl (by first | assumption | exact .head _ | (refine .tail _ ?_; first | assumption | exact .head _ | (refine .tail _ ?_; first | assumption | exact .head _ | (refine .tail _ ?_; first | assumption | exact .head _ | (refine .tail _ ?_; first | assumption | exact .head _ | (refine .tail _ ?_; first | assumption | exact .head _ | (refine .tail _ ?_; first | assumption | exact .head _ | (refine .tail _ ?_; first | assumption | exact .head _ | (refine .tail _ ?_; first | assumption | exact .head _ | (refine .tail _ ?_; first | assumption | exact .head _))))))))))) (by first | assumption | omega | simp) ?_
      first
        | (refine r_load1 Try.isAgg3 rfl (at_blk1 (by first | exact .hd | exact .tl .hd | exact .tl (.tl .hd) | exact .tl (.tl (.tl .hd)) | exact .tl (.tl (.tl (.tl .hd))) | exact .tl (.tl (.tl (.tl (.tl .hd)))) | exact .tl (.tl (.tl (.tl (.tl (.tl .hd))))) | exact .tl (.tl (.tl (.tl (.tl (.tl (.tl .hd)))))) | exact .tl (.tl (.tl (.tl (.tl (.tl (.tl (.tl .hd)))))))) (by exact rfl)) ?_)
        | (refine r_load1 Try.isAgg3 rfl (at_int (by first | assumption | exact .head _ | (refine .tail _ ?_; first | assumption | exact .head _ | (refine .tail _ ?_; first | assumption | exact .head _ | (refine .tail _ ?_; first | assumption | exact .head _ | (refine .tail _ ?_; first | assumption | exact .head _ | (refine .tail _ ?_; first | assumption | exact .head _ | (refine .tail _ ?_; first | assumption | exact .head _ | (refine .tail _ ?_; first | assumption | exact .head _ | (refine .tail _ ?_; first | assumption | exact .head _ | (refine .tail _ ?_; first | assumption | exact .head _)))))))))) (by assumption)) ?_)
      refine r_p (p_buildP Try.underlying146 Try.sizeOf3 Try.zeroValue146 rfl rfl) rfl ?_
      first | refine r_fieldAddr fo_39_4 rfl ?_ | refine r_fieldAddrE fo_39_4 rfl (by first | exact len_row (by first | exact .hd | exact .tl .hd | exact .tl (.tl .hd) | exact .tl (.tl (.tl .hd)) | exact .tl (.tl (.tl (.tl .hd))) | exact .tl (.tl (.tl (.tl (.tl .hd)))) | exact .tl (.tl (.tl (.tl (.tl (.tl .hd))))) | exact .tl (.tl (.tl (.tl (.tl (.tl (.tl .hd)))))) | exact .tl (.tl (.tl (.tl (.tl (.tl (.tl (.tl .hd)))))))) | exact len_sl (by first | assumption | exact .head _ | (refine .tail _ ?_; first | assumption | exact .head _ | (refine .tail _ ?_; first | assumption | exact .head _ | (refine .tail _ ?_; first | assumption | exact .head _ | (refine .tail _ ?_; first | assumption | exact .head _ | (refine .tail _ ?_; first | assumption | exact .head _ | (refine .tail _ ?_; first | assumption | exact .head _ | (refine .tail _ ?_; first | assumption | exact .head _ | (refine .tail _ ?_; first | assumption | exact .head _ | (refine .tail _ ?_; first | assumption | exact .head _))))))))))) (by first | assumption | omega | simp) ?_
      first
        | (refine r_load1 Try.isAgg3 rfl (at_blk1 (by first | exact .hd | exact .tl .hd | exact .tl (.tl .hd) | exact .tl (.tl (.tl .hd)) | exact .tl (.tl (.tl (.tl .hd))) | exact .tl (.tl (.tl (.tl (.tl .hd)))) | exact .tl (.tl (.tl (.tl (.tl (.tl .hd))))) | exact .tl (.tl (.tl (.tl (.tl (.tl (.tl .hd)))))) | exact .tl (.tl (.tl (.tl (.tl (.tl (.tl (.tl .hd)))))))) (by exact rfl)) ?_)
        | (refine r_load1 Try.isAgg3 rfl (at_int (by first | assumption | exact .head _ | (refine .tail _ ?_; first | assumption | exact .head _ | (refine .tail _ ?_; first | assumption | exact .head _ | (refine .tail _ ?_; first | assumption | exact .head _ | (refine .tail _ ?_; first | assumption | exact .head _ | (refine .tail _ ?_; first | assumption | exact .head _ | (refine .tail _ ?_; first | assumption | exact .head _ | (refine .tail _ ?_; first | assumption | exact .head _ | (refine .tail _ ?_; first | assumption | exact .head _ | (refine .tail _ ?_; first | assumption | exact .head _)))))))))) (by assumption)) ?_)
      refine r_p (p_buildP Try.underlying146 Try.sizeOf3 Try.zeroValue146 rfl rfl) rfl ?_
      first | refine r_fieldAddr fo_39_5 rfl ?_ | refine r_fieldAddrE fo_39_5 rfl (by first | exact len_row (by first | exact .hd | exact .tl .hd | exact .tl (.tl .hd) | exact .tl (.tl (.tl .hd)) | exact .tl (.tl (.tl (.tl .hd))) | exact .tl (.tl (.tl (.tl (.tl .hd)))) | exact .tl (.tl (.tl (.tl (.tl (.tl .hd))))) | exact .tl (.tl (.tl (.tl (.tl (.tl (.tl .hd)))))) | exact .tl (.tl (.tl (.tl (.tl (.tl (.tl (.tl .hd)))))))) | exact len_sl (by first | assumption | exact .head _ | (refine .tail _ ?_; first | assumption | exact .head _ | (refine .tail _ ?_; first | assumption | exact .head _ | (refine .tail _ ?_; first | assumption | exact .head _ | (refine .tail _ ?_; first | assumption | exact .head _ | (refine .tail _ ?_; first | assumption | exact .head _ | (refine .tail _ ?_; first | assumption | exact .head _ | (refine .tail _ ?_; first | assumption | exact .head _ | (refine .tail _ ?_; first | assumption | exact .head _ | (refine .tail _ ?_; first | assumption | exact .head _))))))))))) (by first | assumption | omega | simp) ?_
      first
        | (refine r_load1 Try.isAgg3 rfl (at_blk1 (by first | exact .hd | exact .tl .hd | exact .tl (.tl .hd) | exact .tl (.tl (.tl .hd)) | exact .tl (.tl (.tl (.tl .hd))) | exact .tl (.tl (.tl (.tl (.tl .hd)))) | exact .tl (.tl (.tl (.tl (.tl (.tl .hd))))) | exact .tl (.tl (.tl (.tl (.tl (.tl (.tl .hd)))))) | exact .tl (.tl (.tl (.tl (.tl (.tl (.tl (.tl .hd)))))))) (by exact rfl)) ?_)
        | (refine r_load1 Try.isAgg3 rfl (at_int (by first | assumption | exact .head _ | (refine .tail _ ?_; first | assumption | exact .head _ | (refine .tail _ ?_; first | assumption | exact .head _ | (refine .tail _ ?_; first | assumption | exact .head _ | (refine .tail _ ?_; first | assumption | exact .head _ | (refine .tail _ ?_; first | assumption | exact .head _ | (refine .tail _ ?_; first | assumption | exact .head _ | (refine .tail _ ?_; first | assumption | exact .head _ | (refine .tail _ ?_; first | assumption | exact .head _ | (refine .tail _ ?_; first | assumption | exact .head _)))))))))) (by assumption)) ?_)
      refine r_p (p_buildP Try.underlying146 Try.sizeOf3 Try.zeroValue146 rfl rfl) rfl ?_
      first | refine r_fieldAddr fo_39_6 rfl ?_ | refine r_fieldAddrE fo_39_6 rfl (by first | exact len_row (by first | exact .hd | exact .tl .hd | exact .tl (.tl .hd) | exact .tl (.tl (.tl .hd)) | exact .tl (.tl (.tl (.tl .hd))) | exact .tl (.tl (.tl (.tl (.tl .hd)))) | exact .tl (.tl (.tl (.tl (.tl (.tl .hd))))) | exact .tl (.tl (.tl (.tl (.tl (.tl (.tl .hd)))))) | exact .tl (.tl (.tl (.tl (.tl (.tl (.tl (.tl .hd)))))))) | exact len_sl (by first | assumption | exact .head _ | (refine .tail _ ?_; first | assumption | exact .head _ | (refine .tail _ ?_; first | assumption | exact .head _ | (refine .tail _ ?_; first | assumption | exact .head _ | (refine .tail _ ?_; first | assumption | exact .head _ | (refine .tail _ ?_; first | assumption | exact .head _ | (refine .tail _ ?_; first | assumption | exact .head _ | (refine .tail _ ?_; first | assumption | exact .head _ | (refine .tail _ ?_; first | assumption | exact .head _ | (refine .tail _ ?_; first | assumption | exact .head _))))))))))) (by first | assumption | omega | simp) ?_
      first
        | (refine r_load1 Try.isAgg3 rfl (at_blk1 (by first | exact .hd | exact .tl .hd | exact .tl (.tl .hd) | exact .tl (.tl (.tl .hd)) | exact .tl (.tl (.tl (.tl .hd))) | exact .tl (.tl (.tl (.tl (.tl .hd)))) | exact .tl (.tl (.tl (.tl (.tl (.tl .hd))))) | exact .tl (.tl (.tl (.tl (.tl (.tl (.tl .hd)))))) | exact .tl (.tl (.tl (.tl (.tl (.tl (.tl (.tl .hd)))))))) (by exact rfl)) ?_)
        | (refine r_load1 Try.isAgg3 rfl (at_int (by first | assumption | exact .head _ | (refine .tail _ ?_; first | assumption | exact .head _ | (refine .tail _ ?_; first | assumption | exact .head _ | (refine .tail _ ?_; first | assumption | exact .head _ | (refine .tail _ ?_; first | assumption | exact .head _ | (refine .tail _ ?_; first | assumption | exact .head _ | (refine .tail _ ?_; first | assumption | exact .head _ | (refine .tail _ ?_; first | assumption | exact .head _ | (refine .tail _ ?_; first | assumption | exact .head _ | (refine .tail _ ?_; first | assumption | exact .head _)))))))))) (by assumption)) ?_)
      refine r_p (p_buildP Try.underlying146 Try.sizeOf3 Try.zeroValue146 rfl rfl) rfl ?_
      refine r_lit (α := Int × Int) [(m.src, c.cores), (m.dst, c.cores), (m.serial, 65535), (m.turn, 65535), (m.value, 255)] eo_147 rfl rfl rfl rfl rfl rfl (fun j hj => ⟨⟨_, rfl, rfl, hm.2.1, hc.1⟩, ⟨_, rfl, rfl, hm.2.2.1, hc.1⟩, ⟨_, rfl, rfl, hm.2.2.2.2.1, by unfold In64; simp only; omega⟩, ⟨_, rfl, rfl, hm.2.2.2.2.2.1, by unfold In64; simp only; omega⟩, ⟨_, rfl, rfl, hm.2.2.2.2.2.2, by unfold In64; simp only; omega⟩, trivial⟩) ?_; intro v34
      refine J.shut .hd ?_
      have hxl : ([(m.src, c.cores), (m.dst, c.cores), (m.serial, 65535), (m.turn, 65535), (m.value, 255)] : List (Int × Int)).length = 5 := rfl
      generalize hxs : ([(m.src, c.cores), (m.dst, c.cores), (m.serial, 65535), (m.turn, 65535), (m.value, 255)] : List (Int × Int)) = xs at hxl ⊢
      refine r_len Try.underlying147 rfl (by first | exact len_row (by first | exact .hd | exact .tl .hd | exact .tl (.tl .hd) | exact .tl (.tl (.tl .hd)) | exact .tl (.tl (.tl (.tl .hd))) | exact .tl (.tl (.tl (.tl (.tl .hd)))) | exact .tl (.tl (.tl (.tl (.tl (.tl .hd))))) | exact .tl (.tl (.tl (.tl (.tl (.tl (.tl .hd)))))) | exact .tl (.tl (.tl (.tl (.tl (.tl (.tl (.tl .hd)))))))) | exact len_sl (by first | assumption | exact .head _ | (refine .tail _ ?_; first | assumption | exact .head _ | (refine .tail _ ?_; first | assumption | exact .head _ | (refine .tail _ ?_; first | assumption | exact .head _ | (refine .tail _ ?_; first | assumption | exact .head _ | (refine .tail _ ?_; first | assumption | exact .head _ | (refine .tail _ ?_; first | assumption | exact .head _ | (refine .tail _ ?_; first | assumption | exact .head _ | (refine .tail _ ?_; first | assumption | exact .head _ | (refine .tail _ ?_; first | assumption | exact .head _))))))))))) ?_
      refine r_move rfl ?_
      refine J.nil ?_
      refine jx_then ?_
      repeat refine jc_seq ?_
      refine jc_block ?_
      refine jc_loop (γ := Nat) (fun k => k ≤ 5 ∧ (0 < k → ¬ (m.line < 0 ∨ c.lines ≤ m.line)) ∧ ∀ i, i < k → ∀ x : Int × Int, xs[i]? = some x → ¬ (x.1 < 0 ∨ x.2 < x.1)) (fun _ => blk b3 39 m.cells :: blk b2 37 c.cells :: L) (fun _ => sl v34 xs :: R) (fun k => [(2, bp b2 0), (3, bp b3 0), (34, v34), (35, vi (5 : Int)), (36, vi (k : Int))]) (fun k => 5 - k) 0 ⟨by omega, by omega, fun i hi => by omega⟩ ⟨rfl, rfl, rfl, ?_, rfl, trivial⟩ (fun w hs => hs.sub (by repeat (first | exact .refl | exact .nil | refine .cons (by first | exact .hd | exact .tl .hd | exact .tl (.tl .hd) | exact .tl (.tl (.tl .hd)) | exact .tl (.tl (.tl (.tl .hd))) | exact .tl (.tl (.tl (.tl (.tl .hd)))) | exact .tl (.tl (.tl (.tl (.tl (.tl .hd))))) | exact .tl (.tl (.tl (.tl (.tl (.tl (.tl .hd)))))) | exact .tl (.tl (.tl (.tl (.tl (.tl (.tl (.tl .hd)))))))) ?_ | refine .drop ?_)) (by repeat (first | exact FSub.refl | exact FSub.nil | refine FSub.cons (by first | assumption | (repeat (first | assumption | exact List.Mem.head _ | refine .tail _ ?_))) ?_ | refine FSub.drop ?_))) ?_
      · exact congrArg (fun z : Nat => some (vi (z : Int))) hxl
      rintro k ⟨hk, hkl, hkx⟩
      repeat refine jc_seq ?_
      refine jc_region ?_
      refine r_bin rfl rfl b_lss ?_
      refine J.nil ?_
      refine jx_then ?_
      repeat refine jc_seq ?_
      refine jc_cond rfl (fun ht37 => ?_) (fun ht37 => ?_)
      · -- t37 True
        try simp only [decide_eq_true_eq, decide_eq_false_iff_not, beq_iff_eq, bne_iff_ne, beq_eq_false_iff_ne, bne_eq_false_iff_eq, Int.not_lt, Int.not_le, Bool.not_eq_true, ne_eq, Bool.not_eq_eq_eq_not, Bool.not_true, Bool.not_false] at ht37
        refine jc_skip ?_
        refine jx_then ?_
        repeat refine jc_seq ?_
        refine jc_block ?_
        repeat refine jc_seq ?_
        obtain ⟨x, hx⟩ : ∃ x, xs[k]? = some x := ⟨_, List.getElem?_eq_getElem (by omega)⟩
        refine jc_region ?_
        first | refine r_indexAddrN so_147 rfl rfl (by first | exact len_row (by first | exact .hd | exact .tl .hd | exact .tl (.tl .hd) | exact .tl (.tl (.tl .hd)) | exact .tl (.tl (.tl (.tl .hd))) | exact .tl (.tl (.tl (.tl (.tl .hd)))) | exact .tl (.tl (.tl (.tl (.tl (.tl .hd))))) | exact .tl (.tl (.tl (.tl (.tl (.tl (.tl .hd)))))) | exact .tl (.tl (.tl (.tl (.tl (.tl (.tl (.tl .hd)))))))) | exact len_sl (by first | assumption | exact .head _ | (refine .tail _ ?_; first | assumption | exact .head _ | (refine .tail _ ?_; first | assumption | exact .head _ | (refine .tail _ ?_; first | assumption | exact .head _ | (refine .tail _ ?_; first | assumption | exact .head _ | (refine .tail _ ?_; first | assumption | exact .head _ | (refine .tail _ ?_; first | assumption | exact .head _ | (refine .tail _ ?_; first | assumption | exact .head _ | (refine .tail _ ?_; first | assumption | exact .head _ | (refine .tail _ ?_; first | assumption | exact .head _))))))))))) (by first | assumption | omega | (simp only [List.length_nil, List.length_cons, List.length_append, List.length_take, List.length_drop, List.length_set, List.length_replicate]; omega)) ?_ | refine r_indexAddr so_147 rfl rfl (by first | exact len_row (by first | exact .hd | exact .tl .hd | exact .tl (.tl .hd) | exact .tl (.tl (.tl .hd)) | exact .tl (.tl (.tl (.tl .hd))) | exact .tl (.tl (.tl (.tl (.tl .hd)))) | exact .tl (.tl (.tl (.tl (.tl (.tl .hd))))) | exact .tl (.tl (.tl (.tl (.tl (.tl (.tl .hd)))))) | exact .tl (.tl (.tl (.tl (.tl (.tl (.tl (.tl .hd)))))))) | exact len_sl (by first | assumption | exact .head _ | (refine .tail _ ?_; first | assumption | exact .head _ | (refine .tail _ ?_; first | assumption | exact .head _ | (refine .tail _ ?_; first | assumption | exact .head _ | (refine .tail _ ?_; first | assumption | exact .head _ | (refine .tail _ ?_; first | assumption | exact .head _ | (refine .tail _ ?_; first | assumption | exact .head _ | (refine .tail _ ?_; first | assumption | exact .head _ | (refine .tail _ ?_; first | assumption | exact .head _ | (refine .tail _ ?_; first | assumption | exact .head _))))))))))) (by first | assumption | omega | (simp only [List.length_nil, List.length_cons, List.length_append, List.length_take, List.length_drop, List.length_set, List.length_replicate]; omega)) (by first | assumption | omega | (simp only [List.length_nil, List.length_cons, List.length_append, List.length_take, List.length_drop, List.length_set, List.length_replicate]; omega)) ?_
        refine r_loadN Try.isAgg146 Try.sizeOf146 rfl (at_Pair (by first | assumption | exact .head _ | (refine .tail _ ?_; first | assumption | exact .head _ | (refine .tail _ ?_; first | assumption | exact .head _ | (refine .tail _ ?_; first | assumption | exact .head _ | (refine .tail _ ?_; first | assumption | exact .head _ | (refine .tail _ ?_; first | assumption | exact .head _ | (refine .tail _ ?_; first | assumption | exact .head _ | (refine .tail _ ?_; first | assumption | exact .head _ | (refine .tail _ ?_; first | assumption | exact .head _ | (refine .tail _ ?_; first | assumption | exact .head _)))))))))) hx) rfl ?_
        refine r_alloc Try.zeroValue146 rfl ?_; intro b6
        refine r_storeAll Try.sizeOf146 rfl rfl rfl (by simp [Value.oneCell']) (by first | exact .hd | exact .tl .hd | exact .tl (.tl .hd) | exact .tl (.tl (.tl .hd)) | exact .tl (.tl (.tl (.tl .hd))) | exact .tl (.tl (.tl (.tl (.tl .hd)))) | exact .tl (.tl (.tl (.tl (.tl (.tl .hd))))) | exact .tl (.tl (.tl (.tl (.tl (.tl (.tl .hd)))))) | exact .tl (.tl (.tl (.tl (.tl (.tl (.tl (.tl .hd)))))))) (by exact rfl) ?_
        refine J.nil ?_
        refine jx_then ?_
        repeat refine jc_seq ?_
        refine jc_region ?_
        refine r_p (p_indexAddrA (i := 0) Try.underlying146 Try.sizeOf3 rfl rfl rfl) rfl ?_
        first
          | (refine r_load1 Try.isAgg3 rfl (at_blk1 (by first | exact .hd | exact .tl .hd | exact .tl (.tl .hd) | exact .tl (.tl (.tl .hd)) | exact .tl (.tl (.tl (.tl .hd))) | exact .tl (.tl (.tl (.tl (.tl .hd)))) | exact .tl (.tl (.tl (.tl (.tl (.tl .hd))))) | exact .tl (.tl (.tl (.tl (.tl (.tl (.tl .hd)))))) | exact .tl (.tl (.tl (.tl (.tl (.tl (.tl (.tl .hd)))))))) (by exact rfl)) ?_)
          | (refine r_load1 Try.isAgg3 rfl (at_int (by first | assumption | exact .head _ | (refine .tail _ ?_; first | assumption | exact .head _ | (refine .tail _ ?_; first | assumption | exact .head _ | (refine .tail _ ?_; first | assumption | exact .head _ | (refine .tail _ ?_; first | assumption | exact .head _ | (refine .tail _ ?_; first | assumption | exact .head _ | (refine .tail _ ?_; first | assumption | exact .head _ | (refine .tail _ ?_; first | assumption | exact .head _ | (refine .tail _ ?_; first | assumption | exact .head _ | (refine .tail _ ?_; first | assumption | exact .head _)))))))))) (by assumption)) ?_)
        refine r_bin rfl rfl b_lss ?_
        refine r_move rfl ?_
        refine j_cases (t := 43) (b := ?b2) ?e2 ?_ ?_
        case e2 => exact rfl
        · -- t43 True
          intro ht43
          try simp only [decide_eq_true_eq, decide_eq_false_iff_not, beq_iff_eq, bne_iff_ne, beq_eq_false_iff_ne, bne_eq_false_iff_eq, Int.not_lt, Int.not_le, Bool.not_eq_true, ne_eq, Bool.not_eq_eq_eq_not, Bool.not_true, Bool.not_false] at ht43
          refine J.guardNo ?_ ?_
          · exact rfl
          refine J.guardNo ?_ ?_
          · exact rfl
          refine J.guardNo ?_ ?_
          · exact rfl
          refine J.guardNo ?_ ?_
          · exact rfl
          refine J.guardNo ?_ ?_
          · exact rfl
          refine r_pickT rfl rfl ?_
          refine r_move rfl ?_
          refine J.guardNo ?_ ?_
          · exact rfl
          refine J.guardNo ?_ ?_
          · exact rfl
          refine J.guardNo ?_ ?_
          · exact rfl
          refine r_pickT rfl rfl ?_
          refine r_move rfl ?_
          refine J.guardNo ?_ ?_
          · exact rfl
          refine J.guardNo ?_ ?_
          · exact rfl
          refine J.guardNo ?_ ?_
          · exact rfl
          refine J.guardNo ?_ ?_
          · exact rfl
          refine J.guardNo ?_ ?_
          · exact rfl
          refine r_pickT rfl rfl ?_
          refine J.nil ?_
          refine jx_then ?_
          refine jc_condT rfl ?_
          repeat refine jc_seq ?_
          refine jc_region ?_
          refine r_assign rfl ?_
          refine J.nil ?_
          refine jx_then ?_
          refine jc_ret ?_
          repeat (first | refine jx_thenRet ?_ | refine jx_blockRet ?_)
          have hbad : x.1 < 0 ∨ x.2 < x.1 ∨ m.line < 0 ∨ c.lines ≤ m.line := by omega
          have hr : m.src < 0 ∨ c.cores < m.src ∨ m.dst < 0 ∨ c.cores < m.dst ∨ m.line < 0 ∨ c.lines ≤ m.line ∨ m.serial < 0 ∨ 65535 < m.serial ∨ m.turn < 0 ∨ 65535 < m.turn ∨ m.value < 0 ∨ 255 < m.value := by
            subst hxs
            have hk5 : k = 0 ∨ k = 1 ∨ k = 2 ∨ k = 3 ∨ k = 4 := by omega
            rcases hk5 with rfl | rfl | rfl | rfl | rfl <;> simp only [List.getElem?_cons_zero, List.getElem?_cons_succ, Option.some.injEq] at hx <;> subst hx <;> simp only at hbad <;> omega
          refine jx_body (.inr rfl) (fun B w _ => res1 rfl rfl B w) (fun w hs => ⟨(), ?_, hs.sub (by repeat (first | exact .refl | exact .nil | refine .cons (by first | exact .hd | exact .tl .hd | exact .tl (.tl .hd) | exact .tl (.tl (.tl .hd)) | exact .tl (.tl (.tl (.tl .hd))) | exact .tl (.tl (.tl (.tl (.tl .hd)))) | exact .tl (.tl (.tl (.tl (.tl (.tl .hd))))) | exact .tl (.tl (.tl (.tl (.tl (.tl (.tl .hd)))))) | exact .tl (.tl (.tl (.tl (.tl (.tl (.tl (.tl .hd)))))))) ?_ | refine .drop ?_)) (by repeat (first | exact FSub.refl | exact FSub.nil | refine FSub.cons (by first | assumption | (repeat (first | assumption | exact List.Mem.head _ | refine .tail _ ?_))) ?_ | refine FSub.drop ?_))⟩)
          unfold msgWrong; rw [if_neg (by omega), if_pos hr]
        · -- t43 False
          intro ht43
          try simp only [decide_eq_true_eq, decide_eq_false_iff_not, beq_iff_eq, bne_iff_ne, beq_eq_false_iff_ne, bne_eq_false_iff_eq, Int.not_lt, Int.not_le, Bool.not_eq_true, ne_eq, Bool.not_eq_eq_eq_not, Bool.not_true, Bool.not_false] at ht43
          refine J.guardYes ?_ ?_
          · exact rfl
          refine r_p (p_indexAddrA (i := 0) Try.underlying146 Try.sizeOf3 rfl rfl rfl) rfl ?_
          refine J.guardYes ?_ ?_
          · exact rfl
          first
            | (refine r_load1 Try.isAgg3 rfl (at_blk1 (by first | exact .hd | exact .tl .hd | exact .tl (.tl .hd) | exact .tl (.tl (.tl .hd)) | exact .tl (.tl (.tl (.tl .hd))) | exact .tl (.tl (.tl (.tl (.tl .hd)))) | exact .tl (.tl (.tl (.tl (.tl (.tl .hd))))) | exact .tl (.tl (.tl (.tl (.tl (.tl (.tl .hd)))))) | exact .tl (.tl (.tl (.tl (.tl (.tl (.tl (.tl .hd)))))))) (by exact rfl)) ?_)
            | (refine r_load1 Try.isAgg3 rfl (at_int (by first | assumption | exact .head _ | (refine .tail _ ?_; first | assumption | exact .head _ | (refine .tail _ ?_; first | assumption | exact .head _ | (refine .tail _ ?_; first | assumption | exact .head _ | (refine .tail _ ?_; first | assumption | exact .head _ | (refine .tail _ ?_; first | assumption | exact .head _ | (refine .tail _ ?_; first | assumption | exact .head _ | (refine .tail _ ?_; first | assumption | exact .head _ | (refine .tail _ ?_; first | assumption | exact .head _ | (refine .tail _ ?_; first | assumption | exact .head _)))))))))) (by assumption)) ?_)
          refine J.guardYes ?_ ?_
          · exact rfl
          refine r_p (p_indexAddrA (i := 1) Try.underlying146 Try.sizeOf3 rfl rfl rfl) rfl ?_
          refine J.guardYes ?_ ?_
          · exact rfl
          first
            | (refine r_load1 Try.isAgg3 rfl (at_blk1 (by first | exact .hd | exact .tl .hd | exact .tl (.tl .hd) | exact .tl (.tl (.tl .hd)) | exact .tl (.tl (.tl (.tl .hd))) | exact .tl (.tl (.tl (.tl (.tl .hd)))) | exact .tl (.tl (.tl (.tl (.tl (.tl .hd))))) | exact .tl (.tl (.tl (.tl (.tl (.tl (.tl .hd)))))) | exact .tl (.tl (.tl (.tl (.tl (.tl (.tl (.tl .hd)))))))) (by exact rfl)) ?_)
            | (refine r_load1 Try.isAgg3 rfl (at_int (by first | assumption | exact .head _ | (refine .tail _ ?_; first | assumption | exact .head _ | (refine .tail _ ?_; first | assumption | exact .head _ | (refine .tail _ ?_; first | assumption | exact .head _ | (refine .tail _ ?_; first | assumption | exact .head _ | (refine .tail _ ?_; first | assumption | exact .head _ | (refine .tail _ ?_; first | assumption | exact .head _ | (refine .tail _ ?_; first | assumption | exact .head _ | (refine .tail _ ?_; first | assumption | exact .head _ | (refine .tail _ ?_; first | assumption | exact .head _)))))))))) (by assumption)) ?_)
          refine J.guardYes ?_ ?_
          · exact rfl
          refine r_bin rfl rfl b_gtr ?_
          refine r_pickF rfl rfl ?_
          refine r_move rfl ?_
          refine j_cases (t := 50) (b := ?b3) ?e3 ?_ ?_
          case e3 => exact rfl
          · -- t50 True
            intro ht50
            try simp only [decide_eq_true_eq, decide_eq_false_iff_not, beq_iff_eq, bne_iff_ne, beq_eq_false_iff_ne, bne_eq_false_iff_eq, Int.not_lt, Int.not_le, Bool.not_eq_true, ne_eq, Bool.not_eq_eq_eq_not, Bool.not_true, Bool.not_false] at ht50
            refine J.guardNo ?_ ?_
            · exact rfl
            refine J.guardNo ?_ ?_
            · exact rfl
            refine J.guardNo ?_ ?_
            · exact rfl
            refine r_pickT rfl rfl ?_
            refine r_move rfl ?_
            refine J.guardNo ?_ ?_
            · exact rfl
            refine J.guardNo ?_ ?_
            · exact rfl
            refine J.guardNo ?_ ?_
            · exact rfl
            refine J.guardNo ?_ ?_
            · exact rfl
            refine J.guardNo ?_ ?_
            · exact rfl
            refine r_pickT rfl rfl ?_
            refine J.nil ?_
            refine jx_then ?_
            refine jc_condT rfl ?_
            repeat refine jc_seq ?_
            refine jc_region ?_
            refine r_assign rfl ?_
            refine J.nil ?_
            refine jx_then ?_
            refine jc_ret ?_
            repeat (first | refine jx_thenRet ?_ | refine jx_blockRet ?_)
            have hbad : x.1 < 0 ∨ x.2 < x.1 ∨ m.line < 0 ∨ c.lines ≤ m.line := by omega
            have hr : m.src < 0 ∨ c.cores < m.src ∨ m.dst < 0 ∨ c.cores < m.dst ∨ m.line < 0 ∨ c.lines ≤ m.line ∨ m.serial < 0 ∨ 65535 < m.serial ∨ m.turn < 0 ∨ 65535 < m.turn ∨ m.value < 0 ∨ 255 < m.value := by
              subst hxs
              have hk5 : k = 0 ∨ k = 1 ∨ k = 2 ∨ k = 3 ∨ k = 4 := by omega
              rcases hk5 with rfl | rfl | rfl | rfl | rfl <;> simp only [List.getElem?_cons_zero, List.getElem?_cons_succ, Option.some.injEq] at hx <;> subst hx <;> simp only at hbad <;> omega
            refine jx_body (.inr rfl) (fun B w _ => res1 rfl rfl B w) (fun w hs => ⟨(), ?_, hs.sub (by repeat (first | exact .refl | exact .nil | refine .cons (by first | exact .hd | exact .tl .hd | exact .tl (.tl .hd) | exact .tl (.tl (.tl .hd)) | exact .tl (.tl (.tl (.tl .hd))) | exact .tl (.tl (.tl (.tl (.tl .hd)))) | exact .tl (.tl (.tl (.tl (.tl (.tl .hd))))) | exact .tl (.tl (.tl (.tl (.tl (.tl (.tl .hd)))))) | exact .tl (.tl (.tl (.tl (.tl (.tl (.tl (.tl .hd)))))))) ?_ | refine .drop ?_)) (by repeat (first | exact FSub.refl | exact FSub.nil | refine FSub.cons (by first | assumption | (repeat (first | assumption | exact List.Mem.head _ | refine .tail _ ?_))) ?_ | refine FSub.drop ?_))⟩)
            unfold msgWrong; rw [if_neg (by omega), if_pos hr]
          · -- t50 False
            intro ht50
            try simp only [decide_eq_true_eq, decide_eq_false_iff_not, beq_iff_eq, bne_iff_ne, beq_eq_false_iff_ne, bne_eq_false_iff_eq, Int.not_lt, Int.not_le, Bool.not_eq_true, ne_eq, Bool.not_eq_eq_eq_not, Bool.not_true, Bool.not_false] at ht50
            refine J.guardYes ?_ ?_
            · exact rfl
            first | refine r_fieldAddr fo_39_3 rfl ?_ | refine r_fieldAddrE fo_39_3 rfl (by first | exact len_row (by first | exact .hd | exact .tl .hd | exact .tl (.tl .hd) | exact .tl (.tl (.tl .hd)) | exact .tl (.tl (.tl (.tl .hd))) | exact .tl (.tl (.tl (.tl (.tl .hd)))) | exact .tl (.tl (.tl (.tl (.tl (.tl .hd))))) | exact .tl (.tl (.tl (.tl (.tl (.tl (.tl .hd)))))) | exact .tl (.tl (.tl (.tl (.tl (.tl (.tl (.tl .hd)))))))) | exact len_sl (by first | assumption | exact .head _ | (refine .tail _ ?_; first | assumption | exact .head _ | (refine .tail _ ?_; first | assumption | exact .head _ | (refine .tail _ ?_; first | assumption | exact .head _ | (refine .tail _ ?_; first | assumption | exact .head _ | (refine .tail _ ?_; first | assumption | exact .head _ | (refine .tail _ ?_; first | assumption | exact .head _ | (refine .tail _ ?_; first | assumption | exact .head _ | (refine .tail _ ?_; first | assumption | exact .head _ | (refine .tail _ ?_; first | assumption | exact .head _))))))))))) (by first | assumption | omega | simp) ?_
            refine J.guardYes ?_ ?_
            · exact rfl
            first
              | (refine r_load1 Try.isAgg3 rfl (at_blk1 (by first | exact .hd | exact .tl .hd | exact .tl (.tl .hd) | exact .tl (.tl (.tl .hd)) | exact .tl (.tl (.tl (.tl .hd))) | exact .tl (.tl (.tl (.tl (.tl .hd)))) | exact .tl (.tl (.tl (.tl (.tl (.tl .hd))))) | exact .tl (.tl (.tl (.tl (.tl (.tl (.tl .hd)))))) | exact .tl (.tl (.tl (.tl (.tl (.tl (.tl (.tl .hd)))))))) (by exact rfl)) ?_)
              | (refine r_load1 Try.isAgg3 rfl (at_int (by first | assumption | exact .head _ | (refine .tail _ ?_; first | assumption | exact .head _ | (refine .tail _ ?_; first | assumption | exact .head _ | (refine .tail _ ?_; first | assumption | exact .head _ | (refine .tail _ ?_; first | assumption | exact .head _ | (refine .tail _ ?_; first | assumption | exact .head _ | (refine .tail _ ?_; first | assumption | exact .head _ | (refine .tail _ ?_; first | assumption | exact .head _ | (refine .tail _ ?_; first | assumption | exact .head _ | (refine .tail _ ?_; first | assumption | exact .head _)))))))))) (by assumption)) ?_)
            refine J.guardYes ?_ ?_
            · exact rfl
            refine r_bin rfl rfl b_lss ?_
            refine r_pickF rfl rfl ?_
            refine r_move rfl ?_
            refine j_cases (t := 55) (b := ?b4) ?e4 ?_ ?_
            case e4 => exact rfl
            · -- t55 True
              intro ht55
              try simp only [decide_eq_true_eq, decide_eq_false_iff_not, beq_iff_eq, bne_iff_ne, beq_eq_false_iff_ne, bne_eq_false_iff_eq, Int.not_lt, Int.not_le, Bool.not_eq_true, ne_eq, Bool.not_eq_eq_eq_not, Bool.not_true, Bool.not_false] at ht55
              refine J.guardNo ?_ ?_
              · exact rfl
              refine J.guardNo ?_ ?_
              · exact rfl
              refine J.guardNo ?_ ?_
              · exact rfl
              refine J.guardNo ?_ ?_
              · exact rfl
              refine J.guardNo ?_ ?_
              · exact rfl
              refine r_pickT rfl rfl ?_
              refine J.nil ?_
              refine jx_then ?_
              refine jc_condT rfl ?_
              repeat refine jc_seq ?_
              refine jc_region ?_
              refine r_assign rfl ?_
              refine J.nil ?_
              refine jx_then ?_
              refine jc_ret ?_
              repeat (first | refine jx_thenRet ?_ | refine jx_blockRet ?_)
              have hbad : x.1 < 0 ∨ x.2 < x.1 ∨ m.line < 0 ∨ c.lines ≤ m.line := by omega
              have hr : m.src < 0 ∨ c.cores < m.src ∨ m.dst < 0 ∨ c.cores < m.dst ∨ m.line < 0 ∨ c.lines ≤ m.line ∨ m.serial < 0 ∨ 65535 < m.serial ∨ m.turn < 0 ∨ 65535 < m.turn ∨ m.value < 0 ∨ 255 < m.value := by
                subst hxs
                have hk5 : k = 0 ∨ k = 1 ∨ k = 2 ∨ k = 3 ∨ k = 4 := by omega
                rcases hk5 with rfl | rfl | rfl | rfl | rfl <;> simp only [List.getElem?_cons_zero, List.getElem?_cons_succ, Option.some.injEq] at hx <;> subst hx <;> simp only at hbad <;> omega
              refine jx_body (.inr rfl) (fun B w _ => res1 rfl rfl B w) (fun w hs => ⟨(), ?_, hs.sub (by repeat (first | exact .refl | exact .nil | refine .cons (by first | exact .hd | exact .tl .hd | exact .tl (.tl .hd) | exact .tl (.tl (.tl .hd)) | exact .tl (.tl (.tl (.tl .hd))) | exact .tl (.tl (.tl (.tl (.tl .hd)))) | exact .tl (.tl (.tl (.tl (.tl (.tl .hd))))) | exact .tl (.tl (.tl (.tl (.tl (.tl (.tl .hd)))))) | exact .tl (.tl (.tl (.tl (.tl (.tl (.tl (.tl .hd)))))))) ?_ | refine .drop ?_)) (by repeat (first | exact FSub.refl | exact FSub.nil | refine FSub.cons (by first | assumption | (repeat (first | assumption | exact List.Mem.head _ | refine .tail _ ?_))) ?_ | refine FSub.drop ?_))⟩)
              unfold msgWrong; rw [if_neg (by omega), if_pos hr]
            · -- t55 False
              intro ht55
              try simp only [decide_eq_true_eq, decide_eq_false_iff_not, beq_iff_eq, bne_iff_ne, beq_eq_false_iff_ne, bne_eq_false_iff_eq, Int.not_lt, Int.not_le, Bool.not_eq_true, ne_eq, Bool.not_eq_eq_eq_not, Bool.not_true, Bool.not_false] at ht55
              refine J.guardYes ?_ ?_
              · exact rfl
              first | refine r_fieldAddr fo_39_3 rfl ?_ | refine r_fieldAddrE fo_39_3 rfl (by first | exact len_row (by first | exact .hd | exact .tl .hd | exact .tl (.tl .hd) | exact .tl (.tl (.tl .hd)) | exact .tl (.tl (.tl (.tl .hd))) | exact .tl (.tl (.tl (.tl (.tl .hd)))) | exact .tl (.tl (.tl (.tl (.tl (.tl .hd))))) | exact .tl (.tl (.tl (.tl (.tl (.tl (.tl .hd)))))) | exact .tl (.tl (.tl (.tl (.tl (.tl (.tl (.tl .hd)))))))) | exact len_sl (by first | assumption | exact .head _ | (refine .tail _ ?_; first | assumption | exact .head _ | (refine .tail _ ?_; first | assumption | exact .head _ | (refine .tail _ ?_; first | assumption | exact .head _ | (refine .tail _ ?_; first | assumption | exact .head _ | (refine .tail _ ?_; first | assumption | exact .head _ | (refine .tail _ ?_; first | assumption | exact .head _ | (refine .tail _ ?_; first | assumption | exact .head _ | (refine .tail _ ?_; first | assumption | exact .head _ | (refine .tail _ ?_; first | assumption | exact .head _))))))))))) (by first | assumption | omega | simp) ?_
              refine J.guardYes ?_ ?_
              · exact rfl
              first
                | (refine r_load1 Try.isAgg3 rfl (at_blk1 (by first | exact .hd | exact .tl .hd | exact .tl (.tl .hd) | exact .tl (.tl (.tl .hd)) | exact .tl (.tl (.tl (.tl .hd))) | exact .tl (.tl (.tl (.tl (.tl .hd)))) | exact .tl (.tl (.tl (.tl (.tl (.tl .hd))))) | exact .tl (.tl (.tl (.tl (.tl (.tl (.tl .hd)))))) | exact .tl (.tl (.tl (.tl (.tl (.tl (.tl (.tl .hd)))))))) (by exact rfl)) ?_)
                | (refine r_load1 Try.isAgg3 rfl (at_int (by first | assumption | exact .head _ | (refine .tail _ ?_; first | assumption | exact .head _ | (refine .tail _ ?_; first | assumption | exact .head _ | (refine .tail _ ?_; first | assumption | exact .head _ | (refine .tail _ ?_; first | assumption | exact .head _ | (refine .tail _ ?_; first | assumption | exact .head _ | (refine .tail _ ?_; first | assumption | exact .head _ | (refine .tail _ ?_; first | assumption | exact .head _ | (refine .tail _ ?_; first | assumption | exact .head _ | (refine .tail _ ?_; first | assumption | exact .head _)))))))))) (by assumption)) ?_)
              refine J.guardYes ?_ ?_
              · exact rfl
              first | refine r_fieldAddr fo_37_1 rfl ?_ | refine r_fieldAddrE fo_37_1 rfl (by first | exact len_row (by first | exact .hd | exact .tl .hd | exact .tl (.tl .hd) | exact .tl (.tl (.tl .hd)) | exact .tl (.tl (.tl (.tl .hd))) | exact .tl (.tl (.tl (.tl (.tl .hd)))) | exact .tl (.tl (.tl (.tl (.tl (.tl .hd))))) | exact .tl (.tl (.tl (.tl (.tl (.tl (.tl .hd)))))) | exact .tl (.tl (.tl (.tl (.tl (.tl (.tl (.tl .hd)))))))) | exact len_sl (by first | assumption | exact .head _ | (refine .tail _ ?_; first | assumption | exact .head _ | (refine .tail _ ?_; first | assumption | exact .head _ | (refine .tail _ ?_; first | assumption | exact .head _ | (refine .tail _ ?_; first | assumption | exact .head _ | (refine .tail _ ?_; first | assumption | exact .head _ | (refine .tail _ ?_; first | assumption | exact .head _ | (refine .tail _ ?_; first | assumption | exact .head _ | (refine .tail _ ?_; first | assumption | exact .head _ | (refine .tail _ ?_; first | assumption | exact .head _))))))))))) (by first | assumption | omega | simp) ?_
              refine J.guardYes ?_ ?_
              · exact rfl
              first
                | (refine r_load1 Try.isAgg3 rfl (at_blk1 (by first | exact .hd | exact .tl .hd | exact .tl (.tl .hd) | exact .tl (.tl (.tl .hd)) | exact .tl (.tl (.tl (.tl .hd))) | exact .tl (.tl (.tl (.tl (.tl .hd)))) | exact .tl (.tl (.tl (.tl (.tl (.tl .hd))))) | exact .tl (.tl (.tl (.tl (.tl (.tl (.tl .hd)))))) | exact .tl (.tl (.tl (.tl (.tl (.tl (.tl (.tl .hd)))))))) (by exact rfl)) ?_)
                | (refine r_load1 Try.isAgg3 rfl (at_int (by first | assumption | exact .head _ | (refine .tail _ ?_; first | assumption | exact .head _ | (refine .tail _ ?_; first | assumption | exact .head _ | (refine .tail _ ?_; first | assumption | exact .head _ | (refine .tail _ ?_; first | assumption | exact .head _ | (refine .tail _ ?_; first | assumption | exact .head _ | (refine .tail _ ?_; first | assumption | exact .head _ | (refine .tail _ ?_; first | assumption | exact .head _ | (refine .tail _ ?_; first | assumption | exact .head _ | (refine .tail _ ?_; first | assumption | exact .head _)))))))))) (by assumption)) ?_)
              refine J.guardYes ?_ ?_
              · exact rfl
              refine r_bin rfl rfl b_geq ?_
              refine r_pickF rfl rfl ?_
              refine J.nil ?_
              refine jx_then ?_
              refine jc_cond rfl (fun ht61 => ?_) (fun ht61 => ?_)
              · -- t61 True
                try simp only [decide_eq_true_eq, decide_eq_false_iff_not, beq_iff_eq, bne_iff_ne, beq_eq_false_iff_ne, bne_eq_false_iff_eq, Int.not_lt, Int.not_le, Bool.not_eq_true, ne_eq, Bool.not_eq_eq_eq_not, Bool.not_true, Bool.not_false] at ht61
                repeat refine jc_seq ?_
                refine jc_region ?_
                refine r_assign rfl ?_
                refine J.nil ?_
                refine jx_then ?_
                refine jc_ret ?_
                repeat (first | refine jx_thenRet ?_ | refine jx_blockRet ?_)
                have hbad : x.1 < 0 ∨ x.2 < x.1 ∨ m.line < 0 ∨ c.lines ≤ m.line := by omega
                have hr : m.src < 0 ∨ c.cores < m.src ∨ m.dst < 0 ∨ c.cores < m.dst ∨ m.line < 0 ∨ c.lines ≤ m.line ∨ m.serial < 0 ∨ 65535 < m.serial ∨ m.turn < 0 ∨ 65535 < m.turn ∨ m.value < 0 ∨ 255 < m.value := by
                  subst hxs
                  have hk5 : k = 0 ∨ k = 1 ∨ k = 2 ∨ k = 3 ∨ k = 4 := by omega
                  rcases hk5 with rfl | rfl | rfl | rfl | rfl <;> simp only [List.getElem?_cons_zero, List.getElem?_cons_succ, Option.some.injEq] at hx <;> subst hx <;> simp only at hbad <;> omega
                refine jx_body (.inr rfl) (fun B w _ => res1 rfl rfl B w) (fun w hs => ⟨(), ?_, hs.sub (by repeat (first | exact .refl | exact .nil | refine .cons (by first | exact .hd | exact .tl .hd | exact .tl (.tl .hd) | exact .tl (.tl (.tl .hd)) | exact .tl (.tl (.tl (.tl .hd))) | exact .tl (.tl (.tl (.tl (.tl .hd)))) | exact .tl (.tl (.tl (.tl (.tl (.tl .hd))))) | exact .tl (.tl (.tl (.tl (.tl (.tl (.tl .hd)))))) | exact .tl (.tl (.tl (.tl (.tl (.tl (.tl (.tl .hd)))))))) ?_ | refine .drop ?_)) (by repeat (first | exact FSub.refl | exact FSub.nil | refine FSub.cons (by first | assumption | (repeat (first | assumption | exact List.Mem.head _ | refine .tail _ ?_))) ?_ | refine FSub.drop ?_))⟩)
                unfold msgWrong; rw [if_neg (by omega), if_pos hr]
              · -- t61 False
                try simp only [decide_eq_true_eq, decide_eq_false_iff_not, beq_iff_eq, bne_iff_ne, beq_eq_false_iff_ne, bne_eq_false_iff_eq, Int.not_lt, Int.not_le, Bool.not_eq_true, ne_eq, Bool.not_eq_eq_eq_not, Bool.not_true, Bool.not_false] at ht61
                refine jc_skip ?_
                refine jx_block ?_
                refine jx_then ?_
                refine jc_region ?_
                refine r_bin rfl rfl (b_add (by omega) (by omega)) ?_
                refine r_move rfl ?_
                refine J.nil ?_
                refine jx_head (k + 1) ⟨by omega, fun _ => by omega, fun i hi y hy => ?_⟩ (by omega) ⟨rfl, rfl, rfl, rfl, rfl, trivial⟩ (fun w hs => hs.sub (by repeat (first | exact .refl | exact .nil | refine .cons (by first | exact .hd | exact .tl .hd | exact .tl (.tl .hd) | exact .tl (.tl (.tl .hd)) | exact .tl (.tl (.tl (.tl .hd))) | exact .tl (.tl (.tl (.tl (.tl .hd)))) | exact .tl (.tl (.tl (.tl (.tl (.tl .hd))))) | exact .tl (.tl (.tl (.tl (.tl (.tl (.tl .hd)))))) | exact .tl (.tl (.tl (.tl (.tl (.tl (.tl (.tl .hd)))))))) ?_ | refine .drop ?_)) (by repeat (first | exact FSub.refl | exact FSub.nil | refine FSub.cons (by first | assumption | (repeat (first | assumption | exact List.Mem.head _ | refine .tail _ ?_))) ?_ | refine FSub.drop ?_)))
                by_cases hik : i = k
                · subst hik; rw [hx] at hy; cases hy; omega
                · exact hkx i (by omega) y hy
      · -- t37 False
        try simp only [decide_eq_true_eq, decide_eq_false_iff_not, beq_iff_eq, bne_iff_ne, beq_eq_false_iff_ne, bne_eq_false_iff_eq, Int.not_lt, Int.not_le, Bool.not_eq_true, ne_eq, Bool.not_eq_eq_eq_not, Bool.not_true, Bool.not_false] at ht37
        refine jc_exit ?_
        repeat (first | refine jx_thenExit ?_ | refine jx_blockMiss rfl ?_)
        refine jx_blockHit ?_
        refine jx_then ?_
        repeat refine jc_seq ?_
        refine jc_region ?_
        first | refine r_fieldAddr fo_39_1 rfl ?_ | refine r_fieldAddrE fo_39_1 rfl (by first | exact len_row (by first | exact .hd | exact .tl .hd | exact .tl (.tl .hd) | exact .tl (.tl (.tl .hd)) | exact .tl (.tl (.tl (.tl .hd))) | exact .tl (.tl (.tl (.tl (.tl .hd)))) | exact .tl (.tl (.tl (.tl (.tl (.tl .hd))))) | exact .tl (.tl (.tl (.tl (.tl (.tl (.tl .hd)))))) | exact .tl (.tl (.tl (.tl (.tl (.tl (.tl (.tl .hd)))))))) | exact len_sl (by first | assumption | exact .head _ | (refine .tail _ ?_; first | assumption | exact .head _ | (refine .tail _ ?_; first | assumption | exact .head _ | (refine .tail _ ?_; first | assumption | exact .head _ | (refine .tail _ ?_; first | assumption | exact .head _ | (refine .tail _ ?_; first | assumption | exact .head _ | (refine .tail _ ?_; first | assumption | exact .head _ | (refine .tail _ ?_; first | assumption | exact .head _ | (refine .tail _ ?_; first | assumption | exact .head _ | (refine .tail _ ?_; first | assumption | exact .head _))))))))))) (by first | assumption | omega | simp) ?_
        first
          | (refine r_load1 Try.isAgg3 rfl (at_blk1 (by first | exact .hd | exact .tl .hd | exact .tl (.tl .hd) | exact .tl (.tl (.tl .hd)) | exact .tl (.tl (.tl (.tl .hd))) | exact .tl (.tl (.tl (.tl (.tl .hd)))) | exact .tl (.tl (.tl (.tl (.tl (.tl .hd))))) | exact .tl (.tl (.tl (.tl (.tl (.tl (.tl .hd)))))) | exact .tl (.tl (.tl (.tl (.tl (.tl (.tl (.tl .hd)))))))) (by exact rfl)) ?_)
          | (refine r_load1 Try.isAgg3 rfl (at_int (by first | assumption | exact .head _ | (refine .tail _ ?_; first | assumption | exact .head _ | (refine .tail _ ?_; first | assumption | exact .head _ | (refine .tail _ ?_; first | assumption | exact .head _ | (refine .tail _ ?_; first | assumption | exact .head _ | (refine .tail _ ?_; first | assumption | exact .head _ | (refine .tail _ ?_; first | assumption | exact .head _ | (refine .tail _ ?_; first | assumption | exact .head _ | (refine .tail _ ?_; first | assumption | exact .head _ | (refine .tail _ ?_; first | assumption | exact .head _)))))))))) (by assumption)) ?_)
        first | refine r_fieldAddr fo_37_0 rfl ?_ | refine r_fieldAddrE fo_37_0 rfl (by first | exact len_row (by first | exact .hd | exact .tl .hd | exact .tl (.tl .hd) | exact .tl (.tl (.tl .hd)) | exact .tl (.tl (.tl (.tl .hd))) | exact .tl (.tl (.tl (.tl (.tl .hd)))) | exact .tl (.tl (.tl (.tl (.tl (.tl .hd))))) | exact .tl (.tl (.tl (.tl (.tl (.tl (.tl .hd)))))) | exact .tl (.tl (.tl (.tl (.tl (.tl (.tl (.tl .hd)))))))) | exact len_sl (by first | assumption | exact .head _ | (refine .tail _ ?_; first | assumption | exact .head _ | (refine .tail _ ?_; first | assumption | exact .head _ | (refine .tail _ ?_; first | assumption | exact .head _ | (refine .tail _ ?_; first | assumption | exact .head _ | (refine .tail _ ?_; first | assumption | exact .head _ | (refine .tail _ ?_; first | assumption | exact .head _ | (refine .tail _ ?_; first | assumption | exact .head _ | (refine .tail _ ?_; first | assumption | exact .head _ | (refine .tail _ ?_; first | assumption | exact .head _))))))))))) (by first | assumption | omega | simp) ?_
        first
          | (refine r_load1 Try.isAgg3 rfl (at_blk1 (by first | exact .hd | exact .tl .hd | exact .tl (.tl .hd) | exact .tl (.tl (.tl .hd)) | exact .tl (.tl (.tl (.tl .hd))) | exact .tl (.tl (.tl (.tl (.tl .hd)))) | exact .tl (.tl (.tl (.tl (.tl (.tl .hd))))) | exact .tl (.tl (.tl (.tl (.tl (.tl (.tl .hd)))))) | exact .tl (.tl (.tl (.tl (.tl (.tl (.tl (.tl .hd)))))))) (by exact rfl)) ?_)
          | (refine r_load1 Try.isAgg3 rfl (at_int (by first | assumption | exact .head _ | (refine .tail _ ?_; first | assumption | exact .head _ | (refine .tail _ ?_; first | assumption | exact .head _ | (refine .tail _ ?_; first | assumption | exact .head _ | (refine .tail _ ?_; first | assumption | exact .head _ | (refine .tail _ ?_; first | assumption | exact .head _ | (refine .tail _ ?_; first | assumption | exact .head _ | (refine .tail _ ?_; first | assumption | exact .head _ | (refine .tail _ ?_; first | assumption | exact .head _ | (refine .tail _ ?_; first | assumption | exact .head _)))))))))) (by assumption)) ?_)
        refine r_bin rfl rfl b_eql ?_
        refine r_move rfl ?_
        refine j_cases (t := 68) (b := ?b5) ?e5 ?_ ?_
        case e5 => exact rfl
        · -- t68 True
          intro ht68
          try simp only [decide_eq_true_eq, decide_eq_false_iff_not, beq_iff_eq, bne_iff_ne, beq_eq_false_iff_ne, bne_eq_false_iff_eq, Int.not_lt, Int.not_le, Bool.not_eq_true, ne_eq, Bool.not_eq_eq_eq_not, Bool.not_true, Bool.not_false] at ht68
          refine J.guardYes ?_ ?_
          · exact rfl
          first | refine r_fieldAddr fo_39_2 rfl ?_ | refine r_fieldAddrE fo_39_2 rfl (by first | exact len_row (by first | exact .hd | exact .tl .hd | exact .tl (.tl .hd) | exact .tl (.tl (.tl .hd)) | exact .tl (.tl (.tl (.tl .hd))) | exact .tl (.tl (.tl (.tl (.tl .hd)))) | exact .tl (.tl (.tl (.tl (.tl (.tl .hd))))) | exact .tl (.tl (.tl (.tl (.tl (.tl (.tl .hd)))))) | exact .tl (.tl (.tl (.tl (.tl (.tl (.tl (.tl .hd)))))))) | exact len_sl (by first | assumption | exact .head _ | (refine .tail _ ?_; first | assumption | exact .head _ | (refine .tail _ ?_; first | assumption | exact .head _ | (refine .tail _ ?_; first | assumption | exact .head _ | (refine .tail _ ?_; first | assumption | exact .head _ | (refine .tail _ ?_; first | assumption | exact .head _ | (refine .tail _ ?_; first | assumption | exact .head _ | (refine .tail _ ?_; first | assumption | exact .head _ | (refine .tail _ ?_; first | assumption | exact .head _ | (refine .tail _ ?_; first | assumption | exact .head _))))))))))) (by first | assumption | omega | simp) ?_
          refine J.guardYes ?_ ?_
          · exact rfl
          first
            | (refine r_load1 Try.isAgg3 rfl (at_blk1 (by first | exact .hd | exact .tl .hd | exact .tl (.tl .hd) | exact .tl (.tl (.tl .hd)) | exact .tl (.tl (.tl (.tl .hd))) | exact .tl (.tl (.tl (.tl (.tl .hd)))) | exact .tl (.tl (.tl (.tl (.tl (.tl .hd))))) | exact .tl (.tl (.tl (.tl (.tl (.tl (.tl .hd)))))) | exact .tl (.tl (.tl (.tl (.tl (.tl (.tl (.tl .hd)))))))) (by exact rfl)) ?_)
            | (refine r_load1 Try.isAgg3 rfl (at_int (by first | assumption | exact .head _ | (refine .tail _ ?_; first | assumption | exact .head _ | (refine .tail _ ?_; first | assumption | exact .head _ | (refine .tail _ ?_; first | assumption | exact .head _ | (refine .tail _ ?_; first | assumption | exact .head _ | (refine .tail _ ?_; first | assumption | exact .head _ | (refine .tail _ ?_; first | assumption | exact .head _ | (refine .tail _ ?_; first | assumption | exact .head _ | (refine .tail _ ?_; first | assumption | exact .head _ | (refine .tail _ ?_; first | assumption | exact .head _)))))))))) (by assumption)) ?_)
          refine J.guardYes ?_ ?_
          · exact rfl
          first | refine r_fieldAddr fo_37_0 rfl ?_ | refine r_fieldAddrE fo_37_0 rfl (by first | exact len_row (by first | exact .hd | exact .tl .hd | exact .tl (.tl .hd) | exact .tl (.tl (.tl .hd)) | exact .tl (.tl (.tl (.tl .hd))) | exact .tl (.tl (.tl (.tl (.tl .hd)))) | exact .tl (.tl (.tl (.tl (.tl (.tl .hd))))) | exact .tl (.tl (.tl (.tl (.tl (.tl (.tl .hd)))))) | exact .tl (.tl (.tl (.tl (.tl (.tl (.tl (.tl .hd)))))))) | exact len_sl (by first | assumption | exact .head _ | (refine .tail _ ?_; first | assumption | exact .head _ | (refine .tail _ ?_; first | assumption | exact .head _ | (refine .tail _ ?_; first | assumption | exact .head _ | (refine .tail _ ?_; first | assumption | exact .head _ | (refine .tail _ ?_; first | assumption | exact .head _ | (refine .tail _ ?_; first | assumption | exact .head _ | (refine .tail _ ?_; first | assumption | exact .head _ | (refine .tail _ ?_; first | assumption | exact .head _ | (refine .tail _ ?_; first | assumption | exact .head _))))))))))) (by first | assumption | omega | simp) ?_
          refine J.guardYes ?_ ?_
          · exact rfl
          first
            | (refine r_load1 Try.isAgg3 rfl (at_blk1 (by first | exact .hd | exact .tl .hd | exact .tl (.tl .hd) | exact .tl (.tl (.tl .hd)) | exact .tl (.tl (.tl (.tl .hd))) | exact .tl (.tl (.tl (.tl (.tl .hd)))) | exact .tl (.tl (.tl (.tl (.tl (.tl .hd))))) | exact .tl (.tl (.tl (.tl (.tl (.tl (.tl .hd)))))) | exact .tl (.tl (.tl (.tl (.tl (.tl (.tl (.tl .hd)))))))) (by exact rfl)) ?_)
            | (refine r_load1 Try.isAgg3 rfl (at_int (by first | assumption | exact .head _ | (refine .tail _ ?_; first | assumption | exact .head _ | (refine .tail _ ?_; first | assumption | exact .head _ | (refine .tail _ ?_; first | assumption | exact .head _ | (refine .tail _ ?_; first | assumption | exact .head _ | (refine .tail _ ?_; first | assumption | exact .head _ | (refine .tail _ ?_; first | assumption | exact .head _ | (refine .tail _ ?_; first | assumption | exact .head _ | (refine .tail _ ?_; first | assumption | exact .head _ | (refine .tail _ ?_; first | assumption | exact .head _)))))))))) (by assumption)) ?_)
          refine J.guardYes ?_ ?_
          · exact rfl
          refine r_bin rfl rfl b_eql ?_
          refine r_pickT rfl rfl ?_
          refine r_move rfl ?_
          refine j_cases (t := 75) (b := ?b6) ?e6 ?_ ?_
          case e6 => exact rfl
          · -- t75 True
            intro ht75
            try simp only [decide_eq_true_eq, decide_eq_false_iff_not, beq_iff_eq, bne_iff_ne, beq_eq_false_iff_ne, bne_eq_false_iff_eq, Int.not_lt, Int.not_le, Bool.not_eq_true, ne_eq, Bool.not_eq_eq_eq_not, Bool.not_true, Bool.not_false] at ht75
            refine J.guardNo ?_ ?_
            · exact rfl
            refine J.guardNo ?_ ?_
            · exact rfl
            refine J.guardNo ?_ ?_
            · exact rfl
            refine J.guardNo ?_ ?_
            · exact rfl
            refine J.guardNo ?_ ?_
            · exact rfl
            refine J.guardNo ?_ ?_
            · exact rfl
            refine J.guardUndef ?_ ?_
            · exact rfl
            refine J.guardUndef ?_ ?_
            · exact rfl
            refine J.guardUndef ?_ ?_
            · exact rfl
            refine J.guardUndef ?_ ?_
            · exact rfl
            refine J.guardUndef ?_ ?_
            · exact rfl
            refine J.guardNo ?_ ?_
            · exact rfl
            refine r_pickT rfl rfl ?_
            refine J.nil ?_
            refine jx_then ?_
            repeat refine jc_seq ?_
            refine jc_condT rfl ?_
            repeat refine jc_seq ?_
            refine jc_region ?_
            refine r_assign rfl ?_
            refine J.nil ?_
            refine jx_then ?_
            refine jc_ret ?_
            repeat (first | refine jx_thenRet ?_ | refine jx_blockRet ?_)
            have hk5 : k = 5 := by omega
            subst hk5
            have hl := hkl (by omega)
            subst hxs
            have q0 := hkx 0 (by omega) _ rfl
            have q1 := hkx 1 (by omega) _ rfl
            have q2 := hkx 2 (by omega) _ rfl
            have q3 := hkx 3 (by omega) _ rfl
            have q4 := hkx 4 (by omega) _ rfl
            simp only at q0 q1 q2 q3 q4
            have hr : ¬ (m.src < 0 ∨ c.cores < m.src ∨ m.dst < 0 ∨ c.cores < m.dst ∨ m.line < 0 ∨ c.lines ≤ m.line ∨ m.serial < 0 ∨ 65535 < m.serial ∨ m.turn < 0 ∨ 65535 < m.turn ∨ m.value < 0 ∨ 255 < m.value) := by omega
            refine jx_body (.inr rfl) (fun B w _ => res1 rfl rfl B w) (fun w hs => ⟨(), ?_, hs.sub (by repeat (first | exact .refl | exact .nil | refine .cons (by first | exact .hd | exact .tl .hd | exact .tl (.tl .hd) | exact .tl (.tl (.tl .hd)) | exact .tl (.tl (.tl (.tl .hd))) | exact .tl (.tl (.tl (.tl (.tl .hd)))) | exact .tl (.tl (.tl (.tl (.tl (.tl .hd))))) | exact .tl (.tl (.tl (.tl (.tl (.tl (.tl .hd)))))) | exact .tl (.tl (.tl (.tl (.tl (.tl (.tl (.tl .hd)))))))) ?_ | refine .drop ?_)) (by repeat (first | exact FSub.refl | exact FSub.nil | refine FSub.cons (by first | assumption | (repeat (first | assumption | exact List.Mem.head _ | refine .tail _ ?_))) ?_ | refine FSub.drop ?_))⟩)
            unfold msgWrong; rw [if_neg (by omega), if_neg hr, if_pos (by omega)]
          · -- t75 False
            intro ht75
            try simp only [decide_eq_true_eq, decide_eq_false_iff_not, beq_iff_eq, bne_iff_ne, beq_eq_false_iff_ne, bne_eq_false_iff_eq, Int.not_lt, Int.not_le, Bool.not_eq_true, ne_eq, Bool.not_eq_eq_eq_not, Bool.not_true, Bool.not_false] at ht75
            refine J.guardYes ?_ ?_
            · exact rfl
            first | refine r_fieldAddr fo_39_1 rfl ?_ | refine r_fieldAddrE fo_39_1 rfl (by first | exact len_row (by first | exact .hd | exact .tl .hd | exact .tl (.tl .hd) | exact .tl (.tl (.tl .hd)) | exact .tl (.tl (.tl (.tl .hd))) | exact .tl (.tl (.tl (.tl (.tl .hd)))) | exact .tl (.tl (.tl (.tl (.tl (.tl .hd))))) | exact .tl (.tl (.tl (.tl (.tl (.tl (.tl .hd)))))) | exact .tl (.tl (.tl (.tl (.tl (.tl (.tl (.tl .hd)))))))) | exact len_sl (by first | assumption | exact .head _ | (refine .tail _ ?_; first | assumption | exact .head _ | (refine .tail _ ?_; first | assumption | exact .head _ | (refine .tail _ ?_; first | assumption | exact .head _ | (refine .tail _ ?_; first | assumption | exact .head _ | (refine .tail _ ?_; first | assumption | exact .head _ | (refine .tail _ ?_; first | assumption | exact .head _ | (refine .tail _ ?_; first | assumption | exact .head _ | (refine .tail _ ?_; first | assumption | exact .head _ | (refine .tail _ ?_; first | assumption | exact .head _))))))))))) (by first | assumption | omega | simp) ?_
            refine J.guardYes ?_ ?_
            · exact rfl
            first
              | (refine r_load1 Try.isAgg3 rfl (at_blk1 (by first | exact .hd | exact .tl .hd | exact .tl (.tl .hd) | exact .tl (.tl (.tl .hd)) | exact .tl (.tl (.tl (.tl .hd))) | exact .tl (.tl (.tl (.tl (.tl .hd)))) | exact .tl (.tl (.tl (.tl (.tl (.tl .hd))))) | exact .tl (.tl (.tl (.tl (.tl (.tl (.tl .hd)))))) | exact .tl (.tl (.tl (.tl (.tl (.tl (.tl (.tl .hd)))))))) (by exact rfl)) ?_)
              | (refine r_load1 Try.isAgg3 rfl (at_int (by first | assumption | exact .head _ | (refine .tail _ ?_; first | assumption | exact .head _ | (refine .tail _ ?_; first | assumption | exact .head _ | (refine .tail _ ?_; first | assumption | exact .head _ | (refine .tail _ ?_; first | assumption | exact .head _ | (refine .tail _ ?_; first | assumption | exact .head _ | (refine .tail _ ?_; first | assumption | exact .head _ | (refine .tail _ ?_; first | assumption | exact .head _ | (refine .tail _ ?_; first | assumption | exact .head _ | (refine .tail _ ?_; first | assumption | exact .head _)))))))))) (by assumption)) ?_)
            refine J.guardYes ?_ ?_
            · exact rfl
            first | refine r_fieldAddr fo_37_0 rfl ?_ | refine r_fieldAddrE fo_37_0 rfl (by first | exact len_row (by first | exact .hd | exact .tl .hd | exact .tl (.tl .hd) | exact .tl (.tl (.tl .hd)) | exact .tl (.tl (.tl (.tl .hd))) | exact .tl (.tl (.tl (.tl (.tl .hd)))) | exact .tl (.tl (.tl (.tl (.tl (.tl .hd))))) | exact .tl (.tl (.tl (.tl (.tl (.tl (.tl .hd)))))) | exact .tl (.tl (.tl (.tl (.tl (.tl (.tl (.tl .hd)))))))) | exact len_sl (by first | assumption | exact .head _ | (refine .tail _ ?_; first | assumption | exact .head _ | (refine .tail _ ?_; first | assumption | exact .head _ | (refine .tail _ ?_; first | assumption | exact .head _ | (refine .tail _ ?_; first | assumption | exact .head _ | (refine .tail _ ?_; first | assumption | exact .head _ | (refine .tail _ ?_; first | assumption | exact .head _ | (refine .tail _ ?_; first | assumption | exact .head _ | (refine .tail _ ?_; first | assumption | exact .head _ | (refine .tail _ ?_; first | assumption | exact .head _))))))))))) (by first | assumption | omega | simp) ?_
            refine J.guardYes ?_ ?_
            · exact rfl
            first
              | (refine r_load1 Try.isAgg3 rfl (at_blk1 (by first | exact .hd | exact .tl .hd | exact .tl (.tl .hd) | exact .tl (.tl (.tl .hd)) | exact .tl (.tl (.tl (.tl .hd))) | exact .tl (.tl (.tl (.tl (.tl .hd)))) | exact .tl (.tl (.tl (.tl (.tl (.tl .hd))))) | exact .tl (.tl (.tl (.tl (.tl (.tl (.tl .hd)))))) | exact .tl (.tl (.tl (.tl (.tl (.tl (.tl (.tl .hd)))))))) (by exact rfl)) ?_)
              | (refine r_load1 Try.isAgg3 rfl (at_int (by first | assumption | exact .head _ | (refine .tail _ ?_; first | assumption | exact .head _ | (refine .tail _ ?_; first | assumption | exact .head _ | (refine .tail _ ?_; first | assumption | exact .head _ | (refine .tail _ ?_; first | assumption | exact .head _ | (refine .tail _ ?_; first | assumption | exact .head _ | (refine .tail _ ?_; first | assumption | exact .head _ | (refine .tail _ ?_; first | assumption | exact .head _ | (refine .tail _ ?_; first | assumption | exact .head _ | (refine .tail _ ?_; first | assumption | exact .head _)))))))))) (by assumption)) ?_)
            refine J.guardYes ?_ ?_
            · exact rfl
            refine r_bin rfl rfl b_neq ?_
            refine J.guardYes ?_ ?_
            · exact rfl
            refine r_move rfl ?_
            refine j_cases (t := 81) (b := ?b7) ?e7 ?_ ?_
            case e7 => exact rfl
            · -- t81 True
              intro ht81
              try simp only [decide_eq_true_eq, decide_eq_false_iff_not, beq_iff_eq, bne_iff_ne, beq_eq_false_iff_ne, bne_eq_false_iff_eq, Int.not_lt, Int.not_le, Bool.not_eq_true, ne_eq, Bool.not_eq_eq_eq_not, Bool.not_true, Bool.not_false] at ht81
              refine J.guardYes ?_ ?_
              · exact rfl
              first | refine r_fieldAddr fo_39_2 rfl ?_ | refine r_fieldAddrE fo_39_2 rfl (by first | exact len_row (by first | exact .hd | exact .tl .hd | exact .tl (.tl .hd) | exact .tl (.tl (.tl .hd)) | exact .tl (.tl (.tl (.tl .hd))) | exact .tl (.tl (.tl (.tl (.tl .hd)))) | exact .tl (.tl (.tl (.tl (.tl (.tl .hd))))) | exact .tl (.tl (.tl (.tl (.tl (.tl (.tl .hd)))))) | exact .tl (.tl (.tl (.tl (.tl (.tl (.tl (.tl .hd)))))))) | exact len_sl (by first | assumption | exact .head _ | (refine .tail _ ?_; first | assumption | exact .head _ | (refine .tail _ ?_; first | assumption | exact .head _ | (refine .tail _ ?_; first | assumption | exact .head _ | (refine .tail _ ?_; first | assumption | exact .head _ | (refine .tail _ ?_; first | assumption | exact .head _ | (refine .tail _ ?_; first | assumption | exact .head _ | (refine .tail _ ?_; first | assumption | exact .head _ | (refine .tail _ ?_; first | assumption | exact .head _ | (refine .tail _ ?_; first | assumption | exact .head _))))))))))) (by first | assumption | omega | simp) ?_
              refine J.guardYes ?_ ?_
              · exact rfl
              first
                | (refine r_load1 Try.isAgg3 rfl (at_blk1 (by first | exact .hd | exact .tl .hd | exact .tl (.tl .hd) | exact .tl (.tl (.tl .hd)) | exact .tl (.tl (.tl (.tl .hd))) | exact .tl (.tl (.tl (.tl (.tl .hd)))) | exact .tl (.tl (.tl (.tl (.tl (.tl .hd))))) | exact .tl (.tl (.tl (.tl (.tl (.tl (.tl .hd)))))) | exact .tl (.tl (.tl (.tl (.tl (.tl (.tl (.tl .hd)))))))) (by exact rfl)) ?_)
                | (refine r_load1 Try.isAgg3 rfl (at_int (by first | assumption | exact .head _ | (refine .tail _ ?_; first | assumption | exact .head _ | (refine .tail _ ?_; first | assumption | exact .head _ | (refine .tail _ ?_; first | assumption | exact .head _ | (refine .tail _ ?_; first | assumption | exact .head _ | (refine .tail _ ?_; first | assumption | exact .head _ | (refine .tail _ ?_; first | assumption | exact .head _ | (refine .tail _ ?_; first | assumption | exact .head _ | (refine .tail _ ?_; first | assumption | exact .head _ | (refine .tail _ ?_; first | assumption | exact .head _)))))))))) (by assumption)) ?_)
              refine J.guardYes ?_ ?_
              · exact rfl
              first | refine r_fieldAddr fo_37_0 rfl ?_ | refine r_fieldAddrE fo_37_0 rfl (by first | exact len_row (by first | exact .hd | exact .tl .hd | exact .tl (.tl .hd) | exact .tl (.tl (.tl .hd)) | exact .tl (.tl (.tl (.tl .hd))) | exact .tl (.tl (.tl (.tl (.tl .hd)))) | exact .tl (.tl (.tl (.tl (.tl (.tl .hd))))) | exact .tl (.tl (.tl (.tl (.tl (.tl (.tl .hd)))))) | exact .tl (.tl (.tl (.tl (.tl (.tl (.tl (.tl .hd)))))))) | exact len_sl (by first | assumption | exact .head _ | (refine .tail _ ?_; first | assumption | exact .head _ | (refine .tail _ ?_; first | assumption | exact .head _ | (refine .tail _ ?_; first | assumption | exact .head _ | (refine .tail _ ?_; first | assumption | exact .head _ | (refine .tail _ ?_; first | assumption | exact .head _ | (refine .tail _ ?_; first | assumption | exact .head _ | (refine .tail _ ?_; first | assumption | exact .head _ | (refine .tail _ ?_; first | assumption | exact .head _ | (refine .tail _ ?_; first | assumption | exact .head _))))))))))) (by first | assumption | omega | simp) ?_
              refine J.guardYes ?_ ?_
              · exact rfl
              first
                | (refine r_load1 Try.isAgg3 rfl (at_blk1 (by first | exact .hd | exact .tl .hd | exact .tl (.tl .hd) | exact .tl (.tl (.tl .hd)) | exact .tl (.tl (.tl (.tl .hd))) | exact .tl (.tl (.tl (.tl (.tl .hd)))) | exact .tl (.tl (.tl (.tl (.tl (.tl .hd))))) | exact .tl (.tl (.tl (.tl (.tl (.tl (.tl .hd)))))) | exact .tl (.tl (.tl (.tl (.tl (.tl (.tl (.tl .hd)))))))) (by exact rfl)) ?_)
                | (refine r_load1 Try.isAgg3 rfl (at_int (by first | assumption | exact .head _ | (refine .tail _ ?_; first | assumption | exact .head _ | (refine .tail _ ?_; first | assumption | exact .head _ | (refine .tail _ ?_; first | assumption | exact .head _ | (refine .tail _ ?_; first | assumption | exact .head _ | (refine .tail _ ?_; first | assumption | exact .head _ | (refine .tail _ ?_; first | assumption | exact .head _ | (refine .tail _ ?_; first | assumption | exact .head _ | (refine .tail _ ?_; first | assumption | exact .head _ | (refine .tail _ ?_; first | assumption | exact .head _)))))))))) (by assumption)) ?_)
              refine J.guardYes ?_ ?_
              · exact rfl
              refine r_bin rfl rfl b_neq ?_
              refine J.guardYes ?_ ?_
              · exact rfl
              refine r_pickT rfl rfl ?_
              refine r_pickF rfl rfl ?_
              refine J.nil ?_
              refine jx_then ?_
              repeat refine jc_seq ?_
              refine jc_cond rfl (fun ht88 => ?_) (fun ht88 => ?_)
              · -- t88 True
                try simp only [decide_eq_true_eq, decide_eq_false_iff_not, beq_iff_eq, bne_iff_ne, beq_eq_false_iff_ne, bne_eq_false_iff_eq, Int.not_lt, Int.not_le, Bool.not_eq_true, ne_eq, Bool.not_eq_eq_eq_not, Bool.not_true, Bool.not_false] at ht88
                repeat refine jc_seq ?_
                refine jc_region ?_
                refine r_assign rfl ?_
                refine J.nil ?_
                refine jx_then ?_
                refine jc_ret ?_
                repeat (first | refine jx_thenRet ?_ | refine jx_blockRet ?_)
                have hk5 : k = 5 := by omega
                subst hk5
                have hl := hkl (by omega)
                subst hxs
                have q0 := hkx 0 (by omega) _ rfl
                have q1 := hkx 1 (by omega) _ rfl
                have q2 := hkx 2 (by omega) _ rfl
                have q3 := hkx 3 (by omega) _ rfl
                have q4 := hkx 4 (by omega) _ rfl
                simp only at q0 q1 q2 q3 q4
                have hr : ¬ (m.src < 0 ∨ c.cores < m.src ∨ m.dst < 0 ∨ c.cores < m.dst ∨ m.line < 0 ∨ c.lines ≤ m.line ∨ m.serial < 0 ∨ 65535 < m.serial ∨ m.turn < 0 ∨ 65535 < m.turn ∨ m.value < 0 ∨ 255 < m.value) := by omega
                refine jx_body (.inr rfl) (fun B w _ => res1 rfl rfl B w) (fun w hs => ⟨(), ?_, hs.sub (by repeat (first | exact .refl | exact .nil | refine .cons (by first | exact .hd | exact .tl .hd | exact .tl (.tl .hd) | exact .tl (.tl (.tl .hd)) | exact .tl (.tl (.tl (.tl .hd))) | exact .tl (.tl (.tl (.tl (.tl .hd)))) | exact .tl (.tl (.tl (.tl (.tl (.tl .hd))))) | exact .tl (.tl (.tl (.tl (.tl (.tl (.tl .hd)))))) | exact .tl (.tl (.tl (.tl (.tl (.tl (.tl (.tl .hd)))))))) ?_ | refine .drop ?_)) (by repeat (first | exact FSub.refl | exact FSub.nil | refine FSub.cons (by first | assumption | (repeat (first | assumption | exact List.Mem.head _ | refine .tail _ ?_))) ?_ | refine FSub.drop ?_))⟩)
                unfold msgWrong; rw [if_neg (by omega), if_neg hr, if_pos (by omega)]
              · -- t88 False
                try simp only [decide_eq_true_eq, decide_eq_false_iff_not, beq_iff_eq, bne_iff_ne, beq_eq_false_iff_ne, bne_eq_false_iff_eq, Int.not_lt, Int.not_le, Bool.not_eq_true, ne_eq, Bool.not_eq_eq_eq_not, Bool.not_true, Bool.not_false] at ht88
                refine jc_skip ?_
                refine jx_then ?_
                repeat refine jc_seq ?_
                refine jc_region ?_
                refine r_assign rfl ?_
                refine J.nil ?_
                refine jx_then ?_
                refine jc_ret ?_
                repeat (first | refine jx_thenRet ?_ | refine jx_blockRet ?_)
                have hk5 : k = 5 := by omega
                subst hk5
                have hl := hkl (by omega)
                subst hxs
                have q0 := hkx 0 (by omega) _ rfl
                have q1 := hkx 1 (by omega) _ rfl
                have q2 := hkx 2 (by omega) _ rfl
                have q3 := hkx 3 (by omega) _ rfl
                have q4 := hkx 4 (by omega) _ rfl
                simp only at q0 q1 q2 q3 q4
                have hr : ¬ (m.src < 0 ∨ c.cores < m.src ∨ m.dst < 0 ∨ c.cores < m.dst ∨ m.line < 0 ∨ c.lines ≤ m.line ∨ m.serial < 0 ∨ 65535 < m.serial ∨ m.turn < 0 ∨ 65535 < m.turn ∨ m.value < 0 ∨ 255 < m.value) := by omega
                refine jx_body (.inr rfl) (fun B w _ => res1 rfl rfl B w) (fun w hs => ⟨(), ?_, hs.sub (by repeat (first | exact .refl | exact .nil | refine .cons (by first | exact .hd | exact .tl .hd | exact .tl (.tl .hd) | exact .tl (.tl (.tl .hd)) | exact .tl (.tl (.tl (.tl .hd))) | exact .tl (.tl (.tl (.tl (.tl .hd)))) | exact .tl (.tl (.tl (.tl (.tl (.tl .hd))))) | exact .tl (.tl (.tl (.tl (.tl (.tl (.tl .hd)))))) | exact .tl (.tl (.tl (.tl (.tl (.tl (.tl (.tl .hd)))))))) ?_ | refine .drop ?_)) (by repeat (first | exact FSub.refl | exact FSub.nil | refine FSub.cons (by first | assumption | (repeat (first | assumption | exact List.Mem.head _ | refine .tail _ ?_))) ?_ | refine FSub.drop ?_))⟩)
                unfold msgWrong; rw [if_neg (by omega), if_neg hr, if_neg (by omega)]
            · -- t81 False
              intro ht81
              try simp only [decide_eq_true_eq, decide_eq_false_iff_not, beq_iff_eq, bne_iff_ne, beq_eq_false_iff_ne, bne_eq_false_iff_eq, Int.not_lt, Int.not_le, Bool.not_eq_true, ne_eq, Bool.not_eq_eq_eq_not, Bool.not_true, Bool.not_false] at ht81
              refine J.guardNo ?_ ?_
              · exact rfl
              refine J.guardNo ?_ ?_
              · exact rfl
              refine J.guardNo ?_ ?_
              · exact rfl
              refine J.guardNo ?_ ?_
              · exact rfl
              refine J.guardNo ?_ ?_
              · exact rfl
              refine J.guardYes ?_ ?_
              · exact rfl
              refine r_pickF rfl rfl ?_
              refine r_pickF rfl rfl ?_
              refine J.nil ?_
              refine jx_then ?_
              repeat refine jc_seq ?_
              refine jc_condF rfl ?_
              refine jc_skip ?_
              refine jx_then ?_
              repeat refine jc_seq ?_
              refine jc_region ?_
              refine r_assign rfl ?_
              refine J.nil ?_
              refine jx_then ?_
              refine jc_ret ?_
              repeat (first | refine jx_thenRet ?_ | refine jx_blockRet ?_)
              have hk5 : k = 5 := by omega
              subst hk5
              have hl := hkl (by omega)
              subst hxs
              have q0 := hkx 0 (by omega) _ rfl
              have q1 := hkx 1 (by omega) _ rfl
              have q2 := hkx 2 (by omega) _ rfl
              have q3 := hkx 3 (by omega) _ rfl
              have q4 := hkx 4 (by omega) _ rfl
              simp only at q0 q1 q2 q3 q4
              have hr : ¬ (m.src < 0 ∨ c.cores < m.src ∨ m.dst < 0 ∨ c.cores < m.dst ∨ m.line < 0 ∨ c.lines ≤ m.line ∨ m.serial < 0 ∨ 65535 < m.serial ∨ m.turn < 0 ∨ 65535 < m.turn ∨ m.value < 0 ∨ 255 < m.value) := by omega
              refine jx_body (.inr rfl) (fun B w _ => res1 rfl rfl B w) (fun w hs => ⟨(), ?_, hs.sub (by repeat (first | exact .refl | exact .nil | refine .cons (by first | exact .hd | exact .tl .hd | exact .tl (.tl .hd) | exact .tl (.tl (.tl .hd)) | exact .tl (.tl (.tl (.tl .hd))) | exact .tl (.tl (.tl (.tl (.tl .hd)))) | exact .tl (.tl (.tl (.tl (.tl (.tl .hd))))) | exact .tl (.tl (.tl (.tl (.tl (.tl (.tl .hd)))))) | exact .tl (.tl (.tl (.tl (.tl (.tl (.tl (.tl .hd)))))))) ?_ | refine .drop ?_)) (by repeat (first | exact FSub.refl | exact FSub.nil | refine FSub.cons (by first | assumption | (repeat (first | assumption | exact List.Mem.head _ | refine .tail _ ?_))) ?_ | refine FSub.drop ?_))⟩)
              unfold msgWrong; rw [if_neg (by omega), if_neg hr, if_neg (by omega)]
        · -- t68 False
          intro ht68
          try simp only [decide_eq_true_eq, decide_eq_false_iff_not, beq_iff_eq, bne_iff_ne, beq_eq_false_iff_ne, bne_eq_false_iff_eq, Int.not_lt, Int.not_le, Bool.not_eq_true, ne_eq, Bool.not_eq_eq_eq_not, Bool.not_true, Bool.not_false] at ht68
          refine J.guardNo ?_ ?_
          · exact rfl
          refine J.guardNo ?_ ?_
          · exact rfl
          refine J.guardNo ?_ ?_
          · exact rfl
          refine J.guardNo ?_ ?_
          · exact rfl
          refine J.guardNo ?_ ?_
          · exact rfl
          refine r_pickF rfl rfl ?_
          refine r_move rfl ?_
          refine J.guardYes ?_ ?_
          · exact rfl
          first | refine r_fieldAddr fo_39_1 rfl ?_ | refine r_fieldAddrE fo_39_1 rfl (by first | exact len_row (by first | exact .hd | exact .tl .hd | exact .tl (.tl .hd) | exact .tl (.tl (.tl .hd)) | exact .tl (.tl (.tl (.tl .hd))) | exact .tl (.tl (.tl (.tl (.tl .hd)))) | exact .tl (.tl (.tl (.tl (.tl (.tl .hd))))) | exact .tl (.tl (.tl (.tl (.tl (.tl (.tl .hd)))))) | exact .tl (.tl (.tl (.tl (.tl (.tl (.tl (.tl .hd)))))))) | exact len_sl (by first | assumption | exact .head _ | (refine .tail _ ?_; first | assumption | exact .head _ | (refine .tail _ ?_; first | assumption | exact .head _ | (refine .tail _ ?_; first | assumption | exact .head _ | (refine .tail _ ?_; first | assumption | exact .head _ | (refine .tail _ ?_; first | assumption | exact .head _ | (refine .tail _ ?_; first | assumption | exact .head _ | (refine .tail _ ?_; first | assumption | exact .head _ | (refine .tail _ ?_; first | assumption | exact .head _ | (refine .tail _ ?_; first | assumption | exact .head _))))))))))) (by first | assumption | omega | simp) ?_
          refine J.guardYes ?_ ?_
          · exact rfl
          first
            | (refine r_load1 Try.isAgg3 rfl (at_blk1 (by first | exact .hd | exact .tl .hd | exact .tl (.tl .hd) | exact .tl (.tl (.tl .hd)) | exact .tl (.tl (.tl (.tl .hd))) | exact .tl (.tl (.tl (.tl (.tl .hd)))) | exact .tl (.tl (.tl (.tl (.tl (.tl .hd))))) | exact .tl (.tl (.tl (.tl (.tl (.tl (.tl .hd)))))) | exact .tl (.tl (.tl (.tl (.tl (.tl (.tl (.tl .hd)))))))) (by exact rfl)) ?_)
            | (refine r_load1 Try.isAgg3 rfl (at_int (by first | assumption | exact .head _ | (refine .tail _ ?_; first | assumption | exact .head _ | (refine .tail _ ?_; first | assumption | exact .head _ | (refine .tail _ ?_; first | assumption | exact .head _ | (refine .tail _ ?_; first | assumption | exact .head _ | (refine .tail _ ?_; first | assumption | exact .head _ | (refine .tail _ ?_; first | assumption | exact .head _ | (refine .tail _ ?_; first | assumption | exact .head _ | (refine .tail _ ?_; first | assumption | exact .head _ | (refine .tail _ ?_; first | assumption | exact .head _)))))))))) (by assumption)) ?_)
          refine J.guardYes ?_ ?_
          · exact rfl
          first | refine r_fieldAddr fo_37_0 rfl ?_ | refine r_fieldAddrE fo_37_0 rfl (by first | exact len_row (by first | exact .hd | exact .tl .hd | exact .tl (.tl .hd) | exact .tl (.tl (.tl .hd)) | exact .tl (.tl (.tl (.tl .hd))) | exact .tl (.tl (.tl (.tl (.tl .hd)))) | exact .tl (.tl (.tl (.tl (.tl (.tl .hd))))) | exact .tl (.tl (.tl (.tl (.tl (.tl (.tl .hd)))))) | exact .tl (.tl (.tl (.tl (.tl (.tl (.tl (.tl .hd)))))))) | exact len_sl (by first | assumption | exact .head _ | (refine .tail _ ?_; first | assumption | exact .head _ | (refine .tail _ ?_; first | assumption | exact .head _ | (refine .tail _ ?_; first | assumption | exact .head _ | (refine .tail _ ?_; first | assumption | exact .head _ | (refine .tail _ ?_; first | assumption | exact .head _ | (refine .tail _ ?_; first | assumption | exact .head _ | (refine .tail _ ?_; first | assumption | exact .head _ | (refine .tail _ ?_; first | assumption | exact .head _ | (refine .tail _ ?_; first | assumption | exact .head _))))))))))) (by first | assumption | omega | simp) ?_
          refine J.guardYes ?_ ?_
          · exact rfl
          first
            | (refine r_load1 Try.isAgg3 rfl (at_blk1 (by first | exact .hd | exact .tl .hd | exact .tl (.tl .hd) | exact .tl (.tl (.tl .hd)) | exact .tl (.tl (.tl (.tl .hd))) | exact .tl (.tl (.tl (.tl (.tl .hd)))) | exact .tl (.tl (.tl (.tl (.tl (.tl .hd))))) | exact .tl (.tl (.tl (.tl (.tl (.tl (.tl .hd)))))) | exact .tl (.tl (.tl (.tl (.tl (.tl (.tl (.tl .hd)))))))) (by exact rfl)) ?_)
            | (refine r_load1 Try.isAgg3 rfl (at_int (by first | assumption | exact .head _ | (refine .tail _ ?_; first | assumption | exact .head _ | (refine .tail _ ?_; first | assumption | exact .head _ | (refine .tail _ ?_; first | assumption | exact .head _ | (refine .tail _ ?_; first | assumption | exact .head _ | (refine .tail _ ?_; first | assumption | exact .head _ | (refine .tail _ ?_; first | assumption | exact .head _ | (refine .tail _ ?_; first | assumption | exact .head _ | (refine .tail _ ?_; first | assumption | exact .head _ | (refine .tail _ ?_; first | assumption | exact .head _)))))))))) (by assumption)) ?_)
          refine J.guardYes ?_ ?_
          · exact rfl
          refine r_bin rfl rfl b_neq ?_
          refine J.guardYes ?_ ?_
          · exact rfl
          refine r_move rfl ?_
          refine j_cases (t := 81) (b := ?b8) ?e8 ?_ ?_
          case e8 => exact rfl
          · -- t81 True
            intro ht81
            try simp only [decide_eq_true_eq, decide_eq_false_iff_not, beq_iff_eq, bne_iff_ne, beq_eq_false_iff_ne, bne_eq_false_iff_eq, Int.not_lt, Int.not_le, Bool.not_eq_true, ne_eq, Bool.not_eq_eq_eq_not, Bool.not_true, Bool.not_false] at ht81
            refine J.guardYes ?_ ?_
            · exact rfl
            first | refine r_fieldAddr fo_39_2 rfl ?_ | refine r_fieldAddrE fo_39_2 rfl (by first | exact len_row (by first | exact .hd | exact .tl .hd | exact .tl (.tl .hd) | exact .tl (.tl (.tl .hd)) | exact .tl (.tl (.tl (.tl .hd))) | exact .tl (.tl (.tl (.tl (.tl .hd)))) | exact .tl (.tl (.tl (.tl (.tl (.tl .hd))))) | exact .tl (.tl (.tl (.tl (.tl (.tl (.tl .hd)))))) | exact .tl (.tl (.tl (.tl (.tl (.tl (.tl (.tl .hd)))))))) | exact len_sl (by first | assumption | exact .head _ | (refine .tail _ ?_; first | assumption | exact .head _ | (refine .tail _ ?_; first | assumption | exact .head _ | (refine .tail _ ?_; first | assumption | exact .head _ | (refine .tail _ ?_; first | assumption | exact .head _ | (refine .tail _ ?_; first | assumption | exact .head _ | (refine .tail _ ?_; first | assumption | exact .head _ | (refine .tail _ ?_; first | assumption | exact .head _ | (refine .tail _ ?_; first | assumption | exact .head _ | (refine .tail _ ?_; first | assumption | exact .head _))))))))))) (by first | assumption | omega | simp) ?_
            refine J.guardYes ?_ ?_
            · exact rfl
            first
              | (refine r_load1 Try.isAgg3 rfl (at_blk1 (by first | exact .hd | exact .tl .hd | exact .tl (.tl .hd) | exact .tl (.tl (.tl .hd)) | exact .tl (.tl (.tl (.tl .hd))) | exact .tl (.tl (.tl (.tl (.tl .hd)))) | exact .tl (.tl (.tl (.tl (.tl (.tl .hd))))) | exact .tl (.tl (.tl (.tl (.tl (.tl (.tl .hd)))))) | exact .tl (.tl (.tl (.tl (.tl (.tl (.tl (.tl .hd)))))))) (by exact rfl)) ?_)
              | (refine r_load1 Try.isAgg3 rfl (at_int (by first | assumption | exact .head _ | (refine .tail _ ?_; first | assumption | exact .head _ | (refine .tail _ ?_; first | assumption | exact .head _ | (refine .tail _ ?_; first | assumption | exact .head _ | (refine .tail _ ?_; first | assumption | exact .head _ | (refine .tail _ ?_; first | assumption | exact .head _ | (refine .tail _ ?_; first | assumption | exact .head _ | (refine .tail _ ?_; first | assumption | exact .head _ | (refine .tail _ ?_; first | assumption | exact .head _ | (refine .tail _ ?_; first | assumption | exact .head _)))))))))) (by assumption)) ?_)
            refine J.guardYes ?_ ?_
            · exact rfl
            first | refine r_fieldAddr fo_37_0 rfl ?_ | refine r_fieldAddrE fo_37_0 rfl (by first | exact len_row (by first | exact .hd | exact .tl .hd | exact .tl (.tl .hd) | exact .tl (.tl (.tl .hd)) | exact .tl (.tl (.tl (.tl .hd))) | exact .tl (.tl (.tl (.tl (.tl .hd)))) | exact .tl (.tl (.tl (.tl (.tl (.tl .hd))))) | exact .tl (.tl (.tl (.tl (.tl (.tl (.tl .hd)))))) | exact .tl (.tl (.tl (.tl (.tl (.tl (.tl (.tl .hd)))))))) | exact len_sl (by first | assumption | exact .head _ | (refine .tail _ ?_; first | assumption | exact .head _ | (refine .tail _ ?_; first | assumption | exact .head _ | (refine .tail _ ?_; first | assumption | exact .head _ | (refine .tail _ ?_; first | assumption | exact .head _ | (refine .tail _ ?_; first | assumption | exact .head _ | (refine .tail _ ?_; first | assumption | exact .head _ | (refine .tail _ ?_; first | assumption | exact .head _ | (refine .tail _ ?_; first | assumption | exact .head _ | (refine .tail _ ?_; first | assumption | exact .head _))))))))))) (by first | assumption | omega | simp) ?_
            refine J.guardYes ?_ ?_
            · exact rfl
            first
              | (refine r_load1 Try.isAgg3 rfl (at_blk1 (by first | exact .hd | exact .tl .hd | exact .tl (.tl .hd) | exact .tl (.tl (.tl .hd)) | exact .tl (.tl (.tl (.tl .hd))) | exact .tl (.tl (.tl (.tl (.tl .hd)))) | exact .tl (.tl (.tl (.tl (.tl (.tl .hd))))) | exact .tl (.tl (.tl (.tl (.tl (.tl (.tl .hd)))))) | exact .tl (.tl (.tl (.tl (.tl (.tl (.tl (.tl .hd)))))))) (by exact rfl)) ?_)
              | (refine r_load1 Try.isAgg3 rfl (at_int (by first | assumption | exact .head _ | (refine .tail _ ?_; first | assumption | exact .head _ | (refine .tail _ ?_; first | assumption | exact .head _ | (refine .tail _ ?_; first | assumption | exact .head _ | (refine .tail _ ?_; first | assumption | exact .head _ | (refine .tail _ ?_; first | assumption | exact .head _ | (refine .tail _ ?_; first | assumption | exact .head _ | (refine .tail _ ?_; first | assumption | exact .head _ | (refine .tail _ ?_; first | assumption | exact .head _ | (refine .tail _ ?_; first | assumption | exact .head _)))))))))) (by assumption)) ?_)
            refine J.guardYes ?_ ?_
            · exact rfl
            refine r_bin rfl rfl b_neq ?_
            refine J.guardYes ?_ ?_
            · exact rfl
            refine r_pickT rfl rfl ?_
            refine r_pickF rfl rfl ?_
            refine J.nil ?_
            refine jx_then ?_
            repeat refine jc_seq ?_
            refine jc_cond rfl (fun ht88 => ?_) (fun ht88 => ?_)
            · -- t88 True
              try simp only [decide_eq_true_eq, decide_eq_false_iff_not, beq_iff_eq, bne_iff_ne, beq_eq_false_iff_ne, bne_eq_false_iff_eq, Int.not_lt, Int.not_le, Bool.not_eq_true, ne_eq, Bool.not_eq_eq_eq_not, Bool.not_true, Bool.not_false] at ht88
              repeat refine jc_seq ?_
              refine jc_region ?_
              refine r_assign rfl ?_
              refine J.nil ?_
              refine jx_then ?_
              refine jc_ret ?_
              repeat (first | refine jx_thenRet ?_ | refine jx_blockRet ?_)
              have hk5 : k = 5 := by omega
              subst hk5
              have hl := hkl (by omega)
              subst hxs
              have q0 := hkx 0 (by omega) _ rfl
              have q1 := hkx 1 (by omega) _ rfl
              have q2 := hkx 2 (by omega) _ rfl
              have q3 := hkx 3 (by omega) _ rfl
              have q4 := hkx 4 (by omega) _ rfl
              simp only at q0 q1 q2 q3 q4
              have hr : ¬ (m.src < 0 ∨ c.cores < m.src ∨ m.dst < 0 ∨ c.cores < m.dst ∨ m.line < 0 ∨ c.lines ≤ m.line ∨ m.serial < 0 ∨ 65535 < m.serial ∨ m.turn < 0 ∨ 65535 < m.turn ∨ m.value < 0 ∨ 255 < m.value) := by omega
              refine jx_body (.inr rfl) (fun B w _ => res1 rfl rfl B w) (fun w hs => ⟨(), ?_, hs.sub (by repeat (first | exact .refl | exact .nil | refine .cons (by first | exact .hd | exact .tl .hd | exact .tl (.tl .hd) | exact .tl (.tl (.tl .hd)) | exact .tl (.tl (.tl (.tl .hd))) | exact .tl (.tl (.tl (.tl (.tl .hd)))) | exact .tl (.tl (.tl (.tl (.tl (.tl .hd))))) | exact .tl (.tl (.tl (.tl (.tl (.tl (.tl .hd)))))) | exact .tl (.tl (.tl (.tl (.tl (.tl (.tl (.tl .hd)))))))) ?_ | refine .drop ?_)) (by repeat (first | exact FSub.refl | exact FSub.nil | refine FSub.cons (by first | assumption | (repeat (first | assumption | exact List.Mem.head _ | refine .tail _ ?_))) ?_ | refine FSub.drop ?_))⟩)
              unfold msgWrong; rw [if_neg (by omega), if_neg hr, if_pos (by omega)]
            · -- t88 False
              try simp only [decide_eq_true_eq, decide_eq_false_iff_not, beq_iff_eq, bne_iff_ne, beq_eq_false_iff_ne, bne_eq_false_iff_eq, Int.not_lt, Int.not_le, Bool.not_eq_true, ne_eq, Bool.not_eq_eq_eq_not, Bool.not_true, Bool.not_false] at ht88
              refine jc_skip ?_
              refine jx_then ?_
              repeat refine jc_seq ?_
              refine jc_region ?_
              refine r_assign rfl ?_
              refine J.nil ?_
              refine jx_then ?_
              refine jc_ret ?_
              repeat (first | refine jx_thenRet ?_ | refine jx_blockRet ?_)
              have hk5 : k = 5 := by omega
              subst hk5
              have hl := hkl (by omega)
              subst hxs
              have q0 := hkx 0 (by omega) _ rfl
              have q1 := hkx 1 (by omega) _ rfl
              have q2 := hkx 2 (by omega) _ rfl
              have q3 := hkx 3 (by omega) _ rfl
              have q4 := hkx 4 (by omega) _ rfl
              simp only at q0 q1 q2 q3 q4
              have hr : ¬ (m.src < 0 ∨ c.cores < m.src ∨ m.dst < 0 ∨ c.cores < m.dst ∨ m.line < 0 ∨ c.lines ≤ m.line ∨ m.serial < 0 ∨ 65535 < m.serial ∨ m.turn < 0 ∨ 65535 < m.turn ∨ m.value < 0 ∨ 255 < m.value) := by omega
              refine jx_body (.inr rfl) (fun B w _ => res1 rfl rfl B w) (fun w hs => ⟨(), ?_, hs.sub (by repeat (first | exact .refl | exact .nil | refine .cons (by first | exact .hd | exact .tl .hd | exact .tl (.tl .hd) | exact .tl (.tl (.tl .hd)) | exact .tl (.tl (.tl (.tl .hd))) | exact .tl (.tl (.tl (.tl (.tl .hd)))) | exact .tl (.tl (.tl (.tl (.tl (.tl .hd))))) | exact .tl (.tl (.tl (.tl (.tl (.tl (.tl .hd)))))) | exact .tl (.tl (.tl (.tl (.tl (.tl (.tl (.tl .hd)))))))) ?_ | refine .drop ?_)) (by repeat (first | exact FSub.refl | exact FSub.nil | refine FSub.cons (by first | assumption | (repeat (first | assumption | exact List.Mem.head _ | refine .tail _ ?_))) ?_ | refine FSub.drop ?_))⟩)
              unfold msgWrong; rw [if_neg (by omega), if_neg hr, if_neg (by omega)]
          · -- t81 False
            intro ht81
            try simp only [decide_eq_true_eq, decide_eq_false_iff_not, beq_iff_eq, bne_iff_ne, beq_eq_false_iff_ne, bne_eq_false_iff_eq, Int.not_lt, Int.not_le, Bool.not_eq_true, ne_eq, Bool.not_eq_eq_eq_not, Bool.not_true, Bool.not_false] at ht81
            refine J.guardNo ?_ ?_
            · exact rfl
            refine J.guardNo ?_ ?_
            · exact rfl
            refine J.guardNo ?_ ?_
            · exact rfl
            refine J.guardNo ?_ ?_
            · exact rfl
            refine J.guardNo ?_ ?_
            · exact rfl
            refine J.guardYes ?_ ?_
            · exact rfl
            refine r_pickF rfl rfl ?_
            refine r_pickF rfl rfl ?_
            refine J.nil ?_
            refine jx_then ?_
            repeat refine jc_seq ?_
            refine jc_condF rfl ?_
            refine jc_skip ?_
            refine jx_then ?_
            repeat refine jc_seq ?_
            refine jc_region ?_
            refine r_assign rfl ?_
            refine J.nil ?_
            refine jx_then ?_
            refine jc_ret ?_
            repeat (first | refine jx_thenRet ?_ | refine jx_blockRet ?_)
            have hk5 : k = 5 := by omega
            subst hk5
            have hl := hkl (by omega)
            subst hxs
            have q0 := hkx 0 (by omega) _ rfl
            have q1 := hkx 1 (by omega) _ rfl
            have q2 := hkx 2 (by omega) _ rfl
            have q3 := hkx 3 (by omega) _ rfl
            have q4 := hkx 4 (by omega) _ rfl
            simp only at q0 q1 q2 q3 q4
            have hr : ¬ (m.src < 0 ∨ c.cores < m.src ∨ m.dst < 0 ∨ c.cores < m.dst ∨ m.line < 0 ∨ c.lines ≤ m.line ∨ m.serial < 0 ∨ 65535 < m.serial ∨ m.turn < 0 ∨ 65535 < m.turn ∨ m.value < 0 ∨ 255 < m.value) := by omega
            refine jx_body (.inr rfl) (fun B w _ => res1 rfl rfl B w) (fun w hs => ⟨(), ?_, hs.sub (by repeat (first | exact .refl | exact .nil | refine .cons (by first | exact .hd | exact .tl .hd | exact .tl (.tl .hd) | exact .tl (.tl (.tl .hd)) | exact .tl (.tl (.tl (.tl .hd))) | exact .tl (.tl (.tl (.tl (.tl .hd)))) | exact .tl (.tl (.tl (.tl (.tl (.tl .hd))))) | exact .tl (.tl (.tl (.tl (.tl (.tl (.tl .hd)))))) | exact .tl (.tl (.tl (.tl (.tl (.tl (.tl (.tl .hd)))))))) ?_ | refine .drop ?_)) (by repeat (first | exact FSub.refl | exact FSub.nil | refine FSub.cons (by first | assumption | (repeat (first | assumption | exact List.Mem.head _ | refine .tail _ ?_))) ?_ | refine FSub.drop ?_))⟩)
            unfold msgWrong; rw [if_neg (by omega), if_neg hr, if_neg (by omega)]
end Go.Proofs.Ytfdkkncmpjbkbaa
