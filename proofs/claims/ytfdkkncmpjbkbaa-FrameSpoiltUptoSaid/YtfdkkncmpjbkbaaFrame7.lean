/- This file proves what FrameTurns and FrameSpoilt compute. No conditions. -/
import Derived.Test.YtfdkkncmpjbkbaaFacts
import Derived.Test.YtfdkkncmpjbkbaaFrame6b
set_option linter.unusedVariables false
set_option linter.unusedSimpArgs false
set_option maxHeartbeats 1000000
namespace Go.Proofs.Ytfdkkncmpjbkbaa
open Go
theorem frameTurns_walk {L : List Chunk} {R : List Fact} {w : World} {v2 : Value} {c : Config} {m : Msg} {b : List UInt8} (hs : St L R w) (h2 : sl v2 b ∈ R) : Calls Try.prog 6 [.agg c.cells.toArray, .agg m.cells.toArray, v2].toArray w (Post (fun _ : Unit => .bool true) (fun _ => L) (fun _ => R)) := by
  refine calls_args Try.func6 rfl Try.ntmps6 rfl hs ?_
  clear hs
  repeat refine jc_seq ?_
  refine jc_region ?_
  refine r_box rfl rfl ?_; intro b3
  refine r_box rfl rfl ?_; intro b4
  refine r_assign rfl ?_
  refine J.nil ?_
  refine jx_then ?_
  repeat refine jc_seq ?_
  refine jc_region ?_
  refine r_call Try.call58 rfl (fun w hs => aliveFrame_calls hs ) ?_; intro _
  refine r_not rfl ?_
  refine J.nil ?_
  refine jx_then ?_
  repeat refine jc_seq ?_
  refine jc_condF rfl ?_
  refine jc_skip ?_
  refine jx_then ?_
  repeat refine jc_seq ?_
  refine jc_region ?_
  first | refine r_fieldAddr fo_37_0 rfl ?_ | refine r_fieldAddrE fo_37_0 rfl (by first | exact len_row (by first | exact .hd | exact .tl .hd | exact .tl (.tl .hd) | exact .tl (.tl (.tl .hd)) | exact .tl (.tl (.tl (.tl .hd))) | exact .tl (.tl (.tl (.tl (.tl .hd)))) | exact .tl (.tl (.tl (.tl (.tl (.tl .hd))))) | exact .tl (.tl (.tl (.tl (.tl (.tl (.tl .hd)))))) | exact .tl (.tl (.tl (.tl (.tl (.tl (.tl (.tl .hd)))))))) | exact len_sl (by first | assumption | exact .head _ | (refine .tail _ ?_; first | assumption | exact .head _ | (refine .tail _ ?_; first | assumption | exact .head _ | (refine .tail _ ?_; first | assumption | exact .head _ | (refine .tail _ ?_; first | assumption | exact .head _ | (refine .tail _ ?_; first | assumption | exact .head _ | (refine .tail _ ?_; first | assumption | exact .head _ | (refine .tail _ ?_; first | assumption | exact .head _ | (refine .tail _ ?_; first | assumption | exact .head _ | (refine .tail _ ?_; first | assumption | exact .head _))))))))))) (by first | assumption | omega | simp) ?_
  first
    | (refine r_load1 Try.isAgg3 rfl (at_blk1 (by first | exact .hd | exact .tl .hd | exact .tl (.tl .hd) | exact .tl (.tl (.tl .hd)) | exact .tl (.tl (.tl (.tl .hd))) | exact .tl (.tl (.tl (.tl (.tl .hd)))) | exact .tl (.tl (.tl (.tl (.tl (.tl .hd))))) | exact .tl (.tl (.tl (.tl (.tl (.tl (.tl .hd)))))) | exact .tl (.tl (.tl (.tl (.tl (.tl (.tl (.tl .hd)))))))) (by exact rfl)) ?_)
    | (refine r_load1 Try.isAgg3 rfl (at_int (by first | assumption | exact .head _ | (refine .tail _ ?_; first | assumption | exact .head _ | (refine .tail _ ?_; first | assumption | exact .head _ | (refine .tail _ ?_; first | assumption | exact .head _ | (refine .tail _ ?_; first | assumption | exact .head _ | (refine .tail _ ?_; first | assumption | exact .head _ | (refine .tail _ ?_; first | assumption | exact .head _ | (refine .tail _ ?_; first | assumption | exact .head _ | (refine .tail _ ?_; first | assumption | exact .head _ | (refine .tail _ ?_; first | assumption | exact .head _)))))))))) (by assumption)) ?_)
  refine r_bin rfl rfl b_lss ?_
  refine r_move rfl ?_
  refine j_cases (t := 16) (b := ?b1) ?e1 ?_ ?_
  case e1 => exact rfl
  · -- t16 True
    intro ht16
    try simp only [decide_eq_true_eq, decide_eq_false_iff_not, beq_iff_eq, bne_iff_ne, beq_eq_false_iff_ne, bne_eq_false_iff_eq, Int.not_lt, Int.not_le, Bool.not_eq_true, ne_eq, Bool.not_eq_eq_eq_not, Bool.not_true, Bool.not_false] at ht16
    refine J.guardNo ?_ ?_
    · exact rfl
    refine J.guardNo ?_ ?_
    · exact rfl
    refine J.guardNo ?_ ?_
    · exact rfl
    refine r_pickT rfl rfl ?_
    refine r_move rfl ?_
    refine J.guardNo ?_ ?_
    · exact rfl
    refine J.guardNo ?_ ?_
    · exact rfl
    refine J.guardNo ?_ ?_
    · exact rfl
    refine r_pickT rfl rfl ?_
    refine r_move rfl ?_
    refine J.guardNo ?_ ?_
    · exact rfl
    refine J.guardNo ?_ ?_
    · exact rfl
    refine J.guardNo ?_ ?_
    · exact rfl
    refine r_pickT rfl rfl ?_
    refine J.nil ?_
    refine jx_then ?_
    repeat refine jc_seq ?_
    refine jc_condT rfl ?_
    repeat refine jc_seq ?_
    refine jc_region ?_
    refine r_assign rfl ?_
    refine J.nil ?_
    refine jx_then ?_
    refine jc_ret ?_
    repeat (first | refine jx_thenRet ?_ | refine jx_blockRet ?_)
    refine jx_body (.inr rfl) (fun B w _ => res1 rfl rfl B w) (fun w hs => ⟨(), ?_, hs.sub (by repeat (first | exact .refl | exact .nil | refine .cons (by first | exact .hd | exact .tl .hd | exact .tl (.tl .hd) | exact .tl (.tl (.tl .hd)) | exact .tl (.tl (.tl (.tl .hd))) | exact .tl (.tl (.tl (.tl (.tl .hd)))) | exact .tl (.tl (.tl (.tl (.tl (.tl .hd))))) | exact .tl (.tl (.tl (.tl (.tl (.tl (.tl .hd)))))) | exact .tl (.tl (.tl (.tl (.tl (.tl (.tl (.tl .hd)))))))) ?_ | refine .drop ?_)) (by repeat (first | exact FSub.refl | exact FSub.nil | refine FSub.cons (by first | assumption | (repeat (first | assumption | exact List.Mem.head _ | refine .tail _ ?_))) ?_ | refine FSub.drop ?_))⟩)
    rfl
  · -- t16 False
    intro ht16
    try simp only [decide_eq_true_eq, decide_eq_false_iff_not, beq_iff_eq, bne_iff_ne, beq_eq_false_iff_ne, bne_eq_false_iff_eq, Int.not_lt, Int.not_le, Bool.not_eq_true, ne_eq, Bool.not_eq_eq_eq_not, Bool.not_true, Bool.not_false] at ht16
    refine J.guardYes ?_ ?_
    · exact rfl
    first | refine r_fieldAddr fo_37_0 rfl ?_ | refine r_fieldAddrE fo_37_0 rfl (by first | exact len_row (by first | exact .hd | exact .tl .hd | exact .tl (.tl .hd) | exact .tl (.tl (.tl .hd)) | exact .tl (.tl (.tl (.tl .hd))) | exact .tl (.tl (.tl (.tl (.tl .hd)))) | exact .tl (.tl (.tl (.tl (.tl (.tl .hd))))) | exact .tl (.tl (.tl (.tl (.tl (.tl (.tl .hd)))))) | exact .tl (.tl (.tl (.tl (.tl (.tl (.tl (.tl .hd)))))))) | exact len_sl (by first | assumption | exact .head _ | (refine .tail _ ?_; first | assumption | exact .head _ | (refine .tail _ ?_; first | assumption | exact .head _ | (refine .tail _ ?_; first | assumption | exact .head _ | (refine .tail _ ?_; first | assumption | exact .head _ | (refine .tail _ ?_; first | assumption | exact .head _ | (refine .tail _ ?_; first | assumption | exact .head _ | (refine .tail _ ?_; first | assumption | exact .head _ | (refine .tail _ ?_; first | assumption | exact .head _ | (refine .tail _ ?_; first | assumption | exact .head _))))))))))) (by first | assumption | omega | simp) ?_
    refine J.guardYes ?_ ?_
    · exact rfl
    first
      | (refine r_load1 Try.isAgg3 rfl (at_blk1 (by first | exact .hd | exact .tl .hd | exact .tl (.tl .hd) | exact .tl (.tl (.tl .hd)) | exact .tl (.tl (.tl (.tl .hd))) | exact .tl (.tl (.tl (.tl (.tl .hd)))) | exact .tl (.tl (.tl (.tl (.tl (.tl .hd))))) | exact .tl (.tl (.tl (.tl (.tl (.tl (.tl .hd)))))) | exact .tl (.tl (.tl (.tl (.tl (.tl (.tl (.tl .hd)))))))) (by exact rfl)) ?_)
      | (refine r_load1 Try.isAgg3 rfl (at_int (by first | assumption | exact .head _ | (refine .tail _ ?_; first | assumption | exact .head _ | (refine .tail _ ?_; first | assumption | exact .head _ | (refine .tail _ ?_; first | assumption | exact .head _ | (refine .tail _ ?_; first | assumption | exact .head _ | (refine .tail _ ?_; first | assumption | exact .head _ | (refine .tail _ ?_; first | assumption | exact .head _ | (refine .tail _ ?_; first | assumption | exact .head _ | (refine .tail _ ?_; first | assumption | exact .head _ | (refine .tail _ ?_; first | assumption | exact .head _)))))))))) (by assumption)) ?_)
    refine J.guardYes ?_ ?_
    · exact rfl
    refine r_bin rfl rfl b_gtr ?_
    refine r_pickF rfl rfl ?_
    refine r_move rfl ?_
    refine j_cases (t := 21) (b := ?b2) ?e2 ?_ ?_
    case e2 => exact rfl
    · -- t21 True
      intro ht21
      try simp only [decide_eq_true_eq, decide_eq_false_iff_not, beq_iff_eq, bne_iff_ne, beq_eq_false_iff_ne, bne_eq_false_iff_eq, Int.not_lt, Int.not_le, Bool.not_eq_true, ne_eq, Bool.not_eq_eq_eq_not, Bool.not_true, Bool.not_false] at ht21
      refine J.guardNo ?_ ?_
      · exact rfl
      refine J.guardNo ?_ ?_
      · exact rfl
      refine J.guardNo ?_ ?_
      · exact rfl
      refine r_pickT rfl rfl ?_
      refine r_move rfl ?_
      refine J.guardNo ?_ ?_
      · exact rfl
      refine J.guardNo ?_ ?_
      · exact rfl
      refine J.guardNo ?_ ?_
      · exact rfl
      refine r_pickT rfl rfl ?_
      refine J.nil ?_
      refine jx_then ?_
      repeat refine jc_seq ?_
      refine jc_condT rfl ?_
      repeat refine jc_seq ?_
      refine jc_region ?_
      refine r_assign rfl ?_
      refine J.nil ?_
      refine jx_then ?_
      refine jc_ret ?_
      repeat (first | refine jx_thenRet ?_ | refine jx_blockRet ?_)
      refine jx_body (.inr rfl) (fun B w _ => res1 rfl rfl B w) (fun w hs => ⟨(), ?_, hs.sub (by repeat (first | exact .refl | exact .nil | refine .cons (by first | exact .hd | exact .tl .hd | exact .tl (.tl .hd) | exact .tl (.tl (.tl .hd)) | exact .tl (.tl (.tl (.tl .hd))) | exact .tl (.tl (.tl (.tl (.tl .hd)))) | exact .tl (.tl (.tl (.tl (.tl (.tl .hd))))) | exact .tl (.tl (.tl (.tl (.tl (.tl (.tl .hd)))))) | exact .tl (.tl (.tl (.tl (.tl (.tl (.tl (.tl .hd)))))))) ?_ | refine .drop ?_)) (by repeat (first | exact FSub.refl | exact FSub.nil | refine FSub.cons (by first | assumption | (repeat (first | assumption | exact List.Mem.head _ | refine .tail _ ?_))) ?_ | refine FSub.drop ?_))⟩)
      rfl
    · -- t21 False
      intro ht21
      try simp only [decide_eq_true_eq, decide_eq_false_iff_not, beq_iff_eq, bne_iff_ne, beq_eq_false_iff_ne, bne_eq_false_iff_eq, Int.not_lt, Int.not_le, Bool.not_eq_true, ne_eq, Bool.not_eq_eq_eq_not, Bool.not_true, Bool.not_false] at ht21
      refine J.guardYes ?_ ?_
      · exact rfl
      first | refine r_fieldAddr fo_37_1 rfl ?_ | refine r_fieldAddrE fo_37_1 rfl (by first | exact len_row (by first | exact .hd | exact .tl .hd | exact .tl (.tl .hd) | exact .tl (.tl (.tl .hd)) | exact .tl (.tl (.tl (.tl .hd))) | exact .tl (.tl (.tl (.tl (.tl .hd)))) | exact .tl (.tl (.tl (.tl (.tl (.tl .hd))))) | exact .tl (.tl (.tl (.tl (.tl (.tl (.tl .hd)))))) | exact .tl (.tl (.tl (.tl (.tl (.tl (.tl (.tl .hd)))))))) | exact len_sl (by first | assumption | exact .head _ | (refine .tail _ ?_; first | assumption | exact .head _ | (refine .tail _ ?_; first | assumption | exact .head _ | (refine .tail _ ?_; first | assumption | exact .head _ | (refine .tail _ ?_; first | assumption | exact .head _ | (refine .tail _ ?_; first | assumption | exact .head _ | (refine .tail _ ?_; first | assumption | exact .head _ | (refine .tail _ ?_; first | assumption | exact .head _ | (refine .tail _ ?_; first | assumption | exact .head _ | (refine .tail _ ?_; first | assumption | exact .head _))))))))))) (by first | assumption | omega | simp) ?_
      refine J.guardYes ?_ ?_
      · exact rfl
      first
        | (refine r_load1 Try.isAgg3 rfl (at_blk1 (by first | exact .hd | exact .tl .hd | exact .tl (.tl .hd) | exact .tl (.tl (.tl .hd)) | exact .tl (.tl (.tl (.tl .hd))) | exact .tl (.tl (.tl (.tl (.tl .hd)))) | exact .tl (.tl (.tl (.tl (.tl (.tl .hd))))) | exact .tl (.tl (.tl (.tl (.tl (.tl (.tl .hd)))))) | exact .tl (.tl (.tl (.tl (.tl (.tl (.tl (.tl .hd)))))))) (by exact rfl)) ?_)
        | (refine r_load1 Try.isAgg3 rfl (at_int (by first | assumption | exact .head _ | (refine .tail _ ?_; first | assumption | exact .head _ | (refine .tail _ ?_; first | assumption | exact .head _ | (refine .tail _ ?_; first | assumption | exact .head _ | (refine .tail _ ?_; first | assumption | exact .head _ | (refine .tail _ ?_; first | assumption | exact .head _ | (refine .tail _ ?_; first | assumption | exact .head _ | (refine .tail _ ?_; first | assumption | exact .head _ | (refine .tail _ ?_; first | assumption | exact .head _ | (refine .tail _ ?_; first | assumption | exact .head _)))))))))) (by assumption)) ?_)
      refine J.guardYes ?_ ?_
      · exact rfl
      refine r_bin rfl rfl b_lss ?_
      refine r_pickF rfl rfl ?_
      refine r_move rfl ?_
      refine j_cases (t := 26) (b := ?b3) ?e3 ?_ ?_
      case e3 => exact rfl
      · -- t26 True
        intro ht26
        try simp only [decide_eq_true_eq, decide_eq_false_iff_not, beq_iff_eq, bne_iff_ne, beq_eq_false_iff_ne, bne_eq_false_iff_eq, Int.not_lt, Int.not_le, Bool.not_eq_true, ne_eq, Bool.not_eq_eq_eq_not, Bool.not_true, Bool.not_false] at ht26
        refine J.guardNo ?_ ?_
        · exact rfl
        refine J.guardNo ?_ ?_
        · exact rfl
        refine J.guardNo ?_ ?_
        · exact rfl
        refine r_pickT rfl rfl ?_
        refine J.nil ?_
        refine jx_then ?_
        repeat refine jc_seq ?_
        refine jc_condT rfl ?_
        repeat refine jc_seq ?_
        refine jc_region ?_
        refine r_assign rfl ?_
        refine J.nil ?_
        refine jx_then ?_
        refine jc_ret ?_
        repeat (first | refine jx_thenRet ?_ | refine jx_blockRet ?_)
        refine jx_body (.inr rfl) (fun B w _ => res1 rfl rfl B w) (fun w hs => ⟨(), ?_, hs.sub (by repeat (first | exact .refl | exact .nil | refine .cons (by first | exact .hd | exact .tl .hd | exact .tl (.tl .hd) | exact .tl (.tl (.tl .hd)) | exact .tl (.tl (.tl (.tl .hd))) | exact .tl (.tl (.tl (.tl (.tl .hd)))) | exact .tl (.tl (.tl (.tl (.tl (.tl .hd))))) | exact .tl (.tl (.tl (.tl (.tl (.tl (.tl .hd)))))) | exact .tl (.tl (.tl (.tl (.tl (.tl (.tl (.tl .hd)))))))) ?_ | refine .drop ?_)) (by repeat (first | exact FSub.refl | exact FSub.nil | refine FSub.cons (by first | assumption | (repeat (first | assumption | exact List.Mem.head _ | refine .tail _ ?_))) ?_ | refine FSub.drop ?_))⟩)
        rfl
      · -- t26 False
        intro ht26
        try simp only [decide_eq_true_eq, decide_eq_false_iff_not, beq_iff_eq, bne_iff_ne, beq_eq_false_iff_ne, bne_eq_false_iff_eq, Int.not_lt, Int.not_le, Bool.not_eq_true, ne_eq, Bool.not_eq_eq_eq_not, Bool.not_true, Bool.not_false] at ht26
        refine J.guardYes ?_ ?_
        · exact rfl
        first | refine r_fieldAddr fo_37_1 rfl ?_ | refine r_fieldAddrE fo_37_1 rfl (by first | exact len_row (by first | exact .hd | exact .tl .hd | exact .tl (.tl .hd) | exact .tl (.tl (.tl .hd)) | exact .tl (.tl (.tl (.tl .hd))) | exact .tl (.tl (.tl (.tl (.tl .hd)))) | exact .tl (.tl (.tl (.tl (.tl (.tl .hd))))) | exact .tl (.tl (.tl (.tl (.tl (.tl (.tl .hd)))))) | exact .tl (.tl (.tl (.tl (.tl (.tl (.tl (.tl .hd)))))))) | exact len_sl (by first | assumption | exact .head _ | (refine .tail _ ?_; first | assumption | exact .head _ | (refine .tail _ ?_; first | assumption | exact .head _ | (refine .tail _ ?_; first | assumption | exact .head _ | (refine .tail _ ?_; first | assumption | exact .head _ | (refine .tail _ ?_; first | assumption | exact .head _ | (refine .tail _ ?_; first | assumption | exact .head _ | (refine .tail _ ?_; first | assumption | exact .head _ | (refine .tail _ ?_; first | assumption | exact .head _ | (refine .tail _ ?_; first | assumption | exact .head _))))))))))) (by first | assumption | omega | simp) ?_
        refine J.guardYes ?_ ?_
        · exact rfl
        first
          | (refine r_load1 Try.isAgg3 rfl (at_blk1 (by first | exact .hd | exact .tl .hd | exact .tl (.tl .hd) | exact .tl (.tl (.tl .hd)) | exact .tl (.tl (.tl (.tl .hd))) | exact .tl (.tl (.tl (.tl (.tl .hd)))) | exact .tl (.tl (.tl (.tl (.tl (.tl .hd))))) | exact .tl (.tl (.tl (.tl (.tl (.tl (.tl .hd)))))) | exact .tl (.tl (.tl (.tl (.tl (.tl (.tl (.tl .hd)))))))) (by exact rfl)) ?_)
          | (refine r_load1 Try.isAgg3 rfl (at_int (by first | assumption | exact .head _ | (refine .tail _ ?_; first | assumption | exact .head _ | (refine .tail _ ?_; first | assumption | exact .head _ | (refine .tail _ ?_; first | assumption | exact .head _ | (refine .tail _ ?_; first | assumption | exact .head _ | (refine .tail _ ?_; first | assumption | exact .head _ | (refine .tail _ ?_; first | assumption | exact .head _ | (refine .tail _ ?_; first | assumption | exact .head _ | (refine .tail _ ?_; first | assumption | exact .head _ | (refine .tail _ ?_; first | assumption | exact .head _)))))))))) (by assumption)) ?_)
        refine J.guardYes ?_ ?_
        · exact rfl
        refine r_bin rfl rfl b_gtr ?_
        refine r_pickF rfl rfl ?_
        refine J.nil ?_
        refine jx_then ?_
        repeat refine jc_seq ?_
        refine jc_cond rfl (fun ht30 => ?_) (fun ht30 => ?_)
        · -- t30 True
          try simp only [decide_eq_true_eq, decide_eq_false_iff_not, beq_iff_eq, bne_iff_ne, beq_eq_false_iff_ne, bne_eq_false_iff_eq, Int.not_lt, Int.not_le, Bool.not_eq_true, ne_eq, Bool.not_eq_eq_eq_not, Bool.not_true, Bool.not_false] at ht30
          repeat refine jc_seq ?_
          refine jc_region ?_
          refine r_assign rfl ?_
          refine J.nil ?_
          refine jx_then ?_
          refine jc_ret ?_
          repeat (first | refine jx_thenRet ?_ | refine jx_blockRet ?_)
          refine jx_body (.inr rfl) (fun B w _ => res1 rfl rfl B w) (fun w hs => ⟨(), ?_, hs.sub (by repeat (first | exact .refl | exact .nil | refine .cons (by first | exact .hd | exact .tl .hd | exact .tl (.tl .hd) | exact .tl (.tl (.tl .hd)) | exact .tl (.tl (.tl (.tl .hd))) | exact .tl (.tl (.tl (.tl (.tl .hd)))) | exact .tl (.tl (.tl (.tl (.tl (.tl .hd))))) | exact .tl (.tl (.tl (.tl (.tl (.tl (.tl .hd)))))) | exact .tl (.tl (.tl (.tl (.tl (.tl (.tl (.tl .hd)))))))) ?_ | refine .drop ?_)) (by repeat (first | exact FSub.refl | exact FSub.nil | refine FSub.cons (by first | assumption | (repeat (first | assumption | exact List.Mem.head _ | refine .tail _ ?_))) ?_ | refine FSub.drop ?_))⟩)
          rfl
        · -- t30 False
          try simp only [decide_eq_true_eq, decide_eq_false_iff_not, beq_iff_eq, bne_iff_ne, beq_eq_false_iff_ne, bne_eq_false_iff_eq, Int.not_lt, Int.not_le, Bool.not_eq_true, ne_eq, Bool.not_eq_eq_eq_not, Bool.not_true, Bool.not_false] at ht30
          refine jc_skip ?_
          refine jx_then ?_
          repeat refine jc_seq ?_
          refine jc_region ?_
          first | refine r_loadN Try.isAgg37 Try.sizeOf37 rfl (at_blkAll (by first | exact .hd | exact .tl .hd | exact .tl (.tl .hd) | exact .tl (.tl (.tl .hd)) | exact .tl (.tl (.tl (.tl .hd))) | exact .tl (.tl (.tl (.tl (.tl .hd)))) | exact .tl (.tl (.tl (.tl (.tl (.tl .hd))))) | exact .tl (.tl (.tl (.tl (.tl (.tl (.tl .hd)))))) | exact .tl (.tl (.tl (.tl (.tl (.tl (.tl (.tl .hd))))))))) (by exact rfl) ?_ | refine r_loadN Try.isAgg37 Try.sizeOf37 rfl (at_blkN (sz := 2) (by first | exact .hd | exact .tl .hd | exact .tl (.tl .hd) | exact .tl (.tl (.tl .hd)) | exact .tl (.tl (.tl (.tl .hd))) | exact .tl (.tl (.tl (.tl (.tl .hd)))) | exact .tl (.tl (.tl (.tl (.tl (.tl .hd))))) | exact .tl (.tl (.tl (.tl (.tl (.tl (.tl .hd)))))) | exact .tl (.tl (.tl (.tl (.tl (.tl (.tl (.tl .hd))))))))) (by exact rfl) ?_ | refine r_loadN Try.isAgg37 Try.sizeOf37 rfl (at_Config (by first | assumption | exact .head _ | (refine .tail _ ?_; first | assumption | exact .head _ | (refine .tail _ ?_; first | assumption | exact .head _ | (refine .tail _ ?_; first | assumption | exact .head _ | (refine .tail _ ?_; first | assumption | exact .head _ | (refine .tail _ ?_; first | assumption | exact .head _ | (refine .tail _ ?_; first | assumption | exact .head _ | (refine .tail _ ?_; first | assumption | exact .head _ | (refine .tail _ ?_; first | assumption | exact .head _ | (refine .tail _ ?_; first | assumption | exact .head _)))))))))) (by assumption)) rfl ?_
          first | refine r_loadN Try.isAgg39 Try.sizeOf39 rfl (at_blkAll (by first | exact .hd | exact .tl .hd | exact .tl (.tl .hd) | exact .tl (.tl (.tl .hd)) | exact .tl (.tl (.tl (.tl .hd))) | exact .tl (.tl (.tl (.tl (.tl .hd)))) | exact .tl (.tl (.tl (.tl (.tl (.tl .hd))))) | exact .tl (.tl (.tl (.tl (.tl (.tl (.tl .hd)))))) | exact .tl (.tl (.tl (.tl (.tl (.tl (.tl (.tl .hd))))))))) (by exact rfl) ?_ | refine r_loadN Try.isAgg39 Try.sizeOf39 rfl (at_blkN (sz := 8) (by first | exact .hd | exact .tl .hd | exact .tl (.tl .hd) | exact .tl (.tl (.tl .hd)) | exact .tl (.tl (.tl (.tl .hd))) | exact .tl (.tl (.tl (.tl (.tl .hd)))) | exact .tl (.tl (.tl (.tl (.tl (.tl .hd))))) | exact .tl (.tl (.tl (.tl (.tl (.tl (.tl .hd)))))) | exact .tl (.tl (.tl (.tl (.tl (.tl (.tl (.tl .hd))))))))) (by exact rfl) ?_ | refine r_loadN Try.isAgg39 Try.sizeOf39 rfl (at_Msg (by first | assumption | exact .head _ | (refine .tail _ ?_; first | assumption | exact .head _ | (refine .tail _ ?_; first | assumption | exact .head _ | (refine .tail _ ?_; first | assumption | exact .head _ | (refine .tail _ ?_; first | assumption | exact .head _ | (refine .tail _ ?_; first | assumption | exact .head _ | (refine .tail _ ?_; first | assumption | exact .head _ | (refine .tail _ ?_; first | assumption | exact .head _ | (refine .tail _ ?_; first | assumption | exact .head _ | (refine .tail _ ?_; first | assumption | exact .head _)))))))))) (by assumption)) rfl ?_
          refine r_call Try.call48 rfl (fun w hs => frameWrong_calls hs (c := c) (m := m)) ?_; intro _
          refine r_bin rfl rfl b_eql ?_
          refine J.nil ?_
          refine jx_then ?_
          repeat refine jc_seq ?_
          refine jc_cond rfl (fun ht34 => ?_) (fun ht34 => ?_)
          · -- t34 True
            try simp only [decide_eq_true_eq, decide_eq_false_iff_not, beq_iff_eq, bne_iff_ne, beq_eq_false_iff_ne, bne_eq_false_iff_eq, Int.not_lt, Int.not_le, Bool.not_eq_true, ne_eq, Bool.not_eq_eq_eq_not, Bool.not_true, Bool.not_false] at ht34
            have hin : MsgIn m := msgIn_of ht34 (by omega) (by omega)
            have hpar : msgParse c (msgBytes m) = (m, 0) := parse_bytes ht34 (by omega) (by omega)
            repeat refine jc_seq ?_
            refine jc_draw mixed (by kernel_rfl) (by kernel_rfl) (fun ρ S => blk b4 39 m.cells :: blk b3 37 c.cells :: (L ++ (bif S 7 then [blk (Gh.dec (γ := Nat) (ρ 7)) 39 (bif S 8 then m.cells else zMsg.cells)] else []))) (fun _ => List.append_nil (blk b4 39 m.cells :: blk b3 37 c.cells :: L)) ?_
            refine dj ?_
            first | refine d_loadN Try.isAgg37 Try.sizeOf37 (fun _ => rfl) (fun _ _ => at_blkAll (by first | exact .hd | exact .tl .hd | exact .tl (.tl .hd) | exact .tl (.tl (.tl .hd)) | exact .tl (.tl (.tl (.tl .hd))) | exact .tl (.tl (.tl (.tl (.tl .hd)))) | exact .tl (.tl (.tl (.tl (.tl (.tl .hd))))) | exact .tl (.tl (.tl (.tl (.tl (.tl (.tl .hd)))))) | exact .tl (.tl (.tl (.tl (.tl (.tl (.tl (.tl .hd))))))))) (by exact rfl) (fun _ _ _ _ => rfl) ?_ | refine d_loadN Try.isAgg37 Try.sizeOf37 (fun _ => rfl) (fun _ _ => at_blkN (sz := 2) (by first | exact .hd | exact .tl .hd | exact .tl (.tl .hd) | exact .tl (.tl (.tl .hd)) | exact .tl (.tl (.tl (.tl .hd))) | exact .tl (.tl (.tl (.tl (.tl .hd)))) | exact .tl (.tl (.tl (.tl (.tl (.tl .hd))))) | exact .tl (.tl (.tl (.tl (.tl (.tl (.tl .hd)))))) | exact .tl (.tl (.tl (.tl (.tl (.tl (.tl (.tl .hd))))))))) (by exact rfl) (fun _ _ _ _ => rfl) ?_
            refine dj ?_
            first | refine d_loadN Try.isAgg39 Try.sizeOf39 (fun _ => rfl) (fun _ _ => at_blkAll (by first | exact .hd | exact .tl .hd | exact .tl (.tl .hd) | exact .tl (.tl (.tl .hd)) | exact .tl (.tl (.tl (.tl .hd))) | exact .tl (.tl (.tl (.tl (.tl .hd)))) | exact .tl (.tl (.tl (.tl (.tl (.tl .hd))))) | exact .tl (.tl (.tl (.tl (.tl (.tl (.tl .hd)))))) | exact .tl (.tl (.tl (.tl (.tl (.tl (.tl (.tl .hd))))))))) (by exact rfl) (fun _ _ _ _ => rfl) ?_ | refine d_loadN Try.isAgg39 Try.sizeOf39 (fun _ => rfl) (fun _ _ => at_blkN (sz := 8) (by first | exact .hd | exact .tl .hd | exact .tl (.tl .hd) | exact .tl (.tl (.tl .hd)) | exact .tl (.tl (.tl (.tl .hd))) | exact .tl (.tl (.tl (.tl (.tl .hd)))) | exact .tl (.tl (.tl (.tl (.tl (.tl .hd))))) | exact .tl (.tl (.tl (.tl (.tl (.tl (.tl .hd)))))) | exact .tl (.tl (.tl (.tl (.tl (.tl (.tl (.tl .hd))))))))) (by exact rfl) (fun _ _ _ _ => rfl) ?_
            refine dj ?_
            refine d_call (γ := Value) (val := fun v => v) (F := fun v => [sl v (msgBytes m)]) (C := fun _ => []) Try.call56 (fun _ => rfl) (fun _ _ _ _ => rfl) (fun ρ L R w hd hs => frameBytes_calls hs (m := m) hin) ?_
            refine dj ?_
            refine d_call (γ := Unit) (val := fun _ => .tuple #[.agg (m).cells.toArray, vi 0]) (F := fun _ => []) (C := fun _ => []) Try.call54 (fun _ => rfl) (fun _ _ _ _ => rfl) (fun ρ L R w hd hs => frameParse_eq (c := c) (b := msgBytes m) hs (by first | exact hd.base (by first | assumption | exact .head _ | (refine .tail _ ?_; first | assumption | exact .head _ | (refine .tail _ ?_; first | assumption | exact .head _ | (refine .tail _ ?_; first | assumption | exact .head _ | (refine .tail _ ?_; first | assumption | exact .head _ | (refine .tail _ ?_; first | assumption | exact .head _ | (refine .tail _ ?_; first | assumption | exact .head _ | (refine .tail _ ?_; first | assumption | exact .head _ | (refine .tail _ ?_; first | assumption | exact .head _ | (refine .tail _ ?_; first | assumption | exact .head _)))))))))) | exact hd.dep (it := ⟨2, _, _, _, _⟩) (by repeat (first | exact List.Mem.head _ | refine List.Mem.tail _ ?_)) ⟨8, rfl⟩ (by first | exact List.Mem.head _ | exact .tail _ (.head _) | exact .tail _ (.tail _ (.head _)))) hpar) ?_
            refine dj ?_
            refine d_move (fun _ => rfl) (by first | exact Ind.const _ | exact fun _ _ _ _ _ => rfl | exact Ind.self | exact Ind.gh _ 3 rfl) (fun _ _ _ _ => rfl) ?_
            refine dj ?_
            refine d_extract (fun _ => rfl) (fun _ => rfl) (by first | exact Ind.const _ | exact fun _ _ _ _ _ => rfl | exact Ind.self | exact Ind.gh _ 3 rfl) (fun _ _ _ _ => rfl) ?_
            refine dj ?_
            refine d_extract (fun _ => rfl) (fun _ => rfl) (by first | exact Ind.const _ | exact fun _ _ _ _ _ => rfl | exact Ind.self | exact Ind.gh _ 3 rfl) (fun _ _ _ _ => rfl) ?_
            refine dj ?_
            refine d_allocSh (cs := zMsg.cells) Try.zeroValue39 rfl (fun ρ b S hS ha => ?_) ?_
            · have h7 : S 7 = false := hS
              have h8 : S 8 = false := ha 8 ⟨1, rfl⟩
              show List.Perm ((blk b4 39 m.cells :: blk b3 37 c.cells :: L) ++ [blk b 39 (bif S 8 then m.cells else zMsg.cells)]) (blk b 39 zMsg.cells :: ((blk b4 39 m.cells :: blk b3 37 c.cells :: L) ++ (bif S 7 then _ else [])))
              rw [h7, h8]; exact sh_add
            refine dj ?_
            refine d_storeSh (T0 := 39) (b := fun ρ => Gh.dec (γ := Nat) (ρ 7)) (vs := fun _ => zMsg.cells) (cs := fun _ => m.cells) Try.sizeOf39 (fun _ => rfl) (fun _ => rfl) (fun _ => rfl) (fun _ => by simp [Value.oneCell', Config.cells, Msg.cells, Line.cells, Op.cells, Done.cells, Step.cells, Answer.cells, Seen.cells, Core.cells, Entry.cells, Chip.cells]) (fun _ => rfl) (fun ρ g S hS hb => ?_) ?_
            · have h7 : S 7 = true := hb 7 ⟨1, rfl⟩
              have h8 : S 8 = false := hS
              refine ⟨(blk b4 39 m.cells :: blk b3 37 c.cells :: L) ++ [], ?_, ?_⟩
              · show List.Perm ((blk b4 39 m.cells :: blk b3 37 c.cells :: L) ++ (bif S 7 then [blk _ 39 (bif S 8 then m.cells else zMsg.cells)] else [])) _
                rw [h7, h8]; exact sh_add
              · show List.Perm ((blk b4 39 m.cells :: blk b3 37 c.cells :: L) ++ (bif S 7 then [blk _ 39 m.cells] else [])) _
                rw [h7]; exact sh_add
            refine d_tailC (by kernel_rfl) ?_; intro ρ; simp only [chunks, facts, alOf, List.append_nil, List.nil_append, List.cons_append]
            refine J.conseq (L' := blk (Gh.dec (γ := Nat) (ρ 7)) 39 m.cells :: (blk b4 39 m.cells :: blk b3 37 c.cells :: L)) (fun w hs => hs.perm (by have h := sh_add (l := (blk b4 39 m.cells :: blk b3 37 c.cells :: L)) (x := blk (Gh.dec (γ := Nat) (ρ 7)) 39 m.cells); rw [List.append_nil] at h; exact h)) ?_
            refine r_assign rfl ?_
            refine J.nil ?_
            refine jx_then ?_
            repeat refine jc_seq ?_
            refine jc_region ?_
            refine r_move rfl ?_
            refine r_bin rfl rfl (b_neq_F (by omega)) ?_
            refine r_move rfl ?_
            refine J.guardYes ?_ ?_
            · exact rfl
            first | refine r_loadN Try.isAgg39 Try.sizeOf39 rfl (at_blkAll (by first | exact .hd | exact .tl .hd | exact .tl (.tl .hd) | exact .tl (.tl (.tl .hd)) | exact .tl (.tl (.tl (.tl .hd))) | exact .tl (.tl (.tl (.tl (.tl .hd)))) | exact .tl (.tl (.tl (.tl (.tl (.tl .hd))))) | exact .tl (.tl (.tl (.tl (.tl (.tl (.tl .hd)))))) | exact .tl (.tl (.tl (.tl (.tl (.tl (.tl (.tl .hd))))))))) (by exact rfl) ?_ | refine r_loadN Try.isAgg39 Try.sizeOf39 rfl (at_blkN (sz := 8) (by first | exact .hd | exact .tl .hd | exact .tl (.tl .hd) | exact .tl (.tl (.tl .hd)) | exact .tl (.tl (.tl (.tl .hd))) | exact .tl (.tl (.tl (.tl (.tl .hd)))) | exact .tl (.tl (.tl (.tl (.tl (.tl .hd))))) | exact .tl (.tl (.tl (.tl (.tl (.tl (.tl .hd)))))) | exact .tl (.tl (.tl (.tl (.tl (.tl (.tl (.tl .hd))))))))) (by exact rfl) ?_ | refine r_loadN Try.isAgg39 Try.sizeOf39 rfl (at_Msg (by first | assumption | exact .head _ | (refine .tail _ ?_; first | assumption | exact .head _ | (refine .tail _ ?_; first | assumption | exact .head _ | (refine .tail _ ?_; first | assumption | exact .head _ | (refine .tail _ ?_; first | assumption | exact .head _ | (refine .tail _ ?_; first | assumption | exact .head _ | (refine .tail _ ?_; first | assumption | exact .head _ | (refine .tail _ ?_; first | assumption | exact .head _ | (refine .tail _ ?_; first | assumption | exact .head _ | (refine .tail _ ?_; first | assumption | exact .head _)))))))))) (by assumption)) rfl ?_
            refine J.guardYes ?_ ?_
            · exact rfl
            first | refine r_loadN Try.isAgg39 Try.sizeOf39 rfl (at_blkAll (by first | exact .hd | exact .tl .hd | exact .tl (.tl .hd) | exact .tl (.tl (.tl .hd)) | exact .tl (.tl (.tl (.tl .hd))) | exact .tl (.tl (.tl (.tl (.tl .hd)))) | exact .tl (.tl (.tl (.tl (.tl (.tl .hd))))) | exact .tl (.tl (.tl (.tl (.tl (.tl (.tl .hd)))))) | exact .tl (.tl (.tl (.tl (.tl (.tl (.tl (.tl .hd))))))))) (by exact rfl) ?_ | refine r_loadN Try.isAgg39 Try.sizeOf39 rfl (at_blkN (sz := 8) (by first | exact .hd | exact .tl .hd | exact .tl (.tl .hd) | exact .tl (.tl (.tl .hd)) | exact .tl (.tl (.tl (.tl .hd))) | exact .tl (.tl (.tl (.tl (.tl .hd)))) | exact .tl (.tl (.tl (.tl (.tl (.tl .hd))))) | exact .tl (.tl (.tl (.tl (.tl (.tl (.tl .hd)))))) | exact .tl (.tl (.tl (.tl (.tl (.tl (.tl (.tl .hd))))))))) (by exact rfl) ?_ | refine r_loadN Try.isAgg39 Try.sizeOf39 rfl (at_Msg (by first | assumption | exact .head _ | (refine .tail _ ?_; first | assumption | exact .head _ | (refine .tail _ ?_; first | assumption | exact .head _ | (refine .tail _ ?_; first | assumption | exact .head _ | (refine .tail _ ?_; first | assumption | exact .head _ | (refine .tail _ ?_; first | assumption | exact .head _ | (refine .tail _ ?_; first | assumption | exact .head _ | (refine .tail _ ?_; first | assumption | exact .head _ | (refine .tail _ ?_; first | assumption | exact .head _ | (refine .tail _ ?_; first | assumption | exact .head _)))))))))) (by assumption)) rfl ?_
            refine J.guardYes ?_ ?_
            · exact rfl
            refine r_p (p_binG rfl rfl (ag_Msg m m _) (bn_Msg_F (x := m) (y := m) rfl)) rfl ?_
            refine r_pickF rfl rfl ?_
            refine J.nil ?_
            refine jx_then ?_
            refine jc_condF rfl ?_
            refine jc_skip ?_
            refine jx_then ?_
            repeat refine jc_seq ?_
            refine jc_region ?_
            first | refine r_loadN Try.isAgg37 Try.sizeOf37 rfl (at_blkAll (by first | exact .hd | exact .tl .hd | exact .tl (.tl .hd) | exact .tl (.tl (.tl .hd)) | exact .tl (.tl (.tl (.tl .hd))) | exact .tl (.tl (.tl (.tl (.tl .hd)))) | exact .tl (.tl (.tl (.tl (.tl (.tl .hd))))) | exact .tl (.tl (.tl (.tl (.tl (.tl (.tl .hd)))))) | exact .tl (.tl (.tl (.tl (.tl (.tl (.tl (.tl .hd))))))))) (by exact rfl) ?_ | refine r_loadN Try.isAgg37 Try.sizeOf37 rfl (at_blkN (sz := 2) (by first | exact .hd | exact .tl .hd | exact .tl (.tl .hd) | exact .tl (.tl (.tl .hd)) | exact .tl (.tl (.tl (.tl .hd))) | exact .tl (.tl (.tl (.tl (.tl .hd)))) | exact .tl (.tl (.tl (.tl (.tl (.tl .hd))))) | exact .tl (.tl (.tl (.tl (.tl (.tl (.tl .hd)))))) | exact .tl (.tl (.tl (.tl (.tl (.tl (.tl (.tl .hd))))))))) (by exact rfl) ?_ | refine r_loadN Try.isAgg37 Try.sizeOf37 rfl (at_Config (by first | assumption | exact .head _ | (refine .tail _ ?_; first | assumption | exact .head _ | (refine .tail _ ?_; first | assumption | exact .head _ | (refine .tail _ ?_; first | assumption | exact .head _ | (refine .tail _ ?_; first | assumption | exact .head _ | (refine .tail _ ?_; first | assumption | exact .head _ | (refine .tail _ ?_; first | assumption | exact .head _ | (refine .tail _ ?_; first | assumption | exact .head _ | (refine .tail _ ?_; first | assumption | exact .head _ | (refine .tail _ ?_; first | assumption | exact .head _)))))))))) (by assumption)) rfl ?_
            refine r_move rfl ?_
            refine r_call Try.call54 rfl (fun w hs => frameParse_calls hs (c := c) (b := b) (by first | assumption | exact .head _ | (refine .tail _ ?_; first | assumption | exact .head _ | (refine .tail _ ?_; first | assumption | exact .head _ | (refine .tail _ ?_; first | assumption | exact .head _ | (refine .tail _ ?_; first | assumption | exact .head _ | (refine .tail _ ?_; first | assumption | exact .head _ | (refine .tail _ ?_; first | assumption | exact .head _ | (refine .tail _ ?_; first | assumption | exact .head _ | (refine .tail _ ?_; first | assumption | exact .head _ | (refine .tail _ ?_; first | assumption | exact .head _))))))))))) ?_; intro _
            refine r_move rfl ?_
            refine r_extract rfl rfl ?_
            refine r_extract rfl rfl ?_
            refine r_alloc (cs := zMsg.cells) Try.zeroValue39 rfl ?_; intro b9
            first | refine r_storeAll Try.sizeOf39 rfl rfl rfl (by simp [Value.oneCell', Config.cells, Msg.cells, Line.cells, Op.cells, Done.cells, Step.cells, Answer.cells, Seen.cells, Core.cells, Entry.cells, Chip.cells]) (by first | exact .hd | exact .tl .hd | exact .tl (.tl .hd) | exact .tl (.tl (.tl .hd)) | exact .tl (.tl (.tl (.tl .hd))) | exact .tl (.tl (.tl (.tl (.tl .hd)))) | exact .tl (.tl (.tl (.tl (.tl (.tl .hd))))) | exact .tl (.tl (.tl (.tl (.tl (.tl (.tl .hd)))))) | exact .tl (.tl (.tl (.tl (.tl (.tl (.tl (.tl .hd)))))))) (by exact rfl) ?_ | refine r_storeN Try.sizeOf39 rfl rfl rfl (by simp [Value.oneCell', Config.cells, Msg.cells, Line.cells, Op.cells, Done.cells, Step.cells, Answer.cells, Seen.cells, Core.cells, Entry.cells, Chip.cells]) (by first | exact .hd | exact .tl .hd | exact .tl (.tl .hd) | exact .tl (.tl (.tl .hd)) | exact .tl (.tl (.tl (.tl .hd))) | exact .tl (.tl (.tl (.tl (.tl .hd)))) | exact .tl (.tl (.tl (.tl (.tl (.tl .hd))))) | exact .tl (.tl (.tl (.tl (.tl (.tl (.tl .hd)))))) | exact .tl (.tl (.tl (.tl (.tl (.tl (.tl (.tl .hd)))))))) (by exact rfl) ?_
            refine r_assign rfl ?_
            refine J.nil ?_
            refine jx_then ?_
            repeat refine jc_seq ?_
            rcases (show ((msgParse c b).2 ≠ 0) ∨ ((msgParse c b).2 = 0) from by omega) with hcc | hcc
            · -- case 0
              have hz : (msgParse c b).1 = zMsg := parse_err hcc
              refine jc_draw mixed (by kernel_rfl) (by kernel_rfl) (fun _ _ => _) (fun _ => rfl) ?_
              refine dj ?_
              refine d_move (fun _ => rfl) (by first | exact Ind.const _ | exact fun _ _ _ _ _ => rfl | exact Ind.self | exact Ind.gh _ 3 rfl) (fun _ _ _ _ => rfl) ?_
              refine dj ?_
              refine d_bin (fun _ => rfl) (fun _ => rfl) (fun _ => b_neq_T (by omega)) (by first | exact Ind.const _ | exact fun _ _ _ _ _ => rfl | exact Ind.self | exact Ind.gh _ 3 rfl) (fun _ _ _ _ => rfl) ?_
              refine dj ?_
              refine d_move (fun _ => rfl) (by first | exact Ind.const _ | exact fun _ _ _ _ _ => rfl | exact Ind.self | exact Ind.gh _ 3 rfl) (fun _ _ _ _ => rfl) ?_
              refine dj ?_
              refine d_guardYes ?_ ?_
              · exact fun _ => rfl
              first | refine d_loadN Try.isAgg39 Try.sizeOf39 (fun _ => rfl) (fun _ _ => at_blkAll (by first | exact .hd | exact .tl .hd | exact .tl (.tl .hd) | exact .tl (.tl (.tl .hd)) | exact .tl (.tl (.tl (.tl .hd))) | exact .tl (.tl (.tl (.tl (.tl .hd)))) | exact .tl (.tl (.tl (.tl (.tl (.tl .hd))))) | exact .tl (.tl (.tl (.tl (.tl (.tl (.tl .hd)))))) | exact .tl (.tl (.tl (.tl (.tl (.tl (.tl (.tl .hd))))))))) (by exact rfl) (fun _ _ _ _ => rfl) ?_ | refine d_loadN Try.isAgg39 Try.sizeOf39 (fun _ => rfl) (fun _ _ => at_blkN (sz := 8) (by first | exact .hd | exact .tl .hd | exact .tl (.tl .hd) | exact .tl (.tl (.tl .hd)) | exact .tl (.tl (.tl (.tl .hd))) | exact .tl (.tl (.tl (.tl (.tl .hd)))) | exact .tl (.tl (.tl (.tl (.tl (.tl .hd))))) | exact .tl (.tl (.tl (.tl (.tl (.tl (.tl .hd)))))) | exact .tl (.tl (.tl (.tl (.tl (.tl (.tl (.tl .hd))))))))) (by exact rfl) (fun _ _ _ _ => rfl) ?_
              refine dj ?_
              refine d_guardYes ?_ ?_
              · exact fun _ => rfl
              refine d_build (cs := fun _ => zMsg.cells) st_39 (fun _ => rfl) (fun _ => rfl) (by first | exact Ind.const _ | exact fun _ _ _ _ _ => rfl | exact Ind.self | exact Ind.gh _ 3 rfl) (fun _ _ _ _ => rfl) ?_
              refine dj ?_
              refine d_guardYes ?_ ?_
              · exact fun _ => rfl
              first | refine d_pc (fun _ _ => p_binG rfl rfl (ag_Msg (msgParse c b).1 zMsg _) (be_Msg_T (x := (msgParse c b).1) (y := zMsg) hz)) rfl (fun _ _ _ _ => rfl) ?_ | refine d_p (fun _ _ => p_binG rfl rfl (ag_Msg (msgParse c b).1 zMsg _) (be_Msg_T (x := (msgParse c b).1) (y := zMsg) hz)) rfl (by first | exact Ind.const _ | exact fun _ _ _ _ _ => rfl | exact Ind.self | exact Ind.gh _ 3 rfl) (fun _ _ _ _ => rfl) ?_
              refine dj ?_
              refine d_pickT (fun _ => rfl) (fun _ => rfl) (by first | exact Ind.const _ | exact fun _ _ _ _ _ => rfl | exact Ind.self | exact Ind.gh _ 3 rfl) (fun _ _ _ _ => rfl) ?_
              refine dj ?_
              refine d_move (fun _ => rfl) (by first | exact Ind.const _ | exact fun _ _ _ _ _ => rfl | exact Ind.self | exact Ind.gh _ 3 rfl) (fun _ _ _ _ => rfl) ?_
              refine dj ?_
              refine d_guardNo ?_ ?_ ?_
              · exact fun _ => rfl
              · exact fun _ _ _ _ => rfl
              refine dj ?_
              refine d_guardNo ?_ ?_ ?_
              · exact fun _ => rfl
              · exact fun _ _ _ _ => rfl
              refine dj ?_
              refine d_guardNo ?_ ?_ ?_
              · exact fun _ => rfl
              · exact fun _ _ _ _ => rfl
              refine dj ?_
              refine d_guardUndef ?_ ?_ ?_
              · exact fun _ => rfl
              · exact fun _ _ _ _ => rfl
              refine dj ?_
              refine d_guardUndef ?_ ?_ ?_
              · exact fun _ => rfl
              · exact fun _ _ _ _ => rfl
              refine dj ?_
              refine d_guardUndef ?_ ?_ ?_
              · exact fun _ => rfl
              · exact fun _ _ _ _ => rfl
              refine dj ?_
              refine d_guardUndef ?_ ?_ ?_
              · exact fun _ => rfl
              · exact fun _ _ _ _ => rfl
              refine dj ?_
              refine d_guardUndef ?_ ?_ ?_
              · exact fun _ => rfl
              · exact fun _ _ _ _ => rfl
              refine dj ?_
              refine d_guardUndef ?_ ?_ ?_
              · exact fun _ => rfl
              · exact fun _ _ _ _ => rfl
              refine dj ?_
              refine d_guardNo ?_ ?_ ?_
              · exact fun _ => rfl
              · exact fun _ _ _ _ => rfl
              refine dj ?_
              refine d_pickT (fun _ => rfl) (fun _ => rfl) (by first | exact Ind.const _ | exact fun _ _ _ _ _ => rfl | exact Ind.self | exact Ind.gh _ 3 rfl) (fun _ _ _ _ => rfl) ?_
              refine dj ?_
              refine d_assign (fun _ => rfl) (by first | exact Ind.const _ | exact fun _ _ _ _ _ => rfl | exact Ind.self | exact Ind.gh _ 3 rfl) (fun _ _ _ _ => rfl) ?_
              refine d_nilC ?_; intro ρ; simp only [chunks, facts, alOf, List.append_nil, List.nil_append, List.cons_append]
              refine jx_then ?_
              refine jc_ret ?_
              repeat (first | refine jx_thenRet ?_ | refine jx_blockRet ?_)
              refine jx_body (.inr rfl) (fun B w _ => res1 rfl rfl B w) (fun w hs => ⟨(), ?_, hs.sub (by repeat (first | exact .refl | exact .nil | refine .cons (by first | exact .hd | exact .tl .hd | exact .tl (.tl .hd) | exact .tl (.tl (.tl .hd)) | exact .tl (.tl (.tl (.tl .hd))) | exact .tl (.tl (.tl (.tl (.tl .hd)))) | exact .tl (.tl (.tl (.tl (.tl (.tl .hd))))) | exact .tl (.tl (.tl (.tl (.tl (.tl (.tl .hd)))))) | exact .tl (.tl (.tl (.tl (.tl (.tl (.tl (.tl .hd)))))))) ?_ | refine .drop ?_)) (by repeat (first | exact FSub.refl | exact FSub.nil | refine FSub.cons (by first | assumption | (repeat (first | assumption | exact List.Mem.head _ | refine .tail _ ?_))) ?_ | refine FSub.drop ?_))⟩)
              rfl
            · -- case 1
              have hp : msgParse c b = ((msgParse c b).1, 0) := by rw [← hcc]
              have hin2 : MsgIn (msgParse c b).1 := msgIn_of (parse_ok hp).2.2.2.2.1 (by omega) (by omega)
              have hbp : msgBytes (msgParse c b).1 = b := bytes_parse hp
              refine jc_draw mixed (by kernel_rfl) (by kernel_rfl) (fun _ _ => _) (fun _ => rfl) ?_
              refine dj ?_
              refine d_move (fun _ => rfl) (by first | exact Ind.const _ | exact fun _ _ _ _ _ => rfl | exact Ind.self | exact Ind.gh _ 3 rfl) (fun _ _ _ _ => rfl) ?_
              refine dj ?_
              refine d_bin (fun _ => rfl) (fun _ => rfl) (fun _ => b_neq_F (by omega)) (by first | exact Ind.const _ | exact fun _ _ _ _ _ => rfl | exact Ind.self | exact Ind.gh _ 3 rfl) (fun _ _ _ _ => rfl) ?_
              refine dj ?_
              refine d_move (fun _ => rfl) (by first | exact Ind.const _ | exact fun _ _ _ _ _ => rfl | exact Ind.self | exact Ind.gh _ 3 rfl) (fun _ _ _ _ => rfl) ?_
              refine dj ?_
              refine d_guardNo ?_ ?_ ?_
              · exact fun _ => rfl
              · exact fun _ _ _ _ => rfl
              refine dj ?_
              refine d_guardNo ?_ ?_ ?_
              · exact fun _ => rfl
              · exact fun _ _ _ _ => rfl
              refine dj ?_
              refine d_guardNo ?_ ?_ ?_
              · exact fun _ => rfl
              · exact fun _ _ _ _ => rfl
              refine dj ?_
              refine d_pickF (fun _ => rfl) (fun _ => rfl) (by first | exact Ind.const _ | exact fun _ _ _ _ _ => rfl | exact Ind.self | exact Ind.gh _ 3 rfl) (fun _ _ _ _ => rfl) ?_
              refine dj ?_
              refine d_move (fun _ => rfl) (by first | exact Ind.const _ | exact fun _ _ _ _ _ => rfl | exact Ind.self | exact Ind.gh _ 3 rfl) (fun _ _ _ _ => rfl) ?_
              refine dj ?_
              refine d_guardYes ?_ ?_
              · exact fun _ => rfl
              refine d_move (fun _ => rfl) (by first | exact Ind.const _ | exact fun _ _ _ _ _ => rfl | exact Ind.self | exact Ind.gh _ 3 rfl) (fun _ _ _ _ => rfl) ?_
              refine dj ?_
              refine d_guardYes ?_ ?_
              · exact fun _ => rfl
              refine d_bin (fun _ => rfl) (fun _ => rfl) (fun _ => b_eql_T (by omega)) (by first | exact Ind.const _ | exact fun _ _ _ _ _ => rfl | exact Ind.self | exact Ind.gh _ 3 rfl) (fun _ _ _ _ => rfl) ?_
              refine dj ?_
              refine d_guardYes ?_ ?_
              · exact fun _ => rfl
              refine d_move (fun _ => rfl) (by first | exact Ind.const _ | exact fun _ _ _ _ _ => rfl | exact Ind.self | exact Ind.gh _ 3 rfl) (fun _ _ _ _ => rfl) ?_
              refine dj ?_
              refine d_guardYes ?_ ?_
              · exact fun _ => rfl
              first | refine d_loadN Try.isAgg39 Try.sizeOf39 (fun _ => rfl) (fun _ _ => at_blkAll (by first | exact .hd | exact .tl .hd | exact .tl (.tl .hd) | exact .tl (.tl (.tl .hd)) | exact .tl (.tl (.tl (.tl .hd))) | exact .tl (.tl (.tl (.tl (.tl .hd)))) | exact .tl (.tl (.tl (.tl (.tl (.tl .hd))))) | exact .tl (.tl (.tl (.tl (.tl (.tl (.tl .hd)))))) | exact .tl (.tl (.tl (.tl (.tl (.tl (.tl (.tl .hd))))))))) (by exact rfl) (fun _ _ _ _ => rfl) ?_ | refine d_loadN Try.isAgg39 Try.sizeOf39 (fun _ => rfl) (fun _ _ => at_blkN (sz := 8) (by first | exact .hd | exact .tl .hd | exact .tl (.tl .hd) | exact .tl (.tl (.tl .hd)) | exact .tl (.tl (.tl (.tl .hd))) | exact .tl (.tl (.tl (.tl (.tl .hd)))) | exact .tl (.tl (.tl (.tl (.tl (.tl .hd))))) | exact .tl (.tl (.tl (.tl (.tl (.tl (.tl .hd)))))) | exact .tl (.tl (.tl (.tl (.tl (.tl (.tl (.tl .hd))))))))) (by exact rfl) (fun _ _ _ _ => rfl) ?_
              refine dj ?_
              refine d_guardYes ?_ ?_
              · exact fun _ => rfl
              refine d_call (γ := Value) (val := fun v => v) (F := fun v => [sl v (msgBytes (msgParse c b).1)]) (C := fun _ => []) Try.call56 (fun _ => rfl) (fun _ _ _ _ => rfl) (fun ρ L R w hd hs => frameBytes_calls hs (m := (msgParse c b).1) hin2) ?_
              refine dj ?_
              refine d_guardYes ?_ ?_
              · exact fun _ => rfl
              refine d_convStr Try.underlying40 Try.underlying5 Try.underlying9 (fun _ => rfl) (fun ρ R hd => (by first | exact hd.base (by first | assumption | exact .head _ | (refine .tail _ ?_; first | assumption | exact .head _ | (refine .tail _ ?_; first | assumption | exact .head _ | (refine .tail _ ?_; first | assumption | exact .head _ | (refine .tail _ ?_; first | assumption | exact .head _ | (refine .tail _ ?_; first | assumption | exact .head _ | (refine .tail _ ?_; first | assumption | exact .head _ | (refine .tail _ ?_; first | assumption | exact .head _ | (refine .tail _ ?_; first | assumption | exact .head _ | (refine .tail _ ?_; first | assumption | exact .head _)))))))))) | exact hd.dep (it := ⟨12, _, _, _, _⟩) (by repeat (first | exact List.Mem.head _ | refine List.Mem.tail _ ?_)) ⟨8, rfl⟩ (by first | exact List.Mem.head _ | exact .tail _ (.head _) | exact .tail _ (.tail _ (.head _))))) (fun _ _ _ _ => rfl) ?_
              refine dj ?_
              refine d_guardYes ?_ ?_
              · exact fun _ => rfl
              refine d_move (fun _ => rfl) (by first | exact Ind.const _ | exact fun _ _ _ _ _ => rfl | exact Ind.self | exact Ind.gh _ 3 rfl) (fun _ _ _ _ => rfl) ?_
              refine dj ?_
              refine d_guardYes ?_ ?_
              · exact fun _ => rfl
              refine d_convStr Try.underlying40 Try.underlying5 Try.underlying9 (fun _ => rfl) (fun ρ R hd => (by first | exact hd.base (by first | assumption | exact .head _ | (refine .tail _ ?_; first | assumption | exact .head _ | (refine .tail _ ?_; first | assumption | exact .head _ | (refine .tail _ ?_; first | assumption | exact .head _ | (refine .tail _ ?_; first | assumption | exact .head _ | (refine .tail _ ?_; first | assumption | exact .head _ | (refine .tail _ ?_; first | assumption | exact .head _ | (refine .tail _ ?_; first | assumption | exact .head _ | (refine .tail _ ?_; first | assumption | exact .head _ | (refine .tail _ ?_; first | assumption | exact .head _)))))))))) | exact hd.dep (it := ⟨12, _, _, _, _⟩) (by repeat (first | exact List.Mem.head _ | refine List.Mem.tail _ ?_)) ⟨8, rfl⟩ (by first | exact List.Mem.head _ | exact .tail _ (.head _) | exact .tail _ (.tail _ (.head _))))) (fun _ _ _ _ => rfl) ?_
              refine dj ?_
              refine d_guardYes ?_ ?_
              · exact fun _ => rfl
              first | refine d_pc (fun _ _ => p_str rfl rfl (b_streq_T hbp)) rfl (fun _ _ _ _ => rfl) ?_ | refine d_p (fun _ _ => p_str rfl rfl (b_streq_T hbp)) rfl (by first | exact Ind.const _ | exact fun _ _ _ _ _ => rfl | exact Ind.self | exact Ind.gh _ 3 rfl) (fun _ _ _ _ => rfl) ?_
              refine dj ?_
              refine d_guardYes ?_ ?_
              · exact fun _ => rfl
              refine d_pickT (fun _ => rfl) (fun _ => rfl) (by first | exact Ind.const _ | exact fun _ _ _ _ _ => rfl | exact Ind.self | exact Ind.gh _ 3 rfl) (fun _ _ _ _ => rfl) ?_
              refine dj ?_
              refine d_pickF (fun _ => rfl) (fun _ => rfl) (by first | exact Ind.const _ | exact fun _ _ _ _ _ => rfl | exact Ind.self | exact Ind.gh _ 3 rfl) (fun _ _ _ _ => rfl) ?_
              refine dj ?_
              refine d_assign (fun _ => rfl) (by first | exact Ind.const _ | exact fun _ _ _ _ _ => rfl | exact Ind.self | exact Ind.gh _ 3 rfl) (fun _ _ _ _ => rfl) ?_
              refine d_nilC ?_; intro ρ; simp only [chunks, facts, alOf, List.append_nil, List.nil_append, List.cons_append]
              refine jx_then ?_
              refine jc_ret ?_
              repeat (first | refine jx_thenRet ?_ | refine jx_blockRet ?_)
              refine jx_body (.inr rfl) (fun B w _ => res1 rfl rfl B w) (fun w hs => ⟨(), ?_, hs.sub (by repeat (first | exact .refl | exact .nil | refine .cons (by first | exact .hd | exact .tl .hd | exact .tl (.tl .hd) | exact .tl (.tl (.tl .hd)) | exact .tl (.tl (.tl (.tl .hd))) | exact .tl (.tl (.tl (.tl (.tl .hd)))) | exact .tl (.tl (.tl (.tl (.tl (.tl .hd))))) | exact .tl (.tl (.tl (.tl (.tl (.tl (.tl .hd)))))) | exact .tl (.tl (.tl (.tl (.tl (.tl (.tl (.tl .hd)))))))) ?_ | refine .drop ?_)) (by repeat (first | exact FSub.refl | exact FSub.nil | refine FSub.cons (by first | assumption | (repeat (first | assumption | exact List.Mem.head _ | refine .tail _ ?_))) ?_ | refine FSub.drop ?_))⟩)
              rfl
          · -- t34 False
            try simp only [decide_eq_true_eq, decide_eq_false_iff_not, beq_iff_eq, bne_iff_ne, beq_eq_false_iff_ne, bne_eq_false_iff_eq, Int.not_lt, Int.not_le, Bool.not_eq_true, ne_eq, Bool.not_eq_eq_eq_not, Bool.not_true, Bool.not_false] at ht34
            refine jc_skip ?_
            refine jx_then ?_
            repeat refine jc_seq ?_
            refine jc_region ?_
            first | refine r_loadN Try.isAgg37 Try.sizeOf37 rfl (at_blkAll (by first | exact .hd | exact .tl .hd | exact .tl (.tl .hd) | exact .tl (.tl (.tl .hd)) | exact .tl (.tl (.tl (.tl .hd))) | exact .tl (.tl (.tl (.tl (.tl .hd)))) | exact .tl (.tl (.tl (.tl (.tl (.tl .hd))))) | exact .tl (.tl (.tl (.tl (.tl (.tl (.tl .hd)))))) | exact .tl (.tl (.tl (.tl (.tl (.tl (.tl (.tl .hd))))))))) (by exact rfl) ?_ | refine r_loadN Try.isAgg37 Try.sizeOf37 rfl (at_blkN (sz := 2) (by first | exact .hd | exact .tl .hd | exact .tl (.tl .hd) | exact .tl (.tl (.tl .hd)) | exact .tl (.tl (.tl (.tl .hd))) | exact .tl (.tl (.tl (.tl (.tl .hd)))) | exact .tl (.tl (.tl (.tl (.tl (.tl .hd))))) | exact .tl (.tl (.tl (.tl (.tl (.tl (.tl .hd)))))) | exact .tl (.tl (.tl (.tl (.tl (.tl (.tl (.tl .hd))))))))) (by exact rfl) ?_ | refine r_loadN Try.isAgg37 Try.sizeOf37 rfl (at_Config (by first | assumption | exact .head _ | (refine .tail _ ?_; first | assumption | exact .head _ | (refine .tail _ ?_; first | assumption | exact .head _ | (refine .tail _ ?_; first | assumption | exact .head _ | (refine .tail _ ?_; first | assumption | exact .head _ | (refine .tail _ ?_; first | assumption | exact .head _ | (refine .tail _ ?_; first | assumption | exact .head _ | (refine .tail _ ?_; first | assumption | exact .head _ | (refine .tail _ ?_; first | assumption | exact .head _ | (refine .tail _ ?_; first | assumption | exact .head _)))))))))) (by assumption)) rfl ?_
            refine r_move rfl ?_
            refine r_call Try.call54 rfl (fun w hs => frameParse_calls hs (c := c) (b := b) (by first | assumption | exact .head _ | (refine .tail _ ?_; first | assumption | exact .head _ | (refine .tail _ ?_; first | assumption | exact .head _ | (refine .tail _ ?_; first | assumption | exact .head _ | (refine .tail _ ?_; first | assumption | exact .head _ | (refine .tail _ ?_; first | assumption | exact .head _ | (refine .tail _ ?_; first | assumption | exact .head _ | (refine .tail _ ?_; first | assumption | exact .head _ | (refine .tail _ ?_; first | assumption | exact .head _ | (refine .tail _ ?_; first | assumption | exact .head _))))))))))) ?_; intro _
            refine r_move rfl ?_
            refine r_extract rfl rfl ?_
            refine r_extract rfl rfl ?_
            refine r_alloc (cs := zMsg.cells) Try.zeroValue39 rfl ?_; intro b9
            first | refine r_storeAll Try.sizeOf39 rfl rfl rfl (by simp [Value.oneCell', Config.cells, Msg.cells, Line.cells, Op.cells, Done.cells, Step.cells, Answer.cells, Seen.cells, Core.cells, Entry.cells, Chip.cells]) (by first | exact .hd | exact .tl .hd | exact .tl (.tl .hd) | exact .tl (.tl (.tl .hd)) | exact .tl (.tl (.tl (.tl .hd))) | exact .tl (.tl (.tl (.tl (.tl .hd)))) | exact .tl (.tl (.tl (.tl (.tl (.tl .hd))))) | exact .tl (.tl (.tl (.tl (.tl (.tl (.tl .hd)))))) | exact .tl (.tl (.tl (.tl (.tl (.tl (.tl (.tl .hd)))))))) (by exact rfl) ?_ | refine r_storeN Try.sizeOf39 rfl rfl rfl (by simp [Value.oneCell', Config.cells, Msg.cells, Line.cells, Op.cells, Done.cells, Step.cells, Answer.cells, Seen.cells, Core.cells, Entry.cells, Chip.cells]) (by first | exact .hd | exact .tl .hd | exact .tl (.tl .hd) | exact .tl (.tl (.tl .hd)) | exact .tl (.tl (.tl (.tl .hd))) | exact .tl (.tl (.tl (.tl (.tl .hd)))) | exact .tl (.tl (.tl (.tl (.tl (.tl .hd))))) | exact .tl (.tl (.tl (.tl (.tl (.tl (.tl .hd)))))) | exact .tl (.tl (.tl (.tl (.tl (.tl (.tl (.tl .hd)))))))) (by exact rfl) ?_
            refine r_assign rfl ?_
            refine J.nil ?_
            refine jx_then ?_
            repeat refine jc_seq ?_
            rcases (show ((msgParse c b).2 ≠ 0) ∨ ((msgParse c b).2 = 0) from by omega) with hcc | hcc
            · -- case 0
              have hz : (msgParse c b).1 = zMsg := parse_err hcc
              refine jc_draw mixed (by kernel_rfl) (by kernel_rfl) (fun _ _ => _) (fun _ => rfl) ?_
              refine dj ?_
              refine d_move (fun _ => rfl) (by first | exact Ind.const _ | exact fun _ _ _ _ _ => rfl | exact Ind.self | exact Ind.gh _ 3 rfl) (fun _ _ _ _ => rfl) ?_
              refine dj ?_
              refine d_bin (fun _ => rfl) (fun _ => rfl) (fun _ => b_neq_T (by omega)) (by first | exact Ind.const _ | exact fun _ _ _ _ _ => rfl | exact Ind.self | exact Ind.gh _ 3 rfl) (fun _ _ _ _ => rfl) ?_
              refine dj ?_
              refine d_move (fun _ => rfl) (by first | exact Ind.const _ | exact fun _ _ _ _ _ => rfl | exact Ind.self | exact Ind.gh _ 3 rfl) (fun _ _ _ _ => rfl) ?_
              refine dj ?_
              refine d_guardYes ?_ ?_
              · exact fun _ => rfl
              first | refine d_loadN Try.isAgg39 Try.sizeOf39 (fun _ => rfl) (fun _ _ => at_blkAll (by first | exact .hd | exact .tl .hd | exact .tl (.tl .hd) | exact .tl (.tl (.tl .hd)) | exact .tl (.tl (.tl (.tl .hd))) | exact .tl (.tl (.tl (.tl (.tl .hd)))) | exact .tl (.tl (.tl (.tl (.tl (.tl .hd))))) | exact .tl (.tl (.tl (.tl (.tl (.tl (.tl .hd)))))) | exact .tl (.tl (.tl (.tl (.tl (.tl (.tl (.tl .hd))))))))) (by exact rfl) (fun _ _ _ _ => rfl) ?_ | refine d_loadN Try.isAgg39 Try.sizeOf39 (fun _ => rfl) (fun _ _ => at_blkN (sz := 8) (by first | exact .hd | exact .tl .hd | exact .tl (.tl .hd) | exact .tl (.tl (.tl .hd)) | exact .tl (.tl (.tl (.tl .hd))) | exact .tl (.tl (.tl (.tl (.tl .hd)))) | exact .tl (.tl (.tl (.tl (.tl (.tl .hd))))) | exact .tl (.tl (.tl (.tl (.tl (.tl (.tl .hd)))))) | exact .tl (.tl (.tl (.tl (.tl (.tl (.tl (.tl .hd))))))))) (by exact rfl) (fun _ _ _ _ => rfl) ?_
              refine dj ?_
              refine d_guardYes ?_ ?_
              · exact fun _ => rfl
              refine d_build (cs := fun _ => zMsg.cells) st_39 (fun _ => rfl) (fun _ => rfl) (by first | exact Ind.const _ | exact fun _ _ _ _ _ => rfl | exact Ind.self | exact Ind.gh _ 3 rfl) (fun _ _ _ _ => rfl) ?_
              refine dj ?_
              refine d_guardYes ?_ ?_
              · exact fun _ => rfl
              first | refine d_pc (fun _ _ => p_binG rfl rfl (ag_Msg (msgParse c b).1 zMsg _) (be_Msg_T (x := (msgParse c b).1) (y := zMsg) hz)) rfl (fun _ _ _ _ => rfl) ?_ | refine d_p (fun _ _ => p_binG rfl rfl (ag_Msg (msgParse c b).1 zMsg _) (be_Msg_T (x := (msgParse c b).1) (y := zMsg) hz)) rfl (by first | exact Ind.const _ | exact fun _ _ _ _ _ => rfl | exact Ind.self | exact Ind.gh _ 3 rfl) (fun _ _ _ _ => rfl) ?_
              refine dj ?_
              refine d_pickT (fun _ => rfl) (fun _ => rfl) (by first | exact Ind.const _ | exact fun _ _ _ _ _ => rfl | exact Ind.self | exact Ind.gh _ 3 rfl) (fun _ _ _ _ => rfl) ?_
              refine dj ?_
              refine d_move (fun _ => rfl) (by first | exact Ind.const _ | exact fun _ _ _ _ _ => rfl | exact Ind.self | exact Ind.gh _ 3 rfl) (fun _ _ _ _ => rfl) ?_
              refine dj ?_
              refine d_guardNo ?_ ?_ ?_
              · exact fun _ => rfl
              · exact fun _ _ _ _ => rfl
              refine dj ?_
              refine d_guardNo ?_ ?_ ?_
              · exact fun _ => rfl
              · exact fun _ _ _ _ => rfl
              refine dj ?_
              refine d_guardNo ?_ ?_ ?_
              · exact fun _ => rfl
              · exact fun _ _ _ _ => rfl
              refine dj ?_
              refine d_guardUndef ?_ ?_ ?_
              · exact fun _ => rfl
              · exact fun _ _ _ _ => rfl
              refine dj ?_
              refine d_guardUndef ?_ ?_ ?_
              · exact fun _ => rfl
              · exact fun _ _ _ _ => rfl
              refine dj ?_
              refine d_guardUndef ?_ ?_ ?_
              · exact fun _ => rfl
              · exact fun _ _ _ _ => rfl
              refine dj ?_
              refine d_guardUndef ?_ ?_ ?_
              · exact fun _ => rfl
              · exact fun _ _ _ _ => rfl
              refine dj ?_
              refine d_guardUndef ?_ ?_ ?_
              · exact fun _ => rfl
              · exact fun _ _ _ _ => rfl
              refine dj ?_
              refine d_guardUndef ?_ ?_ ?_
              · exact fun _ => rfl
              · exact fun _ _ _ _ => rfl
              refine dj ?_
              refine d_guardNo ?_ ?_ ?_
              · exact fun _ => rfl
              · exact fun _ _ _ _ => rfl
              refine dj ?_
              refine d_pickT (fun _ => rfl) (fun _ => rfl) (by first | exact Ind.const _ | exact fun _ _ _ _ _ => rfl | exact Ind.self | exact Ind.gh _ 3 rfl) (fun _ _ _ _ => rfl) ?_
              refine dj ?_
              refine d_assign (fun _ => rfl) (by first | exact Ind.const _ | exact fun _ _ _ _ _ => rfl | exact Ind.self | exact Ind.gh _ 3 rfl) (fun _ _ _ _ => rfl) ?_
              refine d_nilC ?_; intro ρ; simp only [chunks, facts, alOf, List.append_nil, List.nil_append, List.cons_append]
              refine jx_then ?_
              refine jc_ret ?_
              repeat (first | refine jx_thenRet ?_ | refine jx_blockRet ?_)
              refine jx_body (.inr rfl) (fun B w _ => res1 rfl rfl B w) (fun w hs => ⟨(), ?_, hs.sub (by repeat (first | exact .refl | exact .nil | refine .cons (by first | exact .hd | exact .tl .hd | exact .tl (.tl .hd) | exact .tl (.tl (.tl .hd)) | exact .tl (.tl (.tl (.tl .hd))) | exact .tl (.tl (.tl (.tl (.tl .hd)))) | exact .tl (.tl (.tl (.tl (.tl (.tl .hd))))) | exact .tl (.tl (.tl (.tl (.tl (.tl (.tl .hd)))))) | exact .tl (.tl (.tl (.tl (.tl (.tl (.tl (.tl .hd)))))))) ?_ | refine .drop ?_)) (by repeat (first | exact FSub.refl | exact FSub.nil | refine FSub.cons (by first | assumption | (repeat (first | assumption | exact List.Mem.head _ | refine .tail _ ?_))) ?_ | refine FSub.drop ?_))⟩)
              rfl
            · -- case 1
              have hp : msgParse c b = ((msgParse c b).1, 0) := by rw [← hcc]
              have hin2 : MsgIn (msgParse c b).1 := msgIn_of (parse_ok hp).2.2.2.2.1 (by omega) (by omega)
              have hbp : msgBytes (msgParse c b).1 = b := bytes_parse hp
              refine jc_draw mixed (by kernel_rfl) (by kernel_rfl) (fun _ _ => _) (fun _ => rfl) ?_
              refine dj ?_
              refine d_move (fun _ => rfl) (by first | exact Ind.const _ | exact fun _ _ _ _ _ => rfl | exact Ind.self | exact Ind.gh _ 3 rfl) (fun _ _ _ _ => rfl) ?_
              refine dj ?_
              refine d_bin (fun _ => rfl) (fun _ => rfl) (fun _ => b_neq_F (by omega)) (by first | exact Ind.const _ | exact fun _ _ _ _ _ => rfl | exact Ind.self | exact Ind.gh _ 3 rfl) (fun _ _ _ _ => rfl) ?_
              refine dj ?_
              refine d_move (fun _ => rfl) (by first | exact Ind.const _ | exact fun _ _ _ _ _ => rfl | exact Ind.self | exact Ind.gh _ 3 rfl) (fun _ _ _ _ => rfl) ?_
              refine dj ?_
              refine d_guardNo ?_ ?_ ?_
              · exact fun _ => rfl
              · exact fun _ _ _ _ => rfl
              refine dj ?_
              refine d_guardNo ?_ ?_ ?_
              · exact fun _ => rfl
              · exact fun _ _ _ _ => rfl
              refine dj ?_
              refine d_guardNo ?_ ?_ ?_
              · exact fun _ => rfl
              · exact fun _ _ _ _ => rfl
              refine dj ?_
              refine d_pickF (fun _ => rfl) (fun _ => rfl) (by first | exact Ind.const _ | exact fun _ _ _ _ _ => rfl | exact Ind.self | exact Ind.gh _ 3 rfl) (fun _ _ _ _ => rfl) ?_
              refine dj ?_
              refine d_move (fun _ => rfl) (by first | exact Ind.const _ | exact fun _ _ _ _ _ => rfl | exact Ind.self | exact Ind.gh _ 3 rfl) (fun _ _ _ _ => rfl) ?_
              refine dj ?_
              refine d_guardYes ?_ ?_
              · exact fun _ => rfl
              refine d_move (fun _ => rfl) (by first | exact Ind.const _ | exact fun _ _ _ _ _ => rfl | exact Ind.self | exact Ind.gh _ 3 rfl) (fun _ _ _ _ => rfl) ?_
              refine dj ?_
              refine d_guardYes ?_ ?_
              · exact fun _ => rfl
              refine d_bin (fun _ => rfl) (fun _ => rfl) (fun _ => b_eql_T (by omega)) (by first | exact Ind.const _ | exact fun _ _ _ _ _ => rfl | exact Ind.self | exact Ind.gh _ 3 rfl) (fun _ _ _ _ => rfl) ?_
              refine dj ?_
              refine d_guardYes ?_ ?_
              · exact fun _ => rfl
              refine d_move (fun _ => rfl) (by first | exact Ind.const _ | exact fun _ _ _ _ _ => rfl | exact Ind.self | exact Ind.gh _ 3 rfl) (fun _ _ _ _ => rfl) ?_
              refine dj ?_
              refine d_guardYes ?_ ?_
              · exact fun _ => rfl
              first | refine d_loadN Try.isAgg39 Try.sizeOf39 (fun _ => rfl) (fun _ _ => at_blkAll (by first | exact .hd | exact .tl .hd | exact .tl (.tl .hd) | exact .tl (.tl (.tl .hd)) | exact .tl (.tl (.tl (.tl .hd))) | exact .tl (.tl (.tl (.tl (.tl .hd)))) | exact .tl (.tl (.tl (.tl (.tl (.tl .hd))))) | exact .tl (.tl (.tl (.tl (.tl (.tl (.tl .hd)))))) | exact .tl (.tl (.tl (.tl (.tl (.tl (.tl (.tl .hd))))))))) (by exact rfl) (fun _ _ _ _ => rfl) ?_ | refine d_loadN Try.isAgg39 Try.sizeOf39 (fun _ => rfl) (fun _ _ => at_blkN (sz := 8) (by first | exact .hd | exact .tl .hd | exact .tl (.tl .hd) | exact .tl (.tl (.tl .hd)) | exact .tl (.tl (.tl (.tl .hd))) | exact .tl (.tl (.tl (.tl (.tl .hd)))) | exact .tl (.tl (.tl (.tl (.tl (.tl .hd))))) | exact .tl (.tl (.tl (.tl (.tl (.tl (.tl .hd)))))) | exact .tl (.tl (.tl (.tl (.tl (.tl (.tl (.tl .hd))))))))) (by exact rfl) (fun _ _ _ _ => rfl) ?_
              refine dj ?_
              refine d_guardYes ?_ ?_
              · exact fun _ => rfl
              refine d_call (γ := Value) (val := fun v => v) (F := fun v => [sl v (msgBytes (msgParse c b).1)]) (C := fun _ => []) Try.call56 (fun _ => rfl) (fun _ _ _ _ => rfl) (fun ρ L R w hd hs => frameBytes_calls hs (m := (msgParse c b).1) hin2) ?_
              refine dj ?_
              refine d_guardYes ?_ ?_
              · exact fun _ => rfl
              refine d_convStr Try.underlying40 Try.underlying5 Try.underlying9 (fun _ => rfl) (fun ρ R hd => (by first | exact hd.base (by first | assumption | exact .head _ | (refine .tail _ ?_; first | assumption | exact .head _ | (refine .tail _ ?_; first | assumption | exact .head _ | (refine .tail _ ?_; first | assumption | exact .head _ | (refine .tail _ ?_; first | assumption | exact .head _ | (refine .tail _ ?_; first | assumption | exact .head _ | (refine .tail _ ?_; first | assumption | exact .head _ | (refine .tail _ ?_; first | assumption | exact .head _ | (refine .tail _ ?_; first | assumption | exact .head _ | (refine .tail _ ?_; first | assumption | exact .head _)))))))))) | exact hd.dep (it := ⟨12, _, _, _, _⟩) (by repeat (first | exact List.Mem.head _ | refine List.Mem.tail _ ?_)) ⟨8, rfl⟩ (by first | exact List.Mem.head _ | exact .tail _ (.head _) | exact .tail _ (.tail _ (.head _))))) (fun _ _ _ _ => rfl) ?_
              refine dj ?_
              refine d_guardYes ?_ ?_
              · exact fun _ => rfl
              refine d_move (fun _ => rfl) (by first | exact Ind.const _ | exact fun _ _ _ _ _ => rfl | exact Ind.self | exact Ind.gh _ 3 rfl) (fun _ _ _ _ => rfl) ?_
              refine dj ?_
              refine d_guardYes ?_ ?_
              · exact fun _ => rfl
              refine d_convStr Try.underlying40 Try.underlying5 Try.underlying9 (fun _ => rfl) (fun ρ R hd => (by first | exact hd.base (by first | assumption | exact .head _ | (refine .tail _ ?_; first | assumption | exact .head _ | (refine .tail _ ?_; first | assumption | exact .head _ | (refine .tail _ ?_; first | assumption | exact .head _ | (refine .tail _ ?_; first | assumption | exact .head _ | (refine .tail _ ?_; first | assumption | exact .head _ | (refine .tail _ ?_; first | assumption | exact .head _ | (refine .tail _ ?_; first | assumption | exact .head _ | (refine .tail _ ?_; first | assumption | exact .head _ | (refine .tail _ ?_; first | assumption | exact .head _)))))))))) | exact hd.dep (it := ⟨12, _, _, _, _⟩) (by repeat (first | exact List.Mem.head _ | refine List.Mem.tail _ ?_)) ⟨8, rfl⟩ (by first | exact List.Mem.head _ | exact .tail _ (.head _) | exact .tail _ (.tail _ (.head _))))) (fun _ _ _ _ => rfl) ?_
              refine dj ?_
              refine d_guardYes ?_ ?_
              · exact fun _ => rfl
              first | refine d_pc (fun _ _ => p_str rfl rfl (b_streq_T hbp)) rfl (fun _ _ _ _ => rfl) ?_ | refine d_p (fun _ _ => p_str rfl rfl (b_streq_T hbp)) rfl (by first | exact Ind.const _ | exact fun _ _ _ _ _ => rfl | exact Ind.self | exact Ind.gh _ 3 rfl) (fun _ _ _ _ => rfl) ?_
              refine dj ?_
              refine d_guardYes ?_ ?_
              · exact fun _ => rfl
              refine d_pickT (fun _ => rfl) (fun _ => rfl) (by first | exact Ind.const _ | exact fun _ _ _ _ _ => rfl | exact Ind.self | exact Ind.gh _ 3 rfl) (fun _ _ _ _ => rfl) ?_
              refine dj ?_
              refine d_pickF (fun _ => rfl) (fun _ => rfl) (by first | exact Ind.const _ | exact fun _ _ _ _ _ => rfl | exact Ind.self | exact Ind.gh _ 3 rfl) (fun _ _ _ _ => rfl) ?_
              refine dj ?_
              refine d_assign (fun _ => rfl) (by first | exact Ind.const _ | exact fun _ _ _ _ _ => rfl | exact Ind.self | exact Ind.gh _ 3 rfl) (fun _ _ _ _ => rfl) ?_
              refine d_nilC ?_; intro ρ; simp only [chunks, facts, alOf, List.append_nil, List.nil_append, List.cons_append]
              refine jx_then ?_
              refine jc_ret ?_
              repeat (first | refine jx_thenRet ?_ | refine jx_blockRet ?_)
              refine jx_body (.inr rfl) (fun B w _ => res1 rfl rfl B w) (fun w hs => ⟨(), ?_, hs.sub (by repeat (first | exact .refl | exact .nil | refine .cons (by first | exact .hd | exact .tl .hd | exact .tl (.tl .hd) | exact .tl (.tl (.tl .hd)) | exact .tl (.tl (.tl (.tl .hd))) | exact .tl (.tl (.tl (.tl (.tl .hd)))) | exact .tl (.tl (.tl (.tl (.tl (.tl .hd))))) | exact .tl (.tl (.tl (.tl (.tl (.tl (.tl .hd)))))) | exact .tl (.tl (.tl (.tl (.tl (.tl (.tl (.tl .hd)))))))) ?_ | refine .drop ?_)) (by repeat (first | exact FSub.refl | exact FSub.nil | refine FSub.cons (by first | assumption | (repeat (first | assumption | exact List.Mem.head _ | refine .tail _ ?_))) ?_ | refine FSub.drop ?_))⟩)
              rfl
theorem frameSpoilt_walk {L : List Chunk} {R : List Fact} {w : World} {c : Config} {m : Msg} {bit : Int} (hs : St L R w) (hbit : In64 bit) : Calls Try.prog 7 [.agg c.cells.toArray, .agg m.cells.toArray, vi bit].toArray w (Post (fun _ : Unit => .bool true) (fun _ => L) (fun _ => R)) := by
  refine calls_args Try.func7 rfl Try.ntmps7 rfl hs ?_
  clear hs
  repeat refine jc_seq ?_
  refine jc_region ?_
  refine r_box rfl rfl ?_; intro b3
  refine r_box rfl rfl ?_; intro b4
  refine r_assign rfl ?_
  refine J.nil ?_
  refine jx_then ?_
  repeat refine jc_seq ?_
  refine jc_region ?_
  refine r_call Try.call58 rfl (fun w hs => aliveFrame_calls hs ) ?_; intro _
  refine r_not rfl ?_
  refine J.nil ?_
  refine jx_then ?_
  repeat refine jc_seq ?_
  refine jc_condF rfl ?_
  refine jc_skip ?_
  refine jx_then ?_
  repeat refine jc_seq ?_
  refine jc_region ?_
  first | refine r_fieldAddr fo_37_0 rfl ?_ | refine r_fieldAddrE fo_37_0 rfl (by first | exact len_row (by first | exact .hd | exact .tl .hd | exact .tl (.tl .hd) | exact .tl (.tl (.tl .hd)) | exact .tl (.tl (.tl (.tl .hd))) | exact .tl (.tl (.tl (.tl (.tl .hd)))) | exact .tl (.tl (.tl (.tl (.tl (.tl .hd))))) | exact .tl (.tl (.tl (.tl (.tl (.tl (.tl .hd)))))) | exact .tl (.tl (.tl (.tl (.tl (.tl (.tl (.tl .hd)))))))) | exact len_sl (by first | assumption | exact .head _ | (refine .tail _ ?_; first | assumption | exact .head _ | (refine .tail _ ?_; first | assumption | exact .head _ | (refine .tail _ ?_; first | assumption | exact .head _ | (refine .tail _ ?_; first | assumption | exact .head _ | (refine .tail _ ?_; first | assumption | exact .head _ | (refine .tail _ ?_; first | assumption | exact .head _ | (refine .tail _ ?_; first | assumption | exact .head _ | (refine .tail _ ?_; first | assumption | exact .head _ | (refine .tail _ ?_; first | assumption | exact .head _))))))))))) (by first | assumption | omega | simp) ?_
  first
    | (refine r_load1 Try.isAgg3 rfl (at_blk1 (by first | exact .hd | exact .tl .hd | exact .tl (.tl .hd) | exact .tl (.tl (.tl .hd)) | exact .tl (.tl (.tl (.tl .hd))) | exact .tl (.tl (.tl (.tl (.tl .hd)))) | exact .tl (.tl (.tl (.tl (.tl (.tl .hd))))) | exact .tl (.tl (.tl (.tl (.tl (.tl (.tl .hd)))))) | exact .tl (.tl (.tl (.tl (.tl (.tl (.tl (.tl .hd)))))))) (by exact rfl)) ?_)
    | (refine r_load1 Try.isAgg3 rfl (at_int (by first | assumption | exact .head _ | (refine .tail _ ?_; first | assumption | exact .head _ | (refine .tail _ ?_; first | assumption | exact .head _ | (refine .tail _ ?_; first | assumption | exact .head _ | (refine .tail _ ?_; first | assumption | exact .head _ | (refine .tail _ ?_; first | assumption | exact .head _ | (refine .tail _ ?_; first | assumption | exact .head _ | (refine .tail _ ?_; first | assumption | exact .head _ | (refine .tail _ ?_; first | assumption | exact .head _ | (refine .tail _ ?_; first | assumption | exact .head _)))))))))) (by assumption)) ?_)
  refine r_bin rfl rfl b_lss ?_
  refine r_move rfl ?_
  refine j_cases (t := 15) (b := ?b1) ?e1 ?_ ?_
  case e1 => exact rfl
  · -- t15 True
    intro ht15
    try simp only [decide_eq_true_eq, decide_eq_false_iff_not, beq_iff_eq, bne_iff_ne, beq_eq_false_iff_ne, bne_eq_false_iff_eq, Int.not_lt, Int.not_le, Bool.not_eq_true, ne_eq, Bool.not_eq_eq_eq_not, Bool.not_true, Bool.not_false] at ht15
    refine J.guardNo ?_ ?_
    · exact rfl
    refine J.guardNo ?_ ?_
    · exact rfl
    refine J.guardNo ?_ ?_
    · exact rfl
    refine r_pickT rfl rfl ?_
    refine r_move rfl ?_
    refine J.guardNo ?_ ?_
    · exact rfl
    refine J.guardNo ?_ ?_
    · exact rfl
    refine J.guardNo ?_ ?_
    · exact rfl
    refine r_pickT rfl rfl ?_
    refine r_move rfl ?_
    refine J.guardNo ?_ ?_
    · exact rfl
    refine J.guardNo ?_ ?_
    · exact rfl
    refine J.guardNo ?_ ?_
    · exact rfl
    refine r_pickT rfl rfl ?_
    refine r_move rfl ?_
    refine J.guardNo ?_ ?_
    · exact rfl
    refine J.guardNo ?_ ?_
    · exact rfl
    refine J.guardNo ?_ ?_
    · exact rfl
    refine J.guardNo ?_ ?_
    · exact rfl
    refine r_pickT rfl rfl ?_
    refine r_move rfl ?_
    refine J.guardNo ?_ ?_
    · exact rfl
    refine J.guardNo ?_ ?_
    · exact rfl
    refine r_pickT rfl rfl ?_
    refine r_move rfl ?_
    refine J.guardNo ?_ ?_
    · exact rfl
    refine J.guardNo ?_ ?_
    · exact rfl
    refine r_pickT rfl rfl ?_
    refine J.nil ?_
    refine jx_then ?_
    repeat refine jc_seq ?_
    refine jc_condT rfl ?_
    repeat refine jc_seq ?_
    refine jc_region ?_
    refine r_assign rfl ?_
    refine J.nil ?_
    refine jx_then ?_
    refine jc_ret ?_
    repeat (first | refine jx_thenRet ?_ | refine jx_blockRet ?_)
    refine jx_body (.inr rfl) (fun B w _ => res1 rfl rfl B w) (fun w hs => ⟨(), ?_, hs.sub (by repeat (first | exact .refl | exact .nil | refine .cons (by first | exact .hd | exact .tl .hd | exact .tl (.tl .hd) | exact .tl (.tl (.tl .hd)) | exact .tl (.tl (.tl (.tl .hd))) | exact .tl (.tl (.tl (.tl (.tl .hd)))) | exact .tl (.tl (.tl (.tl (.tl (.tl .hd))))) | exact .tl (.tl (.tl (.tl (.tl (.tl (.tl .hd)))))) | exact .tl (.tl (.tl (.tl (.tl (.tl (.tl (.tl .hd)))))))) ?_ | refine .drop ?_)) (by repeat (first | exact FSub.refl | exact FSub.nil | refine FSub.cons (by first | assumption | (repeat (first | assumption | exact List.Mem.head _ | refine .tail _ ?_))) ?_ | refine FSub.drop ?_))⟩)
    rfl
  · -- t15 False
    intro ht15
    try simp only [decide_eq_true_eq, decide_eq_false_iff_not, beq_iff_eq, bne_iff_ne, beq_eq_false_iff_ne, bne_eq_false_iff_eq, Int.not_lt, Int.not_le, Bool.not_eq_true, ne_eq, Bool.not_eq_eq_eq_not, Bool.not_true, Bool.not_false] at ht15
    refine J.guardYes ?_ ?_
    · exact rfl
    first | refine r_fieldAddr fo_37_0 rfl ?_ | refine r_fieldAddrE fo_37_0 rfl (by first | exact len_row (by first | exact .hd | exact .tl .hd | exact .tl (.tl .hd) | exact .tl (.tl (.tl .hd)) | exact .tl (.tl (.tl (.tl .hd))) | exact .tl (.tl (.tl (.tl (.tl .hd)))) | exact .tl (.tl (.tl (.tl (.tl (.tl .hd))))) | exact .tl (.tl (.tl (.tl (.tl (.tl (.tl .hd)))))) | exact .tl (.tl (.tl (.tl (.tl (.tl (.tl (.tl .hd)))))))) | exact len_sl (by first | assumption | exact .head _ | (refine .tail _ ?_; first | assumption | exact .head _ | (refine .tail _ ?_; first | assumption | exact .head _ | (refine .tail _ ?_; first | assumption | exact .head _ | (refine .tail _ ?_; first | assumption | exact .head _ | (refine .tail _ ?_; first | assumption | exact .head _ | (refine .tail _ ?_; first | assumption | exact .head _ | (refine .tail _ ?_; first | assumption | exact .head _ | (refine .tail _ ?_; first | assumption | exact .head _ | (refine .tail _ ?_; first | assumption | exact .head _))))))))))) (by first | assumption | omega | simp) ?_
    refine J.guardYes ?_ ?_
    · exact rfl
    first
      | (refine r_load1 Try.isAgg3 rfl (at_blk1 (by first | exact .hd | exact .tl .hd | exact .tl (.tl .hd) | exact .tl (.tl (.tl .hd)) | exact .tl (.tl (.tl (.tl .hd))) | exact .tl (.tl (.tl (.tl (.tl .hd)))) | exact .tl (.tl (.tl (.tl (.tl (.tl .hd))))) | exact .tl (.tl (.tl (.tl (.tl (.tl (.tl .hd)))))) | exact .tl (.tl (.tl (.tl (.tl (.tl (.tl (.tl .hd)))))))) (by exact rfl)) ?_)
      | (refine r_load1 Try.isAgg3 rfl (at_int (by first | assumption | exact .head _ | (refine .tail _ ?_; first | assumption | exact .head _ | (refine .tail _ ?_; first | assumption | exact .head _ | (refine .tail _ ?_; first | assumption | exact .head _ | (refine .tail _ ?_; first | assumption | exact .head _ | (refine .tail _ ?_; first | assumption | exact .head _ | (refine .tail _ ?_; first | assumption | exact .head _ | (refine .tail _ ?_; first | assumption | exact .head _ | (refine .tail _ ?_; first | assumption | exact .head _ | (refine .tail _ ?_; first | assumption | exact .head _)))))))))) (by assumption)) ?_)
    refine J.guardYes ?_ ?_
    · exact rfl
    refine r_bin rfl rfl b_gtr ?_
    refine r_pickF rfl rfl ?_
    refine r_move rfl ?_
    refine j_cases (t := 20) (b := ?b2) ?e2 ?_ ?_
    case e2 => exact rfl
    · -- t20 True
      intro ht20
      try simp only [decide_eq_true_eq, decide_eq_false_iff_not, beq_iff_eq, bne_iff_ne, beq_eq_false_iff_ne, bne_eq_false_iff_eq, Int.not_lt, Int.not_le, Bool.not_eq_true, ne_eq, Bool.not_eq_eq_eq_not, Bool.not_true, Bool.not_false] at ht20
      refine J.guardNo ?_ ?_
      · exact rfl
      refine J.guardNo ?_ ?_
      · exact rfl
      refine J.guardNo ?_ ?_
      · exact rfl
      refine r_pickT rfl rfl ?_
      refine r_move rfl ?_
      refine J.guardNo ?_ ?_
      · exact rfl
      refine J.guardNo ?_ ?_
      · exact rfl
      refine J.guardNo ?_ ?_
      · exact rfl
      refine r_pickT rfl rfl ?_
      refine r_move rfl ?_
      refine J.guardNo ?_ ?_
      · exact rfl
      refine J.guardNo ?_ ?_
      · exact rfl
      refine J.guardNo ?_ ?_
      · exact rfl
      refine J.guardNo ?_ ?_
      · exact rfl
      refine r_pickT rfl rfl ?_
      refine r_move rfl ?_
      refine J.guardNo ?_ ?_
      · exact rfl
      refine J.guardNo ?_ ?_
      · exact rfl
      refine r_pickT rfl rfl ?_
      refine r_move rfl ?_
      refine J.guardNo ?_ ?_
      · exact rfl
      refine J.guardNo ?_ ?_
      · exact rfl
      refine r_pickT rfl rfl ?_
      refine J.nil ?_
      refine jx_then ?_
      repeat refine jc_seq ?_
      refine jc_condT rfl ?_
      repeat refine jc_seq ?_
      refine jc_region ?_
      refine r_assign rfl ?_
      refine J.nil ?_
      refine jx_then ?_
      refine jc_ret ?_
      repeat (first | refine jx_thenRet ?_ | refine jx_blockRet ?_)
      refine jx_body (.inr rfl) (fun B w _ => res1 rfl rfl B w) (fun w hs => ⟨(), ?_, hs.sub (by repeat (first | exact .refl | exact .nil | refine .cons (by first | exact .hd | exact .tl .hd | exact .tl (.tl .hd) | exact .tl (.tl (.tl .hd)) | exact .tl (.tl (.tl (.tl .hd))) | exact .tl (.tl (.tl (.tl (.tl .hd)))) | exact .tl (.tl (.tl (.tl (.tl (.tl .hd))))) | exact .tl (.tl (.tl (.tl (.tl (.tl (.tl .hd)))))) | exact .tl (.tl (.tl (.tl (.tl (.tl (.tl (.tl .hd)))))))) ?_ | refine .drop ?_)) (by repeat (first | exact FSub.refl | exact FSub.nil | refine FSub.cons (by first | assumption | (repeat (first | assumption | exact List.Mem.head _ | refine .tail _ ?_))) ?_ | refine FSub.drop ?_))⟩)
      rfl
    · -- t20 False
      intro ht20
      try simp only [decide_eq_true_eq, decide_eq_false_iff_not, beq_iff_eq, bne_iff_ne, beq_eq_false_iff_ne, bne_eq_false_iff_eq, Int.not_lt, Int.not_le, Bool.not_eq_true, ne_eq, Bool.not_eq_eq_eq_not, Bool.not_true, Bool.not_false] at ht20
      refine J.guardYes ?_ ?_
      · exact rfl
      first | refine r_fieldAddr fo_37_1 rfl ?_ | refine r_fieldAddrE fo_37_1 rfl (by first | exact len_row (by first | exact .hd | exact .tl .hd | exact .tl (.tl .hd) | exact .tl (.tl (.tl .hd)) | exact .tl (.tl (.tl (.tl .hd))) | exact .tl (.tl (.tl (.tl (.tl .hd)))) | exact .tl (.tl (.tl (.tl (.tl (.tl .hd))))) | exact .tl (.tl (.tl (.tl (.tl (.tl (.tl .hd)))))) | exact .tl (.tl (.tl (.tl (.tl (.tl (.tl (.tl .hd)))))))) | exact len_sl (by first | assumption | exact .head _ | (refine .tail _ ?_; first | assumption | exact .head _ | (refine .tail _ ?_; first | assumption | exact .head _ | (refine .tail _ ?_; first | assumption | exact .head _ | (refine .tail _ ?_; first | assumption | exact .head _ | (refine .tail _ ?_; first | assumption | exact .head _ | (refine .tail _ ?_; first | assumption | exact .head _ | (refine .tail _ ?_; first | assumption | exact .head _ | (refine .tail _ ?_; first | assumption | exact .head _ | (refine .tail _ ?_; first | assumption | exact .head _))))))))))) (by first | assumption | omega | simp) ?_
      refine J.guardYes ?_ ?_
      · exact rfl
      first
        | (refine r_load1 Try.isAgg3 rfl (at_blk1 (by first | exact .hd | exact .tl .hd | exact .tl (.tl .hd) | exact .tl (.tl (.tl .hd)) | exact .tl (.tl (.tl (.tl .hd))) | exact .tl (.tl (.tl (.tl (.tl .hd)))) | exact .tl (.tl (.tl (.tl (.tl (.tl .hd))))) | exact .tl (.tl (.tl (.tl (.tl (.tl (.tl .hd)))))) | exact .tl (.tl (.tl (.tl (.tl (.tl (.tl (.tl .hd)))))))) (by exact rfl)) ?_)
        | (refine r_load1 Try.isAgg3 rfl (at_int (by first | assumption | exact .head _ | (refine .tail _ ?_; first | assumption | exact .head _ | (refine .tail _ ?_; first | assumption | exact .head _ | (refine .tail _ ?_; first | assumption | exact .head _ | (refine .tail _ ?_; first | assumption | exact .head _ | (refine .tail _ ?_; first | assumption | exact .head _ | (refine .tail _ ?_; first | assumption | exact .head _ | (refine .tail _ ?_; first | assumption | exact .head _ | (refine .tail _ ?_; first | assumption | exact .head _ | (refine .tail _ ?_; first | assumption | exact .head _)))))))))) (by assumption)) ?_)
      refine J.guardYes ?_ ?_
      · exact rfl
      refine r_bin rfl rfl b_lss ?_
      refine r_pickF rfl rfl ?_
      refine r_move rfl ?_
      refine j_cases (t := 25) (b := ?b3) ?e3 ?_ ?_
      case e3 => exact rfl
      · -- t25 True
        intro ht25
        try simp only [decide_eq_true_eq, decide_eq_false_iff_not, beq_iff_eq, bne_iff_ne, beq_eq_false_iff_ne, bne_eq_false_iff_eq, Int.not_lt, Int.not_le, Bool.not_eq_true, ne_eq, Bool.not_eq_eq_eq_not, Bool.not_true, Bool.not_false] at ht25
        refine J.guardNo ?_ ?_
        · exact rfl
        refine J.guardNo ?_ ?_
        · exact rfl
        refine J.guardNo ?_ ?_
        · exact rfl
        refine r_pickT rfl rfl ?_
        refine r_move rfl ?_
        refine J.guardNo ?_ ?_
        · exact rfl
        refine J.guardNo ?_ ?_
        · exact rfl
        refine J.guardNo ?_ ?_
        · exact rfl
        refine J.guardNo ?_ ?_
        · exact rfl
        refine r_pickT rfl rfl ?_
        refine r_move rfl ?_
        refine J.guardNo ?_ ?_
        · exact rfl
        refine J.guardNo ?_ ?_
        · exact rfl
        refine r_pickT rfl rfl ?_
        refine r_move rfl ?_
        refine J.guardNo ?_ ?_
        · exact rfl
        refine J.guardNo ?_ ?_
        · exact rfl
        refine r_pickT rfl rfl ?_
        refine J.nil ?_
        refine jx_then ?_
        repeat refine jc_seq ?_
        refine jc_condT rfl ?_
        repeat refine jc_seq ?_
        refine jc_region ?_
        refine r_assign rfl ?_
        refine J.nil ?_
        refine jx_then ?_
        refine jc_ret ?_
        repeat (first | refine jx_thenRet ?_ | refine jx_blockRet ?_)
        refine jx_body (.inr rfl) (fun B w _ => res1 rfl rfl B w) (fun w hs => ⟨(), ?_, hs.sub (by repeat (first | exact .refl | exact .nil | refine .cons (by first | exact .hd | exact .tl .hd | exact .tl (.tl .hd) | exact .tl (.tl (.tl .hd)) | exact .tl (.tl (.tl (.tl .hd))) | exact .tl (.tl (.tl (.tl (.tl .hd)))) | exact .tl (.tl (.tl (.tl (.tl (.tl .hd))))) | exact .tl (.tl (.tl (.tl (.tl (.tl (.tl .hd)))))) | exact .tl (.tl (.tl (.tl (.tl (.tl (.tl (.tl .hd)))))))) ?_ | refine .drop ?_)) (by repeat (first | exact FSub.refl | exact FSub.nil | refine FSub.cons (by first | assumption | (repeat (first | assumption | exact List.Mem.head _ | refine .tail _ ?_))) ?_ | refine FSub.drop ?_))⟩)
        rfl
      · -- t25 False
        intro ht25
        try simp only [decide_eq_true_eq, decide_eq_false_iff_not, beq_iff_eq, bne_iff_ne, beq_eq_false_iff_ne, bne_eq_false_iff_eq, Int.not_lt, Int.not_le, Bool.not_eq_true, ne_eq, Bool.not_eq_eq_eq_not, Bool.not_true, Bool.not_false] at ht25
        refine J.guardYes ?_ ?_
        · exact rfl
        first | refine r_fieldAddr fo_37_1 rfl ?_ | refine r_fieldAddrE fo_37_1 rfl (by first | exact len_row (by first | exact .hd | exact .tl .hd | exact .tl (.tl .hd) | exact .tl (.tl (.tl .hd)) | exact .tl (.tl (.tl (.tl .hd))) | exact .tl (.tl (.tl (.tl (.tl .hd)))) | exact .tl (.tl (.tl (.tl (.tl (.tl .hd))))) | exact .tl (.tl (.tl (.tl (.tl (.tl (.tl .hd)))))) | exact .tl (.tl (.tl (.tl (.tl (.tl (.tl (.tl .hd)))))))) | exact len_sl (by first | assumption | exact .head _ | (refine .tail _ ?_; first | assumption | exact .head _ | (refine .tail _ ?_; first | assumption | exact .head _ | (refine .tail _ ?_; first | assumption | exact .head _ | (refine .tail _ ?_; first | assumption | exact .head _ | (refine .tail _ ?_; first | assumption | exact .head _ | (refine .tail _ ?_; first | assumption | exact .head _ | (refine .tail _ ?_; first | assumption | exact .head _ | (refine .tail _ ?_; first | assumption | exact .head _ | (refine .tail _ ?_; first | assumption | exact .head _))))))))))) (by first | assumption | omega | simp) ?_
        refine J.guardYes ?_ ?_
        · exact rfl
        first
          | (refine r_load1 Try.isAgg3 rfl (at_blk1 (by first | exact .hd | exact .tl .hd | exact .tl (.tl .hd) | exact .tl (.tl (.tl .hd)) | exact .tl (.tl (.tl (.tl .hd))) | exact .tl (.tl (.tl (.tl (.tl .hd)))) | exact .tl (.tl (.tl (.tl (.tl (.tl .hd))))) | exact .tl (.tl (.tl (.tl (.tl (.tl (.tl .hd)))))) | exact .tl (.tl (.tl (.tl (.tl (.tl (.tl (.tl .hd)))))))) (by exact rfl)) ?_)
          | (refine r_load1 Try.isAgg3 rfl (at_int (by first | assumption | exact .head _ | (refine .tail _ ?_; first | assumption | exact .head _ | (refine .tail _ ?_; first | assumption | exact .head _ | (refine .tail _ ?_; first | assumption | exact .head _ | (refine .tail _ ?_; first | assumption | exact .head _ | (refine .tail _ ?_; first | assumption | exact .head _ | (refine .tail _ ?_; first | assumption | exact .head _ | (refine .tail _ ?_; first | assumption | exact .head _ | (refine .tail _ ?_; first | assumption | exact .head _ | (refine .tail _ ?_; first | assumption | exact .head _)))))))))) (by assumption)) ?_)
        refine J.guardYes ?_ ?_
        · exact rfl
        refine r_bin rfl rfl b_gtr ?_
        refine r_pickF rfl rfl ?_
        refine r_move rfl ?_
        refine j_cases (t := 30) (b := ?b4) ?e4 ?_ ?_
        case e4 => exact rfl
        · -- t30 True
          intro ht30
          try simp only [decide_eq_true_eq, decide_eq_false_iff_not, beq_iff_eq, bne_iff_ne, beq_eq_false_iff_ne, bne_eq_false_iff_eq, Int.not_lt, Int.not_le, Bool.not_eq_true, ne_eq, Bool.not_eq_eq_eq_not, Bool.not_true, Bool.not_false] at ht30
          refine J.guardNo ?_ ?_
          · exact rfl
          refine J.guardNo ?_ ?_
          · exact rfl
          refine J.guardNo ?_ ?_
          · exact rfl
          refine J.guardNo ?_ ?_
          · exact rfl
          refine r_pickT rfl rfl ?_
          refine r_move rfl ?_
          refine J.guardNo ?_ ?_
          · exact rfl
          refine J.guardNo ?_ ?_
          · exact rfl
          refine r_pickT rfl rfl ?_
          refine r_move rfl ?_
          refine J.guardNo ?_ ?_
          · exact rfl
          refine J.guardNo ?_ ?_
          · exact rfl
          refine r_pickT rfl rfl ?_
          refine J.nil ?_
          refine jx_then ?_
          repeat refine jc_seq ?_
          refine jc_condT rfl ?_
          repeat refine jc_seq ?_
          refine jc_region ?_
          refine r_assign rfl ?_
          refine J.nil ?_
          refine jx_then ?_
          refine jc_ret ?_
          repeat (first | refine jx_thenRet ?_ | refine jx_blockRet ?_)
          refine jx_body (.inr rfl) (fun B w _ => res1 rfl rfl B w) (fun w hs => ⟨(), ?_, hs.sub (by repeat (first | exact .refl | exact .nil | refine .cons (by first | exact .hd | exact .tl .hd | exact .tl (.tl .hd) | exact .tl (.tl (.tl .hd)) | exact .tl (.tl (.tl (.tl .hd))) | exact .tl (.tl (.tl (.tl (.tl .hd)))) | exact .tl (.tl (.tl (.tl (.tl (.tl .hd))))) | exact .tl (.tl (.tl (.tl (.tl (.tl (.tl .hd)))))) | exact .tl (.tl (.tl (.tl (.tl (.tl (.tl (.tl .hd)))))))) ?_ | refine .drop ?_)) (by repeat (first | exact FSub.refl | exact FSub.nil | refine FSub.cons (by first | assumption | (repeat (first | assumption | exact List.Mem.head _ | refine .tail _ ?_))) ?_ | refine FSub.drop ?_))⟩)
          rfl
        · -- t30 False
          intro ht30
          try simp only [decide_eq_true_eq, decide_eq_false_iff_not, beq_iff_eq, bne_iff_ne, beq_eq_false_iff_ne, bne_eq_false_iff_eq, Int.not_lt, Int.not_le, Bool.not_eq_true, ne_eq, Bool.not_eq_eq_eq_not, Bool.not_true, Bool.not_false] at ht30
          refine J.guardYes ?_ ?_
          · exact rfl
          first | refine r_loadN Try.isAgg37 Try.sizeOf37 rfl (at_blkAll (by first | exact .hd | exact .tl .hd | exact .tl (.tl .hd) | exact .tl (.tl (.tl .hd)) | exact .tl (.tl (.tl (.tl .hd))) | exact .tl (.tl (.tl (.tl (.tl .hd)))) | exact .tl (.tl (.tl (.tl (.tl (.tl .hd))))) | exact .tl (.tl (.tl (.tl (.tl (.tl (.tl .hd)))))) | exact .tl (.tl (.tl (.tl (.tl (.tl (.tl (.tl .hd))))))))) (by exact rfl) ?_ | refine r_loadN Try.isAgg37 Try.sizeOf37 rfl (at_blkN (sz := 2) (by first | exact .hd | exact .tl .hd | exact .tl (.tl .hd) | exact .tl (.tl (.tl .hd)) | exact .tl (.tl (.tl (.tl .hd))) | exact .tl (.tl (.tl (.tl (.tl .hd)))) | exact .tl (.tl (.tl (.tl (.tl (.tl .hd))))) | exact .tl (.tl (.tl (.tl (.tl (.tl (.tl .hd)))))) | exact .tl (.tl (.tl (.tl (.tl (.tl (.tl (.tl .hd))))))))) (by exact rfl) ?_ | refine r_loadN Try.isAgg37 Try.sizeOf37 rfl (at_Config (by first | assumption | exact .head _ | (refine .tail _ ?_; first | assumption | exact .head _ | (refine .tail _ ?_; first | assumption | exact .head _ | (refine .tail _ ?_; first | assumption | exact .head _ | (refine .tail _ ?_; first | assumption | exact .head _ | (refine .tail _ ?_; first | assumption | exact .head _ | (refine .tail _ ?_; first | assumption | exact .head _ | (refine .tail _ ?_; first | assumption | exact .head _ | (refine .tail _ ?_; first | assumption | exact .head _ | (refine .tail _ ?_; first | assumption | exact .head _)))))))))) (by assumption)) rfl ?_
          refine J.guardYes ?_ ?_
          · exact rfl
          first | refine r_loadN Try.isAgg39 Try.sizeOf39 rfl (at_blkAll (by first | exact .hd | exact .tl .hd | exact .tl (.tl .hd) | exact .tl (.tl (.tl .hd)) | exact .tl (.tl (.tl (.tl .hd))) | exact .tl (.tl (.tl (.tl (.tl .hd)))) | exact .tl (.tl (.tl (.tl (.tl (.tl .hd))))) | exact .tl (.tl (.tl (.tl (.tl (.tl (.tl .hd)))))) | exact .tl (.tl (.tl (.tl (.tl (.tl (.tl (.tl .hd))))))))) (by exact rfl) ?_ | refine r_loadN Try.isAgg39 Try.sizeOf39 rfl (at_blkN (sz := 8) (by first | exact .hd | exact .tl .hd | exact .tl (.tl .hd) | exact .tl (.tl (.tl .hd)) | exact .tl (.tl (.tl (.tl .hd))) | exact .tl (.tl (.tl (.tl (.tl .hd)))) | exact .tl (.tl (.tl (.tl (.tl (.tl .hd))))) | exact .tl (.tl (.tl (.tl (.tl (.tl (.tl .hd)))))) | exact .tl (.tl (.tl (.tl (.tl (.tl (.tl (.tl .hd))))))))) (by exact rfl) ?_ | refine r_loadN Try.isAgg39 Try.sizeOf39 rfl (at_Msg (by first | assumption | exact .head _ | (refine .tail _ ?_; first | assumption | exact .head _ | (refine .tail _ ?_; first | assumption | exact .head _ | (refine .tail _ ?_; first | assumption | exact .head _ | (refine .tail _ ?_; first | assumption | exact .head _ | (refine .tail _ ?_; first | assumption | exact .head _ | (refine .tail _ ?_; first | assumption | exact .head _ | (refine .tail _ ?_; first | assumption | exact .head _ | (refine .tail _ ?_; first | assumption | exact .head _ | (refine .tail _ ?_; first | assumption | exact .head _)))))))))) (by assumption)) rfl ?_
          refine J.guardYes ?_ ?_
          · exact rfl
          refine r_call Try.call48 rfl (fun w hs => frameWrong_calls hs (c := c) (m := m)) ?_; intro _
          refine J.guardYes ?_ ?_
          · exact rfl
          refine r_bin rfl rfl b_neq ?_
          refine r_pickF rfl rfl ?_
          refine r_move rfl ?_
          refine j_cases (t := 36) (b := ?b5) ?e5 ?_ ?_
          case e5 => exact rfl
          · -- t36 True
            intro ht36
            try simp only [decide_eq_true_eq, decide_eq_false_iff_not, beq_iff_eq, bne_iff_ne, beq_eq_false_iff_ne, bne_eq_false_iff_eq, Int.not_lt, Int.not_le, Bool.not_eq_true, ne_eq, Bool.not_eq_eq_eq_not, Bool.not_true, Bool.not_false] at ht36
            refine J.guardNo ?_ ?_
            · exact rfl
            refine J.guardNo ?_ ?_
            · exact rfl
            refine r_pickT rfl rfl ?_
            refine r_move rfl ?_
            refine J.guardNo ?_ ?_
            · exact rfl
            refine J.guardNo ?_ ?_
            · exact rfl
            refine r_pickT rfl rfl ?_
            refine J.nil ?_
            refine jx_then ?_
            repeat refine jc_seq ?_
            refine jc_condT rfl ?_
            repeat refine jc_seq ?_
            refine jc_region ?_
            refine r_assign rfl ?_
            refine J.nil ?_
            refine jx_then ?_
            refine jc_ret ?_
            repeat (first | refine jx_thenRet ?_ | refine jx_blockRet ?_)
            refine jx_body (.inr rfl) (fun B w _ => res1 rfl rfl B w) (fun w hs => ⟨(), ?_, hs.sub (by repeat (first | exact .refl | exact .nil | refine .cons (by first | exact .hd | exact .tl .hd | exact .tl (.tl .hd) | exact .tl (.tl (.tl .hd)) | exact .tl (.tl (.tl (.tl .hd))) | exact .tl (.tl (.tl (.tl (.tl .hd)))) | exact .tl (.tl (.tl (.tl (.tl (.tl .hd))))) | exact .tl (.tl (.tl (.tl (.tl (.tl (.tl .hd)))))) | exact .tl (.tl (.tl (.tl (.tl (.tl (.tl (.tl .hd)))))))) ?_ | refine .drop ?_)) (by repeat (first | exact FSub.refl | exact FSub.nil | refine FSub.cons (by first | assumption | (repeat (first | assumption | exact List.Mem.head _ | refine .tail _ ?_))) ?_ | refine FSub.drop ?_))⟩)
            rfl
          · -- t36 False
            intro ht36
            try simp only [decide_eq_true_eq, decide_eq_false_iff_not, beq_iff_eq, bne_iff_ne, beq_eq_false_iff_ne, bne_eq_false_iff_eq, Int.not_lt, Int.not_le, Bool.not_eq_true, ne_eq, Bool.not_eq_eq_eq_not, Bool.not_true, Bool.not_false] at ht36
            refine J.guardYes ?_ ?_
            · exact rfl
            refine r_move rfl ?_
            refine J.guardYes ?_ ?_
            · exact rfl
            refine r_bin rfl rfl b_lss ?_
            refine r_pickF rfl rfl ?_
            refine r_move rfl ?_
            refine j_cases (t := 40) (b := ?b6) ?e6 ?_ ?_
            case e6 => exact rfl
            · -- t40 True
              intro ht40
              try simp only [decide_eq_true_eq, decide_eq_false_iff_not, beq_iff_eq, bne_iff_ne, beq_eq_false_iff_ne, bne_eq_false_iff_eq, Int.not_lt, Int.not_le, Bool.not_eq_true, ne_eq, Bool.not_eq_eq_eq_not, Bool.not_true, Bool.not_false] at ht40
              refine J.guardNo ?_ ?_
              · exact rfl
              refine J.guardNo ?_ ?_
              · exact rfl
              refine r_pickT rfl rfl ?_
              refine J.nil ?_
              refine jx_then ?_
              repeat refine jc_seq ?_
              refine jc_condT rfl ?_
              repeat refine jc_seq ?_
              refine jc_region ?_
              refine r_assign rfl ?_
              refine J.nil ?_
              refine jx_then ?_
              refine jc_ret ?_
              repeat (first | refine jx_thenRet ?_ | refine jx_blockRet ?_)
              refine jx_body (.inr rfl) (fun B w _ => res1 rfl rfl B w) (fun w hs => ⟨(), ?_, hs.sub (by repeat (first | exact .refl | exact .nil | refine .cons (by first | exact .hd | exact .tl .hd | exact .tl (.tl .hd) | exact .tl (.tl (.tl .hd)) | exact .tl (.tl (.tl (.tl .hd))) | exact .tl (.tl (.tl (.tl (.tl .hd)))) | exact .tl (.tl (.tl (.tl (.tl (.tl .hd))))) | exact .tl (.tl (.tl (.tl (.tl (.tl (.tl .hd)))))) | exact .tl (.tl (.tl (.tl (.tl (.tl (.tl (.tl .hd)))))))) ?_ | refine .drop ?_)) (by repeat (first | exact FSub.refl | exact FSub.nil | refine FSub.cons (by first | assumption | (repeat (first | assumption | exact List.Mem.head _ | refine .tail _ ?_))) ?_ | refine FSub.drop ?_))⟩)
              rfl
            · -- t40 False
              intro ht40
              try simp only [decide_eq_true_eq, decide_eq_false_iff_not, beq_iff_eq, bne_iff_ne, beq_eq_false_iff_ne, bne_eq_false_iff_eq, Int.not_lt, Int.not_le, Bool.not_eq_true, ne_eq, Bool.not_eq_eq_eq_not, Bool.not_true, Bool.not_false] at ht40
              refine J.guardYes ?_ ?_
              · exact rfl
              refine r_move rfl ?_
              refine J.guardYes ?_ ?_
              · exact rfl
              refine r_bin rfl rfl b_geq ?_
              refine r_pickF rfl rfl ?_
              refine J.nil ?_
              refine jx_then ?_
              repeat refine jc_seq ?_
              refine jc_cond rfl (fun ht43 => ?_) (fun ht43 => ?_)
              · -- t43 True
                try simp only [decide_eq_true_eq, decide_eq_false_iff_not, beq_iff_eq, bne_iff_ne, beq_eq_false_iff_ne, bne_eq_false_iff_eq, Int.not_lt, Int.not_le, Bool.not_eq_true, ne_eq, Bool.not_eq_eq_eq_not, Bool.not_true, Bool.not_false] at ht43
                repeat refine jc_seq ?_
                refine jc_region ?_
                refine r_assign rfl ?_
                refine J.nil ?_
                refine jx_then ?_
                refine jc_ret ?_
                repeat (first | refine jx_thenRet ?_ | refine jx_blockRet ?_)
                refine jx_body (.inr rfl) (fun B w _ => res1 rfl rfl B w) (fun w hs => ⟨(), ?_, hs.sub (by repeat (first | exact .refl | exact .nil | refine .cons (by first | exact .hd | exact .tl .hd | exact .tl (.tl .hd) | exact .tl (.tl (.tl .hd)) | exact .tl (.tl (.tl (.tl .hd))) | exact .tl (.tl (.tl (.tl (.tl .hd)))) | exact .tl (.tl (.tl (.tl (.tl (.tl .hd))))) | exact .tl (.tl (.tl (.tl (.tl (.tl (.tl .hd)))))) | exact .tl (.tl (.tl (.tl (.tl (.tl (.tl (.tl .hd)))))))) ?_ | refine .drop ?_)) (by repeat (first | exact FSub.refl | exact FSub.nil | refine FSub.cons (by first | assumption | (repeat (first | assumption | exact List.Mem.head _ | refine .tail _ ?_))) ?_ | refine FSub.drop ?_))⟩)
                rfl
              · -- t43 False
                try simp only [decide_eq_true_eq, decide_eq_false_iff_not, beq_iff_eq, bne_iff_ne, beq_eq_false_iff_ne, bne_eq_false_iff_eq, Int.not_lt, Int.not_le, Bool.not_eq_true, ne_eq, Bool.not_eq_eq_eq_not, Bool.not_true, Bool.not_false] at ht43
                refine jc_skip ?_
                refine jx_then ?_
                repeat refine jc_seq ?_
                have hw0 : msgWrong c m = 0 := by omega
                have hin : MsgIn m := msgIn_of hw0 (by omega) (by omega)
                have hpar : msgParse c (msgBytes m) = (m, 0) := parse_bytes hw0 (by omega) (by omega)
                have hsp : msgParse c (bitTurn (msgBytes m) bit) = (zMsg, 7) := turn_found hpar (by omega) (by omega)
                refine jc_region ?_
                first | refine r_loadN Try.isAgg39 Try.sizeOf39 rfl (at_blkAll (by first | exact .hd | exact .tl .hd | exact .tl (.tl .hd) | exact .tl (.tl (.tl .hd)) | exact .tl (.tl (.tl (.tl .hd))) | exact .tl (.tl (.tl (.tl (.tl .hd)))) | exact .tl (.tl (.tl (.tl (.tl (.tl .hd))))) | exact .tl (.tl (.tl (.tl (.tl (.tl (.tl .hd)))))) | exact .tl (.tl (.tl (.tl (.tl (.tl (.tl (.tl .hd))))))))) (by exact rfl) ?_ | refine r_loadN Try.isAgg39 Try.sizeOf39 rfl (at_blkN (sz := 8) (by first | exact .hd | exact .tl .hd | exact .tl (.tl .hd) | exact .tl (.tl (.tl .hd)) | exact .tl (.tl (.tl (.tl .hd))) | exact .tl (.tl (.tl (.tl (.tl .hd)))) | exact .tl (.tl (.tl (.tl (.tl (.tl .hd))))) | exact .tl (.tl (.tl (.tl (.tl (.tl (.tl .hd)))))) | exact .tl (.tl (.tl (.tl (.tl (.tl (.tl (.tl .hd))))))))) (by exact rfl) ?_ | refine r_loadN Try.isAgg39 Try.sizeOf39 rfl (at_Msg (by first | assumption | exact .head _ | (refine .tail _ ?_; first | assumption | exact .head _ | (refine .tail _ ?_; first | assumption | exact .head _ | (refine .tail _ ?_; first | assumption | exact .head _ | (refine .tail _ ?_; first | assumption | exact .head _ | (refine .tail _ ?_; first | assumption | exact .head _ | (refine .tail _ ?_; first | assumption | exact .head _ | (refine .tail _ ?_; first | assumption | exact .head _ | (refine .tail _ ?_; first | assumption | exact .head _ | (refine .tail _ ?_; first | assumption | exact .head _)))))))))) (by assumption)) rfl ?_
                refine r_call Try.call56 rfl (fun w hs => frameBytes_calls hs (m := m) hin) ?_; intro v45
                refine r_move rfl ?_
                refine r_call Try.call52 rfl (fun w hs => frameTurn_calls (b := msgBytes m) (bit := bit) hs (by first | assumption | exact .head _ | (refine .tail _ ?_; first | assumption | exact .head _ | (refine .tail _ ?_; first | assumption | exact .head _ | (refine .tail _ ?_; first | assumption | exact .head _ | (refine .tail _ ?_; first | assumption | exact .head _ | (refine .tail _ ?_; first | assumption | exact .head _ | (refine .tail _ ?_; first | assumption | exact .head _ | (refine .tail _ ?_; first | assumption | exact .head _ | (refine .tail _ ?_; first | assumption | exact .head _ | (refine .tail _ ?_; first | assumption | exact .head _)))))))))) hbit) ?_; intro v47
                refine r_assign rfl ?_
                refine J.nil ?_
                refine jx_then ?_
                repeat refine jc_seq ?_
                refine jc_region ?_
                first | refine r_loadN Try.isAgg37 Try.sizeOf37 rfl (at_blkAll (by first | exact .hd | exact .tl .hd | exact .tl (.tl .hd) | exact .tl (.tl (.tl .hd)) | exact .tl (.tl (.tl (.tl .hd))) | exact .tl (.tl (.tl (.tl (.tl .hd)))) | exact .tl (.tl (.tl (.tl (.tl (.tl .hd))))) | exact .tl (.tl (.tl (.tl (.tl (.tl (.tl .hd)))))) | exact .tl (.tl (.tl (.tl (.tl (.tl (.tl (.tl .hd))))))))) (by exact rfl) ?_ | refine r_loadN Try.isAgg37 Try.sizeOf37 rfl (at_blkN (sz := 2) (by first | exact .hd | exact .tl .hd | exact .tl (.tl .hd) | exact .tl (.tl (.tl .hd)) | exact .tl (.tl (.tl (.tl .hd))) | exact .tl (.tl (.tl (.tl (.tl .hd)))) | exact .tl (.tl (.tl (.tl (.tl (.tl .hd))))) | exact .tl (.tl (.tl (.tl (.tl (.tl (.tl .hd)))))) | exact .tl (.tl (.tl (.tl (.tl (.tl (.tl (.tl .hd))))))))) (by exact rfl) ?_ | refine r_loadN Try.isAgg37 Try.sizeOf37 rfl (at_Config (by first | assumption | exact .head _ | (refine .tail _ ?_; first | assumption | exact .head _ | (refine .tail _ ?_; first | assumption | exact .head _ | (refine .tail _ ?_; first | assumption | exact .head _ | (refine .tail _ ?_; first | assumption | exact .head _ | (refine .tail _ ?_; first | assumption | exact .head _ | (refine .tail _ ?_; first | assumption | exact .head _ | (refine .tail _ ?_; first | assumption | exact .head _ | (refine .tail _ ?_; first | assumption | exact .head _ | (refine .tail _ ?_; first | assumption | exact .head _)))))))))) (by assumption)) rfl ?_
                refine r_move rfl ?_
                refine r_call Try.call54 rfl (fun w hs => frameParse_eq (c := c) (b := bitTurn (msgBytes m) bit) hs (by first | assumption | exact .head _ | (refine .tail _ ?_; first | assumption | exact .head _ | (refine .tail _ ?_; first | assumption | exact .head _ | (refine .tail _ ?_; first | assumption | exact .head _ | (refine .tail _ ?_; first | assumption | exact .head _ | (refine .tail _ ?_; first | assumption | exact .head _ | (refine .tail _ ?_; first | assumption | exact .head _ | (refine .tail _ ?_; first | assumption | exact .head _ | (refine .tail _ ?_; first | assumption | exact .head _ | (refine .tail _ ?_; first | assumption | exact .head _)))))))))) hsp) ?_; intro _
                refine r_move rfl ?_
                refine r_extract rfl rfl ?_
                refine r_extract rfl rfl ?_
                refine r_alloc (cs := zMsg.cells) Try.zeroValue39 rfl ?_; intro b8
                first | refine r_storeAll Try.sizeOf39 rfl rfl rfl (by simp [Value.oneCell', Config.cells, Msg.cells, Line.cells, Op.cells, Done.cells, Step.cells, Answer.cells, Seen.cells, Core.cells, Entry.cells, Chip.cells]) (by first | exact .hd | exact .tl .hd | exact .tl (.tl .hd) | exact .tl (.tl (.tl .hd)) | exact .tl (.tl (.tl (.tl .hd))) | exact .tl (.tl (.tl (.tl (.tl .hd)))) | exact .tl (.tl (.tl (.tl (.tl (.tl .hd))))) | exact .tl (.tl (.tl (.tl (.tl (.tl (.tl .hd)))))) | exact .tl (.tl (.tl (.tl (.tl (.tl (.tl (.tl .hd)))))))) (by exact rfl) ?_ | refine r_storeN Try.sizeOf39 rfl rfl rfl (by simp [Value.oneCell', Config.cells, Msg.cells, Line.cells, Op.cells, Done.cells, Step.cells, Answer.cells, Seen.cells, Core.cells, Entry.cells, Chip.cells]) (by first | exact .hd | exact .tl .hd | exact .tl (.tl .hd) | exact .tl (.tl (.tl .hd)) | exact .tl (.tl (.tl (.tl .hd))) | exact .tl (.tl (.tl (.tl (.tl .hd)))) | exact .tl (.tl (.tl (.tl (.tl (.tl .hd))))) | exact .tl (.tl (.tl (.tl (.tl (.tl (.tl .hd)))))) | exact .tl (.tl (.tl (.tl (.tl (.tl (.tl (.tl .hd)))))))) (by exact rfl) ?_
                refine r_assign rfl ?_
                refine J.nil ?_
                refine jx_then ?_
                repeat refine jc_seq ?_
                refine jc_draw mixed (by kernel_rfl) (by kernel_rfl) (fun _ _ => _) (fun _ => rfl) ?_
                refine dj ?_
                refine d_move (fun _ => rfl) (by first | exact Ind.const _ | exact fun _ _ _ _ _ => rfl | exact Ind.self | exact Ind.gh _ 3 rfl) (fun _ _ _ _ => rfl) ?_
                refine dj ?_
                refine d_bin (fun _ => rfl) (fun _ => rfl) (fun _ => b_eql_T (by omega)) (by first | exact Ind.const _ | exact fun _ _ _ _ _ => rfl | exact Ind.self | exact Ind.gh _ 3 rfl) (fun _ _ _ _ => rfl) ?_
                refine dj ?_
                refine d_move (fun _ => rfl) (by first | exact Ind.const _ | exact fun _ _ _ _ _ => rfl | exact Ind.self | exact Ind.gh _ 3 rfl) (fun _ _ _ _ => rfl) ?_
                refine dj ?_
                refine d_guardYes ?_ ?_
                · exact fun _ => rfl
                refine d_move (fun _ => rfl) (by first | exact Ind.const _ | exact fun _ _ _ _ _ => rfl | exact Ind.self | exact Ind.gh _ 3 rfl) (fun _ _ _ _ => rfl) ?_
                refine dj ?_
                refine d_guardYes ?_ ?_
                · exact fun _ => rfl
                refine d_move (fun _ => rfl) (by first | exact Ind.const _ | exact fun _ _ _ _ _ => rfl | exact Ind.self | exact Ind.gh _ 3 rfl) (fun _ _ _ _ => rfl) ?_
                refine dj ?_
                refine d_guardYes ?_ ?_
                · exact fun _ => rfl
                refine d_call (γ := Value) (val := fun v => v) (F := fun v => [sl v (bitTurn (bitTurn (msgBytes m) bit) bit)]) (C := fun _ => []) Try.call52 (fun _ => rfl) (fun _ _ _ _ => rfl) (fun ρ L R w hd hs => frameTurn_calls hs (b := bitTurn (msgBytes m) bit) (bit := bit) (by first | exact hd.base (by first | assumption | exact .head _ | (refine .tail _ ?_; first | assumption | exact .head _ | (refine .tail _ ?_; first | assumption | exact .head _ | (refine .tail _ ?_; first | assumption | exact .head _ | (refine .tail _ ?_; first | assumption | exact .head _ | (refine .tail _ ?_; first | assumption | exact .head _ | (refine .tail _ ?_; first | assumption | exact .head _ | (refine .tail _ ?_; first | assumption | exact .head _ | (refine .tail _ ?_; first | assumption | exact .head _ | (refine .tail _ ?_; first | assumption | exact .head _))))))))))) hbit) ?_
                refine dj ?_
                refine d_guardYes ?_ ?_
                · exact fun _ => rfl
                refine d_convStr Try.underlying40 Try.underlying5 Try.underlying9 (fun _ => rfl) (fun ρ R hd => (by first | exact hd.base (by first | assumption | exact .head _ | (refine .tail _ ?_; first | assumption | exact .head _ | (refine .tail _ ?_; first | assumption | exact .head _ | (refine .tail _ ?_; first | assumption | exact .head _ | (refine .tail _ ?_; first | assumption | exact .head _ | (refine .tail _ ?_; first | assumption | exact .head _ | (refine .tail _ ?_; first | assumption | exact .head _ | (refine .tail _ ?_; first | assumption | exact .head _ | (refine .tail _ ?_; first | assumption | exact .head _ | (refine .tail _ ?_; first | assumption | exact .head _)))))))))) | exact hd.dep (it := ⟨5, _, _, _, _⟩) (by repeat (first | exact List.Mem.head _ | refine List.Mem.tail _ ?_)) ⟨8, rfl⟩ (by first | exact List.Mem.head _ | exact .tail _ (.head _) | exact .tail _ (.tail _ (.head _))))) (fun _ _ _ _ => rfl) ?_
                refine dj ?_
                refine d_guardYes ?_ ?_
                · exact fun _ => rfl
                first | refine d_loadN Try.isAgg39 Try.sizeOf39 (fun _ => rfl) (fun _ _ => at_blkAll (by first | exact .hd | exact .tl .hd | exact .tl (.tl .hd) | exact .tl (.tl (.tl .hd)) | exact .tl (.tl (.tl (.tl .hd))) | exact .tl (.tl (.tl (.tl (.tl .hd)))) | exact .tl (.tl (.tl (.tl (.tl (.tl .hd))))) | exact .tl (.tl (.tl (.tl (.tl (.tl (.tl .hd)))))) | exact .tl (.tl (.tl (.tl (.tl (.tl (.tl (.tl .hd))))))))) (by exact rfl) (fun _ _ _ _ => rfl) ?_ | refine d_loadN Try.isAgg39 Try.sizeOf39 (fun _ => rfl) (fun _ _ => at_blkN (sz := 8) (by first | exact .hd | exact .tl .hd | exact .tl (.tl .hd) | exact .tl (.tl (.tl .hd)) | exact .tl (.tl (.tl (.tl .hd))) | exact .tl (.tl (.tl (.tl (.tl .hd)))) | exact .tl (.tl (.tl (.tl (.tl (.tl .hd))))) | exact .tl (.tl (.tl (.tl (.tl (.tl (.tl .hd)))))) | exact .tl (.tl (.tl (.tl (.tl (.tl (.tl (.tl .hd))))))))) (by exact rfl) (fun _ _ _ _ => rfl) ?_
                refine dj ?_
                refine d_guardYes ?_ ?_
                · exact fun _ => rfl
                refine d_call (γ := Value) (val := fun v => v) (F := fun v => [sl v (msgBytes m)]) (C := fun _ => []) Try.call56 (fun _ => rfl) (fun _ _ _ _ => rfl) (fun ρ L R w hd hs => frameBytes_calls hs (m := m) hin) ?_
                refine dj ?_
                refine d_guardYes ?_ ?_
                · exact fun _ => rfl
                refine d_convStr Try.underlying40 Try.underlying5 Try.underlying9 (fun _ => rfl) (fun ρ R hd => (by first | exact hd.base (by first | assumption | exact .head _ | (refine .tail _ ?_; first | assumption | exact .head _ | (refine .tail _ ?_; first | assumption | exact .head _ | (refine .tail _ ?_; first | assumption | exact .head _ | (refine .tail _ ?_; first | assumption | exact .head _ | (refine .tail _ ?_; first | assumption | exact .head _ | (refine .tail _ ?_; first | assumption | exact .head _ | (refine .tail _ ?_; first | assumption | exact .head _ | (refine .tail _ ?_; first | assumption | exact .head _ | (refine .tail _ ?_; first | assumption | exact .head _)))))))))) | exact hd.dep (it := ⟨5, _, _, _, _⟩) (by repeat (first | exact List.Mem.head _ | refine List.Mem.tail _ ?_)) ⟨8, rfl⟩ (by first | exact List.Mem.head _ | exact .tail _ (.head _) | exact .tail _ (.tail _ (.head _))) | exact hd.dep (it := ⟨8, _, _, _, _⟩) (by repeat (first | exact List.Mem.head _ | refine List.Mem.tail _ ?_)) ⟨8, rfl⟩ (by first | exact List.Mem.head _ | exact .tail _ (.head _) | exact .tail _ (.tail _ (.head _))))) (fun _ _ _ _ => rfl) ?_
                refine dj ?_
                refine d_guardYes ?_ ?_
                · exact fun _ => rfl
                first | refine d_pc (fun _ _ => p_str rfl rfl (b_streq_T (turn_twice _ _))) rfl (fun _ _ _ _ => rfl) ?_ | refine d_p (fun _ _ => p_str rfl rfl (b_streq_T (turn_twice _ _))) rfl (by first | exact Ind.const _ | exact fun _ _ _ _ _ => rfl | exact Ind.self | exact Ind.gh _ 3 rfl) (fun _ _ _ _ => rfl) ?_
                refine dj ?_
                refine d_pickT (fun _ => rfl) (fun _ => rfl) (by first | exact Ind.const _ | exact fun _ _ _ _ _ => rfl | exact Ind.self | exact Ind.gh _ 3 rfl) (fun _ _ _ _ => rfl) ?_
                refine dj ?_
                refine d_assign (fun _ => rfl) (by first | exact Ind.const _ | exact fun _ _ _ _ _ => rfl | exact Ind.self | exact Ind.gh _ 3 rfl) (fun _ _ _ _ => rfl) ?_
                refine d_nilC ?_; intro ρ; simp only [chunks, facts, alOf, List.append_nil, List.nil_append, List.cons_append]
                refine jx_then ?_
                refine jc_ret ?_
                repeat (first | refine jx_thenRet ?_ | refine jx_blockRet ?_)
                refine jx_body (.inr rfl) (fun B w _ => res1 rfl rfl B w) (fun w hs => ⟨(), ?_, hs.sub (by repeat (first | exact .refl | exact .nil | refine .cons (by first | exact .hd | exact .tl .hd | exact .tl (.tl .hd) | exact .tl (.tl (.tl .hd)) | exact .tl (.tl (.tl (.tl .hd))) | exact .tl (.tl (.tl (.tl (.tl .hd)))) | exact .tl (.tl (.tl (.tl (.tl (.tl .hd))))) | exact .tl (.tl (.tl (.tl (.tl (.tl (.tl .hd)))))) | exact .tl (.tl (.tl (.tl (.tl (.tl (.tl (.tl .hd)))))))) ?_ | refine .drop ?_)) (by repeat (first | exact FSub.refl | exact FSub.nil | refine FSub.cons (by first | assumption | (repeat (first | assumption | exact List.Mem.head _ | refine .tail _ ?_))) ?_ | refine FSub.drop ?_))⟩)
                rfl
end Go.Proofs.Ytfdkkncmpjbkbaa
