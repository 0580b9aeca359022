/- This file proves what the twin of flat.Do in shref1 computes. No conditions. -/
import Derived.Test.YtfdkkncmpjbkbaaFacts
import Derived.Test.YtfdkkncmpjbkbaaFlat
import Derived.Test.YtfdkkncmpjbkbaaFlat3
set_option linter.unusedVariables false
set_option linter.unusedSimpArgs false
set_option maxHeartbeats 1000000
namespace Go.Proofs.Ytfdkkncmpjbkbaa
open Go
theorem refDo_calls {L : List Chunk} {R : List Fact} {w : World} {v1 : Value} {m : List Int} {o : Op} (hs : St L R w) (h1 : sl v1 m ∈ R) : Calls Try.prog 42 [v1, .agg o.cells.toArray].toArray w (Post (fun v : Value => .tuple #[v, vi (flatDo m o).2.1, vi (flatDo m o).2.2]) (fun _ => L) (fun v => sl v (flatDo m o).1 :: R)) := by
  have hlen := sl_len h1 hs
  have hin0 : ∀ (i : Nat) (x : Int), m[i]? = some x → In64 x := fun i x hx => by obtain ⟨cs, j, hr⟩ := sl_rd h1 hx hs; exact hr.2
  refine calls_args Try.func42 rfl Try.ntmps42 rfl hs ?_
  clear hs
  repeat refine jc_seq ?_
  refine jc_region ?_
  refine r_box rfl rfl ?_; intro b3
  refine r_assign rfl ?_
  refine r_assign rfl ?_
  refine r_assign rfl ?_
  refine J.nil ?_
  refine jx_then ?_
  repeat refine jc_seq ?_
  refine jc_region ?_
  first | refine r_fieldAddr fo_24_0 rfl ?_ | refine r_fieldAddrE fo_24_0 rfl (by first | exact len_row (by first | exact .hd | exact .tl .hd | exact .tl (.tl .hd) | exact .tl (.tl (.tl .hd)) | exact .tl (.tl (.tl (.tl .hd))) | exact .tl (.tl (.tl (.tl (.tl .hd)))) | exact .tl (.tl (.tl (.tl (.tl (.tl .hd))))) | exact .tl (.tl (.tl (.tl (.tl (.tl (.tl .hd)))))) | exact .tl (.tl (.tl (.tl (.tl (.tl (.tl (.tl .hd)))))))) | exact len_sl (by first | assumption | (repeat (first | assumption | exact List.Mem.head _ | refine .tail _ ?_)))) (by first | assumption | omega | simp) ?_
  first
    | (refine r_load1 Try.isAgg3 rfl (at_blk1 (by first | exact .hd | exact .tl .hd | exact .tl (.tl .hd) | exact .tl (.tl (.tl .hd)) | exact .tl (.tl (.tl (.tl .hd))) | exact .tl (.tl (.tl (.tl (.tl .hd)))) | exact .tl (.tl (.tl (.tl (.tl (.tl .hd))))) | exact .tl (.tl (.tl (.tl (.tl (.tl (.tl .hd)))))) | exact .tl (.tl (.tl (.tl (.tl (.tl (.tl (.tl .hd)))))))) (by exact rfl)) ?_)
    | (refine r_load1 Try.isAgg3 rfl (at_int (by first | assumption | (repeat (first | assumption | exact List.Mem.head _ | refine .tail _ ?_))) (by assumption)) ?_)
  refine r_bin rfl rfl b_lss ?_
  refine r_move rfl ?_
  refine j_cases (t := 14) (b := ?b1) ?e1 ?_ ?_
  case e1 => exact rfl
  · -- t14 True
    intro ht14
    try simp only [decide_eq_true_eq, decide_eq_false_iff_not, beq_iff_eq, bne_iff_ne, beq_eq_false_iff_ne, bne_eq_false_iff_eq, Int.not_lt, Int.not_le, Bool.not_eq_true, ne_eq] at ht14
    refine J.guardNo ?_ ?_
    · exact rfl
    refine J.guardNo ?_ ?_
    · exact rfl
    refine J.guardNo ?_ ?_
    · exact rfl
    refine r_pickT rfl rfl ?_
    refine J.nil ?_
    refine jx_then ?_
    repeat refine jc_seq ?_
    refine jc_condT rfl ?_
    repeat refine jc_seq ?_
    refine jc_region ?_
    refine r_assign rfl ?_
    refine r_assign rfl ?_
    refine r_assign rfl ?_
    refine J.nil ?_
    refine jx_then ?_
    refine jc_ret ?_
    repeat (first | refine jx_thenRet ?_ | refine jx_blockRet ?_)
    have hk : o.kind < 1 ∨ 4 < o.kind := by omega
    refine jx_body (.inr rfl) (fun B w hs => res3 rfl rfl rfl rfl B w) (fun w hs => ?_)
    refine ⟨.slice none 0 0, ?_, ?_⟩
    · rw [flatDo_kind hk]
    · rw [flatDo_kind hk]; exact (St.shut (hs.rowNil 0 Int)).sub (by repeat (first | exact .refl | exact .nil | refine .cons (by first | exact .hd | exact .tl .hd | exact .tl (.tl .hd) | exact .tl (.tl (.tl .hd)) | exact .tl (.tl (.tl (.tl .hd))) | exact .tl (.tl (.tl (.tl (.tl .hd)))) | exact .tl (.tl (.tl (.tl (.tl (.tl .hd))))) | exact .tl (.tl (.tl (.tl (.tl (.tl (.tl .hd)))))) | exact .tl (.tl (.tl (.tl (.tl (.tl (.tl (.tl .hd)))))))) ?_ | refine .drop ?_)) (by repeat (first | exact FSub.refl | exact FSub.nil | refine FSub.cons (by first | assumption | (repeat (first | assumption | exact List.Mem.head _ | refine .tail _ ?_))) ?_ | refine FSub.drop ?_))
  · -- t14 False
    intro ht14
    try simp only [decide_eq_true_eq, decide_eq_false_iff_not, beq_iff_eq, bne_iff_ne, beq_eq_false_iff_ne, bne_eq_false_iff_eq, Int.not_lt, Int.not_le, Bool.not_eq_true, ne_eq] at ht14
    refine J.guardYes ?_ ?_
    · exact rfl
    first | refine r_fieldAddr fo_24_0 rfl ?_ | refine r_fieldAddrE fo_24_0 rfl (by first | exact len_row (by first | exact .hd | exact .tl .hd | exact .tl (.tl .hd) | exact .tl (.tl (.tl .hd)) | exact .tl (.tl (.tl (.tl .hd))) | exact .tl (.tl (.tl (.tl (.tl .hd)))) | exact .tl (.tl (.tl (.tl (.tl (.tl .hd))))) | exact .tl (.tl (.tl (.tl (.tl (.tl (.tl .hd)))))) | exact .tl (.tl (.tl (.tl (.tl (.tl (.tl (.tl .hd)))))))) | exact len_sl (by first | assumption | (repeat (first | assumption | exact List.Mem.head _ | refine .tail _ ?_)))) (by first | assumption | omega | simp) ?_
    refine J.guardYes ?_ ?_
    · exact rfl
    first
      | (refine r_load1 Try.isAgg3 rfl (at_blk1 (by first | exact .hd | exact .tl .hd | exact .tl (.tl .hd) | exact .tl (.tl (.tl .hd)) | exact .tl (.tl (.tl (.tl .hd))) | exact .tl (.tl (.tl (.tl (.tl .hd)))) | exact .tl (.tl (.tl (.tl (.tl (.tl .hd))))) | exact .tl (.tl (.tl (.tl (.tl (.tl (.tl .hd)))))) | exact .tl (.tl (.tl (.tl (.tl (.tl (.tl (.tl .hd)))))))) (by exact rfl)) ?_)
      | (refine r_load1 Try.isAgg3 rfl (at_int (by first | assumption | (repeat (first | assumption | exact List.Mem.head _ | refine .tail _ ?_))) (by assumption)) ?_)
    refine J.guardYes ?_ ?_
    · exact rfl
    refine r_bin rfl rfl b_gtr ?_
    refine r_pickF rfl rfl ?_
    refine J.nil ?_
    refine jx_then ?_
    repeat refine jc_seq ?_
    refine jc_cond rfl (fun ht18 => ?_) (fun ht18 => ?_)
    · -- t18 True
      try simp only [decide_eq_true_eq, decide_eq_false_iff_not, beq_iff_eq, bne_iff_ne, beq_eq_false_iff_ne, bne_eq_false_iff_eq, Int.not_lt, Int.not_le, Bool.not_eq_true, ne_eq] at ht18
      repeat refine jc_seq ?_
      refine jc_region ?_
      refine r_assign rfl ?_
      refine r_assign rfl ?_
      refine r_assign rfl ?_
      refine J.nil ?_
      refine jx_then ?_
      refine jc_ret ?_
      repeat (first | refine jx_thenRet ?_ | refine jx_blockRet ?_)
      have hk : o.kind < 1 ∨ 4 < o.kind := by omega
      refine jx_body (.inr rfl) (fun B w hs => res3 rfl rfl rfl rfl B w) (fun w hs => ?_)
      refine ⟨.slice none 0 0, ?_, ?_⟩
      · rw [flatDo_kind hk]
      · rw [flatDo_kind hk]; exact (St.shut (hs.rowNil 0 Int)).sub (by repeat (first | exact .refl | exact .nil | refine .cons (by first | exact .hd | exact .tl .hd | exact .tl (.tl .hd) | exact .tl (.tl (.tl .hd)) | exact .tl (.tl (.tl (.tl .hd))) | exact .tl (.tl (.tl (.tl (.tl .hd)))) | exact .tl (.tl (.tl (.tl (.tl (.tl .hd))))) | exact .tl (.tl (.tl (.tl (.tl (.tl (.tl .hd)))))) | exact .tl (.tl (.tl (.tl (.tl (.tl (.tl (.tl .hd)))))))) ?_ | refine .drop ?_)) (by repeat (first | exact FSub.refl | exact FSub.nil | refine FSub.cons (by first | assumption | (repeat (first | assumption | exact List.Mem.head _ | refine .tail _ ?_))) ?_ | refine FSub.drop ?_))
    · -- t18 False
      try simp only [decide_eq_true_eq, decide_eq_false_iff_not, beq_iff_eq, bne_iff_ne, beq_eq_false_iff_ne, bne_eq_false_iff_eq, Int.not_lt, Int.not_le, Bool.not_eq_true, ne_eq] at ht18
      refine jc_skip ?_
      refine jx_then ?_
      repeat refine jc_seq ?_
      refine jc_region ?_
      first | refine r_fieldAddr fo_24_1 rfl ?_ | refine r_fieldAddrE fo_24_1 rfl (by first | exact len_row (by first | exact .hd | exact .tl .hd | exact .tl (.tl .hd) | exact .tl (.tl (.tl .hd)) | exact .tl (.tl (.tl (.tl .hd))) | exact .tl (.tl (.tl (.tl (.tl .hd)))) | exact .tl (.tl (.tl (.tl (.tl (.tl .hd))))) | exact .tl (.tl (.tl (.tl (.tl (.tl (.tl .hd)))))) | exact .tl (.tl (.tl (.tl (.tl (.tl (.tl (.tl .hd)))))))) | exact len_sl (by first | assumption | (repeat (first | assumption | exact List.Mem.head _ | refine .tail _ ?_)))) (by first | assumption | omega | simp) ?_
      first
        | (refine r_load1 Try.isAgg3 rfl (at_blk1 (by first | exact .hd | exact .tl .hd | exact .tl (.tl .hd) | exact .tl (.tl (.tl .hd)) | exact .tl (.tl (.tl (.tl .hd))) | exact .tl (.tl (.tl (.tl (.tl .hd)))) | exact .tl (.tl (.tl (.tl (.tl (.tl .hd))))) | exact .tl (.tl (.tl (.tl (.tl (.tl (.tl .hd)))))) | exact .tl (.tl (.tl (.tl (.tl (.tl (.tl (.tl .hd)))))))) (by exact rfl)) ?_)
        | (refine r_load1 Try.isAgg3 rfl (at_int (by first | assumption | (repeat (first | assumption | exact List.Mem.head _ | refine .tail _ ?_))) (by assumption)) ?_)
      refine r_bin rfl rfl b_lss ?_
      refine r_move rfl ?_
      refine j_cases (t := 22) (b := ?b2) ?e2 ?_ ?_
      case e2 => exact rfl
      · -- t22 True
        intro ht22
        try simp only [decide_eq_true_eq, decide_eq_false_iff_not, beq_iff_eq, bne_iff_ne, beq_eq_false_iff_ne, bne_eq_false_iff_eq, Int.not_lt, Int.not_le, Bool.not_eq_true, ne_eq] at ht22
        refine J.guardNo ?_ ?_
        · exact rfl
        refine J.guardNo ?_ ?_
        · exact rfl
        refine J.guardNo ?_ ?_
        · exact rfl
        refine J.guardNo ?_ ?_
        · exact rfl
        refine J.guardNo ?_ ?_
        · exact rfl
        refine r_pickT rfl rfl ?_
        refine r_move rfl ?_
        refine J.guardNo ?_ ?_
        · exact rfl
        refine J.guardNo ?_ ?_
        · exact rfl
        refine J.guardNo ?_ ?_
        · exact rfl
        refine r_pickT rfl rfl ?_
        refine r_move rfl ?_
        refine J.guardNo ?_ ?_
        · exact rfl
        refine J.guardNo ?_ ?_
        · exact rfl
        refine J.guardNo ?_ ?_
        · exact rfl
        refine r_pickT rfl rfl ?_
        refine J.nil ?_
        refine jx_then ?_
        repeat refine jc_seq ?_
        refine jc_condT rfl ?_
        repeat refine jc_seq ?_
        refine jc_region ?_
        refine r_assign rfl ?_
        refine r_assign rfl ?_
        refine r_assign rfl ?_
        refine J.nil ?_
        refine jx_then ?_
        refine jc_ret ?_
        repeat (first | refine jx_thenRet ?_ | refine jx_blockRet ?_)
        have hk : ¬ (o.kind < 1 ∨ 4 < o.kind) := by omega
        have hr : o.line < 0 ∨ (m.length : Int) ≤ o.line ∨ o.value < 0 ∨ 255 < o.value := by omega
        refine jx_body (.inr rfl) (fun B w hs => res3 rfl rfl rfl rfl B w) (fun w hs => ?_)
        refine ⟨.slice none 0 0, ?_, ?_⟩
        · rw [flatDo_range hk hr]
        · rw [flatDo_range hk hr]; exact (St.shut (hs.rowNil 0 Int)).sub (by repeat (first | exact .refl | exact .nil | refine .cons (by first | exact .hd | exact .tl .hd | exact .tl (.tl .hd) | exact .tl (.tl (.tl .hd)) | exact .tl (.tl (.tl (.tl .hd))) | exact .tl (.tl (.tl (.tl (.tl .hd)))) | exact .tl (.tl (.tl (.tl (.tl (.tl .hd))))) | exact .tl (.tl (.tl (.tl (.tl (.tl (.tl .hd)))))) | exact .tl (.tl (.tl (.tl (.tl (.tl (.tl (.tl .hd)))))))) ?_ | refine .drop ?_)) (by repeat (first | exact FSub.refl | exact FSub.nil | refine FSub.cons (by first | assumption | (repeat (first | assumption | exact List.Mem.head _ | refine .tail _ ?_))) ?_ | refine FSub.drop ?_))
      · -- t22 False
        intro ht22
        try simp only [decide_eq_true_eq, decide_eq_false_iff_not, beq_iff_eq, bne_iff_ne, beq_eq_false_iff_ne, bne_eq_false_iff_eq, Int.not_lt, Int.not_le, Bool.not_eq_true, ne_eq] at ht22
        refine J.guardYes ?_ ?_
        · exact rfl
        first | refine r_fieldAddr fo_24_1 rfl ?_ | refine r_fieldAddrE fo_24_1 rfl (by first | exact len_row (by first | exact .hd | exact .tl .hd | exact .tl (.tl .hd) | exact .tl (.tl (.tl .hd)) | exact .tl (.tl (.tl (.tl .hd))) | exact .tl (.tl (.tl (.tl (.tl .hd)))) | exact .tl (.tl (.tl (.tl (.tl (.tl .hd))))) | exact .tl (.tl (.tl (.tl (.tl (.tl (.tl .hd)))))) | exact .tl (.tl (.tl (.tl (.tl (.tl (.tl (.tl .hd)))))))) | exact len_sl (by first | assumption | (repeat (first | assumption | exact List.Mem.head _ | refine .tail _ ?_)))) (by first | assumption | omega | simp) ?_
        refine J.guardYes ?_ ?_
        · exact rfl
        first
          | (refine r_load1 Try.isAgg3 rfl (at_blk1 (by first | exact .hd | exact .tl .hd | exact .tl (.tl .hd) | exact .tl (.tl (.tl .hd)) | exact .tl (.tl (.tl (.tl .hd))) | exact .tl (.tl (.tl (.tl (.tl .hd)))) | exact .tl (.tl (.tl (.tl (.tl (.tl .hd))))) | exact .tl (.tl (.tl (.tl (.tl (.tl (.tl .hd)))))) | exact .tl (.tl (.tl (.tl (.tl (.tl (.tl (.tl .hd)))))))) (by exact rfl)) ?_)
          | (refine r_load1 Try.isAgg3 rfl (at_int (by first | assumption | (repeat (first | assumption | exact List.Mem.head _ | refine .tail _ ?_))) (by assumption)) ?_)
        refine J.guardYes ?_ ?_
        · exact rfl
        refine r_move rfl ?_
        refine J.guardYes ?_ ?_
        · exact rfl
        refine r_len Try.underlying22 rfl (by first | exact len_row (by first | exact .hd | exact .tl .hd | exact .tl (.tl .hd) | exact .tl (.tl (.tl .hd)) | exact .tl (.tl (.tl (.tl .hd))) | exact .tl (.tl (.tl (.tl (.tl .hd)))) | exact .tl (.tl (.tl (.tl (.tl (.tl .hd))))) | exact .tl (.tl (.tl (.tl (.tl (.tl (.tl .hd)))))) | exact .tl (.tl (.tl (.tl (.tl (.tl (.tl (.tl .hd)))))))) | exact len_sl (by first | assumption | (repeat (first | assumption | exact List.Mem.head _ | refine .tail _ ?_)))) ?_
        refine J.guardYes ?_ ?_
        · exact rfl
        refine r_bin rfl rfl b_geq ?_
        refine r_pickF rfl rfl ?_
        refine r_move rfl ?_
        refine j_cases (t := 29) (b := ?b3) ?e3 ?_ ?_
        case e3 => exact rfl
        · -- t29 True
          intro ht29
          try simp only [decide_eq_true_eq, decide_eq_false_iff_not, beq_iff_eq, bne_iff_ne, beq_eq_false_iff_ne, bne_eq_false_iff_eq, Int.not_lt, Int.not_le, Bool.not_eq_true, ne_eq] at ht29
          refine J.guardNo ?_ ?_
          · exact rfl
          refine J.guardNo ?_ ?_
          · exact rfl
          refine J.guardNo ?_ ?_
          · exact rfl
          refine r_pickT rfl rfl ?_
          refine r_move rfl ?_
          refine J.guardNo ?_ ?_
          · exact rfl
          refine J.guardNo ?_ ?_
          · exact rfl
          refine J.guardNo ?_ ?_
          · exact rfl
          refine r_pickT rfl rfl ?_
          refine J.nil ?_
          refine jx_then ?_
          repeat refine jc_seq ?_
          refine jc_condT rfl ?_
          repeat refine jc_seq ?_
          refine jc_region ?_
          refine r_assign rfl ?_
          refine r_assign rfl ?_
          refine r_assign rfl ?_
          refine J.nil ?_
          refine jx_then ?_
          refine jc_ret ?_
          repeat (first | refine jx_thenRet ?_ | refine jx_blockRet ?_)
          have hk : ¬ (o.kind < 1 ∨ 4 < o.kind) := by omega
          have hr : o.line < 0 ∨ (m.length : Int) ≤ o.line ∨ o.value < 0 ∨ 255 < o.value := by omega
          refine jx_body (.inr rfl) (fun B w hs => res3 rfl rfl rfl rfl B w) (fun w hs => ?_)
          refine ⟨.slice none 0 0, ?_, ?_⟩
          · rw [flatDo_range hk hr]
          · rw [flatDo_range hk hr]; exact (St.shut (hs.rowNil 0 Int)).sub (by repeat (first | exact .refl | exact .nil | refine .cons (by first | exact .hd | exact .tl .hd | exact .tl (.tl .hd) | exact .tl (.tl (.tl .hd)) | exact .tl (.tl (.tl (.tl .hd))) | exact .tl (.tl (.tl (.tl (.tl .hd)))) | exact .tl (.tl (.tl (.tl (.tl (.tl .hd))))) | exact .tl (.tl (.tl (.tl (.tl (.tl (.tl .hd)))))) | exact .tl (.tl (.tl (.tl (.tl (.tl (.tl (.tl .hd)))))))) ?_ | refine .drop ?_)) (by repeat (first | exact FSub.refl | exact FSub.nil | refine FSub.cons (by first | assumption | (repeat (first | assumption | exact List.Mem.head _ | refine .tail _ ?_))) ?_ | refine FSub.drop ?_))
        · -- t29 False
          intro ht29
          try simp only [decide_eq_true_eq, decide_eq_false_iff_not, beq_iff_eq, bne_iff_ne, beq_eq_false_iff_ne, bne_eq_false_iff_eq, Int.not_lt, Int.not_le, Bool.not_eq_true, ne_eq] at ht29
          refine J.guardYes ?_ ?_
          · exact rfl
          first | refine r_fieldAddr fo_24_2 rfl ?_ | refine r_fieldAddrE fo_24_2 rfl (by first | exact len_row (by first | exact .hd | exact .tl .hd | exact .tl (.tl .hd) | exact .tl (.tl (.tl .hd)) | exact .tl (.tl (.tl (.tl .hd))) | exact .tl (.tl (.tl (.tl (.tl .hd)))) | exact .tl (.tl (.tl (.tl (.tl (.tl .hd))))) | exact .tl (.tl (.tl (.tl (.tl (.tl (.tl .hd)))))) | exact .tl (.tl (.tl (.tl (.tl (.tl (.tl (.tl .hd)))))))) | exact len_sl (by first | assumption | (repeat (first | assumption | exact List.Mem.head _ | refine .tail _ ?_)))) (by first | assumption | omega | simp) ?_
          refine J.guardYes ?_ ?_
          · exact rfl
          first
            | (refine r_load1 Try.isAgg3 rfl (at_blk1 (by first | exact .hd | exact .tl .hd | exact .tl (.tl .hd) | exact .tl (.tl (.tl .hd)) | exact .tl (.tl (.tl (.tl .hd))) | exact .tl (.tl (.tl (.tl (.tl .hd)))) | exact .tl (.tl (.tl (.tl (.tl (.tl .hd))))) | exact .tl (.tl (.tl (.tl (.tl (.tl (.tl .hd)))))) | exact .tl (.tl (.tl (.tl (.tl (.tl (.tl (.tl .hd)))))))) (by exact rfl)) ?_)
            | (refine r_load1 Try.isAgg3 rfl (at_int (by first | assumption | (repeat (first | assumption | exact List.Mem.head _ | refine .tail _ ?_))) (by assumption)) ?_)
          refine J.guardYes ?_ ?_
          · exact rfl
          refine r_bin rfl rfl b_lss ?_
          refine r_pickF rfl rfl ?_
          refine r_move rfl ?_
          refine j_cases (t := 34) (b := ?b4) ?e4 ?_ ?_
          case e4 => exact rfl
          · -- t34 True
            intro ht34
            try simp only [decide_eq_true_eq, decide_eq_false_iff_not, beq_iff_eq, bne_iff_ne, beq_eq_false_iff_ne, bne_eq_false_iff_eq, Int.not_lt, Int.not_le, Bool.not_eq_true, ne_eq] at ht34
            refine J.guardNo ?_ ?_
            · exact rfl
            refine J.guardNo ?_ ?_
            · exact rfl
            refine J.guardNo ?_ ?_
            · exact rfl
            refine r_pickT rfl rfl ?_
            refine J.nil ?_
            refine jx_then ?_
            repeat refine jc_seq ?_
            refine jc_condT rfl ?_
            repeat refine jc_seq ?_
            refine jc_region ?_
            refine r_assign rfl ?_
            refine r_assign rfl ?_
            refine r_assign rfl ?_
            refine J.nil ?_
            refine jx_then ?_
            refine jc_ret ?_
            repeat (first | refine jx_thenRet ?_ | refine jx_blockRet ?_)
            have hk : ¬ (o.kind < 1 ∨ 4 < o.kind) := by omega
            have hr : o.line < 0 ∨ (m.length : Int) ≤ o.line ∨ o.value < 0 ∨ 255 < o.value := by omega
            refine jx_body (.inr rfl) (fun B w hs => res3 rfl rfl rfl rfl B w) (fun w hs => ?_)
            refine ⟨.slice none 0 0, ?_, ?_⟩
            · rw [flatDo_range hk hr]
            · rw [flatDo_range hk hr]; exact (St.shut (hs.rowNil 0 Int)).sub (by repeat (first | exact .refl | exact .nil | refine .cons (by first | exact .hd | exact .tl .hd | exact .tl (.tl .hd) | exact .tl (.tl (.tl .hd)) | exact .tl (.tl (.tl (.tl .hd))) | exact .tl (.tl (.tl (.tl (.tl .hd)))) | exact .tl (.tl (.tl (.tl (.tl (.tl .hd))))) | exact .tl (.tl (.tl (.tl (.tl (.tl (.tl .hd)))))) | exact .tl (.tl (.tl (.tl (.tl (.tl (.tl (.tl .hd)))))))) ?_ | refine .drop ?_)) (by repeat (first | exact FSub.refl | exact FSub.nil | refine FSub.cons (by first | assumption | (repeat (first | assumption | exact List.Mem.head _ | refine .tail _ ?_))) ?_ | refine FSub.drop ?_))
          · -- t34 False
            intro ht34
            try simp only [decide_eq_true_eq, decide_eq_false_iff_not, beq_iff_eq, bne_iff_ne, beq_eq_false_iff_ne, bne_eq_false_iff_eq, Int.not_lt, Int.not_le, Bool.not_eq_true, ne_eq] at ht34
            refine J.guardYes ?_ ?_
            · exact rfl
            first | refine r_fieldAddr fo_24_2 rfl ?_ | refine r_fieldAddrE fo_24_2 rfl (by first | exact len_row (by first | exact .hd | exact .tl .hd | exact .tl (.tl .hd) | exact .tl (.tl (.tl .hd)) | exact .tl (.tl (.tl (.tl .hd))) | exact .tl (.tl (.tl (.tl (.tl .hd)))) | exact .tl (.tl (.tl (.tl (.tl (.tl .hd))))) | exact .tl (.tl (.tl (.tl (.tl (.tl (.tl .hd)))))) | exact .tl (.tl (.tl (.tl (.tl (.tl (.tl (.tl .hd)))))))) | exact len_sl (by first | assumption | (repeat (first | assumption | exact List.Mem.head _ | refine .tail _ ?_)))) (by first | assumption | omega | simp) ?_
            refine J.guardYes ?_ ?_
            · exact rfl
            first
              | (refine r_load1 Try.isAgg3 rfl (at_blk1 (by first | exact .hd | exact .tl .hd | exact .tl (.tl .hd) | exact .tl (.tl (.tl .hd)) | exact .tl (.tl (.tl (.tl .hd))) | exact .tl (.tl (.tl (.tl (.tl .hd)))) | exact .tl (.tl (.tl (.tl (.tl (.tl .hd))))) | exact .tl (.tl (.tl (.tl (.tl (.tl (.tl .hd)))))) | exact .tl (.tl (.tl (.tl (.tl (.tl (.tl (.tl .hd)))))))) (by exact rfl)) ?_)
              | (refine r_load1 Try.isAgg3 rfl (at_int (by first | assumption | (repeat (first | assumption | exact List.Mem.head _ | refine .tail _ ?_))) (by assumption)) ?_)
            refine J.guardYes ?_ ?_
            · exact rfl
            refine r_bin rfl rfl b_gtr ?_
            refine r_pickF rfl rfl ?_
            refine J.nil ?_
            refine jx_then ?_
            repeat refine jc_seq ?_
            refine jc_cond rfl (fun ht38 => ?_) (fun ht38 => ?_)
            · -- t38 True
              try simp only [decide_eq_true_eq, decide_eq_false_iff_not, beq_iff_eq, bne_iff_ne, beq_eq_false_iff_ne, bne_eq_false_iff_eq, Int.not_lt, Int.not_le, Bool.not_eq_true, ne_eq] at ht38
              repeat refine jc_seq ?_
              refine jc_region ?_
              refine r_assign rfl ?_
              refine r_assign rfl ?_
              refine r_assign rfl ?_
              refine J.nil ?_
              refine jx_then ?_
              refine jc_ret ?_
              repeat (first | refine jx_thenRet ?_ | refine jx_blockRet ?_)
              have hk : ¬ (o.kind < 1 ∨ 4 < o.kind) := by omega
              have hr : o.line < 0 ∨ (m.length : Int) ≤ o.line ∨ o.value < 0 ∨ 255 < o.value := by omega
              refine jx_body (.inr rfl) (fun B w hs => res3 rfl rfl rfl rfl B w) (fun w hs => ?_)
              refine ⟨.slice none 0 0, ?_, ?_⟩
              · rw [flatDo_range hk hr]
              · rw [flatDo_range hk hr]; exact (St.shut (hs.rowNil 0 Int)).sub (by repeat (first | exact .refl | exact .nil | refine .cons (by first | exact .hd | exact .tl .hd | exact .tl (.tl .hd) | exact .tl (.tl (.tl .hd)) | exact .tl (.tl (.tl (.tl .hd))) | exact .tl (.tl (.tl (.tl (.tl .hd)))) | exact .tl (.tl (.tl (.tl (.tl (.tl .hd))))) | exact .tl (.tl (.tl (.tl (.tl (.tl (.tl .hd)))))) | exact .tl (.tl (.tl (.tl (.tl (.tl (.tl (.tl .hd)))))))) ?_ | refine .drop ?_)) (by repeat (first | exact FSub.refl | exact FSub.nil | refine FSub.cons (by first | assumption | (repeat (first | assumption | exact List.Mem.head _ | refine .tail _ ?_))) ?_ | refine FSub.drop ?_))
            · -- t38 False
              try simp only [decide_eq_true_eq, decide_eq_false_iff_not, beq_iff_eq, bne_iff_ne, beq_eq_false_iff_ne, bne_eq_false_iff_eq, Int.not_lt, Int.not_le, Bool.not_eq_true, ne_eq] at ht38
              refine jc_skip ?_
              refine jx_then ?_
              repeat refine jc_seq ?_
              refine jc_region ?_
              refine r_assign rfl ?_
              refine J.nil ?_
              refine jx_then ?_
              repeat refine jc_seq ?_
              refine jc_region ?_
              refine r_assign rfl ?_
              refine J.nil ?_
              refine jx_then ?_
              repeat refine jc_seq ?_
              refine jc_region ?_
              refine r_move rfl ?_
              refine r_len Try.underlying22 rfl (by first | exact len_row (by first | exact .hd | exact .tl .hd | exact .tl (.tl .hd) | exact .tl (.tl (.tl .hd)) | exact .tl (.tl (.tl (.tl .hd))) | exact .tl (.tl (.tl (.tl (.tl .hd)))) | exact .tl (.tl (.tl (.tl (.tl (.tl .hd))))) | exact .tl (.tl (.tl (.tl (.tl (.tl (.tl .hd)))))) | exact .tl (.tl (.tl (.tl (.tl (.tl (.tl (.tl .hd)))))))) | exact len_sl (by first | assumption | (repeat (first | assumption | exact List.Mem.head _ | refine .tail _ ?_)))) ?_
              refine r_move rfl ?_
              refine J.nil ?_
              refine jx_then ?_
              repeat refine jc_seq ?_
              refine jc_block ?_
              have hk : ¬ (o.kind < 1 ∨ 4 < o.kind) := by omega
              have hr : ¬ (o.line < 0 ∨ (m.length : Int) ≤ o.line ∨ o.value < 0 ∨ 255 < o.value) := by omega
              obtain ⟨e, he⟩ : ∃ e, m[o.line.toNat]? = some e := ⟨_, List.getElem?_eq_getElem (by omega)⟩
              have hin : In64 e := hin0 _ _ he
              have hvin := opVal_in hin (o := o) (by omega) (by omega)
              have hd := flatDo_ok hk hr he
              refine JC.rowNil 3 Int ?_
              refine jc_loop (γ := Nat × Value) (fun g => g.1 ≤ m.length) (fun g => row 3 g.2 ((m.set o.line.toNat (opVal e o).1).take g.1) :: blk b3 24 o.cells :: L) (fun _ => R) (fun g => [(3, bp b3 0), (7, g.2), (8, vi (if o.line < (g.1 : Int) then (opVal e o).2 else 0)), (39, v1), (40, vi (m.length : Int)), (41, vi (g.1 : Int))]) (fun g => m.length - g.1) (0, .slice none 0 0) (by simp) ⟨rfl, rfl, by rw [if_neg (by simp; omega)]; rfl, rfl, rfl, rfl, trivial⟩ (fun w hs => by simpa using hs) ?_
              rintro ⟨k, v⟩ hkl
              simp only at hkl ⊢
              repeat refine jc_seq ?_
              refine jc_region ?_
              refine r_bin rfl rfl b_lss ?_
              refine J.nil ?_
              refine jx_then ?_
              repeat refine jc_seq ?_
              refine jc_cond rfl (fun ht42 => ?_) (fun ht42 => ?_)
              · -- t42 True
                try simp only [decide_eq_true_eq, decide_eq_false_iff_not, beq_iff_eq, bne_iff_ne, beq_eq_false_iff_ne, bne_eq_false_iff_eq, Int.not_lt, Int.not_le, Bool.not_eq_true, ne_eq] at ht42
                refine jc_skip ?_
                refine jx_then ?_
                repeat refine jc_seq ?_
                refine jc_block ?_
                repeat refine jc_seq ?_
                obtain ⟨x, hx⟩ : ∃ x, m[k]? = some x := ⟨_, List.getElem?_eq_getElem (by omega)⟩
                have hxin : In64 x := hin0 _ _ hx
                refine jc_region ?_
                refine r_move rfl ?_
                refine r_indexAddr so_22 rfl rfl (by first | exact len_row (by first | exact .hd | exact .tl .hd | exact .tl (.tl .hd) | exact .tl (.tl (.tl .hd)) | exact .tl (.tl (.tl (.tl .hd))) | exact .tl (.tl (.tl (.tl (.tl .hd)))) | exact .tl (.tl (.tl (.tl (.tl (.tl .hd))))) | exact .tl (.tl (.tl (.tl (.tl (.tl (.tl .hd)))))) | exact .tl (.tl (.tl (.tl (.tl (.tl (.tl (.tl .hd)))))))) | exact len_sl (by first | assumption | (repeat (first | assumption | exact List.Mem.head _ | refine .tail _ ?_)))) (by omega) (by omega) ?_
                first
                  | (refine r_load1 Try.isAgg3 rfl (at_blk1 (by first | exact .hd | exact .tl .hd | exact .tl (.tl .hd) | exact .tl (.tl (.tl .hd)) | exact .tl (.tl (.tl (.tl .hd))) | exact .tl (.tl (.tl (.tl (.tl .hd)))) | exact .tl (.tl (.tl (.tl (.tl (.tl .hd))))) | exact .tl (.tl (.tl (.tl (.tl (.tl (.tl .hd)))))) | exact .tl (.tl (.tl (.tl (.tl (.tl (.tl (.tl .hd)))))))) (by exact rfl)) ?_)
                  | (refine r_load1 Try.isAgg3 rfl (at_int (by first | assumption | (repeat (first | assumption | exact List.Mem.head _ | refine .tail _ ?_))) (by assumption)) ?_)
                refine r_assign rfl ?_
                refine r_assign rfl ?_
                refine J.nil ?_
                refine jx_then ?_
                repeat refine jc_seq ?_
                rcases (show (o.line ≠ (k : Int)) ∨ (o.line = (k : Int) ∧ o.kind = 1) ∨ (o.line = (k : Int) ∧ o.kind = 2) ∨ (o.line = (k : Int) ∧ o.kind = 3) ∨ (o.line = (k : Int) ∧ o.kind = 4) from by omega) with hc | hc | hc | hc | hc
                · -- case 0
                  refine jc_region ?_
                  refine r_move rfl ?_
                  first | refine r_fieldAddr fo_24_1 rfl ?_ | refine r_fieldAddrE fo_24_1 rfl (by first | exact len_row (by first | exact .hd | exact .tl .hd | exact .tl (.tl .hd) | exact .tl (.tl (.tl .hd)) | exact .tl (.tl (.tl (.tl .hd))) | exact .tl (.tl (.tl (.tl (.tl .hd)))) | exact .tl (.tl (.tl (.tl (.tl (.tl .hd))))) | exact .tl (.tl (.tl (.tl (.tl (.tl (.tl .hd)))))) | exact .tl (.tl (.tl (.tl (.tl (.tl (.tl (.tl .hd)))))))) | exact len_sl (by first | assumption | (repeat (first | assumption | exact List.Mem.head _ | refine .tail _ ?_)))) (by first | assumption | omega | simp) ?_
                  first
                    | (refine r_load1 Try.isAgg3 rfl (at_blk1 (by first | exact .hd | exact .tl .hd | exact .tl (.tl .hd) | exact .tl (.tl (.tl .hd)) | exact .tl (.tl (.tl (.tl .hd))) | exact .tl (.tl (.tl (.tl (.tl .hd)))) | exact .tl (.tl (.tl (.tl (.tl (.tl .hd))))) | exact .tl (.tl (.tl (.tl (.tl (.tl (.tl .hd)))))) | exact .tl (.tl (.tl (.tl (.tl (.tl (.tl (.tl .hd)))))))) (by exact rfl)) ?_)
                    | (refine r_load1 Try.isAgg3 rfl (at_int (by first | assumption | (repeat (first | assumption | exact List.Mem.head _ | refine .tail _ ?_))) (by assumption)) ?_)
                  refine r_bin rfl rfl (b_eql_F (by omega)) ?_
                  refine J.nil ?_
                  refine jx_then ?_
                  repeat refine jc_seq ?_
                  refine jc_condF rfl ?_
                  refine jc_skip ?_
                  refine jx_then ?_
                  refine jc_region ?_
                  refine r_move rfl ?_
                  refine r_move rfl ?_
                  refine r_lit (α := Int) [_] eo_22 rfl rfl rfl rfl rfl rfl (fun j hj => ⟨⟨_, rfl, rfl, (by first | assumption | (unfold In64; omega))⟩, trivial⟩) ?_; intro v76
                  refine J.shut .hd ?_
                  refine r_append eo_22 rfl rfl rfl (by decide) (by first | exact .hd | exact .tl .hd | exact .tl (.tl .hd) | exact .tl (.tl (.tl .hd)) | exact .tl (.tl (.tl (.tl .hd))) | exact .tl (.tl (.tl (.tl (.tl .hd)))) | exact .tl (.tl (.tl (.tl (.tl (.tl .hd))))) | exact .tl (.tl (.tl (.tl (.tl (.tl (.tl .hd)))))) | exact .tl (.tl (.tl (.tl (.tl (.tl (.tl (.tl .hd)))))))) (by first | assumption | (repeat (first | assumption | exact List.Mem.head _ | refine .tail _ ?_))) (fun w hs => by have : maxN = 16777216 := rfl; simp only [List.length_nil, List.length_cons, List.length_take, List.length_append, List.length_replicate]; omega) ?_; intro v77
                  refine r_assign rfl ?_
                  refine J.nil ?_
                  refine jx_block ?_
                  refine jx_then ?_
                  refine jc_region ?_
                  refine r_bin rfl rfl (b_add (by omega) (by omega)) ?_
                  refine r_move rfl ?_
                  refine J.nil ?_
                  refine jx_head (k + 1, v77) (by show k + 1 ≤ m.length; omega) (by show m.length - (k + 1) < m.length - k; omega) ⟨rfl, rfl, ?_, rfl, rfl, rfl, trivial⟩ (fun w hs => ?_)
                  · exact congrArg (fun z => some (vi z)) (show (if o.line < (k : Int) then (opVal e o).2 else 0) = if o.line < ((k + 1 : Nat) : Int) then (opVal e o).2 else 0 by split <;> split <;> first | rfl | omega)
                  · have hx' : (m.set o.line.toNat (opVal e o).1)[k]? = some x := by rw [List.getElem?_set_ne (by omega)]; exact hx
                    show St (row 3 v77 ((m.set o.line.toNat (opVal e o).1).take (k + 1)) :: _) R w
                    rw [List.take_add_one, hx']; exact hs.sub (by repeat (first | exact .refl | exact .nil | refine .cons (by first | exact .hd | exact .tl .hd | exact .tl (.tl .hd) | exact .tl (.tl (.tl .hd)) | exact .tl (.tl (.tl (.tl .hd))) | exact .tl (.tl (.tl (.tl (.tl .hd)))) | exact .tl (.tl (.tl (.tl (.tl (.tl .hd))))) | exact .tl (.tl (.tl (.tl (.tl (.tl (.tl .hd)))))) | exact .tl (.tl (.tl (.tl (.tl (.tl (.tl (.tl .hd)))))))) ?_ | refine .drop ?_)) (by repeat (first | exact FSub.refl | exact FSub.nil | refine FSub.cons (by first | assumption | (repeat (first | assumption | exact List.Mem.head _ | refine .tail _ ?_))) ?_ | refine FSub.drop ?_))
                · -- case 1
                  have hek : e = x := by rw [show o.line.toNat = k by omega, hx] at he; exact (Option.some.inj he).symm
                  have hv : opVal e o = (x, x) := by rw [hek]; unfold opVal; rw [if_pos (by omega)]
                  refine jc_region ?_
                  refine r_move rfl ?_
                  first | refine r_fieldAddr fo_24_1 rfl ?_ | refine r_fieldAddrE fo_24_1 rfl (by first | exact len_row (by first | exact .hd | exact .tl .hd | exact .tl (.tl .hd) | exact .tl (.tl (.tl .hd)) | exact .tl (.tl (.tl (.tl .hd))) | exact .tl (.tl (.tl (.tl (.tl .hd)))) | exact .tl (.tl (.tl (.tl (.tl (.tl .hd))))) | exact .tl (.tl (.tl (.tl (.tl (.tl (.tl .hd)))))) | exact .tl (.tl (.tl (.tl (.tl (.tl (.tl (.tl .hd)))))))) | exact len_sl (by first | assumption | (repeat (first | assumption | exact List.Mem.head _ | refine .tail _ ?_)))) (by first | assumption | omega | simp) ?_
                  first
                    | (refine r_load1 Try.isAgg3 rfl (at_blk1 (by first | exact .hd | exact .tl .hd | exact .tl (.tl .hd) | exact .tl (.tl (.tl .hd)) | exact .tl (.tl (.tl (.tl .hd))) | exact .tl (.tl (.tl (.tl (.tl .hd)))) | exact .tl (.tl (.tl (.tl (.tl (.tl .hd))))) | exact .tl (.tl (.tl (.tl (.tl (.tl (.tl .hd)))))) | exact .tl (.tl (.tl (.tl (.tl (.tl (.tl (.tl .hd)))))))) (by exact rfl)) ?_)
                    | (refine r_load1 Try.isAgg3 rfl (at_int (by first | assumption | (repeat (first | assumption | exact List.Mem.head _ | refine .tail _ ?_))) (by assumption)) ?_)
                  refine r_bin rfl rfl (b_eql_T (by omega)) ?_
                  refine J.nil ?_
                  refine jx_then ?_
                  repeat refine jc_seq ?_
                  refine jc_condT rfl ?_
                  repeat refine jc_seq ?_
                  refine jc_region ?_
                  first | refine r_fieldAddr fo_24_0 rfl ?_ | refine r_fieldAddrE fo_24_0 rfl (by first | exact len_row (by first | exact .hd | exact .tl .hd | exact .tl (.tl .hd) | exact .tl (.tl (.tl .hd)) | exact .tl (.tl (.tl (.tl .hd))) | exact .tl (.tl (.tl (.tl (.tl .hd)))) | exact .tl (.tl (.tl (.tl (.tl (.tl .hd))))) | exact .tl (.tl (.tl (.tl (.tl (.tl (.tl .hd)))))) | exact .tl (.tl (.tl (.tl (.tl (.tl (.tl (.tl .hd)))))))) | exact len_sl (by first | assumption | (repeat (first | assumption | exact List.Mem.head _ | refine .tail _ ?_)))) (by first | assumption | omega | simp) ?_
                  first
                    | (refine r_load1 Try.isAgg3 rfl (at_blk1 (by first | exact .hd | exact .tl .hd | exact .tl (.tl .hd) | exact .tl (.tl (.tl .hd)) | exact .tl (.tl (.tl (.tl .hd))) | exact .tl (.tl (.tl (.tl (.tl .hd)))) | exact .tl (.tl (.tl (.tl (.tl (.tl .hd))))) | exact .tl (.tl (.tl (.tl (.tl (.tl (.tl .hd)))))) | exact .tl (.tl (.tl (.tl (.tl (.tl (.tl (.tl .hd)))))))) (by exact rfl)) ?_)
                    | (refine r_load1 Try.isAgg3 rfl (at_int (by first | assumption | (repeat (first | assumption | exact List.Mem.head _ | refine .tail _ ?_))) (by assumption)) ?_)
                  refine r_bin rfl rfl (b_eql_T (by omega)) ?_
                  refine r_move rfl ?_
                  refine J.guardNo ?_ ?_
                  · exact rfl
                  refine J.guardNo ?_ ?_
                  · exact rfl
                  refine J.guardNo ?_ ?_
                  · exact rfl
                  refine r_pickT rfl rfl ?_
                  refine J.nil ?_
                  refine jx_then ?_
                  repeat refine jc_seq ?_
                  refine jc_condT rfl ?_
                  refine jc_region ?_
                  refine r_move rfl ?_
                  refine r_assign rfl ?_
                  refine J.nil ?_
                  refine jx_then ?_
                  repeat refine jc_seq ?_
                  refine jc_region ?_
                  first | refine r_fieldAddr fo_24_0 rfl ?_ | refine r_fieldAddrE fo_24_0 rfl (by first | exact len_row (by first | exact .hd | exact .tl .hd | exact .tl (.tl .hd) | exact .tl (.tl (.tl .hd)) | exact .tl (.tl (.tl (.tl .hd))) | exact .tl (.tl (.tl (.tl (.tl .hd)))) | exact .tl (.tl (.tl (.tl (.tl (.tl .hd))))) | exact .tl (.tl (.tl (.tl (.tl (.tl (.tl .hd)))))) | exact .tl (.tl (.tl (.tl (.tl (.tl (.tl (.tl .hd)))))))) | exact len_sl (by first | assumption | (repeat (first | assumption | exact List.Mem.head _ | refine .tail _ ?_)))) (by first | assumption | omega | simp) ?_
                  first
                    | (refine r_load1 Try.isAgg3 rfl (at_blk1 (by first | exact .hd | exact .tl .hd | exact .tl (.tl .hd) | exact .tl (.tl (.tl .hd)) | exact .tl (.tl (.tl (.tl .hd))) | exact .tl (.tl (.tl (.tl (.tl .hd)))) | exact .tl (.tl (.tl (.tl (.tl (.tl .hd))))) | exact .tl (.tl (.tl (.tl (.tl (.tl (.tl .hd)))))) | exact .tl (.tl (.tl (.tl (.tl (.tl (.tl (.tl .hd)))))))) (by exact rfl)) ?_)
                    | (refine r_load1 Try.isAgg3 rfl (at_int (by first | assumption | (repeat (first | assumption | exact List.Mem.head _ | refine .tail _ ?_))) (by assumption)) ?_)
                  refine r_bin rfl rfl (b_eql_F (by omega)) ?_
                  refine J.nil ?_
                  refine jx_then ?_
                  repeat refine jc_seq ?_
                  refine jc_condF rfl ?_
                  refine jc_skip ?_
                  refine jx_then ?_
                  repeat refine jc_seq ?_
                  refine jc_region ?_
                  first | refine r_fieldAddr fo_24_0 rfl ?_ | refine r_fieldAddrE fo_24_0 rfl (by first | exact len_row (by first | exact .hd | exact .tl .hd | exact .tl (.tl .hd) | exact .tl (.tl (.tl .hd)) | exact .tl (.tl (.tl (.tl .hd))) | exact .tl (.tl (.tl (.tl (.tl .hd)))) | exact .tl (.tl (.tl (.tl (.tl (.tl .hd))))) | exact .tl (.tl (.tl (.tl (.tl (.tl (.tl .hd)))))) | exact .tl (.tl (.tl (.tl (.tl (.tl (.tl (.tl .hd)))))))) | exact len_sl (by first | assumption | (repeat (first | assumption | exact List.Mem.head _ | refine .tail _ ?_)))) (by first | assumption | omega | simp) ?_
                  first
                    | (refine r_load1 Try.isAgg3 rfl (at_blk1 (by first | exact .hd | exact .tl .hd | exact .tl (.tl .hd) | exact .tl (.tl (.tl .hd)) | exact .tl (.tl (.tl (.tl .hd))) | exact .tl (.tl (.tl (.tl (.tl .hd)))) | exact .tl (.tl (.tl (.tl (.tl (.tl .hd))))) | exact .tl (.tl (.tl (.tl (.tl (.tl (.tl .hd)))))) | exact .tl (.tl (.tl (.tl (.tl (.tl (.tl (.tl .hd)))))))) (by exact rfl)) ?_)
                    | (refine r_load1 Try.isAgg3 rfl (at_int (by first | assumption | (repeat (first | assumption | exact List.Mem.head _ | refine .tail _ ?_))) (by assumption)) ?_)
                  refine r_bin rfl rfl (b_eql_F (by omega)) ?_
                  refine J.nil ?_
                  refine jx_then ?_
                  refine jc_condF rfl ?_
                  refine jc_skip ?_
                  refine jx_then ?_
                  refine jc_region ?_
                  refine r_move rfl ?_
                  refine r_move rfl ?_
                  refine r_lit (α := Int) [_] eo_22 rfl rfl rfl rfl rfl rfl (fun j hj => ⟨⟨_, rfl, rfl, (by first | assumption | (unfold In64; omega))⟩, trivial⟩) ?_; intro v76
                  refine J.shut .hd ?_
                  refine r_append eo_22 rfl rfl rfl (by decide) (by first | exact .hd | exact .tl .hd | exact .tl (.tl .hd) | exact .tl (.tl (.tl .hd)) | exact .tl (.tl (.tl (.tl .hd))) | exact .tl (.tl (.tl (.tl (.tl .hd)))) | exact .tl (.tl (.tl (.tl (.tl (.tl .hd))))) | exact .tl (.tl (.tl (.tl (.tl (.tl (.tl .hd)))))) | exact .tl (.tl (.tl (.tl (.tl (.tl (.tl (.tl .hd)))))))) (by first | assumption | (repeat (first | assumption | exact List.Mem.head _ | refine .tail _ ?_))) (fun w hs => by have : maxN = 16777216 := rfl; simp only [List.length_nil, List.length_cons, List.length_take, List.length_append, List.length_replicate]; omega) ?_; intro v77
                  refine r_assign rfl ?_
                  refine J.nil ?_
                  refine jx_block ?_
                  refine jx_then ?_
                  refine jc_region ?_
                  refine r_bin rfl rfl (b_add (by omega) (by omega)) ?_
                  refine r_move rfl ?_
                  refine J.nil ?_
                  refine jx_head (k + 1, v77) (by show k + 1 ≤ m.length; omega) (by show m.length - (k + 1) < m.length - k; omega) ⟨rfl, rfl, ?_, rfl, rfl, rfl, trivial⟩ (fun w hs => ?_)
                  · exact congrArg (fun z => some (vi z)) (show x = if o.line < ((k + 1 : Nat) : Int) then (opVal e o).2 else 0 by rw [if_pos (by omega), hv])
                  · have hx' : (m.set o.line.toNat (opVal e o).1)[k]? = some (x) := by rw [hv, show o.line.toNat = k by omega, List.getElem?_set_self (by omega)]
                    show St (row 3 v77 ((m.set o.line.toNat (opVal e o).1).take (k + 1)) :: _) R w
                    rw [List.take_add_one, hx']; exact hs.sub (by repeat (first | exact .refl | exact .nil | refine .cons (by first | exact .hd | exact .tl .hd | exact .tl (.tl .hd) | exact .tl (.tl (.tl .hd)) | exact .tl (.tl (.tl (.tl .hd))) | exact .tl (.tl (.tl (.tl (.tl .hd)))) | exact .tl (.tl (.tl (.tl (.tl (.tl .hd))))) | exact .tl (.tl (.tl (.tl (.tl (.tl (.tl .hd)))))) | exact .tl (.tl (.tl (.tl (.tl (.tl (.tl (.tl .hd)))))))) ?_ | refine .drop ?_)) (by repeat (first | exact FSub.refl | exact FSub.nil | refine FSub.cons (by first | assumption | (repeat (first | assumption | exact List.Mem.head _ | refine .tail _ ?_))) ?_ | refine FSub.drop ?_))
                · -- case 2
                  have hek : e = x := by rw [show o.line.toNat = k by omega, hx] at he; exact (Option.some.inj he).symm
                  have hv : opVal e o = (o.value, 0) := by rw [hek]; unfold opVal; rw [if_neg (by omega), if_pos (by omega)]
                  refine jc_region ?_
                  refine r_move rfl ?_
                  first | refine r_fieldAddr fo_24_1 rfl ?_ | refine r_fieldAddrE fo_24_1 rfl (by first | exact len_row (by first | exact .hd | exact .tl .hd | exact .tl (.tl .hd) | exact .tl (.tl (.tl .hd)) | exact .tl (.tl (.tl (.tl .hd))) | exact .tl (.tl (.tl (.tl (.tl .hd)))) | exact .tl (.tl (.tl (.tl (.tl (.tl .hd))))) | exact .tl (.tl (.tl (.tl (.tl (.tl (.tl .hd)))))) | exact .tl (.tl (.tl (.tl (.tl (.tl (.tl (.tl .hd)))))))) | exact len_sl (by first | assumption | (repeat (first | assumption | exact List.Mem.head _ | refine .tail _ ?_)))) (by first | assumption | omega | simp) ?_
                  first
                    | (refine r_load1 Try.isAgg3 rfl (at_blk1 (by first | exact .hd | exact .tl .hd | exact .tl (.tl .hd) | exact .tl (.tl (.tl .hd)) | exact .tl (.tl (.tl (.tl .hd))) | exact .tl (.tl (.tl (.tl (.tl .hd)))) | exact .tl (.tl (.tl (.tl (.tl (.tl .hd))))) | exact .tl (.tl (.tl (.tl (.tl (.tl (.tl .hd)))))) | exact .tl (.tl (.tl (.tl (.tl (.tl (.tl (.tl .hd)))))))) (by exact rfl)) ?_)
                    | (refine r_load1 Try.isAgg3 rfl (at_int (by first | assumption | (repeat (first | assumption | exact List.Mem.head _ | refine .tail _ ?_))) (by assumption)) ?_)
                  refine r_bin rfl rfl (b_eql_T (by omega)) ?_
                  refine J.nil ?_
                  refine jx_then ?_
                  repeat refine jc_seq ?_
                  refine jc_condT rfl ?_
                  repeat refine jc_seq ?_
                  refine jc_region ?_
                  first | refine r_fieldAddr fo_24_0 rfl ?_ | refine r_fieldAddrE fo_24_0 rfl (by first | exact len_row (by first | exact .hd | exact .tl .hd | exact .tl (.tl .hd) | exact .tl (.tl (.tl .hd)) | exact .tl (.tl (.tl (.tl .hd))) | exact .tl (.tl (.tl (.tl (.tl .hd)))) | exact .tl (.tl (.tl (.tl (.tl (.tl .hd))))) | exact .tl (.tl (.tl (.tl (.tl (.tl (.tl .hd)))))) | exact .tl (.tl (.tl (.tl (.tl (.tl (.tl (.tl .hd)))))))) | exact len_sl (by first | assumption | (repeat (first | assumption | exact List.Mem.head _ | refine .tail _ ?_)))) (by first | assumption | omega | simp) ?_
                  first
                    | (refine r_load1 Try.isAgg3 rfl (at_blk1 (by first | exact .hd | exact .tl .hd | exact .tl (.tl .hd) | exact .tl (.tl (.tl .hd)) | exact .tl (.tl (.tl (.tl .hd))) | exact .tl (.tl (.tl (.tl (.tl .hd)))) | exact .tl (.tl (.tl (.tl (.tl (.tl .hd))))) | exact .tl (.tl (.tl (.tl (.tl (.tl (.tl .hd)))))) | exact .tl (.tl (.tl (.tl (.tl (.tl (.tl (.tl .hd)))))))) (by exact rfl)) ?_)
                    | (refine r_load1 Try.isAgg3 rfl (at_int (by first | assumption | (repeat (first | assumption | exact List.Mem.head _ | refine .tail _ ?_))) (by assumption)) ?_)
                  refine r_bin rfl rfl (b_eql_F (by omega)) ?_
                  refine r_move rfl ?_
                  refine J.guardYes ?_ ?_
                  · exact rfl
                  first | refine r_fieldAddr fo_24_0 rfl ?_ | refine r_fieldAddrE fo_24_0 rfl (by first | exact len_row (by first | exact .hd | exact .tl .hd | exact .tl (.tl .hd) | exact .tl (.tl (.tl .hd)) | exact .tl (.tl (.tl (.tl .hd))) | exact .tl (.tl (.tl (.tl (.tl .hd)))) | exact .tl (.tl (.tl (.tl (.tl (.tl .hd))))) | exact .tl (.tl (.tl (.tl (.tl (.tl (.tl .hd)))))) | exact .tl (.tl (.tl (.tl (.tl (.tl (.tl (.tl .hd)))))))) | exact len_sl (by first | assumption | (repeat (first | assumption | exact List.Mem.head _ | refine .tail _ ?_)))) (by first | assumption | omega | simp) ?_
                  refine J.guardYes ?_ ?_
                  · exact rfl
                  first
                    | (refine r_load1 Try.isAgg3 rfl (at_blk1 (by first | exact .hd | exact .tl .hd | exact .tl (.tl .hd) | exact .tl (.tl (.tl .hd)) | exact .tl (.tl (.tl (.tl .hd))) | exact .tl (.tl (.tl (.tl (.tl .hd)))) | exact .tl (.tl (.tl (.tl (.tl (.tl .hd))))) | exact .tl (.tl (.tl (.tl (.tl (.tl (.tl .hd)))))) | exact .tl (.tl (.tl (.tl (.tl (.tl (.tl (.tl .hd)))))))) (by exact rfl)) ?_)
                    | (refine r_load1 Try.isAgg3 rfl (at_int (by first | assumption | (repeat (first | assumption | exact List.Mem.head _ | refine .tail _ ?_))) (by assumption)) ?_)
                  refine J.guardYes ?_ ?_
                  · exact rfl
                  refine r_bin rfl rfl (b_eql_F (by omega)) ?_
                  refine r_pickF rfl rfl ?_
                  refine J.nil ?_
                  refine jx_then ?_
                  repeat refine jc_seq ?_
                  refine jc_condF rfl ?_
                  refine jc_skip ?_
                  refine jx_then ?_
                  repeat refine jc_seq ?_
                  refine jc_region ?_
                  first | refine r_fieldAddr fo_24_0 rfl ?_ | refine r_fieldAddrE fo_24_0 rfl (by first | exact len_row (by first | exact .hd | exact .tl .hd | exact .tl (.tl .hd) | exact .tl (.tl (.tl .hd)) | exact .tl (.tl (.tl (.tl .hd))) | exact .tl (.tl (.tl (.tl (.tl .hd)))) | exact .tl (.tl (.tl (.tl (.tl (.tl .hd))))) | exact .tl (.tl (.tl (.tl (.tl (.tl (.tl .hd)))))) | exact .tl (.tl (.tl (.tl (.tl (.tl (.tl (.tl .hd)))))))) | exact len_sl (by first | assumption | (repeat (first | assumption | exact List.Mem.head _ | refine .tail _ ?_)))) (by first | assumption | omega | simp) ?_
                  first
                    | (refine r_load1 Try.isAgg3 rfl (at_blk1 (by first | exact .hd | exact .tl .hd | exact .tl (.tl .hd) | exact .tl (.tl (.tl .hd)) | exact .tl (.tl (.tl (.tl .hd))) | exact .tl (.tl (.tl (.tl (.tl .hd)))) | exact .tl (.tl (.tl (.tl (.tl (.tl .hd))))) | exact .tl (.tl (.tl (.tl (.tl (.tl (.tl .hd)))))) | exact .tl (.tl (.tl (.tl (.tl (.tl (.tl (.tl .hd)))))))) (by exact rfl)) ?_)
                    | (refine r_load1 Try.isAgg3 rfl (at_int (by first | assumption | (repeat (first | assumption | exact List.Mem.head _ | refine .tail _ ?_))) (by assumption)) ?_)
                  refine r_bin rfl rfl (b_eql_T (by omega)) ?_
                  refine J.nil ?_
                  refine jx_then ?_
                  repeat refine jc_seq ?_
                  refine jc_condT rfl ?_
                  refine jc_region ?_
                  first | refine r_fieldAddr fo_24_2 rfl ?_ | refine r_fieldAddrE fo_24_2 rfl (by first | exact len_row (by first | exact .hd | exact .tl .hd | exact .tl (.tl .hd) | exact .tl (.tl (.tl .hd)) | exact .tl (.tl (.tl (.tl .hd))) | exact .tl (.tl (.tl (.tl (.tl .hd)))) | exact .tl (.tl (.tl (.tl (.tl (.tl .hd))))) | exact .tl (.tl (.tl (.tl (.tl (.tl (.tl .hd)))))) | exact .tl (.tl (.tl (.tl (.tl (.tl (.tl (.tl .hd)))))))) | exact len_sl (by first | assumption | (repeat (first | assumption | exact List.Mem.head _ | refine .tail _ ?_)))) (by first | assumption | omega | simp) ?_
                  first
                    | (refine r_load1 Try.isAgg3 rfl (at_blk1 (by first | exact .hd | exact .tl .hd | exact .tl (.tl .hd) | exact .tl (.tl (.tl .hd)) | exact .tl (.tl (.tl (.tl .hd))) | exact .tl (.tl (.tl (.tl (.tl .hd)))) | exact .tl (.tl (.tl (.tl (.tl (.tl .hd))))) | exact .tl (.tl (.tl (.tl (.tl (.tl (.tl .hd)))))) | exact .tl (.tl (.tl (.tl (.tl (.tl (.tl (.tl .hd)))))))) (by exact rfl)) ?_)
                    | (refine r_load1 Try.isAgg3 rfl (at_int (by first | assumption | (repeat (first | assumption | exact List.Mem.head _ | refine .tail _ ?_))) (by assumption)) ?_)
                  refine r_assign rfl ?_
                  refine J.nil ?_
                  refine jx_then ?_
                  repeat refine jc_seq ?_
                  refine jc_region ?_
                  first | refine r_fieldAddr fo_24_0 rfl ?_ | refine r_fieldAddrE fo_24_0 rfl (by first | exact len_row (by first | exact .hd | exact .tl .hd | exact .tl (.tl .hd) | exact .tl (.tl (.tl .hd)) | exact .tl (.tl (.tl (.tl .hd))) | exact .tl (.tl (.tl (.tl (.tl .hd)))) | exact .tl (.tl (.tl (.tl (.tl (.tl .hd))))) | exact .tl (.tl (.tl (.tl (.tl (.tl (.tl .hd)))))) | exact .tl (.tl (.tl (.tl (.tl (.tl (.tl (.tl .hd)))))))) | exact len_sl (by first | assumption | (repeat (first | assumption | exact List.Mem.head _ | refine .tail _ ?_)))) (by first | assumption | omega | simp) ?_
                  first
                    | (refine r_load1 Try.isAgg3 rfl (at_blk1 (by first | exact .hd | exact .tl .hd | exact .tl (.tl .hd) | exact .tl (.tl (.tl .hd)) | exact .tl (.tl (.tl (.tl .hd))) | exact .tl (.tl (.tl (.tl (.tl .hd)))) | exact .tl (.tl (.tl (.tl (.tl (.tl .hd))))) | exact .tl (.tl (.tl (.tl (.tl (.tl (.tl .hd)))))) | exact .tl (.tl (.tl (.tl (.tl (.tl (.tl (.tl .hd)))))))) (by exact rfl)) ?_)
                    | (refine r_load1 Try.isAgg3 rfl (at_int (by first | assumption | (repeat (first | assumption | exact List.Mem.head _ | refine .tail _ ?_))) (by assumption)) ?_)
                  refine r_bin rfl rfl (b_eql_F (by omega)) ?_
                  refine J.nil ?_
                  refine jx_then ?_
                  refine jc_condF rfl ?_
                  refine jc_skip ?_
                  refine jx_then ?_
                  refine jc_region ?_
                  refine r_move rfl ?_
                  refine r_move rfl ?_
                  refine r_lit (α := Int) [_] eo_22 rfl rfl rfl rfl rfl rfl (fun j hj => ⟨⟨_, rfl, rfl, (by first | assumption | (unfold In64; omega))⟩, trivial⟩) ?_; intro v76
                  refine J.shut .hd ?_
                  refine r_append eo_22 rfl rfl rfl (by decide) (by first | exact .hd | exact .tl .hd | exact .tl (.tl .hd) | exact .tl (.tl (.tl .hd)) | exact .tl (.tl (.tl (.tl .hd))) | exact .tl (.tl (.tl (.tl (.tl .hd)))) | exact .tl (.tl (.tl (.tl (.tl (.tl .hd))))) | exact .tl (.tl (.tl (.tl (.tl (.tl (.tl .hd)))))) | exact .tl (.tl (.tl (.tl (.tl (.tl (.tl (.tl .hd)))))))) (by first | assumption | (repeat (first | assumption | exact List.Mem.head _ | refine .tail _ ?_))) (fun w hs => by have : maxN = 16777216 := rfl; simp only [List.length_nil, List.length_cons, List.length_take, List.length_append, List.length_replicate]; omega) ?_; intro v77
                  refine r_assign rfl ?_
                  refine J.nil ?_
                  refine jx_block ?_
                  refine jx_then ?_
                  refine jc_region ?_
                  refine r_bin rfl rfl (b_add (by omega) (by omega)) ?_
                  refine r_move rfl ?_
                  refine J.nil ?_
                  refine jx_head (k + 1, v77) (by show k + 1 ≤ m.length; omega) (by show m.length - (k + 1) < m.length - k; omega) ⟨rfl, rfl, ?_, rfl, rfl, rfl, trivial⟩ (fun w hs => ?_)
                  · exact congrArg (fun z => some (vi z)) (show (if o.line < (k : Int) then (opVal e o).2 else 0) = if o.line < ((k + 1 : Nat) : Int) then (opVal e o).2 else 0 by rw [if_neg (show ¬ o.line < (k : Int) by omega), if_pos (show o.line < ((k + 1 : Nat) : Int) by omega), hv])
                  · have hx' : (m.set o.line.toNat (opVal e o).1)[k]? = some (o.value) := by rw [hv, show o.line.toNat = k by omega, List.getElem?_set_self (by omega)]
                    show St (row 3 v77 ((m.set o.line.toNat (opVal e o).1).take (k + 1)) :: _) R w
                    rw [List.take_add_one, hx']; exact hs.sub (by repeat (first | exact .refl | exact .nil | refine .cons (by first | exact .hd | exact .tl .hd | exact .tl (.tl .hd) | exact .tl (.tl (.tl .hd)) | exact .tl (.tl (.tl (.tl .hd))) | exact .tl (.tl (.tl (.tl (.tl .hd)))) | exact .tl (.tl (.tl (.tl (.tl (.tl .hd))))) | exact .tl (.tl (.tl (.tl (.tl (.tl (.tl .hd)))))) | exact .tl (.tl (.tl (.tl (.tl (.tl (.tl (.tl .hd)))))))) ?_ | refine .drop ?_)) (by repeat (first | exact FSub.refl | exact FSub.nil | refine FSub.cons (by first | assumption | (repeat (first | assumption | exact List.Mem.head _ | refine .tail _ ?_))) ?_ | refine FSub.drop ?_))
                · -- case 3
                  have hek : e = x := by rw [show o.line.toNat = k by omega, hx] at he; exact (Option.some.inj he).symm
                  have hv : opVal e o = ((x + o.value) % 256, x) := by rw [hek]; unfold opVal; rw [if_neg (by omega), if_neg (by omega), if_pos (by omega)]
                  refine jc_region ?_
                  refine r_move rfl ?_
                  first | refine r_fieldAddr fo_24_1 rfl ?_ | refine r_fieldAddrE fo_24_1 rfl (by first | exact len_row (by first | exact .hd | exact .tl .hd | exact .tl (.tl .hd) | exact .tl (.tl (.tl .hd)) | exact .tl (.tl (.tl (.tl .hd))) | exact .tl (.tl (.tl (.tl (.tl .hd)))) | exact .tl (.tl (.tl (.tl (.tl (.tl .hd))))) | exact .tl (.tl (.tl (.tl (.tl (.tl (.tl .hd)))))) | exact .tl (.tl (.tl (.tl (.tl (.tl (.tl (.tl .hd)))))))) | exact len_sl (by first | assumption | (repeat (first | assumption | exact List.Mem.head _ | refine .tail _ ?_)))) (by first | assumption | omega | simp) ?_
                  first
                    | (refine r_load1 Try.isAgg3 rfl (at_blk1 (by first | exact .hd | exact .tl .hd | exact .tl (.tl .hd) | exact .tl (.tl (.tl .hd)) | exact .tl (.tl (.tl (.tl .hd))) | exact .tl (.tl (.tl (.tl (.tl .hd)))) | exact .tl (.tl (.tl (.tl (.tl (.tl .hd))))) | exact .tl (.tl (.tl (.tl (.tl (.tl (.tl .hd)))))) | exact .tl (.tl (.tl (.tl (.tl (.tl (.tl (.tl .hd)))))))) (by exact rfl)) ?_)
                    | (refine r_load1 Try.isAgg3 rfl (at_int (by first | assumption | (repeat (first | assumption | exact List.Mem.head _ | refine .tail _ ?_))) (by assumption)) ?_)
                  refine r_bin rfl rfl (b_eql_T (by omega)) ?_
                  refine J.nil ?_
                  refine jx_then ?_
                  repeat refine jc_seq ?_
                  refine jc_condT rfl ?_
                  repeat refine jc_seq ?_
                  refine jc_region ?_
                  first | refine r_fieldAddr fo_24_0 rfl ?_ | refine r_fieldAddrE fo_24_0 rfl (by first | exact len_row (by first | exact .hd | exact .tl .hd | exact .tl (.tl .hd) | exact .tl (.tl (.tl .hd)) | exact .tl (.tl (.tl (.tl .hd))) | exact .tl (.tl (.tl (.tl (.tl .hd)))) | exact .tl (.tl (.tl (.tl (.tl (.tl .hd))))) | exact .tl (.tl (.tl (.tl (.tl (.tl (.tl .hd)))))) | exact .tl (.tl (.tl (.tl (.tl (.tl (.tl (.tl .hd)))))))) | exact len_sl (by first | assumption | (repeat (first | assumption | exact List.Mem.head _ | refine .tail _ ?_)))) (by first | assumption | omega | simp) ?_
                  first
                    | (refine r_load1 Try.isAgg3 rfl (at_blk1 (by first | exact .hd | exact .tl .hd | exact .tl (.tl .hd) | exact .tl (.tl (.tl .hd)) | exact .tl (.tl (.tl (.tl .hd))) | exact .tl (.tl (.tl (.tl (.tl .hd)))) | exact .tl (.tl (.tl (.tl (.tl (.tl .hd))))) | exact .tl (.tl (.tl (.tl (.tl (.tl (.tl .hd)))))) | exact .tl (.tl (.tl (.tl (.tl (.tl (.tl (.tl .hd)))))))) (by exact rfl)) ?_)
                    | (refine r_load1 Try.isAgg3 rfl (at_int (by first | assumption | (repeat (first | assumption | exact List.Mem.head _ | refine .tail _ ?_))) (by assumption)) ?_)
                  refine r_bin rfl rfl (b_eql_F (by omega)) ?_
                  refine r_move rfl ?_
                  refine J.guardYes ?_ ?_
                  · exact rfl
                  first | refine r_fieldAddr fo_24_0 rfl ?_ | refine r_fieldAddrE fo_24_0 rfl (by first | exact len_row (by first | exact .hd | exact .tl .hd | exact .tl (.tl .hd) | exact .tl (.tl (.tl .hd)) | exact .tl (.tl (.tl (.tl .hd))) | exact .tl (.tl (.tl (.tl (.tl .hd)))) | exact .tl (.tl (.tl (.tl (.tl (.tl .hd))))) | exact .tl (.tl (.tl (.tl (.tl (.tl (.tl .hd)))))) | exact .tl (.tl (.tl (.tl (.tl (.tl (.tl (.tl .hd)))))))) | exact len_sl (by first | assumption | (repeat (first | assumption | exact List.Mem.head _ | refine .tail _ ?_)))) (by first | assumption | omega | simp) ?_
                  refine J.guardYes ?_ ?_
                  · exact rfl
                  first
                    | (refine r_load1 Try.isAgg3 rfl (at_blk1 (by first | exact .hd | exact .tl .hd | exact .tl (.tl .hd) | exact .tl (.tl (.tl .hd)) | exact .tl (.tl (.tl (.tl .hd))) | exact .tl (.tl (.tl (.tl (.tl .hd)))) | exact .tl (.tl (.tl (.tl (.tl (.tl .hd))))) | exact .tl (.tl (.tl (.tl (.tl (.tl (.tl .hd)))))) | exact .tl (.tl (.tl (.tl (.tl (.tl (.tl (.tl .hd)))))))) (by exact rfl)) ?_)
                    | (refine r_load1 Try.isAgg3 rfl (at_int (by first | assumption | (repeat (first | assumption | exact List.Mem.head _ | refine .tail _ ?_))) (by assumption)) ?_)
                  refine J.guardYes ?_ ?_
                  · exact rfl
                  refine r_bin rfl rfl (b_eql_T (by omega)) ?_
                  refine r_pickF rfl rfl ?_
                  refine J.nil ?_
                  refine jx_then ?_
                  repeat refine jc_seq ?_
                  refine jc_condT rfl ?_
                  refine jc_region ?_
                  refine r_move rfl ?_
                  refine r_assign rfl ?_
                  refine J.nil ?_
                  refine jx_then ?_
                  repeat refine jc_seq ?_
                  refine jc_region ?_
                  first | refine r_fieldAddr fo_24_0 rfl ?_ | refine r_fieldAddrE fo_24_0 rfl (by first | exact len_row (by first | exact .hd | exact .tl .hd | exact .tl (.tl .hd) | exact .tl (.tl (.tl .hd)) | exact .tl (.tl (.tl (.tl .hd))) | exact .tl (.tl (.tl (.tl (.tl .hd)))) | exact .tl (.tl (.tl (.tl (.tl (.tl .hd))))) | exact .tl (.tl (.tl (.tl (.tl (.tl (.tl .hd)))))) | exact .tl (.tl (.tl (.tl (.tl (.tl (.tl (.tl .hd)))))))) | exact len_sl (by first | assumption | (repeat (first | assumption | exact List.Mem.head _ | refine .tail _ ?_)))) (by first | assumption | omega | simp) ?_
                  first
                    | (refine r_load1 Try.isAgg3 rfl (at_blk1 (by first | exact .hd | exact .tl .hd | exact .tl (.tl .hd) | exact .tl (.tl (.tl .hd)) | exact .tl (.tl (.tl (.tl .hd))) | exact .tl (.tl (.tl (.tl (.tl .hd)))) | exact .tl (.tl (.tl (.tl (.tl (.tl .hd))))) | exact .tl (.tl (.tl (.tl (.tl (.tl (.tl .hd)))))) | exact .tl (.tl (.tl (.tl (.tl (.tl (.tl (.tl .hd)))))))) (by exact rfl)) ?_)
                    | (refine r_load1 Try.isAgg3 rfl (at_int (by first | assumption | (repeat (first | assumption | exact List.Mem.head _ | refine .tail _ ?_))) (by assumption)) ?_)
                  refine r_bin rfl rfl (b_eql_F (by omega)) ?_
                  refine J.nil ?_
                  refine jx_then ?_
                  repeat refine jc_seq ?_
                  refine jc_condF rfl ?_
                  refine jc_skip ?_
                  refine jx_then ?_
                  repeat refine jc_seq ?_
                  refine jc_region ?_
                  first | refine r_fieldAddr fo_24_0 rfl ?_ | refine r_fieldAddrE fo_24_0 rfl (by first | exact len_row (by first | exact .hd | exact .tl .hd | exact .tl (.tl .hd) | exact .tl (.tl (.tl .hd)) | exact .tl (.tl (.tl (.tl .hd))) | exact .tl (.tl (.tl (.tl (.tl .hd)))) | exact .tl (.tl (.tl (.tl (.tl (.tl .hd))))) | exact .tl (.tl (.tl (.tl (.tl (.tl (.tl .hd)))))) | exact .tl (.tl (.tl (.tl (.tl (.tl (.tl (.tl .hd)))))))) | exact len_sl (by first | assumption | (repeat (first | assumption | exact List.Mem.head _ | refine .tail _ ?_)))) (by first | assumption | omega | simp) ?_
                  first
                    | (refine r_load1 Try.isAgg3 rfl (at_blk1 (by first | exact .hd | exact .tl .hd | exact .tl (.tl .hd) | exact .tl (.tl (.tl .hd)) | exact .tl (.tl (.tl (.tl .hd))) | exact .tl (.tl (.tl (.tl (.tl .hd)))) | exact .tl (.tl (.tl (.tl (.tl (.tl .hd))))) | exact .tl (.tl (.tl (.tl (.tl (.tl (.tl .hd)))))) | exact .tl (.tl (.tl (.tl (.tl (.tl (.tl (.tl .hd)))))))) (by exact rfl)) ?_)
                    | (refine r_load1 Try.isAgg3 rfl (at_int (by first | assumption | (repeat (first | assumption | exact List.Mem.head _ | refine .tail _ ?_))) (by assumption)) ?_)
                  refine r_bin rfl rfl (b_eql_T (by omega)) ?_
                  refine J.nil ?_
                  refine jx_then ?_
                  refine jc_condT rfl ?_
                  refine jc_region ?_
                  refine r_move rfl ?_
                  first | refine r_fieldAddr fo_24_2 rfl ?_ | refine r_fieldAddrE fo_24_2 rfl (by first | exact len_row (by first | exact .hd | exact .tl .hd | exact .tl (.tl .hd) | exact .tl (.tl (.tl .hd)) | exact .tl (.tl (.tl (.tl .hd))) | exact .tl (.tl (.tl (.tl (.tl .hd)))) | exact .tl (.tl (.tl (.tl (.tl (.tl .hd))))) | exact .tl (.tl (.tl (.tl (.tl (.tl (.tl .hd)))))) | exact .tl (.tl (.tl (.tl (.tl (.tl (.tl (.tl .hd)))))))) | exact len_sl (by first | assumption | (repeat (first | assumption | exact List.Mem.head _ | refine .tail _ ?_)))) (by first | assumption | omega | simp) ?_
                  first
                    | (refine r_load1 Try.isAgg3 rfl (at_blk1 (by first | exact .hd | exact .tl .hd | exact .tl (.tl .hd) | exact .tl (.tl (.tl .hd)) | exact .tl (.tl (.tl (.tl .hd))) | exact .tl (.tl (.tl (.tl (.tl .hd)))) | exact .tl (.tl (.tl (.tl (.tl (.tl .hd))))) | exact .tl (.tl (.tl (.tl (.tl (.tl (.tl .hd)))))) | exact .tl (.tl (.tl (.tl (.tl (.tl (.tl (.tl .hd)))))))) (by exact rfl)) ?_)
                    | (refine r_load1 Try.isAgg3 rfl (at_int (by first | assumption | (repeat (first | assumption | exact List.Mem.head _ | refine .tail _ ?_))) (by assumption)) ?_)
                  refine r_bin rfl rfl b_addw ?_
                  refine r_bin rfl rfl (b_rem (by decide) (tmod_in _ (by decide) (by decide)).1 (tmod_in _ (by decide) (by decide)).2) ?_
                  refine r_bin rfl rfl (b_add (by have := tmod_bnd (IntKind.i64.wrap (x + o.value)) (show (0 : Int) < 256 by decide); omega) (by have := tmod_bnd (IntKind.i64.wrap (x + o.value)) (show (0 : Int) < 256 by decide); omega)) ?_
                  refine r_bin rfl rfl (b_rem (by decide) (tmod_in _ (by decide) (by decide)).1 (tmod_in _ (by decide) (by decide)).2) ?_
                  rw [tmod_fix, wrap64_mod]
                  refine r_assign rfl ?_
                  refine J.nil ?_
                  refine jx_then ?_
                  refine jc_region ?_
                  refine r_move rfl ?_
                  refine r_move rfl ?_
                  refine r_lit (α := Int) [_] eo_22 rfl rfl rfl rfl rfl rfl (fun j hj => ⟨⟨_, rfl, rfl, (by first | assumption | (unfold In64; omega))⟩, trivial⟩) ?_; intro v76
                  refine J.shut .hd ?_
                  refine r_append eo_22 rfl rfl rfl (by decide) (by first | exact .hd | exact .tl .hd | exact .tl (.tl .hd) | exact .tl (.tl (.tl .hd)) | exact .tl (.tl (.tl (.tl .hd))) | exact .tl (.tl (.tl (.tl (.tl .hd)))) | exact .tl (.tl (.tl (.tl (.tl (.tl .hd))))) | exact .tl (.tl (.tl (.tl (.tl (.tl (.tl .hd)))))) | exact .tl (.tl (.tl (.tl (.tl (.tl (.tl (.tl .hd)))))))) (by first | assumption | (repeat (first | assumption | exact List.Mem.head _ | refine .tail _ ?_))) (fun w hs => by have : maxN = 16777216 := rfl; simp only [List.length_nil, List.length_cons, List.length_take, List.length_append, List.length_replicate]; omega) ?_; intro v77
                  refine r_assign rfl ?_
                  refine J.nil ?_
                  refine jx_block ?_
                  refine jx_then ?_
                  refine jc_region ?_
                  refine r_bin rfl rfl (b_add (by omega) (by omega)) ?_
                  refine r_move rfl ?_
                  refine J.nil ?_
                  refine jx_head (k + 1, v77) (by show k + 1 ≤ m.length; omega) (by show m.length - (k + 1) < m.length - k; omega) ⟨rfl, rfl, ?_, rfl, rfl, rfl, trivial⟩ (fun w hs => ?_)
                  · exact congrArg (fun z => some (vi z)) (show x = if o.line < ((k + 1 : Nat) : Int) then (opVal e o).2 else 0 by rw [if_pos (by omega), hv])
                  · have hx' : (m.set o.line.toNat (opVal e o).1)[k]? = some ((x + o.value) % 256) := by rw [hv, show o.line.toNat = k by omega, List.getElem?_set_self (by omega)]
                    show St (row 3 v77 ((m.set o.line.toNat (opVal e o).1).take (k + 1)) :: _) R w
                    rw [List.take_add_one, hx']; exact hs.sub (by repeat (first | exact .refl | exact .nil | refine .cons (by first | exact .hd | exact .tl .hd | exact .tl (.tl .hd) | exact .tl (.tl (.tl .hd)) | exact .tl (.tl (.tl (.tl .hd))) | exact .tl (.tl (.tl (.tl (.tl .hd)))) | exact .tl (.tl (.tl (.tl (.tl (.tl .hd))))) | exact .tl (.tl (.tl (.tl (.tl (.tl (.tl .hd)))))) | exact .tl (.tl (.tl (.tl (.tl (.tl (.tl (.tl .hd)))))))) ?_ | refine .drop ?_)) (by repeat (first | exact FSub.refl | exact FSub.nil | refine FSub.cons (by first | assumption | (repeat (first | assumption | exact List.Mem.head _ | refine .tail _ ?_))) ?_ | refine FSub.drop ?_))
                · -- case 4
                  have hek : e = x := by rw [show o.line.toNat = k by omega, hx] at he; exact (Option.some.inj he).symm
                  have hv : opVal e o = (x, 0) := by rw [hek]; unfold opVal; rw [if_neg (by omega), if_neg (by omega), if_neg (by omega)]
                  refine jc_region ?_
                  refine r_move rfl ?_
                  first | refine r_fieldAddr fo_24_1 rfl ?_ | refine r_fieldAddrE fo_24_1 rfl (by first | exact len_row (by first | exact .hd | exact .tl .hd | exact .tl (.tl .hd) | exact .tl (.tl (.tl .hd)) | exact .tl (.tl (.tl (.tl .hd))) | exact .tl (.tl (.tl (.tl (.tl .hd)))) | exact .tl (.tl (.tl (.tl (.tl (.tl .hd))))) | exact .tl (.tl (.tl (.tl (.tl (.tl (.tl .hd)))))) | exact .tl (.tl (.tl (.tl (.tl (.tl (.tl (.tl .hd)))))))) | exact len_sl (by first | assumption | (repeat (first | assumption | exact List.Mem.head _ | refine .tail _ ?_)))) (by first | assumption | omega | simp) ?_
                  first
                    | (refine r_load1 Try.isAgg3 rfl (at_blk1 (by first | exact .hd | exact .tl .hd | exact .tl (.tl .hd) | exact .tl (.tl (.tl .hd)) | exact .tl (.tl (.tl (.tl .hd))) | exact .tl (.tl (.tl (.tl (.tl .hd)))) | exact .tl (.tl (.tl (.tl (.tl (.tl .hd))))) | exact .tl (.tl (.tl (.tl (.tl (.tl (.tl .hd)))))) | exact .tl (.tl (.tl (.tl (.tl (.tl (.tl (.tl .hd)))))))) (by exact rfl)) ?_)
                    | (refine r_load1 Try.isAgg3 rfl (at_int (by first | assumption | (repeat (first | assumption | exact List.Mem.head _ | refine .tail _ ?_))) (by assumption)) ?_)
                  refine r_bin rfl rfl (b_eql_T (by omega)) ?_
                  refine J.nil ?_
                  refine jx_then ?_
                  repeat refine jc_seq ?_
                  refine jc_condT rfl ?_
                  repeat refine jc_seq ?_
                  refine jc_region ?_
                  first | refine r_fieldAddr fo_24_0 rfl ?_ | refine r_fieldAddrE fo_24_0 rfl (by first | exact len_row (by first | exact .hd | exact .tl .hd | exact .tl (.tl .hd) | exact .tl (.tl (.tl .hd)) | exact .tl (.tl (.tl (.tl .hd))) | exact .tl (.tl (.tl (.tl (.tl .hd)))) | exact .tl (.tl (.tl (.tl (.tl (.tl .hd))))) | exact .tl (.tl (.tl (.tl (.tl (.tl (.tl .hd)))))) | exact .tl (.tl (.tl (.tl (.tl (.tl (.tl (.tl .hd)))))))) | exact len_sl (by first | assumption | (repeat (first | assumption | exact List.Mem.head _ | refine .tail _ ?_)))) (by first | assumption | omega | simp) ?_
                  first
                    | (refine r_load1 Try.isAgg3 rfl (at_blk1 (by first | exact .hd | exact .tl .hd | exact .tl (.tl .hd) | exact .tl (.tl (.tl .hd)) | exact .tl (.tl (.tl (.tl .hd))) | exact .tl (.tl (.tl (.tl (.tl .hd)))) | exact .tl (.tl (.tl (.tl (.tl (.tl .hd))))) | exact .tl (.tl (.tl (.tl (.tl (.tl (.tl .hd)))))) | exact .tl (.tl (.tl (.tl (.tl (.tl (.tl (.tl .hd)))))))) (by exact rfl)) ?_)
                    | (refine r_load1 Try.isAgg3 rfl (at_int (by first | assumption | (repeat (first | assumption | exact List.Mem.head _ | refine .tail _ ?_))) (by assumption)) ?_)
                  refine r_bin rfl rfl (b_eql_F (by omega)) ?_
                  refine r_move rfl ?_
                  refine J.guardYes ?_ ?_
                  · exact rfl
                  first | refine r_fieldAddr fo_24_0 rfl ?_ | refine r_fieldAddrE fo_24_0 rfl (by first | exact len_row (by first | exact .hd | exact .tl .hd | exact .tl (.tl .hd) | exact .tl (.tl (.tl .hd)) | exact .tl (.tl (.tl (.tl .hd))) | exact .tl (.tl (.tl (.tl (.tl .hd)))) | exact .tl (.tl (.tl (.tl (.tl (.tl .hd))))) | exact .tl (.tl (.tl (.tl (.tl (.tl (.tl .hd)))))) | exact .tl (.tl (.tl (.tl (.tl (.tl (.tl (.tl .hd)))))))) | exact len_sl (by first | assumption | (repeat (first | assumption | exact List.Mem.head _ | refine .tail _ ?_)))) (by first | assumption | omega | simp) ?_
                  refine J.guardYes ?_ ?_
                  · exact rfl
                  first
                    | (refine r_load1 Try.isAgg3 rfl (at_blk1 (by first | exact .hd | exact .tl .hd | exact .tl (.tl .hd) | exact .tl (.tl (.tl .hd)) | exact .tl (.tl (.tl (.tl .hd))) | exact .tl (.tl (.tl (.tl (.tl .hd)))) | exact .tl (.tl (.tl (.tl (.tl (.tl .hd))))) | exact .tl (.tl (.tl (.tl (.tl (.tl (.tl .hd)))))) | exact .tl (.tl (.tl (.tl (.tl (.tl (.tl (.tl .hd)))))))) (by exact rfl)) ?_)
                    | (refine r_load1 Try.isAgg3 rfl (at_int (by first | assumption | (repeat (first | assumption | exact List.Mem.head _ | refine .tail _ ?_))) (by assumption)) ?_)
                  refine J.guardYes ?_ ?_
                  · exact rfl
                  refine r_bin rfl rfl (b_eql_F (by omega)) ?_
                  refine r_pickF rfl rfl ?_
                  refine J.nil ?_
                  refine jx_then ?_
                  repeat refine jc_seq ?_
                  refine jc_condF rfl ?_
                  refine jc_skip ?_
                  refine jx_then ?_
                  repeat refine jc_seq ?_
                  refine jc_region ?_
                  first | refine r_fieldAddr fo_24_0 rfl ?_ | refine r_fieldAddrE fo_24_0 rfl (by first | exact len_row (by first | exact .hd | exact .tl .hd | exact .tl (.tl .hd) | exact .tl (.tl (.tl .hd)) | exact .tl (.tl (.tl (.tl .hd))) | exact .tl (.tl (.tl (.tl (.tl .hd)))) | exact .tl (.tl (.tl (.tl (.tl (.tl .hd))))) | exact .tl (.tl (.tl (.tl (.tl (.tl (.tl .hd)))))) | exact .tl (.tl (.tl (.tl (.tl (.tl (.tl (.tl .hd)))))))) | exact len_sl (by first | assumption | (repeat (first | assumption | exact List.Mem.head _ | refine .tail _ ?_)))) (by first | assumption | omega | simp) ?_
                  first
                    | (refine r_load1 Try.isAgg3 rfl (at_blk1 (by first | exact .hd | exact .tl .hd | exact .tl (.tl .hd) | exact .tl (.tl (.tl .hd)) | exact .tl (.tl (.tl (.tl .hd))) | exact .tl (.tl (.tl (.tl (.tl .hd)))) | exact .tl (.tl (.tl (.tl (.tl (.tl .hd))))) | exact .tl (.tl (.tl (.tl (.tl (.tl (.tl .hd)))))) | exact .tl (.tl (.tl (.tl (.tl (.tl (.tl (.tl .hd)))))))) (by exact rfl)) ?_)
                    | (refine r_load1 Try.isAgg3 rfl (at_int (by first | assumption | (repeat (first | assumption | exact List.Mem.head _ | refine .tail _ ?_))) (by assumption)) ?_)
                  refine r_bin rfl rfl (b_eql_F (by omega)) ?_
                  refine J.nil ?_
                  refine jx_then ?_
                  repeat refine jc_seq ?_
                  refine jc_condF rfl ?_
                  refine jc_skip ?_
                  refine jx_then ?_
                  repeat refine jc_seq ?_
                  refine jc_region ?_
                  first | refine r_fieldAddr fo_24_0 rfl ?_ | refine r_fieldAddrE fo_24_0 rfl (by first | exact len_row (by first | exact .hd | exact .tl .hd | exact .tl (.tl .hd) | exact .tl (.tl (.tl .hd)) | exact .tl (.tl (.tl (.tl .hd))) | exact .tl (.tl (.tl (.tl (.tl .hd)))) | exact .tl (.tl (.tl (.tl (.tl (.tl .hd))))) | exact .tl (.tl (.tl (.tl (.tl (.tl (.tl .hd)))))) | exact .tl (.tl (.tl (.tl (.tl (.tl (.tl (.tl .hd)))))))) | exact len_sl (by first | assumption | (repeat (first | assumption | exact List.Mem.head _ | refine .tail _ ?_)))) (by first | assumption | omega | simp) ?_
                  first
                    | (refine r_load1 Try.isAgg3 rfl (at_blk1 (by first | exact .hd | exact .tl .hd | exact .tl (.tl .hd) | exact .tl (.tl (.tl .hd)) | exact .tl (.tl (.tl (.tl .hd))) | exact .tl (.tl (.tl (.tl (.tl .hd)))) | exact .tl (.tl (.tl (.tl (.tl (.tl .hd))))) | exact .tl (.tl (.tl (.tl (.tl (.tl (.tl .hd)))))) | exact .tl (.tl (.tl (.tl (.tl (.tl (.tl (.tl .hd)))))))) (by exact rfl)) ?_)
                    | (refine r_load1 Try.isAgg3 rfl (at_int (by first | assumption | (repeat (first | assumption | exact List.Mem.head _ | refine .tail _ ?_))) (by assumption)) ?_)
                  refine r_bin rfl rfl (b_eql_F (by omega)) ?_
                  refine J.nil ?_
                  refine jx_then ?_
                  refine jc_condF rfl ?_
                  refine jc_skip ?_
                  refine jx_then ?_
                  refine jc_region ?_
                  refine r_move rfl ?_
                  refine r_move rfl ?_
                  refine r_lit (α := Int) [_] eo_22 rfl rfl rfl rfl rfl rfl (fun j hj => ⟨⟨_, rfl, rfl, (by first | assumption | (unfold In64; omega))⟩, trivial⟩) ?_; intro v76
                  refine J.shut .hd ?_
                  refine r_append eo_22 rfl rfl rfl (by decide) (by first | exact .hd | exact .tl .hd | exact .tl (.tl .hd) | exact .tl (.tl (.tl .hd)) | exact .tl (.tl (.tl (.tl .hd))) | exact .tl (.tl (.tl (.tl (.tl .hd)))) | exact .tl (.tl (.tl (.tl (.tl (.tl .hd))))) | exact .tl (.tl (.tl (.tl (.tl (.tl (.tl .hd)))))) | exact .tl (.tl (.tl (.tl (.tl (.tl (.tl (.tl .hd)))))))) (by first | assumption | (repeat (first | assumption | exact List.Mem.head _ | refine .tail _ ?_))) (fun w hs => by have : maxN = 16777216 := rfl; simp only [List.length_nil, List.length_cons, List.length_take, List.length_append, List.length_replicate]; omega) ?_; intro v77
                  refine r_assign rfl ?_
                  refine J.nil ?_
                  refine jx_block ?_
                  refine jx_then ?_
                  refine jc_region ?_
                  refine r_bin rfl rfl (b_add (by omega) (by omega)) ?_
                  refine r_move rfl ?_
                  refine J.nil ?_
                  refine jx_head (k + 1, v77) (by show k + 1 ≤ m.length; omega) (by show m.length - (k + 1) < m.length - k; omega) ⟨rfl, rfl, ?_, rfl, rfl, rfl, trivial⟩ (fun w hs => ?_)
                  · exact congrArg (fun z => some (vi z)) (show (if o.line < (k : Int) then (opVal e o).2 else 0) = if o.line < ((k + 1 : Nat) : Int) then (opVal e o).2 else 0 by rw [if_neg (show ¬ o.line < (k : Int) by omega), if_pos (show o.line < ((k + 1 : Nat) : Int) by omega), hv])
                  · have hx' : (m.set o.line.toNat (opVal e o).1)[k]? = some (x) := by rw [hv, show o.line.toNat = k by omega, List.getElem?_set_self (by omega)]
                    show St (row 3 v77 ((m.set o.line.toNat (opVal e o).1).take (k + 1)) :: _) R w
                    rw [List.take_add_one, hx']; exact hs.sub (by repeat (first | exact .refl | exact .nil | refine .cons (by first | exact .hd | exact .tl .hd | exact .tl (.tl .hd) | exact .tl (.tl (.tl .hd)) | exact .tl (.tl (.tl (.tl .hd))) | exact .tl (.tl (.tl (.tl (.tl .hd)))) | exact .tl (.tl (.tl (.tl (.tl (.tl .hd))))) | exact .tl (.tl (.tl (.tl (.tl (.tl (.tl .hd)))))) | exact .tl (.tl (.tl (.tl (.tl (.tl (.tl (.tl .hd)))))))) ?_ | refine .drop ?_)) (by repeat (first | exact FSub.refl | exact FSub.nil | refine FSub.cons (by first | assumption | (repeat (first | assumption | exact List.Mem.head _ | refine .tail _ ?_))) ?_ | refine FSub.drop ?_))
              · -- t42 False
                try simp only [decide_eq_true_eq, decide_eq_false_iff_not, beq_iff_eq, bne_iff_ne, beq_eq_false_iff_ne, bne_eq_false_iff_eq, Int.not_lt, Int.not_le, Bool.not_eq_true, ne_eq] at ht42
                refine jc_exit ?_
                repeat (first | refine jx_thenExit ?_ | refine jx_blockMiss rfl ?_)
                refine jx_blockHit ?_
                refine jx_then ?_
                repeat refine jc_seq ?_
                refine jc_region ?_
                refine r_move rfl ?_
                refine r_move rfl ?_
                refine r_assign rfl ?_
                refine r_assign rfl ?_
                refine r_assign rfl ?_
                refine J.nil ?_
                refine jx_then ?_
                refine jc_ret ?_
                repeat (first | refine jx_thenRet ?_ | refine jx_blockRet ?_)
                refine jx_body (.inr rfl) (fun B w hs => res3 rfl rfl rfl rfl B w) (fun w hs => ?_)
                rw [hd]
                refine ⟨v, by rw [if_pos (by omega)], ?_⟩
                rw [List.take_of_length_le (by rw [List.length_set]; omega)] at hs
                exact (St.shut (hs.pick (by first | exact .hd | exact .tl .hd | exact .tl (.tl .hd) | exact .tl (.tl (.tl .hd)) | exact .tl (.tl (.tl (.tl .hd))) | exact .tl (.tl (.tl (.tl (.tl .hd)))) | exact .tl (.tl (.tl (.tl (.tl (.tl .hd))))) | exact .tl (.tl (.tl (.tl (.tl (.tl (.tl .hd)))))) | exact .tl (.tl (.tl (.tl (.tl (.tl (.tl (.tl .hd)))))))))).sub (by repeat (first | exact .refl | exact .nil | refine .cons (by first | exact .hd | exact .tl .hd | exact .tl (.tl .hd) | exact .tl (.tl (.tl .hd)) | exact .tl (.tl (.tl (.tl .hd))) | exact .tl (.tl (.tl (.tl (.tl .hd)))) | exact .tl (.tl (.tl (.tl (.tl (.tl .hd))))) | exact .tl (.tl (.tl (.tl (.tl (.tl (.tl .hd)))))) | exact .tl (.tl (.tl (.tl (.tl (.tl (.tl (.tl .hd)))))))) ?_ | refine .drop ?_)) (by repeat (first | exact FSub.refl | exact FSub.nil | refine FSub.cons (by first | assumption | (repeat (first | assumption | exact List.Mem.head _ | refine .tail _ ?_))) ?_ | refine FSub.drop ?_))
end Go.Proofs.Ytfdkkncmpjbkbaa
