/- This file proves what flat.New, flat.Do, flat.Play and their twins compute. No conditions. -/
import Derived.Test.YtfdkkncmpjbkbaaFacts
import Derived.Test.YtfdkkncmpjbkbaaFlat
set_option linter.unusedVariables false
set_option linter.unusedSimpArgs false
set_option maxHeartbeats 1000000
namespace Go.Proofs.Ytfdkkncmpjbkbaa
open Go
theorem flatNew_calls {L : List Chunk} {R : List Fact} {w : World} {lines : Int} (hl : lines ≤ 100000) (hs : St L R w) : Calls Try.prog 46 [vi lines].toArray w (Post (fun v : Value => v) (fun _ => L) (fun v => sl v (zeros lines) :: R)) := by
  refine calls_args Try.func46 rfl Try.ntmps46 rfl hs ?_
  clear hs
  repeat refine jc_seq ?_
  refine jc_region ?_
  refine r_assign rfl ?_
  refine J.nil ?_
  refine jx_then ?_
  repeat refine jc_seq ?_
  refine jc_region ?_
  refine r_move rfl ?_
  refine r_max rfl rfl ?_
  refine r_make (α := Int) (x0 := 0) (zc := [vi 0]) eo_22 rfl (by decide) rfl rfl rfl (fun j => ⟨rfl, by unfold In64; omega⟩) (by omega) (by omega) ?_; intro v5
  refine r_assign rfl ?_
  refine J.nil ?_
  refine jx_then ?_
  refine jc_ret ?_
  repeat (first | refine jx_thenRet ?_ | refine jx_blockRet ?_)
  refine jx_body (.inr rfl) (fun B w hs => res1 rfl rfl B w) (fun w hs => ?_)
  refine ⟨v5, rfl, ?_⟩
  have h := hs.shut
  rw [show (max lines 0).toNat = lines.toNat by omega] at h
  exact h
theorem flatDo_calls {L : List Chunk} {R : List Fact} {w : World} {v1 : Value} {m : List Int} {o : Op} (hs : St L R w) (h1 : sl v1 m ∈ R) : Calls Try.prog 41 [v1, .agg o.cells.toArray].toArray w (Post (fun v : Value => .tuple #[v, vi (flatDo m o).2.1, vi (flatDo m o).2.2]) (fun _ => L) (fun v => sl v (flatDo m o).1 :: R)) := by
  have hlen := sl_len h1 hs
  have hin0 : ∀ (i : Nat) (x : Int), m[i]? = some x → In64 x := fun i x hx => by obtain ⟨cs, j, hr⟩ := sl_rd h1 hx hs; exact hr.2
  refine calls_args Try.func41 rfl Try.ntmps41 rfl hs ?_
  clear hs
  repeat refine jc_seq ?_
  refine jc_region ?_
  refine r_box rfl rfl ?_; intro b3
  refine r_assign rfl ?_
  refine r_assign rfl ?_
  refine r_assign rfl ?_
  refine J.nil ?_
  refine jx_then ?_
  repeat refine jc_seq ?_
  refine jc_block ?_
  repeat refine jc_seq ?_
  refine jc_region ?_
  first | refine r_fieldAddr fo_24_0 rfl ?_ | refine r_fieldAddrE fo_24_0 rfl (by first | exact len_row (by first | exact .hd | exact .tl .hd | exact .tl (.tl .hd) | exact .tl (.tl (.tl .hd)) | exact .tl (.tl (.tl (.tl .hd))) | exact .tl (.tl (.tl (.tl (.tl .hd)))) | exact .tl (.tl (.tl (.tl (.tl (.tl .hd))))) | exact .tl (.tl (.tl (.tl (.tl (.tl (.tl .hd)))))) | exact .tl (.tl (.tl (.tl (.tl (.tl (.tl (.tl .hd)))))))) | exact len_sl (by first | assumption | (repeat (first | assumption | exact List.Mem.head _ | refine .tail _ ?_)))) (by first | assumption | omega | simp) ?_
  first
    | (refine r_load1 Try.isAgg3 rfl (at_blk1 (by first | exact .hd | exact .tl .hd | exact .tl (.tl .hd) | exact .tl (.tl (.tl .hd)) | exact .tl (.tl (.tl (.tl .hd))) | exact .tl (.tl (.tl (.tl (.tl .hd)))) | exact .tl (.tl (.tl (.tl (.tl (.tl .hd))))) | exact .tl (.tl (.tl (.tl (.tl (.tl (.tl .hd)))))) | exact .tl (.tl (.tl (.tl (.tl (.tl (.tl (.tl .hd)))))))) (by exact rfl)) ?_)
    | (refine r_load1 Try.isAgg3 rfl (at_int (by first | assumption | (repeat (first | assumption | exact List.Mem.head _ | refine .tail _ ?_))) (by assumption)) ?_)
  refine r_bin rfl rfl b_lss ?_
  refine r_move rfl ?_
  refine j_cases (t := 13) (b := ?b1) ?e1 ?_ ?_
  case e1 => exact rfl
  · -- t13 True
    intro ht13
    try simp only [decide_eq_true_eq, decide_eq_false_iff_not, beq_iff_eq, bne_iff_ne, beq_eq_false_iff_ne, bne_eq_false_iff_eq, Int.not_lt, Int.not_le, Bool.not_eq_true, ne_eq] at ht13
    refine J.guardNo ?_ ?_
    · exact rfl
    refine J.guardNo ?_ ?_
    · exact rfl
    refine J.guardNo ?_ ?_
    · exact rfl
    refine r_pickT rfl rfl ?_
    refine r_assign rfl ?_
    refine J.nil ?_
    refine jx_then ?_
    refine jc_condT rfl ?_
    repeat refine jc_seq ?_
    refine jc_region ?_
    refine r_assign rfl ?_
    refine r_assign rfl ?_
    refine r_assign rfl ?_
    refine J.nil ?_
    refine jx_then ?_
    refine jc_ret ?_
    repeat (first | refine jx_thenRet ?_ | refine jx_blockRet ?_)
    have hk : o.kind < 1 ∨ 4 < o.kind := by omega
    refine jx_body (.inr rfl) (fun B w hs => res3 rfl rfl rfl rfl B w) (fun w hs => ?_)
    refine ⟨.slice none 0 0, ?_, ?_⟩
    · rw [flatDo_kind hk]
    · rw [flatDo_kind hk]; exact (St.shut (hs.rowNil 0 Int)).sub (by repeat (first | exact .refl | exact .nil | refine .cons (by first | exact .hd | exact .tl .hd | exact .tl (.tl .hd) | exact .tl (.tl (.tl .hd)) | exact .tl (.tl (.tl (.tl .hd))) | exact .tl (.tl (.tl (.tl (.tl .hd)))) | exact .tl (.tl (.tl (.tl (.tl (.tl .hd))))) | exact .tl (.tl (.tl (.tl (.tl (.tl (.tl .hd)))))) | exact .tl (.tl (.tl (.tl (.tl (.tl (.tl (.tl .hd)))))))) ?_ | refine .drop ?_)) (by repeat (first | exact FSub.refl | exact FSub.nil | refine FSub.cons (by first | assumption | (repeat (first | assumption | exact List.Mem.head _ | refine .tail _ ?_))) ?_ | refine FSub.drop ?_))
  · -- t13 False
    intro ht13
    try simp only [decide_eq_true_eq, decide_eq_false_iff_not, beq_iff_eq, bne_iff_ne, beq_eq_false_iff_ne, bne_eq_false_iff_eq, Int.not_lt, Int.not_le, Bool.not_eq_true, ne_eq] at ht13
    refine J.guardYes ?_ ?_
    · exact rfl
    first | refine r_fieldAddr fo_24_0 rfl ?_ | refine r_fieldAddrE fo_24_0 rfl (by first | exact len_row (by first | exact .hd | exact .tl .hd | exact .tl (.tl .hd) | exact .tl (.tl (.tl .hd)) | exact .tl (.tl (.tl (.tl .hd))) | exact .tl (.tl (.tl (.tl (.tl .hd)))) | exact .tl (.tl (.tl (.tl (.tl (.tl .hd))))) | exact .tl (.tl (.tl (.tl (.tl (.tl (.tl .hd)))))) | exact .tl (.tl (.tl (.tl (.tl (.tl (.tl (.tl .hd)))))))) | exact len_sl (by first | assumption | (repeat (first | assumption | exact List.Mem.head _ | refine .tail _ ?_)))) (by first | assumption | omega | simp) ?_
    refine J.guardYes ?_ ?_
    · exact rfl
    first
      | (refine r_load1 Try.isAgg3 rfl (at_blk1 (by first | exact .hd | exact .tl .hd | exact .tl (.tl .hd) | exact .tl (.tl (.tl .hd)) | exact .tl (.tl (.tl (.tl .hd))) | exact .tl (.tl (.tl (.tl (.tl .hd)))) | exact .tl (.tl (.tl (.tl (.tl (.tl .hd))))) | exact .tl (.tl (.tl (.tl (.tl (.tl (.tl .hd)))))) | exact .tl (.tl (.tl (.tl (.tl (.tl (.tl (.tl .hd)))))))) (by exact rfl)) ?_)
      | (refine r_load1 Try.isAgg3 rfl (at_int (by first | assumption | (repeat (first | assumption | exact List.Mem.head _ | refine .tail _ ?_))) (by assumption)) ?_)
    refine J.guardYes ?_ ?_
    · exact rfl
    refine r_bin rfl rfl b_gtr ?_
    refine r_pickF rfl rfl ?_
    refine r_assign rfl ?_
    refine J.nil ?_
    refine jx_then ?_
    refine jc_cond rfl (fun ht9 => ?_) (fun ht9 => ?_)
    · -- t9 True
      try simp only [decide_eq_true_eq, decide_eq_false_iff_not, beq_iff_eq, bne_iff_ne, beq_eq_false_iff_ne, bne_eq_false_iff_eq, Int.not_lt, Int.not_le, Bool.not_eq_true, ne_eq] at ht9
      repeat refine jc_seq ?_
      refine jc_region ?_
      refine r_assign rfl ?_
      refine r_assign rfl ?_
      refine r_assign rfl ?_
      refine J.nil ?_
      refine jx_then ?_
      refine jc_ret ?_
      repeat (first | refine jx_thenRet ?_ | refine jx_blockRet ?_)
      have hk : o.kind < 1 ∨ 4 < o.kind := by omega
      refine jx_body (.inr rfl) (fun B w hs => res3 rfl rfl rfl rfl B w) (fun w hs => ?_)
      refine ⟨.slice none 0 0, ?_, ?_⟩
      · rw [flatDo_kind hk]
      · rw [flatDo_kind hk]; exact (St.shut (hs.rowNil 0 Int)).sub (by repeat (first | exact .refl | exact .nil | refine .cons (by first | exact .hd | exact .tl .hd | exact .tl (.tl .hd) | exact .tl (.tl (.tl .hd)) | exact .tl (.tl (.tl (.tl .hd))) | exact .tl (.tl (.tl (.tl (.tl .hd)))) | exact .tl (.tl (.tl (.tl (.tl (.tl .hd))))) | exact .tl (.tl (.tl (.tl (.tl (.tl (.tl .hd)))))) | exact .tl (.tl (.tl (.tl (.tl (.tl (.tl (.tl .hd)))))))) ?_ | refine .drop ?_)) (by repeat (first | exact FSub.refl | exact FSub.nil | refine FSub.cons (by first | assumption | (repeat (first | assumption | exact List.Mem.head _ | refine .tail _ ?_))) ?_ | refine FSub.drop ?_))
    · -- t9 False
      try simp only [decide_eq_true_eq, decide_eq_false_iff_not, beq_iff_eq, bne_iff_ne, beq_eq_false_iff_ne, bne_eq_false_iff_eq, Int.not_lt, Int.not_le, Bool.not_eq_true, ne_eq] at ht9
      repeat refine jc_seq ?_
      refine jc_region ?_
      first | refine r_fieldAddr fo_24_1 rfl ?_ | refine r_fieldAddrE fo_24_1 rfl (by first | exact len_row (by first | exact .hd | exact .tl .hd | exact .tl (.tl .hd) | exact .tl (.tl (.tl .hd)) | exact .tl (.tl (.tl (.tl .hd))) | exact .tl (.tl (.tl (.tl (.tl .hd)))) | exact .tl (.tl (.tl (.tl (.tl (.tl .hd))))) | exact .tl (.tl (.tl (.tl (.tl (.tl (.tl .hd)))))) | exact .tl (.tl (.tl (.tl (.tl (.tl (.tl (.tl .hd)))))))) | exact len_sl (by first | assumption | (repeat (first | assumption | exact List.Mem.head _ | refine .tail _ ?_)))) (by first | assumption | omega | simp) ?_
      first
        | (refine r_load1 Try.isAgg3 rfl (at_blk1 (by first | exact .hd | exact .tl .hd | exact .tl (.tl .hd) | exact .tl (.tl (.tl .hd)) | exact .tl (.tl (.tl (.tl .hd))) | exact .tl (.tl (.tl (.tl (.tl .hd)))) | exact .tl (.tl (.tl (.tl (.tl (.tl .hd))))) | exact .tl (.tl (.tl (.tl (.tl (.tl (.tl .hd)))))) | exact .tl (.tl (.tl (.tl (.tl (.tl (.tl (.tl .hd)))))))) (by exact rfl)) ?_)
        | (refine r_load1 Try.isAgg3 rfl (at_int (by first | assumption | (repeat (first | assumption | exact List.Mem.head _ | refine .tail _ ?_))) (by assumption)) ?_)
      refine r_bin rfl rfl b_lss ?_
      refine r_move rfl ?_
      refine j_cases (t := 22) (b := ?b2) ?e2 ?_ ?_
      case e2 => exact rfl
      · -- t22 True
        intro ht22
        try simp only [decide_eq_true_eq, decide_eq_false_iff_not, beq_iff_eq, bne_iff_ne, beq_eq_false_iff_ne, bne_eq_false_iff_eq, Int.not_lt, Int.not_le, Bool.not_eq_true, ne_eq] at ht22
        refine J.guardNo ?_ ?_
        · exact rfl
        refine J.guardNo ?_ ?_
        · exact rfl
        refine J.guardNo ?_ ?_
        · exact rfl
        refine J.guardNo ?_ ?_
        · exact rfl
        refine J.guardNo ?_ ?_
        · exact rfl
        refine r_pickT rfl rfl ?_
        refine r_move rfl ?_
        refine J.guardNo ?_ ?_
        · exact rfl
        refine J.guardNo ?_ ?_
        · exact rfl
        refine J.guardNo ?_ ?_
        · exact rfl
        refine r_pickT rfl rfl ?_
        refine r_move rfl ?_
        refine J.guardNo ?_ ?_
        · exact rfl
        refine J.guardNo ?_ ?_
        · exact rfl
        refine J.guardNo ?_ ?_
        · exact rfl
        refine r_pickT rfl rfl ?_
        refine r_assign rfl ?_
        refine J.nil ?_
        refine jx_then ?_
        refine jc_condT rfl ?_
        repeat refine jc_seq ?_
        refine jc_region ?_
        refine r_assign rfl ?_
        refine r_assign rfl ?_
        refine r_assign rfl ?_
        refine J.nil ?_
        refine jx_then ?_
        refine jc_ret ?_
        repeat (first | refine jx_thenRet ?_ | refine jx_blockRet ?_)
        have hk : ¬ (o.kind < 1 ∨ 4 < o.kind) := by omega
        have hr : o.line < 0 ∨ (m.length : Int) ≤ o.line ∨ o.value < 0 ∨ 255 < o.value := by omega
        refine jx_body (.inr rfl) (fun B w hs => res3 rfl rfl rfl rfl B w) (fun w hs => ?_)
        refine ⟨.slice none 0 0, ?_, ?_⟩
        · rw [flatDo_range hk hr]
        · rw [flatDo_range hk hr]; exact (St.shut (hs.rowNil 0 Int)).sub (by repeat (first | exact .refl | exact .nil | refine .cons (by first | exact .hd | exact .tl .hd | exact .tl (.tl .hd) | exact .tl (.tl (.tl .hd)) | exact .tl (.tl (.tl (.tl .hd))) | exact .tl (.tl (.tl (.tl (.tl .hd)))) | exact .tl (.tl (.tl (.tl (.tl (.tl .hd))))) | exact .tl (.tl (.tl (.tl (.tl (.tl (.tl .hd)))))) | exact .tl (.tl (.tl (.tl (.tl (.tl (.tl (.tl .hd)))))))) ?_ | refine .drop ?_)) (by repeat (first | exact FSub.refl | exact FSub.nil | refine FSub.cons (by first | assumption | (repeat (first | assumption | exact List.Mem.head _ | refine .tail _ ?_))) ?_ | refine FSub.drop ?_))
      · -- t22 False
        intro ht22
        try simp only [decide_eq_true_eq, decide_eq_false_iff_not, beq_iff_eq, bne_iff_ne, beq_eq_false_iff_ne, bne_eq_false_iff_eq, Int.not_lt, Int.not_le, Bool.not_eq_true, ne_eq] at ht22
        refine J.guardYes ?_ ?_
        · exact rfl
        first | refine r_fieldAddr fo_24_1 rfl ?_ | refine r_fieldAddrE fo_24_1 rfl (by first | exact len_row (by first | exact .hd | exact .tl .hd | exact .tl (.tl .hd) | exact .tl (.tl (.tl .hd)) | exact .tl (.tl (.tl (.tl .hd))) | exact .tl (.tl (.tl (.tl (.tl .hd)))) | exact .tl (.tl (.tl (.tl (.tl (.tl .hd))))) | exact .tl (.tl (.tl (.tl (.tl (.tl (.tl .hd)))))) | exact .tl (.tl (.tl (.tl (.tl (.tl (.tl (.tl .hd)))))))) | exact len_sl (by first | assumption | (repeat (first | assumption | exact List.Mem.head _ | refine .tail _ ?_)))) (by first | assumption | omega | simp) ?_
        refine J.guardYes ?_ ?_
        · exact rfl
        first
          | (refine r_load1 Try.isAgg3 rfl (at_blk1 (by first | exact .hd | exact .tl .hd | exact .tl (.tl .hd) | exact .tl (.tl (.tl .hd)) | exact .tl (.tl (.tl (.tl .hd))) | exact .tl (.tl (.tl (.tl (.tl .hd)))) | exact .tl (.tl (.tl (.tl (.tl (.tl .hd))))) | exact .tl (.tl (.tl (.tl (.tl (.tl (.tl .hd)))))) | exact .tl (.tl (.tl (.tl (.tl (.tl (.tl (.tl .hd)))))))) (by exact rfl)) ?_)
          | (refine r_load1 Try.isAgg3 rfl (at_int (by first | assumption | (repeat (first | assumption | exact List.Mem.head _ | refine .tail _ ?_))) (by assumption)) ?_)
        refine J.guardYes ?_ ?_
        · exact rfl
        refine r_move rfl ?_
        refine J.guardYes ?_ ?_
        · exact rfl
        refine r_len Try.underlying22 rfl (by first | exact len_row (by first | exact .hd | exact .tl .hd | exact .tl (.tl .hd) | exact .tl (.tl (.tl .hd)) | exact .tl (.tl (.tl (.tl .hd))) | exact .tl (.tl (.tl (.tl (.tl .hd)))) | exact .tl (.tl (.tl (.tl (.tl (.tl .hd))))) | exact .tl (.tl (.tl (.tl (.tl (.tl (.tl .hd)))))) | exact .tl (.tl (.tl (.tl (.tl (.tl (.tl (.tl .hd)))))))) | exact len_sl (by first | assumption | (repeat (first | assumption | exact List.Mem.head _ | refine .tail _ ?_)))) ?_
        refine J.guardYes ?_ ?_
        · exact rfl
        refine r_bin rfl rfl b_geq ?_
        refine r_pickF rfl rfl ?_
        refine r_move rfl ?_
        refine j_cases (t := 29) (b := ?b3) ?e3 ?_ ?_
        case e3 => exact rfl
        · -- t29 True
          intro ht29
          try simp only [decide_eq_true_eq, decide_eq_false_iff_not, beq_iff_eq, bne_iff_ne, beq_eq_false_iff_ne, bne_eq_false_iff_eq, Int.not_lt, Int.not_le, Bool.not_eq_true, ne_eq] at ht29
          refine J.guardNo ?_ ?_
          · exact rfl
          refine J.guardNo ?_ ?_
          · exact rfl
          refine J.guardNo ?_ ?_
          · exact rfl
          refine r_pickT rfl rfl ?_
          refine r_move rfl ?_
          refine J.guardNo ?_ ?_
          · exact rfl
          refine J.guardNo ?_ ?_
          · exact rfl
          refine J.guardNo ?_ ?_
          · exact rfl
          refine r_pickT rfl rfl ?_
          refine r_assign rfl ?_
          refine J.nil ?_
          refine jx_then ?_
          refine jc_condT rfl ?_
          repeat refine jc_seq ?_
          refine jc_region ?_
          refine r_assign rfl ?_
          refine r_assign rfl ?_
          refine r_assign rfl ?_
          refine J.nil ?_
          refine jx_then ?_
          refine jc_ret ?_
          repeat (first | refine jx_thenRet ?_ | refine jx_blockRet ?_)
          have hk : ¬ (o.kind < 1 ∨ 4 < o.kind) := by omega
          have hr : o.line < 0 ∨ (m.length : Int) ≤ o.line ∨ o.value < 0 ∨ 255 < o.value := by omega
          refine jx_body (.inr rfl) (fun B w hs => res3 rfl rfl rfl rfl B w) (fun w hs => ?_)
          refine ⟨.slice none 0 0, ?_, ?_⟩
          · rw [flatDo_range hk hr]
          · rw [flatDo_range hk hr]; exact (St.shut (hs.rowNil 0 Int)).sub (by repeat (first | exact .refl | exact .nil | refine .cons (by first | exact .hd | exact .tl .hd | exact .tl (.tl .hd) | exact .tl (.tl (.tl .hd)) | exact .tl (.tl (.tl (.tl .hd))) | exact .tl (.tl (.tl (.tl (.tl .hd)))) | exact .tl (.tl (.tl (.tl (.tl (.tl .hd))))) | exact .tl (.tl (.tl (.tl (.tl (.tl (.tl .hd)))))) | exact .tl (.tl (.tl (.tl (.tl (.tl (.tl (.tl .hd)))))))) ?_ | refine .drop ?_)) (by repeat (first | exact FSub.refl | exact FSub.nil | refine FSub.cons (by first | assumption | (repeat (first | assumption | exact List.Mem.head _ | refine .tail _ ?_))) ?_ | refine FSub.drop ?_))
        · -- t29 False
          intro ht29
          try simp only [decide_eq_true_eq, decide_eq_false_iff_not, beq_iff_eq, bne_iff_ne, beq_eq_false_iff_ne, bne_eq_false_iff_eq, Int.not_lt, Int.not_le, Bool.not_eq_true, ne_eq] at ht29
          refine J.guardYes ?_ ?_
          · exact rfl
          first | refine r_fieldAddr fo_24_2 rfl ?_ | refine r_fieldAddrE fo_24_2 rfl (by first | exact len_row (by first | exact .hd | exact .tl .hd | exact .tl (.tl .hd) | exact .tl (.tl (.tl .hd)) | exact .tl (.tl (.tl (.tl .hd))) | exact .tl (.tl (.tl (.tl (.tl .hd)))) | exact .tl (.tl (.tl (.tl (.tl (.tl .hd))))) | exact .tl (.tl (.tl (.tl (.tl (.tl (.tl .hd)))))) | exact .tl (.tl (.tl (.tl (.tl (.tl (.tl (.tl .hd)))))))) | exact len_sl (by first | assumption | (repeat (first | assumption | exact List.Mem.head _ | refine .tail _ ?_)))) (by first | assumption | omega | simp) ?_
          refine J.guardYes ?_ ?_
          · exact rfl
          first
            | (refine r_load1 Try.isAgg3 rfl (at_blk1 (by first | exact .hd | exact .tl .hd | exact .tl (.tl .hd) | exact .tl (.tl (.tl .hd)) | exact .tl (.tl (.tl (.tl .hd))) | exact .tl (.tl (.tl (.tl (.tl .hd)))) | exact .tl (.tl (.tl (.tl (.tl (.tl .hd))))) | exact .tl (.tl (.tl (.tl (.tl (.tl (.tl .hd)))))) | exact .tl (.tl (.tl (.tl (.tl (.tl (.tl (.tl .hd)))))))) (by exact rfl)) ?_)
            | (refine r_load1 Try.isAgg3 rfl (at_int (by first | assumption | (repeat (first | assumption | exact List.Mem.head _ | refine .tail _ ?_))) (by assumption)) ?_)
          refine J.guardYes ?_ ?_
          · exact rfl
          refine r_bin rfl rfl b_lss ?_
          refine r_pickF rfl rfl ?_
          refine r_move rfl ?_
          refine j_cases (t := 34) (b := ?b4) ?e4 ?_ ?_
          case e4 => exact rfl
          · -- t34 True
            intro ht34
            try simp only [decide_eq_true_eq, decide_eq_false_iff_not, beq_iff_eq, bne_iff_ne, beq_eq_false_iff_ne, bne_eq_false_iff_eq, Int.not_lt, Int.not_le, Bool.not_eq_true, ne_eq] at ht34
            refine J.guardNo ?_ ?_
            · exact rfl
            refine J.guardNo ?_ ?_
            · exact rfl
            refine J.guardNo ?_ ?_
            · exact rfl
            refine r_pickT rfl rfl ?_
            refine r_assign rfl ?_
            refine J.nil ?_
            refine jx_then ?_
            refine jc_condT rfl ?_
            repeat refine jc_seq ?_
            refine jc_region ?_
            refine r_assign rfl ?_
            refine r_assign rfl ?_
            refine r_assign rfl ?_
            refine J.nil ?_
            refine jx_then ?_
            refine jc_ret ?_
            repeat (first | refine jx_thenRet ?_ | refine jx_blockRet ?_)
            have hk : ¬ (o.kind < 1 ∨ 4 < o.kind) := by omega
            have hr : o.line < 0 ∨ (m.length : Int) ≤ o.line ∨ o.value < 0 ∨ 255 < o.value := by omega
            refine jx_body (.inr rfl) (fun B w hs => res3 rfl rfl rfl rfl B w) (fun w hs => ?_)
            refine ⟨.slice none 0 0, ?_, ?_⟩
            · rw [flatDo_range hk hr]
            · rw [flatDo_range hk hr]; exact (St.shut (hs.rowNil 0 Int)).sub (by repeat (first | exact .refl | exact .nil | refine .cons (by first | exact .hd | exact .tl .hd | exact .tl (.tl .hd) | exact .tl (.tl (.tl .hd)) | exact .tl (.tl (.tl (.tl .hd))) | exact .tl (.tl (.tl (.tl (.tl .hd)))) | exact .tl (.tl (.tl (.tl (.tl (.tl .hd))))) | exact .tl (.tl (.tl (.tl (.tl (.tl (.tl .hd)))))) | exact .tl (.tl (.tl (.tl (.tl (.tl (.tl (.tl .hd)))))))) ?_ | refine .drop ?_)) (by repeat (first | exact FSub.refl | exact FSub.nil | refine FSub.cons (by first | assumption | (repeat (first | assumption | exact List.Mem.head _ | refine .tail _ ?_))) ?_ | refine FSub.drop ?_))
          · -- t34 False
            intro ht34
            try simp only [decide_eq_true_eq, decide_eq_false_iff_not, beq_iff_eq, bne_iff_ne, beq_eq_false_iff_ne, bne_eq_false_iff_eq, Int.not_lt, Int.not_le, Bool.not_eq_true, ne_eq] at ht34
            refine J.guardYes ?_ ?_
            · exact rfl
            first | refine r_fieldAddr fo_24_2 rfl ?_ | refine r_fieldAddrE fo_24_2 rfl (by first | exact len_row (by first | exact .hd | exact .tl .hd | exact .tl (.tl .hd) | exact .tl (.tl (.tl .hd)) | exact .tl (.tl (.tl (.tl .hd))) | exact .tl (.tl (.tl (.tl (.tl .hd)))) | exact .tl (.tl (.tl (.tl (.tl (.tl .hd))))) | exact .tl (.tl (.tl (.tl (.tl (.tl (.tl .hd)))))) | exact .tl (.tl (.tl (.tl (.tl (.tl (.tl (.tl .hd)))))))) | exact len_sl (by first | assumption | (repeat (first | assumption | exact List.Mem.head _ | refine .tail _ ?_)))) (by first | assumption | omega | simp) ?_
            refine J.guardYes ?_ ?_
            · exact rfl
            first
              | (refine r_load1 Try.isAgg3 rfl (at_blk1 (by first | exact .hd | exact .tl .hd | exact .tl (.tl .hd) | exact .tl (.tl (.tl .hd)) | exact .tl (.tl (.tl (.tl .hd))) | exact .tl (.tl (.tl (.tl (.tl .hd)))) | exact .tl (.tl (.tl (.tl (.tl (.tl .hd))))) | exact .tl (.tl (.tl (.tl (.tl (.tl (.tl .hd)))))) | exact .tl (.tl (.tl (.tl (.tl (.tl (.tl (.tl .hd)))))))) (by exact rfl)) ?_)
              | (refine r_load1 Try.isAgg3 rfl (at_int (by first | assumption | (repeat (first | assumption | exact List.Mem.head _ | refine .tail _ ?_))) (by assumption)) ?_)
            refine J.guardYes ?_ ?_
            · exact rfl
            refine r_bin rfl rfl b_gtr ?_
            refine r_pickF rfl rfl ?_
            refine r_assign rfl ?_
            refine J.nil ?_
            refine jx_then ?_
            refine jc_cond rfl (fun ht18 => ?_) (fun ht18 => ?_)
            · -- t18 True
              try simp only [decide_eq_true_eq, decide_eq_false_iff_not, beq_iff_eq, bne_iff_ne, beq_eq_false_iff_ne, bne_eq_false_iff_eq, Int.not_lt, Int.not_le, Bool.not_eq_true, ne_eq] at ht18
              repeat refine jc_seq ?_
              refine jc_region ?_
              refine r_assign rfl ?_
              refine r_assign rfl ?_
              refine r_assign rfl ?_
              refine J.nil ?_
              refine jx_then ?_
              refine jc_ret ?_
              repeat (first | refine jx_thenRet ?_ | refine jx_blockRet ?_)
              have hk : ¬ (o.kind < 1 ∨ 4 < o.kind) := by omega
              have hr : o.line < 0 ∨ (m.length : Int) ≤ o.line ∨ o.value < 0 ∨ 255 < o.value := by omega
              refine jx_body (.inr rfl) (fun B w hs => res3 rfl rfl rfl rfl B w) (fun w hs => ?_)
              refine ⟨.slice none 0 0, ?_, ?_⟩
              · rw [flatDo_range hk hr]
              · rw [flatDo_range hk hr]; exact (St.shut (hs.rowNil 0 Int)).sub (by repeat (first | exact .refl | exact .nil | refine .cons (by first | exact .hd | exact .tl .hd | exact .tl (.tl .hd) | exact .tl (.tl (.tl .hd)) | exact .tl (.tl (.tl (.tl .hd))) | exact .tl (.tl (.tl (.tl (.tl .hd)))) | exact .tl (.tl (.tl (.tl (.tl (.tl .hd))))) | exact .tl (.tl (.tl (.tl (.tl (.tl (.tl .hd)))))) | exact .tl (.tl (.tl (.tl (.tl (.tl (.tl (.tl .hd)))))))) ?_ | refine .drop ?_)) (by repeat (first | exact FSub.refl | exact FSub.nil | refine FSub.cons (by first | assumption | (repeat (first | assumption | exact List.Mem.head _ | refine .tail _ ?_))) ?_ | refine FSub.drop ?_))
            · -- t18 False
              try simp only [decide_eq_true_eq, decide_eq_false_iff_not, beq_iff_eq, bne_iff_ne, beq_eq_false_iff_ne, bne_eq_false_iff_eq, Int.not_lt, Int.not_le, Bool.not_eq_true, ne_eq] at ht18
              refine jc_skip ?_
              refine jx_block ?_
              refine jx_then ?_
              repeat refine jc_seq ?_
              refine jc_region ?_
              refine r_move rfl ?_
              refine J.rowNil 3 Int ?_
              refine r_append eo_22 rfl rfl rfl (by decide) .hd (by first | assumption | exact List.mem_cons_of_mem _ h1) (fun w hs => by have : maxN = 16777216 := rfl; simp; omega) ?_; intro v40
              rw [List.nil_append]
              refine r_assign rfl ?_
              refine J.nil ?_
              refine jx_then ?_
              repeat refine jc_seq ?_
              obtain ⟨e, he⟩ : ∃ e, m[o.line.toNat]? = some e := ⟨_, List.getElem?_eq_getElem (by omega)⟩
              have hin : In64 e := hin0 _ _ he
              refine jc_region ?_
              refine r_move rfl ?_
              first | refine r_fieldAddr fo_24_1 rfl ?_ | refine r_fieldAddrE fo_24_1 rfl (by first | exact len_row (by first | exact .hd | exact .tl .hd | exact .tl (.tl .hd) | exact .tl (.tl (.tl .hd)) | exact .tl (.tl (.tl (.tl .hd))) | exact .tl (.tl (.tl (.tl (.tl .hd)))) | exact .tl (.tl (.tl (.tl (.tl (.tl .hd))))) | exact .tl (.tl (.tl (.tl (.tl (.tl (.tl .hd)))))) | exact .tl (.tl (.tl (.tl (.tl (.tl (.tl (.tl .hd)))))))) | exact len_sl (by first | assumption | (repeat (first | assumption | exact List.Mem.head _ | refine .tail _ ?_)))) (by first | assumption | omega | simp) ?_
              first
                | (refine r_load1 Try.isAgg3 rfl (at_blk1 (by first | exact .hd | exact .tl .hd | exact .tl (.tl .hd) | exact .tl (.tl (.tl .hd)) | exact .tl (.tl (.tl (.tl .hd))) | exact .tl (.tl (.tl (.tl (.tl .hd)))) | exact .tl (.tl (.tl (.tl (.tl (.tl .hd))))) | exact .tl (.tl (.tl (.tl (.tl (.tl (.tl .hd)))))) | exact .tl (.tl (.tl (.tl (.tl (.tl (.tl (.tl .hd)))))))) (by exact rfl)) ?_)
                | (refine r_load1 Try.isAgg3 rfl (at_int (by first | assumption | (repeat (first | assumption | exact List.Mem.head _ | refine .tail _ ?_))) (by assumption)) ?_)
              refine r_indexAddr so_22 rfl rfl (by first | exact len_row (by first | exact .hd | exact .tl .hd | exact .tl (.tl .hd) | exact .tl (.tl (.tl .hd)) | exact .tl (.tl (.tl (.tl .hd))) | exact .tl (.tl (.tl (.tl (.tl .hd)))) | exact .tl (.tl (.tl (.tl (.tl (.tl .hd))))) | exact .tl (.tl (.tl (.tl (.tl (.tl (.tl .hd)))))) | exact .tl (.tl (.tl (.tl (.tl (.tl (.tl (.tl .hd)))))))) | exact len_sl (by first | assumption | (repeat (first | assumption | exact List.Mem.head _ | refine .tail _ ?_)))) (by omega) (by omega) ?_
              first
                | (refine r_load1 Try.isAgg3 rfl (at_blk1 (by first | exact .hd | exact .tl .hd | exact .tl (.tl .hd) | exact .tl (.tl (.tl .hd)) | exact .tl (.tl (.tl (.tl .hd))) | exact .tl (.tl (.tl (.tl (.tl .hd)))) | exact .tl (.tl (.tl (.tl (.tl (.tl .hd))))) | exact .tl (.tl (.tl (.tl (.tl (.tl (.tl .hd)))))) | exact .tl (.tl (.tl (.tl (.tl (.tl (.tl (.tl .hd)))))))) (by exact rfl)) ?_)
                | (refine r_load1 Try.isAgg3 rfl (at_int (by first | assumption | (repeat (first | assumption | exact List.Mem.head _ | refine .tail _ ?_))) (by assumption)) ?_)
              refine r_assign rfl ?_
              refine J.nil ?_
              refine jx_then ?_
              repeat refine jc_seq ?_
              refine jc_region ?_
              first | refine r_fieldAddr fo_24_0 rfl ?_ | refine r_fieldAddrE fo_24_0 rfl (by first | exact len_row (by first | exact .hd | exact .tl .hd | exact .tl (.tl .hd) | exact .tl (.tl (.tl .hd)) | exact .tl (.tl (.tl (.tl .hd))) | exact .tl (.tl (.tl (.tl (.tl .hd)))) | exact .tl (.tl (.tl (.tl (.tl (.tl .hd))))) | exact .tl (.tl (.tl (.tl (.tl (.tl (.tl .hd)))))) | exact .tl (.tl (.tl (.tl (.tl (.tl (.tl (.tl .hd)))))))) | exact len_sl (by first | assumption | (repeat (first | assumption | exact List.Mem.head _ | refine .tail _ ?_)))) (by first | assumption | omega | simp) ?_
              first
                | (refine r_load1 Try.isAgg3 rfl (at_blk1 (by first | exact .hd | exact .tl .hd | exact .tl (.tl .hd) | exact .tl (.tl (.tl .hd)) | exact .tl (.tl (.tl (.tl .hd))) | exact .tl (.tl (.tl (.tl (.tl .hd)))) | exact .tl (.tl (.tl (.tl (.tl (.tl .hd))))) | exact .tl (.tl (.tl (.tl (.tl (.tl (.tl .hd)))))) | exact .tl (.tl (.tl (.tl (.tl (.tl (.tl (.tl .hd)))))))) (by exact rfl)) ?_)
                | (refine r_load1 Try.isAgg3 rfl (at_int (by first | assumption | (repeat (first | assumption | exact List.Mem.head _ | refine .tail _ ?_))) (by assumption)) ?_)
              refine J.nil ?_
              refine jx_then ?_
              repeat refine jc_seq ?_
              refine jc_block ?_
              repeat refine jc_seq ?_
              refine jc_region ?_
              refine r_bin rfl rfl b_eql ?_
              refine r_assign rfl ?_
              refine J.nil ?_
              refine jx_then ?_
              refine jc_cond rfl (fun ht48 => ?_) (fun ht48 => ?_)
              · -- t48 True
                try simp only [decide_eq_true_eq, decide_eq_false_iff_not, beq_iff_eq, bne_iff_ne, beq_eq_false_iff_ne, bne_eq_false_iff_eq, Int.not_lt, Int.not_le, Bool.not_eq_true, ne_eq] at ht48
                repeat refine jc_seq ?_
                refine jc_region ?_
                refine r_move rfl ?_
                refine r_move rfl ?_
                refine r_assign rfl ?_
                refine r_assign rfl ?_
                refine r_assign rfl ?_
                refine J.nil ?_
                refine jx_then ?_
                refine jc_ret ?_
                repeat (first | refine jx_thenRet ?_ | refine jx_blockRet ?_)
                have hk : ¬ (o.kind < 1 ∨ 4 < o.kind) := by omega
                have hr : ¬ (o.line < 0 ∨ (m.length : Int) ≤ o.line ∨ o.value < 0 ∨ 255 < o.value) := by omega
                have hv : opVal e o = (e, e) := by unfold opVal; rw [if_pos (by omega)]
                have hd := flatDo_ok hk hr he; rw [hv] at hd
                refine jx_body (.inr rfl) (fun B w hs => res3 rfl rfl rfl rfl B w) (fun w hs => ?_)
                refine ⟨v40, by rw [hd], ?_⟩
                rw [hd]; rw [set_same he]
                exact (St.shut (hs.pick (by first | exact .hd | exact .tl .hd | exact .tl (.tl .hd) | exact .tl (.tl (.tl .hd)) | exact .tl (.tl (.tl (.tl .hd))) | exact .tl (.tl (.tl (.tl (.tl .hd)))) | exact .tl (.tl (.tl (.tl (.tl (.tl .hd))))) | exact .tl (.tl (.tl (.tl (.tl (.tl (.tl .hd)))))) | exact .tl (.tl (.tl (.tl (.tl (.tl (.tl (.tl .hd)))))))))).sub (by repeat (first | exact .refl | exact .nil | refine .cons (by first | exact .hd | exact .tl .hd | exact .tl (.tl .hd) | exact .tl (.tl (.tl .hd)) | exact .tl (.tl (.tl (.tl .hd))) | exact .tl (.tl (.tl (.tl (.tl .hd)))) | exact .tl (.tl (.tl (.tl (.tl (.tl .hd))))) | exact .tl (.tl (.tl (.tl (.tl (.tl (.tl .hd)))))) | exact .tl (.tl (.tl (.tl (.tl (.tl (.tl (.tl .hd)))))))) ?_ | refine .drop ?_)) (by repeat (first | exact FSub.refl | exact FSub.nil | refine FSub.cons (by first | assumption | (repeat (first | assumption | exact List.Mem.head _ | refine .tail _ ?_))) ?_ | refine FSub.drop ?_))
              · -- t48 False
                try simp only [decide_eq_true_eq, decide_eq_false_iff_not, beq_iff_eq, bne_iff_ne, beq_eq_false_iff_ne, bne_eq_false_iff_eq, Int.not_lt, Int.not_le, Bool.not_eq_true, ne_eq] at ht48
                repeat refine jc_seq ?_
                refine jc_region ?_
                refine r_bin rfl rfl b_eql ?_
                refine r_assign rfl ?_
                refine J.nil ?_
                refine jx_then ?_
                refine jc_cond rfl (fun ht52 => ?_) (fun ht52 => ?_)
                · -- t52 True
                  try simp only [decide_eq_true_eq, decide_eq_false_iff_not, beq_iff_eq, bne_iff_ne, beq_eq_false_iff_ne, bne_eq_false_iff_eq, Int.not_lt, Int.not_le, Bool.not_eq_true, ne_eq] at ht52
                  refine jc_region ?_
                  refine r_move rfl ?_
                  first | refine r_fieldAddr fo_24_1 rfl ?_ | refine r_fieldAddrE fo_24_1 rfl (by first | exact len_row (by first | exact .hd | exact .tl .hd | exact .tl (.tl .hd) | exact .tl (.tl (.tl .hd)) | exact .tl (.tl (.tl (.tl .hd))) | exact .tl (.tl (.tl (.tl (.tl .hd)))) | exact .tl (.tl (.tl (.tl (.tl (.tl .hd))))) | exact .tl (.tl (.tl (.tl (.tl (.tl (.tl .hd)))))) | exact .tl (.tl (.tl (.tl (.tl (.tl (.tl (.tl .hd)))))))) | exact len_sl (by first | assumption | (repeat (first | assumption | exact List.Mem.head _ | refine .tail _ ?_)))) (by first | assumption | omega | simp) ?_
                  first
                    | (refine r_load1 Try.isAgg3 rfl (at_blk1 (by first | exact .hd | exact .tl .hd | exact .tl (.tl .hd) | exact .tl (.tl (.tl .hd)) | exact .tl (.tl (.tl (.tl .hd))) | exact .tl (.tl (.tl (.tl (.tl .hd)))) | exact .tl (.tl (.tl (.tl (.tl (.tl .hd))))) | exact .tl (.tl (.tl (.tl (.tl (.tl (.tl .hd)))))) | exact .tl (.tl (.tl (.tl (.tl (.tl (.tl (.tl .hd)))))))) (by exact rfl)) ?_)
                    | (refine r_load1 Try.isAgg3 rfl (at_int (by first | assumption | (repeat (first | assumption | exact List.Mem.head _ | refine .tail _ ?_))) (by assumption)) ?_)
                  first | refine r_fieldAddr fo_24_2 rfl ?_ | refine r_fieldAddrE fo_24_2 rfl (by first | exact len_row (by first | exact .hd | exact .tl .hd | exact .tl (.tl .hd) | exact .tl (.tl (.tl .hd)) | exact .tl (.tl (.tl (.tl .hd))) | exact .tl (.tl (.tl (.tl (.tl .hd)))) | exact .tl (.tl (.tl (.tl (.tl (.tl .hd))))) | exact .tl (.tl (.tl (.tl (.tl (.tl (.tl .hd)))))) | exact .tl (.tl (.tl (.tl (.tl (.tl (.tl (.tl .hd)))))))) | exact len_sl (by first | assumption | (repeat (first | assumption | exact List.Mem.head _ | refine .tail _ ?_)))) (by first | assumption | omega | simp) ?_
                  first
                    | (refine r_load1 Try.isAgg3 rfl (at_blk1 (by first | exact .hd | exact .tl .hd | exact .tl (.tl .hd) | exact .tl (.tl (.tl .hd)) | exact .tl (.tl (.tl (.tl .hd))) | exact .tl (.tl (.tl (.tl (.tl .hd)))) | exact .tl (.tl (.tl (.tl (.tl (.tl .hd))))) | exact .tl (.tl (.tl (.tl (.tl (.tl (.tl .hd)))))) | exact .tl (.tl (.tl (.tl (.tl (.tl (.tl (.tl .hd)))))))) (by exact rfl)) ?_)
                    | (refine r_load1 Try.isAgg3 rfl (at_int (by first | assumption | (repeat (first | assumption | exact List.Mem.head _ | refine .tail _ ?_))) (by assumption)) ?_)
                  refine r_indexAddr so_22 rfl rfl (by first | exact len_row (by first | exact .hd | exact .tl .hd | exact .tl (.tl .hd) | exact .tl (.tl (.tl .hd)) | exact .tl (.tl (.tl (.tl .hd))) | exact .tl (.tl (.tl (.tl (.tl .hd)))) | exact .tl (.tl (.tl (.tl (.tl (.tl .hd))))) | exact .tl (.tl (.tl (.tl (.tl (.tl (.tl .hd)))))) | exact .tl (.tl (.tl (.tl (.tl (.tl (.tl (.tl .hd)))))))) | exact len_sl (by first | assumption | (repeat (first | assumption | exact List.Mem.head _ | refine .tail _ ?_)))) (by omega) (by omega) ?_
                  refine r_storeInt Try.sizeOf3 rfl rfl (by first | exact .hd | exact .tl .hd | exact .tl (.tl .hd) | exact .tl (.tl (.tl .hd)) | exact .tl (.tl (.tl (.tl .hd))) | exact .tl (.tl (.tl (.tl (.tl .hd)))) | exact .tl (.tl (.tl (.tl (.tl (.tl .hd))))) | exact .tl (.tl (.tl (.tl (.tl (.tl (.tl .hd)))))) | exact .tl (.tl (.tl (.tl (.tl (.tl (.tl (.tl .hd)))))))) he (by unfold In64; omega) ?_
                  refine J.nil ?_
                  refine jx_block ?_
                  refine jx_then ?_
                  repeat refine jc_seq ?_
                  refine jc_region ?_
                  refine r_move rfl ?_
                  refine r_assign rfl ?_
                  refine r_assign rfl ?_
                  refine r_assign rfl ?_
                  refine J.nil ?_
                  refine jx_then ?_
                  refine jc_ret ?_
                  repeat (first | refine jx_thenRet ?_ | refine jx_blockRet ?_)
                  have hk : ¬ (o.kind < 1 ∨ 4 < o.kind) := by omega
                  have hr : ¬ (o.line < 0 ∨ (m.length : Int) ≤ o.line ∨ o.value < 0 ∨ 255 < o.value) := by omega
                  have hv : opVal e o = (o.value, 0) := by unfold opVal; rw [if_neg (by omega), if_pos (by omega)]
                  have hd := flatDo_ok hk hr he; rw [hv] at hd
                  refine jx_body (.inr rfl) (fun B w hs => res3 rfl rfl rfl rfl B w) (fun w hs => ?_)
                  refine ⟨v40, by rw [hd], ?_⟩
                  rw [hd]; skip
                  exact (St.shut (hs.pick (by first | exact .hd | exact .tl .hd | exact .tl (.tl .hd) | exact .tl (.tl (.tl .hd)) | exact .tl (.tl (.tl (.tl .hd))) | exact .tl (.tl (.tl (.tl (.tl .hd)))) | exact .tl (.tl (.tl (.tl (.tl (.tl .hd))))) | exact .tl (.tl (.tl (.tl (.tl (.tl (.tl .hd)))))) | exact .tl (.tl (.tl (.tl (.tl (.tl (.tl (.tl .hd)))))))))).sub (by repeat (first | exact .refl | exact .nil | refine .cons (by first | exact .hd | exact .tl .hd | exact .tl (.tl .hd) | exact .tl (.tl (.tl .hd)) | exact .tl (.tl (.tl (.tl .hd))) | exact .tl (.tl (.tl (.tl (.tl .hd)))) | exact .tl (.tl (.tl (.tl (.tl (.tl .hd))))) | exact .tl (.tl (.tl (.tl (.tl (.tl (.tl .hd)))))) | exact .tl (.tl (.tl (.tl (.tl (.tl (.tl (.tl .hd)))))))) ?_ | refine .drop ?_)) (by repeat (first | exact FSub.refl | exact FSub.nil | refine FSub.cons (by first | assumption | (repeat (first | assumption | exact List.Mem.head _ | refine .tail _ ?_))) ?_ | refine FSub.drop ?_))
                · -- t52 False
                  try simp only [decide_eq_true_eq, decide_eq_false_iff_not, beq_iff_eq, bne_iff_ne, beq_eq_false_iff_ne, bne_eq_false_iff_eq, Int.not_lt, Int.not_le, Bool.not_eq_true, ne_eq] at ht52
                  repeat refine jc_seq ?_
                  refine jc_region ?_
                  refine r_bin rfl rfl b_eql ?_
                  refine r_assign rfl ?_
                  refine J.nil ?_
                  refine jx_then ?_
                  refine jc_cond rfl (fun ht60 => ?_) (fun ht60 => ?_)
                  · -- t60 True
                    try simp only [decide_eq_true_eq, decide_eq_false_iff_not, beq_iff_eq, bne_iff_ne, beq_eq_false_iff_ne, bne_eq_false_iff_eq, Int.not_lt, Int.not_le, Bool.not_eq_true, ne_eq] at ht60
                    repeat refine jc_seq ?_
                    refine jc_region ?_
                    refine r_move rfl ?_
                    first | refine r_fieldAddr fo_24_1 rfl ?_ | refine r_fieldAddrE fo_24_1 rfl (by first | exact len_row (by first | exact .hd | exact .tl .hd | exact .tl (.tl .hd) | exact .tl (.tl (.tl .hd)) | exact .tl (.tl (.tl (.tl .hd))) | exact .tl (.tl (.tl (.tl (.tl .hd)))) | exact .tl (.tl (.tl (.tl (.tl (.tl .hd))))) | exact .tl (.tl (.tl (.tl (.tl (.tl (.tl .hd)))))) | exact .tl (.tl (.tl (.tl (.tl (.tl (.tl (.tl .hd)))))))) | exact len_sl (by first | assumption | (repeat (first | assumption | exact List.Mem.head _ | refine .tail _ ?_)))) (by first | assumption | omega | simp) ?_
                    first
                      | (refine r_load1 Try.isAgg3 rfl (at_blk1 (by first | exact .hd | exact .tl .hd | exact .tl (.tl .hd) | exact .tl (.tl (.tl .hd)) | exact .tl (.tl (.tl (.tl .hd))) | exact .tl (.tl (.tl (.tl (.tl .hd)))) | exact .tl (.tl (.tl (.tl (.tl (.tl .hd))))) | exact .tl (.tl (.tl (.tl (.tl (.tl (.tl .hd)))))) | exact .tl (.tl (.tl (.tl (.tl (.tl (.tl (.tl .hd)))))))) (by exact rfl)) ?_)
                      | (refine r_load1 Try.isAgg3 rfl (at_int (by first | assumption | (repeat (first | assumption | exact List.Mem.head _ | refine .tail _ ?_))) (by assumption)) ?_)
                    refine r_move rfl ?_
                    first | refine r_fieldAddr fo_24_2 rfl ?_ | refine r_fieldAddrE fo_24_2 rfl (by first | exact len_row (by first | exact .hd | exact .tl .hd | exact .tl (.tl .hd) | exact .tl (.tl (.tl .hd)) | exact .tl (.tl (.tl (.tl .hd))) | exact .tl (.tl (.tl (.tl (.tl .hd)))) | exact .tl (.tl (.tl (.tl (.tl (.tl .hd))))) | exact .tl (.tl (.tl (.tl (.tl (.tl (.tl .hd)))))) | exact .tl (.tl (.tl (.tl (.tl (.tl (.tl (.tl .hd)))))))) | exact len_sl (by first | assumption | (repeat (first | assumption | exact List.Mem.head _ | refine .tail _ ?_)))) (by first | assumption | omega | simp) ?_
                    first
                      | (refine r_load1 Try.isAgg3 rfl (at_blk1 (by first | exact .hd | exact .tl .hd | exact .tl (.tl .hd) | exact .tl (.tl (.tl .hd)) | exact .tl (.tl (.tl (.tl .hd))) | exact .tl (.tl (.tl (.tl (.tl .hd)))) | exact .tl (.tl (.tl (.tl (.tl (.tl .hd))))) | exact .tl (.tl (.tl (.tl (.tl (.tl (.tl .hd)))))) | exact .tl (.tl (.tl (.tl (.tl (.tl (.tl (.tl .hd)))))))) (by exact rfl)) ?_)
                      | (refine r_load1 Try.isAgg3 rfl (at_int (by first | assumption | (repeat (first | assumption | exact List.Mem.head _ | refine .tail _ ?_))) (by assumption)) ?_)
                    refine r_bin rfl rfl b_addw ?_
                    refine r_bin rfl rfl b_and255 ?_; rw [wrap64_mod]
                    refine r_indexAddr so_22 rfl rfl (by first | exact len_row (by first | exact .hd | exact .tl .hd | exact .tl (.tl .hd) | exact .tl (.tl (.tl .hd)) | exact .tl (.tl (.tl (.tl .hd))) | exact .tl (.tl (.tl (.tl (.tl .hd)))) | exact .tl (.tl (.tl (.tl (.tl (.tl .hd))))) | exact .tl (.tl (.tl (.tl (.tl (.tl (.tl .hd)))))) | exact .tl (.tl (.tl (.tl (.tl (.tl (.tl (.tl .hd)))))))) | exact len_sl (by first | assumption | (repeat (first | assumption | exact List.Mem.head _ | refine .tail _ ?_)))) (by omega) (by omega) ?_
                    refine r_storeInt Try.sizeOf3 rfl rfl (by first | exact .hd | exact .tl .hd | exact .tl (.tl .hd) | exact .tl (.tl (.tl .hd)) | exact .tl (.tl (.tl (.tl .hd))) | exact .tl (.tl (.tl (.tl (.tl .hd)))) | exact .tl (.tl (.tl (.tl (.tl (.tl .hd))))) | exact .tl (.tl (.tl (.tl (.tl (.tl (.tl .hd)))))) | exact .tl (.tl (.tl (.tl (.tl (.tl (.tl (.tl .hd)))))))) he (by unfold In64; omega) ?_
                    refine J.nil ?_
                    refine jx_then ?_
                    repeat refine jc_seq ?_
                    refine jc_region ?_
                    refine r_move rfl ?_
                    refine r_move rfl ?_
                    refine r_assign rfl ?_
                    refine r_assign rfl ?_
                    refine r_assign rfl ?_
                    refine J.nil ?_
                    refine jx_then ?_
                    refine jc_ret ?_
                    repeat (first | refine jx_thenRet ?_ | refine jx_blockRet ?_)
                    have hk : ¬ (o.kind < 1 ∨ 4 < o.kind) := by omega
                    have hr : ¬ (o.line < 0 ∨ (m.length : Int) ≤ o.line ∨ o.value < 0 ∨ 255 < o.value) := by omega
                    have hv : opVal e o = ((e + o.value) % 256, e) := by unfold opVal; rw [if_neg (by omega), if_neg (by omega), if_pos (by omega)]
                    have hd := flatDo_ok hk hr he; rw [hv] at hd
                    simp only [wrap64_mod] at *
                    refine jx_body (.inr rfl) (fun B w hs => res3 rfl rfl rfl rfl B w) (fun w hs => ?_)
                    refine ⟨v40, by rw [hd], ?_⟩
                    rw [hd]; skip
                    exact (St.shut (hs.pick (by first | exact .hd | exact .tl .hd | exact .tl (.tl .hd) | exact .tl (.tl (.tl .hd)) | exact .tl (.tl (.tl (.tl .hd))) | exact .tl (.tl (.tl (.tl (.tl .hd)))) | exact .tl (.tl (.tl (.tl (.tl (.tl .hd))))) | exact .tl (.tl (.tl (.tl (.tl (.tl (.tl .hd)))))) | exact .tl (.tl (.tl (.tl (.tl (.tl (.tl (.tl .hd)))))))))).sub (by repeat (first | exact .refl | exact .nil | refine .cons (by first | exact .hd | exact .tl .hd | exact .tl (.tl .hd) | exact .tl (.tl (.tl .hd)) | exact .tl (.tl (.tl (.tl .hd))) | exact .tl (.tl (.tl (.tl (.tl .hd)))) | exact .tl (.tl (.tl (.tl (.tl (.tl .hd))))) | exact .tl (.tl (.tl (.tl (.tl (.tl (.tl .hd)))))) | exact .tl (.tl (.tl (.tl (.tl (.tl (.tl (.tl .hd)))))))) ?_ | refine .drop ?_)) (by repeat (first | exact FSub.refl | exact FSub.nil | refine FSub.cons (by first | assumption | (repeat (first | assumption | exact List.Mem.head _ | refine .tail _ ?_))) ?_ | refine FSub.drop ?_))
                  · -- t60 False
                    try simp only [decide_eq_true_eq, decide_eq_false_iff_not, beq_iff_eq, bne_iff_ne, beq_eq_false_iff_ne, bne_eq_false_iff_eq, Int.not_lt, Int.not_le, Bool.not_eq_true, ne_eq] at ht60
                    refine jc_skip ?_
                    refine jx_block ?_
                    refine jx_then ?_
                    repeat refine jc_seq ?_
                    refine jc_region ?_
                    refine r_move rfl ?_
                    refine r_assign rfl ?_
                    refine r_assign rfl ?_
                    refine r_assign rfl ?_
                    refine J.nil ?_
                    refine jx_then ?_
                    refine jc_ret ?_
                    repeat (first | refine jx_thenRet ?_ | refine jx_blockRet ?_)
                    have hk : ¬ (o.kind < 1 ∨ 4 < o.kind) := by omega
                    have hr : ¬ (o.line < 0 ∨ (m.length : Int) ≤ o.line ∨ o.value < 0 ∨ 255 < o.value) := by omega
                    have hv : opVal e o = (e, 0) := by unfold opVal; rw [if_neg (by omega), if_neg (by omega), if_neg (by omega)]
                    have hd := flatDo_ok hk hr he; rw [hv] at hd
                    refine jx_body (.inr rfl) (fun B w hs => res3 rfl rfl rfl rfl B w) (fun w hs => ?_)
                    refine ⟨v40, by rw [hd], ?_⟩
                    rw [hd]; rw [set_same he]
                    exact (St.shut (hs.pick (by first | exact .hd | exact .tl .hd | exact .tl (.tl .hd) | exact .tl (.tl (.tl .hd)) | exact .tl (.tl (.tl (.tl .hd))) | exact .tl (.tl (.tl (.tl (.tl .hd)))) | exact .tl (.tl (.tl (.tl (.tl (.tl .hd))))) | exact .tl (.tl (.tl (.tl (.tl (.tl (.tl .hd)))))) | exact .tl (.tl (.tl (.tl (.tl (.tl (.tl (.tl .hd)))))))))).sub (by repeat (first | exact .refl | exact .nil | refine .cons (by first | exact .hd | exact .tl .hd | exact .tl (.tl .hd) | exact .tl (.tl (.tl .hd)) | exact .tl (.tl (.tl (.tl .hd))) | exact .tl (.tl (.tl (.tl (.tl .hd)))) | exact .tl (.tl (.tl (.tl (.tl (.tl .hd))))) | exact .tl (.tl (.tl (.tl (.tl (.tl (.tl .hd)))))) | exact .tl (.tl (.tl (.tl (.tl (.tl (.tl (.tl .hd)))))))) ?_ | refine .drop ?_)) (by repeat (first | exact FSub.refl | exact FSub.nil | refine FSub.cons (by first | assumption | (repeat (first | assumption | exact List.Mem.head _ | refine .tail _ ?_))) ?_ | refine FSub.drop ?_))
end Go.Proofs.Ytfdkkncmpjbkbaa
