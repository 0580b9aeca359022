/- This file proves what FlatReads computes. No conditions. -/
import Derived.Test.YtfdkkncmpjbkbaaFacts
import Derived.Test.YtfdkkncmpjbkbaaFlat
import Derived.Test.YtfdkkncmpjbkbaaFlat3d
set_option linter.unusedVariables false
set_option linter.unusedSimpArgs false
set_option maxHeartbeats 1000000
namespace Go.Proofs.Ytfdkkncmpjbkbaa
open Go
theorem alive_calls {L : List Chunk} {R : List Fact} {w : World} (hs : St L R w) : Calls Try.prog 47 [].toArray w (Post (fun _ : Unit => .bool true) (fun _ => L) (fun _ => R)) := by
  refine calls_args Try.func47 rfl Try.ntmps47 rfl hs ?_
  clear hs
  repeat refine jc_seq ?_
  refine jc_region ?_
  refine r_assign rfl ?_
  refine J.nil ?_
  refine jx_then ?_
  repeat refine jc_seq ?_
  refine jc_region ?_
  refine r_call Try.call46 rfl (fun w hs => flatNew_calls (lines := 2) (by decide) hs) ?_; intro v10
  refine r_build st_24 rfl rfl ?_
  refine r_call Try.call41 rfl (fun w hs => flatDo_calls (m := zeros 2) (o := ⟨2, 1, 7⟩) hs (by first | assumption | (repeat (first | assumption | exact List.Mem.head _ | refine .tail _ ?_)))) ?_; intro v12
  simp only [show flatDo (zeros 2) ⟨2, 1, 7⟩ = ([0, 7], 0, 0) from rfl]
  refine r_move rfl ?_
  refine r_extract rfl rfl ?_
  refine r_extract rfl rfl ?_
  refine r_extract rfl rfl ?_
  refine r_assign rfl ?_
  refine r_assign rfl ?_
  refine r_assign rfl ?_
  refine J.nil ?_
  refine jx_then ?_
  repeat refine jc_seq ?_
  refine jc_region ?_
  refine r_move rfl ?_
  refine r_build st_24 rfl rfl ?_
  refine r_call Try.call41 rfl (fun w hs => flatDo_calls (m := [0, 7]) (o := ⟨3, 1, 250⟩) hs (by first | assumption | (repeat (first | assumption | exact List.Mem.head _ | refine .tail _ ?_)))) ?_; intro v19
  simp only [show flatDo [0, 7] ⟨3, 1, 250⟩ = ([0, 1], 7, 0) from rfl]
  refine r_move rfl ?_
  refine r_extract rfl rfl ?_
  refine r_extract rfl rfl ?_
  refine r_extract rfl rfl ?_
  refine r_assign rfl ?_
  refine r_assign rfl ?_
  refine r_assign rfl ?_
  refine J.nil ?_
  refine jx_then ?_
  repeat refine jc_seq ?_
  refine jc_region ?_
  refine r_build st_24 rfl rfl ?_
  refine r_build st_100 rfl rfl ?_
  refine r_lit (α := Done) [⟨0, ⟨1, 0, 0⟩, 1⟩] eo_25 rfl rfl rfl rfl rfl rfl (fun j hj => ⟨⟨_, rfl, rfl, by unfold Done.wf In64; decide⟩, trivial⟩) ?_; intro v26
  refine J.shut .hd ?_
  refine r_call Try.call44 rfl (fun w hs => flatPlay_calls (lines := 1) (l := [⟨0, ⟨1, 0, 0⟩, 1⟩]) hs (by decide) (by first | assumption | (repeat (first | assumption | exact List.Mem.head _ | refine .tail _ ?_)))) ?_; intro v27
  simp only [show flatPlay 1 [⟨0, ⟨1, 0, 0⟩, 1⟩] = ([0], 0) from rfl]
  refine r_move rfl ?_
  refine r_extract rfl rfl ?_
  refine r_extract rfl rfl ?_
  refine r_assign rfl ?_
  refine r_assign rfl ?_
  refine J.nil ?_
  refine jx_then ?_
  repeat refine jc_seq ?_
  refine jc_region ?_
  refine r_move rfl ?_
  refine r_bin rfl rfl (b_eql_T (by omega)) ?_
  refine r_move rfl ?_
  refine J.guardYes ?_ ?_
  · exact rfl
  refine r_move rfl ?_
  refine J.guardYes ?_ ?_
  · exact rfl
  refine r_bin rfl rfl (b_eql_T (by omega)) ?_
  refine r_pickT rfl rfl ?_
  refine r_move rfl ?_
  refine J.guardYes ?_ ?_
  · exact rfl
  refine r_move rfl ?_
  refine J.guardYes ?_ ?_
  · exact rfl
  refine r_bin rfl rfl (b_eql_T (by omega)) ?_
  refine r_pickT rfl rfl ?_
  refine r_move rfl ?_
  refine J.guardYes ?_ ?_
  · exact rfl
  refine r_move rfl ?_
  refine J.guardYes ?_ ?_
  · exact rfl
  refine r_bin rfl rfl (b_eql_T (by omega)) ?_
  refine r_pickT rfl rfl ?_
  refine r_move rfl ?_
  refine J.guardYes ?_ ?_
  · exact rfl
  refine r_move rfl ?_
  refine J.guardYes ?_ ?_
  · exact rfl
  have hx : ([0, 1] : List Int)[1]? = some 1 := rfl
  refine r_indexAddr so_22 rfl rfl (by first | exact len_row (by first | exact .hd | exact .tl .hd | exact .tl (.tl .hd) | exact .tl (.tl (.tl .hd)) | exact .tl (.tl (.tl (.tl .hd))) | exact .tl (.tl (.tl (.tl (.tl .hd)))) | exact .tl (.tl (.tl (.tl (.tl (.tl .hd))))) | exact .tl (.tl (.tl (.tl (.tl (.tl (.tl .hd)))))) | exact .tl (.tl (.tl (.tl (.tl (.tl (.tl (.tl .hd)))))))) | exact len_sl (by first | assumption | (repeat (first | assumption | exact List.Mem.head _ | refine .tail _ ?_)))) (by decide) (by decide) ?_
  refine J.guardYes ?_ ?_
  · exact rfl
  refine r_load1 Try.isAgg3 rfl (at_int (by first | assumption | (repeat (first | assumption | exact List.Mem.head _ | refine .tail _ ?_))) hx) ?_
  refine J.guardYes ?_ ?_
  · exact rfl
  refine r_bin rfl rfl (b_eql_T (by omega)) ?_
  refine r_pickT rfl rfl ?_
  refine r_move rfl ?_
  refine J.guardYes ?_ ?_
  · exact rfl
  refine r_move rfl ?_
  refine J.guardYes ?_ ?_
  · exact rfl
  refine r_bin rfl rfl (b_eql_T (by omega)) ?_
  refine r_pickT rfl rfl ?_
  refine r_assign rfl ?_
  refine J.nil ?_
  refine jx_then ?_
  refine jc_ret ?_
  repeat (first | refine jx_thenRet ?_ | refine jx_blockRet ?_)
  refine jx_body (.inr rfl) (fun B w _ => res1 rfl rfl B w) (fun w hs => ⟨(), ?_, hs.sub (by repeat (first | exact .refl | exact .nil | refine .cons (by first | exact .hd | exact .tl .hd | exact .tl (.tl .hd) | exact .tl (.tl (.tl .hd)) | exact .tl (.tl (.tl (.tl .hd))) | exact .tl (.tl (.tl (.tl (.tl .hd)))) | exact .tl (.tl (.tl (.tl (.tl (.tl .hd))))) | exact .tl (.tl (.tl (.tl (.tl (.tl (.tl .hd)))))) | exact .tl (.tl (.tl (.tl (.tl (.tl (.tl (.tl .hd)))))))) ?_ | refine .drop ?_)) (by repeat (first | exact FSub.refl | exact FSub.nil | refine FSub.cons (by first | assumption | (repeat (first | assumption | exact List.Mem.head _ | refine .tail _ ?_))) ?_ | refine FSub.drop ?_))⟩)
  rfl
theorem flatReads_walk {L : List Chunk} {R : List Fact} {w : World} {v0 : Value} {m : List Int} {line v other : Int} (hs : St L R w) (h0' : sl v0 m ∈ R) : Calls Try.prog 4 [v0, vi line, vi v, vi other].toArray w (Post (fun _ : Unit => .bool true) (fun _ => L) (fun _ => R)) := by
  refine calls_args Try.func4 rfl Try.ntmps4 rfl hs ?_
  clear hs
  repeat refine jc_seq ?_
  refine jc_region ?_
  refine r_assign rfl ?_
  refine J.nil ?_
  refine jx_then ?_
  repeat refine jc_seq ?_
  refine jc_region ?_
  refine r_call Try.call47 rfl (fun w hs => alive_calls hs) ?_; intro _
  refine r_not rfl ?_
  refine J.nil ?_
  refine jx_then ?_
  repeat refine jc_seq ?_
  refine jc_condF rfl ?_
  refine jc_skip ?_
  refine jx_then ?_
  repeat refine jc_seq ?_
  refine jc_region ?_
  refine r_move rfl ?_
  refine r_move rfl ?_
  refine r_move rfl ?_
  refine r_build st_24 rfl rfl ?_
  refine r_call Try.call41 rfl (fun w hs => flatDo_calls (m := m) (o := ⟨2, line, v⟩) hs (by first | assumption | (repeat (first | assumption | exact List.Mem.head _ | refine .tail _ ?_)))) ?_; intro v26
  refine r_move rfl ?_
  refine r_extract rfl rfl ?_
  refine r_extract rfl rfl ?_
  refine r_extract rfl rfl ?_
  refine r_assign rfl ?_
  refine r_assign rfl ?_
  refine r_assign rfl ?_
  refine J.nil ?_
  refine jx_then ?_
  repeat refine jc_seq ?_
  refine jc_region ?_
  refine r_move rfl ?_
  refine r_bin rfl rfl b_neq ?_
  refine J.nil ?_
  refine jx_then ?_
  repeat refine jc_seq ?_
  refine jc_cond rfl (fun ht31 => ?_) (fun ht31 => ?_)
  · -- t31 True
    try simp only [decide_eq_true_eq, decide_eq_false_iff_not, beq_iff_eq, bne_iff_ne, beq_eq_false_iff_ne, bne_eq_false_iff_eq, Int.not_lt, Int.not_le, Bool.not_eq_true, ne_eq] at ht31
    have hl : (flatDo m ⟨2, line, v⟩).1.length = 0 := by rw [flatDo_err (by omega)]; rfl
    repeat refine jc_seq ?_
    refine jc_region ?_
    refine r_move rfl ?_
    refine r_len Try.underlying22 rfl (by first | exact len_row (by first | exact .hd | exact .tl .hd | exact .tl (.tl .hd) | exact .tl (.tl (.tl .hd)) | exact .tl (.tl (.tl (.tl .hd))) | exact .tl (.tl (.tl (.tl (.tl .hd)))) | exact .tl (.tl (.tl (.tl (.tl (.tl .hd))))) | exact .tl (.tl (.tl (.tl (.tl (.tl (.tl .hd)))))) | exact .tl (.tl (.tl (.tl (.tl (.tl (.tl (.tl .hd)))))))) | exact len_sl (by first | assumption | (repeat (first | assumption | exact List.Mem.head _ | refine .tail _ ?_)))) ?_
    refine r_bin rfl rfl (b_eql_T (by omega)) ?_
    refine r_assign rfl ?_
    refine J.nil ?_
    refine jx_then ?_
    refine jc_ret ?_
    repeat (first | refine jx_thenRet ?_ | refine jx_blockRet ?_)
    refine jx_body (.inr rfl) (fun B w _ => res1 rfl rfl B w) (fun w hs => ⟨(), ?_, hs.sub (by repeat (first | exact .refl | exact .nil | refine .cons (by first | exact .hd | exact .tl .hd | exact .tl (.tl .hd) | exact .tl (.tl (.tl .hd)) | exact .tl (.tl (.tl (.tl .hd))) | exact .tl (.tl (.tl (.tl (.tl .hd)))) | exact .tl (.tl (.tl (.tl (.tl (.tl .hd))))) | exact .tl (.tl (.tl (.tl (.tl (.tl (.tl .hd)))))) | exact .tl (.tl (.tl (.tl (.tl (.tl (.tl (.tl .hd)))))))) ?_ | refine .drop ?_)) (by repeat (first | exact FSub.refl | exact FSub.nil | refine FSub.cons (by first | assumption | (repeat (first | assumption | exact List.Mem.head _ | refine .tail _ ?_))) ?_ | refine FSub.drop ?_))⟩)
    rfl
  · -- t31 False
    try simp only [decide_eq_true_eq, decide_eq_false_iff_not, beq_iff_eq, bne_iff_ne, beq_eq_false_iff_ne, bne_eq_false_iff_eq, Int.not_lt, Int.not_le, Bool.not_eq_true, ne_eq] at ht31
    have h0 : (flatDo m ⟨2, line, v⟩).2.2 = 0 := by omega
    have ⟨e1, e2⟩ := flatReads_same h0
    have e3 := flatReads_err (other := other) h0
    refine jc_skip ?_
    refine jx_then ?_
    repeat refine jc_seq ?_
    refine jc_region ?_
    refine r_move rfl ?_
    refine r_move rfl ?_
    refine r_build st_24 rfl rfl ?_
    refine r_call Try.call41 rfl (fun w hs => flatDo_calls (m := (flatDo m ⟨2, line, v⟩).1) (o := ⟨1, line, 0⟩) hs (by first | assumption | (repeat (first | assumption | exact List.Mem.head _ | refine .tail _ ?_)))) ?_; intro v39
    refine r_move rfl ?_
    refine r_extract rfl rfl ?_
    refine r_extract rfl rfl ?_
    refine r_extract rfl rfl ?_
    refine r_assign rfl ?_
    refine r_assign rfl ?_
    refine r_assign rfl ?_
    refine J.nil ?_
    refine jx_then ?_
    repeat refine jc_seq ?_
    refine jc_region ?_
    refine r_move rfl ?_
    refine r_bin rfl rfl (b_neq_F (by omega)) ?_
    refine r_move rfl ?_
    refine J.guardYes ?_ ?_
    · exact rfl
    refine r_move rfl ?_
    refine J.guardYes ?_ ?_
    · exact rfl
    refine r_move rfl ?_
    refine J.guardYes ?_ ?_
    · exact rfl
    refine r_bin rfl rfl (b_neq_F (by omega)) ?_
    refine r_pickF rfl rfl ?_
    refine J.nil ?_
    refine jx_then ?_
    repeat refine jc_seq ?_
    refine jc_condF rfl ?_
    refine jc_skip ?_
    refine jx_then ?_
    repeat refine jc_seq ?_
    refine jc_region ?_
    refine r_move rfl ?_
    refine r_move rfl ?_
    refine r_build st_24 rfl rfl ?_
    refine r_call Try.call41 rfl (fun w hs => flatDo_calls (m := m) (o := ⟨1, other, 0⟩) hs (by first | assumption | (repeat (first | assumption | exact List.Mem.head _ | refine .tail _ ?_)))) ?_; intro v54
    refine r_move rfl ?_
    refine r_extract rfl rfl ?_
    refine r_extract rfl rfl ?_
    refine r_extract rfl rfl ?_
    refine r_assign rfl ?_
    refine r_assign rfl ?_
    refine r_assign rfl ?_
    refine J.nil ?_
    refine jx_then ?_
    repeat refine jc_seq ?_
    refine jc_region ?_
    refine r_move rfl ?_
    refine r_move rfl ?_
    refine r_build st_24 rfl rfl ?_
    refine r_call Try.call41 rfl (fun w hs => flatDo_calls (m := (flatDo m ⟨2, line, v⟩).1) (o := ⟨1, other, 0⟩) hs (by first | assumption | (repeat (first | assumption | exact List.Mem.head _ | refine .tail _ ?_)))) ?_; intro v62
    refine r_move rfl ?_
    refine r_extract rfl rfl ?_
    refine r_extract rfl rfl ?_
    refine r_extract rfl rfl ?_
    refine r_assign rfl ?_
    refine r_assign rfl ?_
    refine r_assign rfl ?_
    refine J.nil ?_
    refine jx_then ?_
    repeat refine jc_seq ?_
    refine jc_region ?_
    refine r_move rfl ?_
    refine r_move rfl ?_
    refine r_bin rfl rfl (b_eql_T (by omega)) ?_
    refine r_move rfl ?_
    refine J.guardYes ?_ ?_
    · exact rfl
    refine r_move rfl ?_
    refine J.guardYes ?_ ?_
    · exact rfl
    refine r_move rfl ?_
    refine J.guardYes ?_ ?_
    · exact rfl
    refine r_bin rfl rfl b_eql ?_
    refine J.guardYes ?_ ?_
    · exact rfl
    refine r_move rfl ?_
    refine j_cases (t := 73) (b := ?b1) ?e1 ?_ ?_
    case e1 => exact rfl
    · -- t73 True
      intro ht73
      try simp only [decide_eq_true_eq, decide_eq_false_iff_not, beq_iff_eq, bne_iff_ne, beq_eq_false_iff_ne, bne_eq_false_iff_eq, Int.not_lt, Int.not_le, Bool.not_eq_true, ne_eq] at ht73
      refine J.guardNo ?_ ?_
      · exact rfl
      refine J.guardNo ?_ ?_
      · exact rfl
      refine J.guardNo ?_ ?_
      · exact rfl
      refine J.guardYes ?_ ?_
      · exact rfl
      refine r_pickT rfl rfl ?_
      refine r_pickT rfl rfl ?_
      refine r_assign rfl ?_
      refine J.nil ?_
      refine jx_then ?_
      refine jc_ret ?_
      repeat (first | refine jx_thenRet ?_ | refine jx_blockRet ?_)
      refine jx_body (.inr rfl) (fun B w _ => res1 rfl rfl B w) (fun w hs => ⟨(), ?_, hs.sub (by repeat (first | exact .refl | exact .nil | refine .cons (by first | exact .hd | exact .tl .hd | exact .tl (.tl .hd) | exact .tl (.tl (.tl .hd)) | exact .tl (.tl (.tl (.tl .hd))) | exact .tl (.tl (.tl (.tl (.tl .hd)))) | exact .tl (.tl (.tl (.tl (.tl (.tl .hd))))) | exact .tl (.tl (.tl (.tl (.tl (.tl (.tl .hd)))))) | exact .tl (.tl (.tl (.tl (.tl (.tl (.tl (.tl .hd)))))))) ?_ | refine .drop ?_)) (by repeat (first | exact FSub.refl | exact FSub.nil | refine FSub.cons (by first | assumption | (repeat (first | assumption | exact List.Mem.head _ | refine .tail _ ?_))) ?_ | refine FSub.drop ?_))⟩)
      rfl
    · -- t73 False
      intro ht73
      try simp only [decide_eq_true_eq, decide_eq_false_iff_not, beq_iff_eq, bne_iff_ne, beq_eq_false_iff_ne, bne_eq_false_iff_eq, Int.not_lt, Int.not_le, Bool.not_eq_true, ne_eq] at ht73
      have e4 := flatReads_other h0 ht73
      refine J.guardYes ?_ ?_
      · exact rfl
      refine r_move rfl ?_
      refine J.guardYes ?_ ?_
      · exact rfl
      refine r_move rfl ?_
      refine J.guardYes ?_ ?_
      · exact rfl
      refine r_bin rfl rfl (b_eql_T (by omega)) ?_
      refine J.guardYes ?_ ?_
      · exact rfl
      refine r_pickF rfl rfl ?_
      refine r_pickT rfl rfl ?_
      refine r_assign rfl ?_
      refine J.nil ?_
      refine jx_then ?_
      refine jc_ret ?_
      repeat (first | refine jx_thenRet ?_ | refine jx_blockRet ?_)
      refine jx_body (.inr rfl) (fun B w _ => res1 rfl rfl B w) (fun w hs => ⟨(), ?_, hs.sub (by repeat (first | exact .refl | exact .nil | refine .cons (by first | exact .hd | exact .tl .hd | exact .tl (.tl .hd) | exact .tl (.tl (.tl .hd)) | exact .tl (.tl (.tl (.tl .hd))) | exact .tl (.tl (.tl (.tl (.tl .hd)))) | exact .tl (.tl (.tl (.tl (.tl (.tl .hd))))) | exact .tl (.tl (.tl (.tl (.tl (.tl (.tl .hd)))))) | exact .tl (.tl (.tl (.tl (.tl (.tl (.tl (.tl .hd)))))))) ?_ | refine .drop ?_)) (by repeat (first | exact FSub.refl | exact FSub.nil | refine FSub.cons (by first | assumption | (repeat (first | assumption | exact List.Mem.head _ | refine .tail _ ?_))) ?_ | refine FSub.drop ?_))⟩)
      rfl
end Go.Proofs.Ytfdkkncmpjbkbaa
