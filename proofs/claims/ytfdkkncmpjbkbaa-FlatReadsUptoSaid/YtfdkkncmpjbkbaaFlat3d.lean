/- This file proves what SameInts, FlatTells and FlatReads compute. No conditions. -/
import Derived.Test.YtfdkkncmpjbkbaaFacts
import Derived.Test.YtfdkkncmpjbkbaaFlat
import Derived.Test.YtfdkkncmpjbkbaaFlat3
import Derived.Test.YtfdkkncmpjbkbaaFlat3b
import Derived.Test.YtfdkkncmpjbkbaaFlat3c
set_option linter.unusedVariables false
set_option linter.unusedSimpArgs false
set_option maxHeartbeats 1000000
namespace Go.Proofs.Ytfdkkncmpjbkbaa
open Go
theorem sameInts_calls {L : List Chunk} {R : List Fact} {w : World} {v1 v2 : Value} {xs ys : List Int} (hs : St L R w) (h1 : sl v1 xs ∈ R) (h2 : sl v2 ys ∈ R) : Calls Try.prog 43 [v1, v2].toArray w (Post (fun _ : Unit => .bool (decide (xs = ys))) (fun _ => L) (fun _ => R)) := by
  have hlen : xs.length ≤ 16777216 := sl_len h1 hs
  refine calls_args Try.func43 rfl Try.ntmps43 rfl hs ?_
  clear hs
  repeat refine jc_seq ?_
  refine jc_region ?_
  refine r_assign rfl ?_
  refine J.nil ?_
  refine jx_then ?_
  repeat refine jc_seq ?_
  refine jc_region ?_
  refine r_move rfl ?_
  refine r_len Try.underlying22 rfl (by first | exact len_row (by first | exact .hd | exact .tl .hd | exact .tl (.tl .hd) | exact .tl (.tl (.tl .hd)) | exact .tl (.tl (.tl (.tl .hd))) | exact .tl (.tl (.tl (.tl (.tl .hd)))) | exact .tl (.tl (.tl (.tl (.tl (.tl .hd))))) | exact .tl (.tl (.tl (.tl (.tl (.tl (.tl .hd)))))) | exact .tl (.tl (.tl (.tl (.tl (.tl (.tl (.tl .hd)))))))) | exact len_sl (by first | assumption | (repeat (first | assumption | exact List.Mem.head _ | refine .tail _ ?_)))) ?_
  refine r_move rfl ?_
  refine r_len Try.underlying22 rfl (by first | exact len_row (by first | exact .hd | exact .tl .hd | exact .tl (.tl .hd) | exact .tl (.tl (.tl .hd)) | exact .tl (.tl (.tl (.tl .hd))) | exact .tl (.tl (.tl (.tl (.tl .hd)))) | exact .tl (.tl (.tl (.tl (.tl (.tl .hd))))) | exact .tl (.tl (.tl (.tl (.tl (.tl (.tl .hd)))))) | exact .tl (.tl (.tl (.tl (.tl (.tl (.tl (.tl .hd)))))))) | exact len_sl (by first | assumption | (repeat (first | assumption | exact List.Mem.head _ | refine .tail _ ?_)))) ?_
  refine r_bin rfl rfl b_neq ?_
  refine J.nil ?_
  refine jx_then ?_
  repeat refine jc_seq ?_
  refine jc_cond rfl (fun ht10 => ?_) (fun ht10 => ?_)
  · -- t10 True
    try simp only [decide_eq_true_eq, decide_eq_false_iff_not, beq_iff_eq, bne_iff_ne, beq_eq_false_iff_ne, bne_eq_false_iff_eq, Int.not_lt, Int.not_le, Bool.not_eq_true, ne_eq] at ht10
    repeat refine jc_seq ?_
    refine jc_region ?_
    refine r_assign rfl ?_
    refine J.nil ?_
    refine jx_then ?_
    refine jc_ret ?_
    repeat (first | refine jx_thenRet ?_ | refine jx_blockRet ?_)
    refine jx_body (.inr rfl) (fun B w _ => res1 rfl rfl B w) (fun w hs => ⟨(), ?_, hs⟩)
    rw [decide_eq_false (by intro h; rw [h] at ht10; omega)]
  · -- t10 False
    try simp only [decide_eq_true_eq, decide_eq_false_iff_not, beq_iff_eq, bne_iff_ne, beq_eq_false_iff_ne, bne_eq_false_iff_eq, Int.not_lt, Int.not_le, Bool.not_eq_true, ne_eq] at ht10
    refine jc_skip ?_
    refine jx_then ?_
    repeat refine jc_seq ?_
    refine jc_region ?_
    refine r_move rfl ?_
    refine r_len Try.underlying22 rfl (by first | exact len_row (by first | exact .hd | exact .tl .hd | exact .tl (.tl .hd) | exact .tl (.tl (.tl .hd)) | exact .tl (.tl (.tl (.tl .hd))) | exact .tl (.tl (.tl (.tl (.tl .hd)))) | exact .tl (.tl (.tl (.tl (.tl (.tl .hd))))) | exact .tl (.tl (.tl (.tl (.tl (.tl (.tl .hd)))))) | exact .tl (.tl (.tl (.tl (.tl (.tl (.tl (.tl .hd)))))))) | exact len_sl (by first | assumption | (repeat (first | assumption | exact List.Mem.head _ | refine .tail _ ?_)))) ?_
    refine r_move rfl ?_
    refine J.nil ?_
    refine jx_then ?_
    repeat refine jc_seq ?_
    refine jc_block ?_
    refine jc_loop (γ := Nat) (fun k => k ≤ xs.length ∧ xs.take k = ys.take k) (fun _ => L) (fun _ => R) (fun k => [(0, v1), (1, v2), (12, vi (xs.length : Int)), (13, vi (k : Int))]) (fun k => xs.length - k) 0 ⟨by omega, by simp⟩ ⟨rfl, rfl, rfl, rfl, trivial⟩ (fun w hs => hs) ?_
    intro k ⟨hk, hxy⟩
    repeat refine jc_seq ?_
    refine jc_region ?_
    refine r_bin rfl rfl b_lss ?_
    refine J.nil ?_
    refine jx_then ?_
    repeat refine jc_seq ?_
    refine jc_cond rfl (fun ht14 => ?_) (fun ht14 => ?_)
    · -- t14 True
      try simp only [decide_eq_true_eq, decide_eq_false_iff_not, beq_iff_eq, bne_iff_ne, beq_eq_false_iff_ne, bne_eq_false_iff_eq, Int.not_lt, Int.not_le, Bool.not_eq_true, ne_eq] at ht14
      obtain ⟨x, hx⟩ : ∃ x, xs[k]? = some x := ⟨_, List.getElem?_eq_getElem (by omega)⟩
      obtain ⟨y, hy⟩ : ∃ x, ys[k]? = some x := ⟨_, List.getElem?_eq_getElem (by omega)⟩
      refine jc_skip ?_
      refine jx_then ?_
      repeat refine jc_seq ?_
      refine jc_block ?_
      repeat refine jc_seq ?_
      refine jc_region ?_
      refine r_move rfl ?_
      refine r_assign rfl ?_
      refine J.nil ?_
      refine jx_then ?_
      repeat refine jc_seq ?_
      refine jc_draw mixed rfl rfl (fun _ => L) rfl ?_
      refine dj ?_
      refine d_move (fun _ => rfl) (by first | exact Ind.const _ | exact Ind.self | exact Ind.gh _ 3 rfl) (fun _ => rfl) ?_
      refine dj ?_
      refine d_move (fun _ => rfl) (by first | exact Ind.const _ | exact Ind.self | exact Ind.gh _ 3 rfl) (fun _ => rfl) ?_
      refine dj ?_
      refine d_indexAddr so_22 (fun _ => rfl) (fun _ => rfl) (fun _ => (by first | exact len_row (by first | exact .hd | exact .tl .hd | exact .tl (.tl .hd) | exact .tl (.tl (.tl .hd)) | exact .tl (.tl (.tl (.tl .hd))) | exact .tl (.tl (.tl (.tl (.tl .hd)))) | exact .tl (.tl (.tl (.tl (.tl (.tl .hd))))) | exact .tl (.tl (.tl (.tl (.tl (.tl (.tl .hd)))))) | exact .tl (.tl (.tl (.tl (.tl (.tl (.tl (.tl .hd)))))))) | exact len_sl (by first | assumption | (repeat (first | assumption | exact List.Mem.head _ | refine .tail _ ?_))))) (by omega) (by omega) (fun _ => rfl) ?_
      refine dj ?_
      first
        | (refine d_load1 Try.isAgg3 (fun _ => rfl) (fun _ => at_blk1 (by first | exact .hd | exact .tl .hd | exact .tl (.tl .hd) | exact .tl (.tl (.tl .hd)) | exact .tl (.tl (.tl (.tl .hd))) | exact .tl (.tl (.tl (.tl (.tl .hd)))) | exact .tl (.tl (.tl (.tl (.tl (.tl .hd))))) | exact .tl (.tl (.tl (.tl (.tl (.tl (.tl .hd)))))) | exact .tl (.tl (.tl (.tl (.tl (.tl (.tl (.tl .hd)))))))) (by exact rfl)) (fun _ => rfl) ?_)
        | (refine d_load1 Try.isAgg3 (fun _ => rfl) (fun _ => at_int (by first | assumption | (repeat (first | assumption | exact List.Mem.head _ | refine .tail _ ?_))) (by assumption)) (fun _ => rfl) ?_)
      refine dj ?_
      refine d_move (fun _ => rfl) (by first | exact Ind.const _ | exact Ind.self | exact Ind.gh _ 3 rfl) (fun _ => rfl) ?_
      refine dj ?_
      refine d_move (fun _ => rfl) (by first | exact Ind.const _ | exact Ind.self | exact Ind.gh _ 3 rfl) (fun _ => rfl) ?_
      refine dj ?_
      refine d_indexAddr so_22 (fun _ => rfl) (fun _ => rfl) (fun _ => (by first | exact len_row (by first | exact .hd | exact .tl .hd | exact .tl (.tl .hd) | exact .tl (.tl (.tl .hd)) | exact .tl (.tl (.tl (.tl .hd))) | exact .tl (.tl (.tl (.tl (.tl .hd)))) | exact .tl (.tl (.tl (.tl (.tl (.tl .hd))))) | exact .tl (.tl (.tl (.tl (.tl (.tl (.tl .hd)))))) | exact .tl (.tl (.tl (.tl (.tl (.tl (.tl (.tl .hd)))))))) | exact len_sl (by first | assumption | (repeat (first | assumption | exact List.Mem.head _ | refine .tail _ ?_))))) (by omega) (by omega) (fun _ => rfl) ?_
      refine dj ?_
      first
        | (refine d_load1 Try.isAgg3 (fun _ => rfl) (fun _ => at_blk1 (by first | exact .hd | exact .tl .hd | exact .tl (.tl .hd) | exact .tl (.tl (.tl .hd)) | exact .tl (.tl (.tl (.tl .hd))) | exact .tl (.tl (.tl (.tl (.tl .hd)))) | exact .tl (.tl (.tl (.tl (.tl (.tl .hd))))) | exact .tl (.tl (.tl (.tl (.tl (.tl (.tl .hd)))))) | exact .tl (.tl (.tl (.tl (.tl (.tl (.tl (.tl .hd)))))))) (by exact rfl)) (fun _ => rfl) ?_)
        | (refine d_load1 Try.isAgg3 (fun _ => rfl) (fun _ => at_int (by first | assumption | (repeat (first | assumption | exact List.Mem.head _ | refine .tail _ ?_))) (by assumption)) (fun _ => rfl) ?_)
      refine dj ?_
      refine d_bin (fun _ => rfl) (fun _ => rfl) (fun _ => b_neq) (by first | exact Ind.const _ | exact Ind.self | exact Ind.gh _ 3 rfl) (fun _ => rfl) ?_
      refine d_nil ?_; intro ρ; simp only [chunks, facts, alOf, List.append_nil, List.nil_append, List.cons_append]
      refine jx_then ?_
      refine jc_cond rfl (fun ht24 => ?_) (fun ht24 => ?_)
      · -- t24 True
        try simp only [decide_eq_true_eq, decide_eq_false_iff_not, beq_iff_eq, bne_iff_ne, beq_eq_false_iff_ne, bne_eq_false_iff_eq, Int.not_lt, Int.not_le, Bool.not_eq_true, ne_eq] at ht24
        repeat refine jc_seq ?_
        refine jc_region ?_
        refine r_assign rfl ?_
        refine J.nil ?_
        refine jx_then ?_
        refine jc_ret ?_
        repeat (first | refine jx_thenRet ?_ | refine jx_blockRet ?_)
        refine jx_body (.inr rfl) (fun B w _ => res1 rfl rfl B w) (fun w hs => ⟨(), ?_, hs⟩)
        rw [decide_eq_false (by intro h; subst h; rw [hx] at hy; exact ht24 (by simpa using hy))]
      · -- t24 False
        try simp only [decide_eq_true_eq, decide_eq_false_iff_not, beq_iff_eq, bne_iff_ne, beq_eq_false_iff_ne, bne_eq_false_iff_eq, Int.not_lt, Int.not_le, Bool.not_eq_true, ne_eq] at ht24
        refine jc_skip ?_
        refine jx_block ?_
        refine jx_then ?_
        refine jc_region ?_
        refine r_bin rfl rfl (b_add (by omega) (by omega)) ?_
        refine r_move rfl ?_
        refine J.nil ?_
        refine jx_head (k + 1) ⟨by omega, ?_⟩ (by omega) ⟨rfl, rfl, rfl, rfl, trivial⟩ (fun w hs => hs)
        rw [List.take_add_one, List.take_add_one, hxy, hx, hy, ht24]
    · -- t14 False
      try simp only [decide_eq_true_eq, decide_eq_false_iff_not, beq_iff_eq, bne_iff_ne, beq_eq_false_iff_ne, bne_eq_false_iff_eq, Int.not_lt, Int.not_le, Bool.not_eq_true, ne_eq] at ht14
      refine jc_exit ?_
      repeat (first | refine jx_thenExit ?_ | refine jx_blockMiss rfl ?_)
      refine jx_blockHit ?_
      refine jx_then ?_
      repeat refine jc_seq ?_
      refine jc_region ?_
      refine r_assign rfl ?_
      refine J.nil ?_
      refine jx_then ?_
      refine jc_ret ?_
      repeat (first | refine jx_thenRet ?_ | refine jx_blockRet ?_)
      refine jx_body (.inr rfl) (fun B w _ => res1 rfl rfl B w) (fun w hs => ⟨(), ?_, hs⟩)
      rw [decide_eq_true (by rw [List.take_of_length_le (by omega), List.take_of_length_le (by omega)] at hxy; exact hxy)]
theorem sameInts_true {L : List Chunk} {R : List Fact} {w : World} {v1 v2 : Value} {xs ys : List Int} (e : xs = ys) (hs : St L R w) (h1 : sl v1 xs ∈ R) (h2 : sl v2 ys ∈ R) : Calls Try.prog 43 [v1, v2].toArray w (Post (fun _ : Unit => .bool true) (fun _ => L) (fun _ => R)) := by
  have h := sameInts_calls hs h1 h2
  rw [decide_eq_true e] at h; exact h
theorem Deps.base {ops : Array Oper} {R0 : List Fact} {its : List Item} {i : Nat} {ρ : Rho} {R' : List Fact} {f : Fact} (h : Deps ops R0 its i ρ R') (hf : f ∈ R0) : f ∈ R' := h.1 f hf
theorem Deps.dep {ops : Array Oper} {R0 : List Fact} {its : List Item} {i : Nat} {ρ : Rho} {R' : List Fact} {f : Fact} {it : Item} (h : Deps ops R0 its i ρ R') (hi : it ∈ its) (hb : Bef ops it.idx i) (hf : f ∈ it.F ρ) : f ∈ R' := h.2 it hi hb f hf
theorem flatTells_walk {L : List Chunk} {R : List Fact} {w : World} {v0 v3 : Value} {m : List Int} {o : Op} {lines : Int} {l : List Done} (hs : St L R w) (h0 : sl v0 m ∈ R) (h3 : sl v3 l ∈ R) : Calls Try.prog 3 [v0, .agg o.cells.toArray, vi lines, v3].toArray w (Post (fun _ : Unit => .bool true) (fun _ => L) (fun _ => R)) := by
  refine calls_args Try.func3 rfl Try.ntmps3 rfl hs ?_
  clear hs
  repeat refine jc_seq ?_
  refine jc_region ?_
  refine r_box rfl rfl ?_; intro b5
  refine r_assign rfl ?_
  refine J.nil ?_
  refine jx_then ?_
  repeat refine jc_seq ?_
  refine jc_region ?_
  refine r_move rfl ?_
  refine r_bin rfl rfl b_gtr ?_
  refine J.nil ?_
  refine jx_then ?_
  repeat refine jc_seq ?_
  refine jc_cond rfl (fun ht18 => ?_) (fun ht18 => ?_)
  · -- t18 True
    try simp only [decide_eq_true_eq, decide_eq_false_iff_not, beq_iff_eq, bne_iff_ne, beq_eq_false_iff_ne, bne_eq_false_iff_eq, Int.not_lt, Int.not_le, Bool.not_eq_true, ne_eq] at ht18
    repeat refine jc_seq ?_
    refine jc_region ?_
    refine r_assign rfl ?_
    refine J.nil ?_
    refine jx_then ?_
    refine jc_ret ?_
    repeat (first | refine jx_thenRet ?_ | refine jx_blockRet ?_)
    refine jx_body (.inr rfl) (fun B w _ => res1 rfl rfl B w) (fun w hs => ⟨(), ?_, hs.sub (by repeat (first | exact .refl | exact .nil | refine .cons (by first | exact .hd | exact .tl .hd | exact .tl (.tl .hd) | exact .tl (.tl (.tl .hd)) | exact .tl (.tl (.tl (.tl .hd))) | exact .tl (.tl (.tl (.tl (.tl .hd)))) | exact .tl (.tl (.tl (.tl (.tl (.tl .hd))))) | exact .tl (.tl (.tl (.tl (.tl (.tl (.tl .hd)))))) | exact .tl (.tl (.tl (.tl (.tl (.tl (.tl (.tl .hd)))))))) ?_ | refine .drop ?_)) (by repeat (first | exact FSub.refl | exact FSub.nil | refine FSub.cons (by first | assumption | (repeat (first | assumption | exact List.Mem.head _ | refine .tail _ ?_))) ?_ | refine FSub.drop ?_))⟩)
    rfl
  · -- t18 False
    try simp only [decide_eq_true_eq, decide_eq_false_iff_not, beq_iff_eq, bne_iff_ne, beq_eq_false_iff_ne, bne_eq_false_iff_eq, Int.not_lt, Int.not_le, Bool.not_eq_true, ne_eq] at ht18
    refine jc_skip ?_
    refine jx_then ?_
    repeat refine jc_seq ?_
    refine jc_region ?_
    refine r_move rfl ?_
    first | refine r_loadN Try.isAgg24 Try.sizeOf24 rfl (at_blkAll (by first | exact .hd | exact .tl .hd | exact .tl (.tl .hd) | exact .tl (.tl (.tl .hd)) | exact .tl (.tl (.tl (.tl .hd))) | exact .tl (.tl (.tl (.tl (.tl .hd)))) | exact .tl (.tl (.tl (.tl (.tl (.tl .hd))))) | exact .tl (.tl (.tl (.tl (.tl (.tl (.tl .hd)))))) | exact .tl (.tl (.tl (.tl (.tl (.tl (.tl (.tl .hd))))))))) (by exact rfl) ?_ | refine r_loadN Try.isAgg24 Try.sizeOf24 rfl (at_blkN (sz := 3) (by first | exact .hd | exact .tl .hd | exact .tl (.tl .hd) | exact .tl (.tl (.tl .hd)) | exact .tl (.tl (.tl (.tl .hd))) | exact .tl (.tl (.tl (.tl (.tl .hd)))) | exact .tl (.tl (.tl (.tl (.tl (.tl .hd))))) | exact .tl (.tl (.tl (.tl (.tl (.tl (.tl .hd)))))) | exact .tl (.tl (.tl (.tl (.tl (.tl (.tl (.tl .hd))))))))) (by exact rfl) ?_ | refine r_loadN Try.isAgg24 Try.sizeOf24 rfl (at_Op (by first | assumption | (repeat (first | assumption | exact List.Mem.head _ | refine .tail _ ?_))) (by assumption)) rfl ?_
    refine r_call Try.call41 rfl (fun w hs => flatDo_calls (m := m) (o := o) hs (by first | assumption | (repeat (first | assumption | exact List.Mem.head _ | refine .tail _ ?_)))) ?_; intro v22
    refine r_move rfl ?_
    refine r_extract rfl rfl ?_
    refine r_extract rfl rfl ?_
    refine r_extract rfl rfl ?_
    refine r_assign rfl ?_
    refine r_assign rfl ?_
    refine r_assign rfl ?_
    refine J.nil ?_
    refine jx_then ?_
    repeat refine jc_seq ?_
    refine jc_region ?_
    refine r_move rfl ?_
    first | refine r_loadN Try.isAgg24 Try.sizeOf24 rfl (at_blkAll (by first | exact .hd | exact .tl .hd | exact .tl (.tl .hd) | exact .tl (.tl (.tl .hd)) | exact .tl (.tl (.tl (.tl .hd))) | exact .tl (.tl (.tl (.tl (.tl .hd)))) | exact .tl (.tl (.tl (.tl (.tl (.tl .hd))))) | exact .tl (.tl (.tl (.tl (.tl (.tl (.tl .hd)))))) | exact .tl (.tl (.tl (.tl (.tl (.tl (.tl (.tl .hd))))))))) (by exact rfl) ?_ | refine r_loadN Try.isAgg24 Try.sizeOf24 rfl (at_blkN (sz := 3) (by first | exact .hd | exact .tl .hd | exact .tl (.tl .hd) | exact .tl (.tl (.tl .hd)) | exact .tl (.tl (.tl (.tl .hd))) | exact .tl (.tl (.tl (.tl (.tl .hd)))) | exact .tl (.tl (.tl (.tl (.tl (.tl .hd))))) | exact .tl (.tl (.tl (.tl (.tl (.tl (.tl .hd)))))) | exact .tl (.tl (.tl (.tl (.tl (.tl (.tl (.tl .hd))))))))) (by exact rfl) ?_ | refine r_loadN Try.isAgg24 Try.sizeOf24 rfl (at_Op (by first | assumption | (repeat (first | assumption | exact List.Mem.head _ | refine .tail _ ?_))) (by assumption)) rfl ?_
    refine r_call Try.call42 rfl (fun w hs => refDo_calls (m := m) (o := o) hs (by first | assumption | (repeat (first | assumption | exact List.Mem.head _ | refine .tail _ ?_)))) ?_; intro v29
    refine r_move rfl ?_
    refine r_extract rfl rfl ?_
    refine r_extract rfl rfl ?_
    refine r_extract rfl rfl ?_
    refine r_assign rfl ?_
    refine r_assign rfl ?_
    refine r_assign rfl ?_
    refine J.nil ?_
    refine jx_then ?_
    repeat refine jc_seq ?_
    refine jc_region ?_
    refine r_move rfl ?_
    refine r_move rfl ?_
    refine r_bin rfl rfl (b_neq_F (by omega)) ?_
    refine r_move rfl ?_
    refine J.guardYes ?_ ?_
    · exact rfl
    refine r_move rfl ?_
    refine J.guardYes ?_ ?_
    · exact rfl
    refine r_move rfl ?_
    refine J.guardYes ?_ ?_
    · exact rfl
    refine r_bin rfl rfl (b_neq_F (by omega)) ?_
    refine r_pickF rfl rfl ?_
    refine r_move rfl ?_
    refine J.guardYes ?_ ?_
    · exact rfl
    refine r_move rfl ?_
    refine J.guardYes ?_ ?_
    · exact rfl
    refine r_move rfl ?_
    refine J.guardYes ?_ ?_
    · exact rfl
    refine r_call Try.call43 rfl (fun w hs => sameInts_true rfl hs (by first | assumption | (repeat (first | assumption | exact List.Mem.head _ | refine .tail _ ?_))) (by first | assumption | (repeat (first | assumption | exact List.Mem.head _ | refine .tail _ ?_)))) ?_; intro _
    refine J.guardYes ?_ ?_
    · exact rfl
    refine r_not rfl ?_
    refine r_pickF rfl rfl ?_
    refine J.nil ?_
    refine jx_then ?_
    repeat refine jc_seq ?_
    refine jc_condF rfl ?_
    refine jc_skip ?_
    refine jx_then ?_
    repeat refine jc_seq ?_
    refine jc_region ?_
    refine r_move rfl ?_
    refine r_move rfl ?_
    refine r_call Try.call44 rfl (fun w hs => flatPlay_calls hs (by omega) (by first | assumption | (repeat (first | assumption | exact List.Mem.head _ | refine .tail _ ?_)))) ?_; intro v50
    refine r_move rfl ?_
    refine r_extract rfl rfl ?_
    refine r_extract rfl rfl ?_
    refine r_assign rfl ?_
    refine r_assign rfl ?_
    refine J.nil ?_
    refine jx_then ?_
    repeat refine jc_seq ?_
    refine jc_region ?_
    refine r_move rfl ?_
    refine r_move rfl ?_
    refine r_call Try.call45 rfl (fun w hs => refPlay_calls hs (by omega) (by first | assumption | (repeat (first | assumption | exact List.Mem.head _ | refine .tail _ ?_)))) ?_; intro v56
    refine r_move rfl ?_
    refine r_extract rfl rfl ?_
    refine r_extract rfl rfl ?_
    refine r_assign rfl ?_
    refine r_assign rfl ?_
    refine J.nil ?_
    refine jx_then ?_
    repeat refine jc_seq ?_
    refine jc_draw mixed rfl rfl (fun _ => _) rfl ?_
    refine dj ?_
    refine d_move (fun _ => rfl) (by first | exact Ind.const _ | exact Ind.self | exact Ind.gh _ 3 rfl) (fun _ => rfl) ?_
    refine dj ?_
    refine d_move (fun _ => rfl) (by first | exact Ind.const _ | exact Ind.self | exact Ind.gh _ 3 rfl) (fun _ => rfl) ?_
    refine dj ?_
    refine d_bin (fun _ => rfl) (fun _ => rfl) (fun _ => b_eql_T (by omega)) (by first | exact Ind.const _ | exact Ind.self | exact Ind.gh _ 3 rfl) (fun _ => rfl) ?_
    refine dj ?_
    refine d_move (fun _ => rfl) (by first | exact Ind.const _ | exact Ind.self | exact Ind.gh _ 3 rfl) (fun _ => rfl) ?_
    refine dj ?_
    refine d_guardYes ?_ ?_
    · exact fun _ => rfl
    refine d_move (fun _ => rfl) (by first | exact Ind.const _ | exact Ind.self | exact Ind.gh _ 3 rfl) (fun _ => rfl) ?_
    refine dj ?_
    refine d_guardYes ?_ ?_
    · exact fun _ => rfl
    refine d_move (fun _ => rfl) (by first | exact Ind.const _ | exact Ind.self | exact Ind.gh _ 3 rfl) (fun _ => rfl) ?_
    refine dj ?_
    refine d_guardYes ?_ ?_
    · exact fun _ => rfl
    refine d_call (γ := Unit) (val := fun _ => .bool true) (F := fun _ => []) (C := fun _ => []) Try.call43 (fun _ => rfl) (fun _ => rfl) (fun ρ L R w hd hs => sameInts_true rfl hs (hd.base (by first | assumption | (repeat (first | assumption | exact List.Mem.head _ | refine .tail _ ?_)))) (hd.base (by first | assumption | (repeat (first | assumption | exact List.Mem.head _ | refine .tail _ ?_))))) ?_
    refine dj ?_
    refine d_pickT (fun _ => rfl) (fun _ => rfl) (by first | exact Ind.const _ | exact Ind.self | exact Ind.gh _ 3 rfl) (fun _ => rfl) ?_
    refine dj ?_
    refine d_move (fun _ => rfl) (by first | exact Ind.const _ | exact Ind.self | exact Ind.gh _ 3 rfl) (fun _ => rfl) ?_
    refine dj ?_
    refine d_guardYes ?_ ?_
    · exact fun _ => rfl
    refine d_move (fun _ => rfl) (by first | exact Ind.const _ | exact Ind.self | exact Ind.gh _ 3 rfl) (fun _ => rfl) ?_
    refine dj ?_
    refine d_guardYes ?_ ?_
    · exact fun _ => rfl
    refine d_call (γ := Value) (val := fun v => v) (F := fun v => [sl v (zeros lines)]) (C := fun _ => []) Try.call46 (fun _ => rfl) (fun _ => rfl) (fun ρ L R w hd hs => flatNew_calls (by omega) hs) ?_
    refine dj ?_
    refine d_guardYes ?_ ?_
    · exact fun _ => rfl
    refine d_move (fun _ => rfl) (by first | exact Ind.const _ | exact Ind.self | exact Ind.gh _ 3 rfl) (fun _ => rfl) ?_
    refine dj ?_
    refine d_guardYes ?_ ?_
    · exact fun _ => rfl
    refine d_max (fun _ => rfl) (fun _ => rfl) (fun _ => rfl) ?_
    refine dj ?_
    refine d_guardYes ?_ ?_
    · exact fun _ => rfl
    refine d_make (α := Int) (x0 := 0) (zc := [vi 0]) eo_22 rfl (by decide) (fun _ => rfl) (fun _ => rfl) rfl (fun j => ⟨rfl, by unfold In64; omega⟩) (by omega) (by omega) (fun _ => rfl) ?_
    refine dj ?_
    refine d_guardYes ?_ ?_
    · exact fun _ => rfl
    refine d_call (γ := Unit) (val := fun _ => .bool true) (F := fun _ => []) (C := fun _ => []) Try.call43 (fun _ => rfl) (fun _ => rfl) (fun ρ L R w hd hs => sameInts_true (xs := zeros lines) (ys := List.replicate (max lines 0).toNat 0) (by unfold zeros; congr 1; omega) hs (hd.dep (it := ⟨10, _, _, _, _⟩) (by repeat (first | exact List.Mem.head _ | refine List.Mem.tail _ ?_)) ⟨6, rfl⟩ (List.Mem.head _)) (hd.dep (it := ⟨13, _, _, _, _⟩) (by repeat (first | exact List.Mem.head _ | refine List.Mem.tail _ ?_)) ⟨6, rfl⟩ (List.Mem.head _))) ?_
    refine dj ?_
    refine d_pickT (fun _ => rfl) (fun _ => rfl) (by first | exact Ind.const _ | exact Ind.self | exact Ind.gh _ 3 rfl) (fun _ => rfl) ?_
    refine dj ?_
    refine d_assign (fun _ => rfl) (by first | exact Ind.const _ | exact Ind.self | exact Ind.gh _ 3 rfl) (fun _ => rfl) ?_
    refine d_nil ?_; intro ρ; simp only [chunks, facts, alOf, List.append_nil, List.nil_append, List.cons_append]
    refine jx_then ?_
    refine jc_ret ?_
    repeat (first | refine jx_thenRet ?_ | refine jx_blockRet ?_)
    refine jx_body (.inr rfl) (fun B w _ => res1 rfl rfl B w) (fun w hs => ⟨(), ?_, hs.sub (by repeat (first | exact .refl | exact .nil | refine .cons (by first | exact .hd | exact .tl .hd | exact .tl (.tl .hd) | exact .tl (.tl (.tl .hd)) | exact .tl (.tl (.tl (.tl .hd))) | exact .tl (.tl (.tl (.tl (.tl .hd)))) | exact .tl (.tl (.tl (.tl (.tl (.tl .hd))))) | exact .tl (.tl (.tl (.tl (.tl (.tl (.tl .hd)))))) | exact .tl (.tl (.tl (.tl (.tl (.tl (.tl (.tl .hd)))))))) ?_ | refine .drop ?_)) (by repeat (first | exact FSub.refl | exact FSub.nil | refine FSub.cons (by first | assumption | (repeat (first | assumption | exact List.Mem.head _ | refine .tail _ ?_))) ?_ | refine FSub.drop ?_))⟩)
    rfl
end Go.Proofs.Ytfdkkncmpjbkbaa
