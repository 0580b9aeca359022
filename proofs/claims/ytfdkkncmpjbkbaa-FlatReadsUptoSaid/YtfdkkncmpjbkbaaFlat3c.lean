/- This file proves what flat.Play and its twin in shref1 compute. No conditions. -/
import Derived.Test.YtfdkkncmpjbkbaaFacts
import Derived.Test.YtfdkkncmpjbkbaaFlat
import Derived.Test.YtfdkkncmpjbkbaaFlat3
import Derived.Test.YtfdkkncmpjbkbaaFlat3b
set_option linter.unusedVariables false
set_option linter.unusedSimpArgs false
set_option maxHeartbeats 1000000
namespace Go.Proofs.Ytfdkkncmpjbkbaa
open Go
theorem flatPlay_calls {L : List Chunk} {R : List Fact} {w : World} {v2 : Value} {lines : Int} {l : List Done} (hs : St L R w) (hlines : lines ≤ 100000) (h1 : sl v2 l ∈ R) : Calls Try.prog 44 [vi lines, v2].toArray w (Post (fun v : Value => .tuple #[v, vi (flatPlay lines l).2]) (fun _ => L) (fun v => sl v (flatPlay lines l).1 :: R)) := by
  have hlen := sl_len h1 hs
  have hz : (zeros lines).length ≤ 16777216 := by unfold zeros; rw [List.length_replicate]; omega
  refine calls_args Try.func44 rfl Try.ntmps44 rfl hs ?_
  clear hs
  repeat refine jc_seq ?_
  refine jc_region ?_
  refine r_assign rfl ?_
  refine r_assign rfl ?_
  refine J.nil ?_
  refine jx_then ?_
  repeat refine jc_seq ?_
  refine jc_region ?_
  refine r_move rfl ?_
  refine r_call Try.call46 rfl (fun w hs => flatNew_calls hlines hs) ?_; intro v6
  refine r_assign rfl ?_
  refine J.nil ?_
  refine jx_then ?_
  repeat refine jc_seq ?_
  refine jc_region ?_
  refine r_move rfl ?_
  refine r_len Try.underlying25 rfl (by first | exact len_row (by first | exact .hd | exact .tl .hd | exact .tl (.tl .hd) | exact .tl (.tl (.tl .hd)) | exact .tl (.tl (.tl (.tl .hd))) | exact .tl (.tl (.tl (.tl (.tl .hd)))) | exact .tl (.tl (.tl (.tl (.tl (.tl .hd))))) | exact .tl (.tl (.tl (.tl (.tl (.tl (.tl .hd)))))) | exact .tl (.tl (.tl (.tl (.tl (.tl (.tl (.tl .hd)))))))) | exact len_sl (by first | assumption | (repeat (first | assumption | exact List.Mem.head _ | refine .tail _ ?_)))) ?_
  refine r_move rfl ?_
  refine J.nil ?_
  refine jx_then ?_
  repeat refine jc_seq ?_
  refine jc_block ?_
  refine jc_loop (γ := Nat × Value × List Int) (fun g => g.1 ≤ l.length ∧ g.2.2.length ≤ 16777216 ∧ flatPlay lines l = playFrom g.2.2 (g.1 : Int) (l.drop g.1)) (fun _ => L) (fun g => sl g.2.1 g.2.2 :: R) (fun g => [(6, g.2.1), (14, v2), (15, vi (l.length : Int)), (16, vi (g.1 : Int))]) (fun g => l.length - g.1) (0, v6, zeros lines) ⟨by simp, hz, rfl⟩ ⟨rfl, rfl, rfl, rfl, trivial⟩ (fun w hs => hs.sub (by repeat (first | exact .refl | exact .nil | refine .cons (by first | exact .hd | exact .tl .hd | exact .tl (.tl .hd) | exact .tl (.tl (.tl .hd)) | exact .tl (.tl (.tl (.tl .hd))) | exact .tl (.tl (.tl (.tl (.tl .hd)))) | exact .tl (.tl (.tl (.tl (.tl (.tl .hd))))) | exact .tl (.tl (.tl (.tl (.tl (.tl (.tl .hd)))))) | exact .tl (.tl (.tl (.tl (.tl (.tl (.tl (.tl .hd)))))))) ?_ | refine .drop ?_)) (by repeat (first | exact FSub.refl | exact FSub.nil | refine FSub.cons (by first | assumption | (repeat (first | assumption | exact List.Mem.head _ | refine .tail _ ?_))) ?_ | refine FSub.drop ?_))) ?_
  rintro ⟨k, v, mk⟩ ⟨hk, hmk, hpl⟩
  simp only at hk hmk hpl ⊢
  repeat refine jc_seq ?_
  refine jc_region ?_
  refine r_bin rfl rfl b_lss ?_
  refine J.nil ?_
  refine jx_then ?_
  repeat refine jc_seq ?_
  refine jc_cond rfl (fun ht17 => ?_) (fun ht17 => ?_)
  · -- t17 True
    try simp only [decide_eq_true_eq, decide_eq_false_iff_not, beq_iff_eq, bne_iff_ne, beq_eq_false_iff_ne, bne_eq_false_iff_eq, Int.not_lt, Int.not_le, Bool.not_eq_true, ne_eq] at ht17
    refine jc_skip ?_
    refine jx_then ?_
    repeat refine jc_seq ?_
    refine jc_block ?_
    repeat refine jc_seq ?_
    obtain ⟨d, hd⟩ : ∃ d, l[k]? = some d := ⟨_, List.getElem?_eq_getElem (by omega)⟩
    refine jc_region ?_
    refine r_move rfl ?_
    refine r_indexAddr so_25 rfl rfl (by first | exact len_row (by first | exact .hd | exact .tl .hd | exact .tl (.tl .hd) | exact .tl (.tl (.tl .hd)) | exact .tl (.tl (.tl (.tl .hd))) | exact .tl (.tl (.tl (.tl (.tl .hd)))) | exact .tl (.tl (.tl (.tl (.tl (.tl .hd))))) | exact .tl (.tl (.tl (.tl (.tl (.tl (.tl .hd)))))) | exact .tl (.tl (.tl (.tl (.tl (.tl (.tl (.tl .hd)))))))) | exact len_sl (by first | assumption | (repeat (first | assumption | exact List.Mem.head _ | refine .tail _ ?_)))) (by omega) (by omega) ?_
    first | refine r_loadN Try.isAgg100 Try.sizeOf100 rfl (at_blkAll (by first | exact .hd | exact .tl .hd | exact .tl (.tl .hd) | exact .tl (.tl (.tl .hd)) | exact .tl (.tl (.tl (.tl .hd))) | exact .tl (.tl (.tl (.tl (.tl .hd)))) | exact .tl (.tl (.tl (.tl (.tl (.tl .hd))))) | exact .tl (.tl (.tl (.tl (.tl (.tl (.tl .hd)))))) | exact .tl (.tl (.tl (.tl (.tl (.tl (.tl (.tl .hd))))))))) (by exact rfl) ?_ | refine r_loadN Try.isAgg100 Try.sizeOf100 rfl (at_blkN (sz := 5) (by first | exact .hd | exact .tl .hd | exact .tl (.tl .hd) | exact .tl (.tl (.tl .hd)) | exact .tl (.tl (.tl (.tl .hd))) | exact .tl (.tl (.tl (.tl (.tl .hd)))) | exact .tl (.tl (.tl (.tl (.tl (.tl .hd))))) | exact .tl (.tl (.tl (.tl (.tl (.tl (.tl .hd)))))) | exact .tl (.tl (.tl (.tl (.tl (.tl (.tl (.tl .hd))))))))) (by exact rfl) ?_ | refine r_loadN Try.isAgg100 Try.sizeOf100 rfl (at_Done (by first | assumption | (repeat (first | assumption | exact List.Mem.head _ | refine .tail _ ?_))) (by assumption)) rfl ?_
    refine r_alloc Try.zeroValue100 rfl ?_; intro b8
    refine r_assign rfl ?_
    first | refine r_storeAll Try.sizeOf100 rfl rfl rfl (by simp [Value.oneCell', Config.cells, Msg.cells, Line.cells, Op.cells, Done.cells, Step.cells, Answer.cells, Seen.cells, Core.cells, Entry.cells, Chip.cells]) (by first | exact .hd | exact .tl .hd | exact .tl (.tl .hd) | exact .tl (.tl (.tl .hd)) | exact .tl (.tl (.tl (.tl .hd))) | exact .tl (.tl (.tl (.tl (.tl .hd)))) | exact .tl (.tl (.tl (.tl (.tl (.tl .hd))))) | exact .tl (.tl (.tl (.tl (.tl (.tl (.tl .hd)))))) | exact .tl (.tl (.tl (.tl (.tl (.tl (.tl (.tl .hd)))))))) (by exact rfl) ?_ | refine r_storeN Try.sizeOf100 rfl rfl rfl (by simp [Value.oneCell', Config.cells, Msg.cells, Line.cells, Op.cells, Done.cells, Step.cells, Answer.cells, Seen.cells, Core.cells, Entry.cells, Chip.cells]) (by first | exact .hd | exact .tl .hd | exact .tl (.tl .hd) | exact .tl (.tl (.tl .hd)) | exact .tl (.tl (.tl (.tl .hd))) | exact .tl (.tl (.tl (.tl (.tl .hd)))) | exact .tl (.tl (.tl (.tl (.tl (.tl .hd))))) | exact .tl (.tl (.tl (.tl (.tl (.tl (.tl .hd)))))) | exact .tl (.tl (.tl (.tl (.tl (.tl (.tl (.tl .hd)))))))) (by exact rfl) ?_
    refine J.nil ?_
    refine jx_then ?_
    repeat refine jc_seq ?_
    refine jc_region ?_
    refine r_move rfl ?_
    first | refine r_fieldAddr fo_100_1 rfl ?_ | refine r_fieldAddrE fo_100_1 rfl (by first | exact len_row (by first | exact .hd | exact .tl .hd | exact .tl (.tl .hd) | exact .tl (.tl (.tl .hd)) | exact .tl (.tl (.tl (.tl .hd))) | exact .tl (.tl (.tl (.tl (.tl .hd)))) | exact .tl (.tl (.tl (.tl (.tl (.tl .hd))))) | exact .tl (.tl (.tl (.tl (.tl (.tl (.tl .hd)))))) | exact .tl (.tl (.tl (.tl (.tl (.tl (.tl (.tl .hd)))))))) | exact len_sl (by first | assumption | (repeat (first | assumption | exact List.Mem.head _ | refine .tail _ ?_)))) (by first | assumption | omega | simp) ?_
    first | refine r_loadN Try.isAgg24 Try.sizeOf24 rfl (at_blkAll (by first | exact .hd | exact .tl .hd | exact .tl (.tl .hd) | exact .tl (.tl (.tl .hd)) | exact .tl (.tl (.tl (.tl .hd))) | exact .tl (.tl (.tl (.tl (.tl .hd)))) | exact .tl (.tl (.tl (.tl (.tl (.tl .hd))))) | exact .tl (.tl (.tl (.tl (.tl (.tl (.tl .hd)))))) | exact .tl (.tl (.tl (.tl (.tl (.tl (.tl (.tl .hd))))))))) (by exact rfl) ?_ | refine r_loadN Try.isAgg24 Try.sizeOf24 rfl (at_blkN (sz := 3) (by first | exact .hd | exact .tl .hd | exact .tl (.tl .hd) | exact .tl (.tl (.tl .hd)) | exact .tl (.tl (.tl (.tl .hd))) | exact .tl (.tl (.tl (.tl (.tl .hd)))) | exact .tl (.tl (.tl (.tl (.tl (.tl .hd))))) | exact .tl (.tl (.tl (.tl (.tl (.tl (.tl .hd)))))) | exact .tl (.tl (.tl (.tl (.tl (.tl (.tl (.tl .hd))))))))) (by exact rfl) ?_ | refine r_loadN Try.isAgg24 Try.sizeOf24 rfl (at_Op (by first | assumption | (repeat (first | assumption | exact List.Mem.head _ | refine .tail _ ?_))) (by assumption)) rfl ?_
    refine r_call Try.call41 rfl (fun w hs => flatDo_calls (m := mk) (o := d.op) hs (by first | assumption | (repeat (first | assumption | exact List.Mem.head _ | refine .tail _ ?_)))) ?_; intro v25
    refine r_move rfl ?_
    refine r_extract rfl rfl ?_
    refine r_extract rfl rfl ?_
    refine r_extract rfl rfl ?_
    refine r_assign rfl ?_
    refine r_assign rfl ?_
    refine r_assign rfl ?_
    refine J.nil ?_
    refine jx_then ?_
    repeat refine jc_seq ?_
    refine jc_region ?_
    refine r_move rfl ?_
    refine r_bin rfl rfl b_neq ?_
    refine r_move rfl ?_
    refine j_cases (t := 31) (b := ?b1) ?e1 ?_ ?_
    case e1 => exact rfl
    · -- t31 True
      intro ht31
      try simp only [decide_eq_true_eq, decide_eq_false_iff_not, beq_iff_eq, bne_iff_ne, beq_eq_false_iff_ne, bne_eq_false_iff_eq, Int.not_lt, Int.not_le, Bool.not_eq_true, ne_eq] at ht31
      refine J.guardNo ?_ ?_
      · exact rfl
      refine J.guardNo ?_ ?_
      · exact rfl
      refine J.guardNo ?_ ?_
      · exact rfl
      refine J.guardNo ?_ ?_
      · exact rfl
      refine r_pickT rfl rfl ?_
      refine J.nil ?_
      refine jx_then ?_
      repeat refine jc_seq ?_
      refine jc_condT rfl ?_
      repeat refine jc_seq ?_
      refine jc_region ?_
      refine r_move rfl ?_
      refine r_move rfl ?_
      refine r_assign rfl ?_
      refine r_assign rfl ?_
      refine J.nil ?_
      refine jx_then ?_
      refine jc_ret ?_
      repeat (first | refine jx_thenRet ?_ | refine jx_blockRet ?_)
      have hf : flatPlay lines l = (mk, (k : Int)) := by rw [hpl, drop_at hd, playFrom_stop (by first | exact .inl (by omega) | exact .inr (by omega))]
      refine jx_body (.inr rfl) (fun B w hs => res2 rfl rfl rfl B w) (fun w hs => ?_)
      rw [hf]; exact ⟨v, rfl, hs.sub (by repeat (first | exact .refl | exact .nil | refine .cons (by first | exact .hd | exact .tl .hd | exact .tl (.tl .hd) | exact .tl (.tl (.tl .hd)) | exact .tl (.tl (.tl (.tl .hd))) | exact .tl (.tl (.tl (.tl (.tl .hd)))) | exact .tl (.tl (.tl (.tl (.tl (.tl .hd))))) | exact .tl (.tl (.tl (.tl (.tl (.tl (.tl .hd)))))) | exact .tl (.tl (.tl (.tl (.tl (.tl (.tl (.tl .hd)))))))) ?_ | refine .drop ?_)) (by repeat (first | exact FSub.refl | exact FSub.nil | refine FSub.cons (by first | assumption | (repeat (first | assumption | exact List.Mem.head _ | refine .tail _ ?_))) ?_ | refine FSub.drop ?_))⟩
    · -- t31 False
      intro ht31
      try simp only [decide_eq_true_eq, decide_eq_false_iff_not, beq_iff_eq, bne_iff_ne, beq_eq_false_iff_ne, bne_eq_false_iff_eq, Int.not_lt, Int.not_le, Bool.not_eq_true, ne_eq] at ht31
      refine J.guardYes ?_ ?_
      · exact rfl
      refine r_move rfl ?_
      refine J.guardYes ?_ ?_
      · exact rfl
      first | refine r_fieldAddr fo_100_2 rfl ?_ | refine r_fieldAddrE fo_100_2 rfl (by first | exact len_row (by first | exact .hd | exact .tl .hd | exact .tl (.tl .hd) | exact .tl (.tl (.tl .hd)) | exact .tl (.tl (.tl (.tl .hd))) | exact .tl (.tl (.tl (.tl (.tl .hd)))) | exact .tl (.tl (.tl (.tl (.tl (.tl .hd))))) | exact .tl (.tl (.tl (.tl (.tl (.tl (.tl .hd)))))) | exact .tl (.tl (.tl (.tl (.tl (.tl (.tl (.tl .hd)))))))) | exact len_sl (by first | assumption | (repeat (first | assumption | exact List.Mem.head _ | refine .tail _ ?_)))) (by first | assumption | omega | simp) ?_
      refine J.guardYes ?_ ?_
      · exact rfl
      first
        | (refine r_load1 Try.isAgg3 rfl (at_blk1 (by first | exact .hd | exact .tl .hd | exact .tl (.tl .hd) | exact .tl (.tl (.tl .hd)) | exact .tl (.tl (.tl (.tl .hd))) | exact .tl (.tl (.tl (.tl (.tl .hd)))) | exact .tl (.tl (.tl (.tl (.tl (.tl .hd))))) | exact .tl (.tl (.tl (.tl (.tl (.tl (.tl .hd)))))) | exact .tl (.tl (.tl (.tl (.tl (.tl (.tl (.tl .hd)))))))) (by exact rfl)) ?_)
        | (refine r_load1 Try.isAgg3 rfl (at_int (by first | assumption | (repeat (first | assumption | exact List.Mem.head _ | refine .tail _ ?_))) (by assumption)) ?_)
      refine J.guardYes ?_ ?_
      · exact rfl
      refine r_bin rfl rfl b_neq ?_
      refine r_pickF rfl rfl ?_
      refine J.nil ?_
      refine jx_then ?_
      repeat refine jc_seq ?_
      refine jc_cond rfl (fun ht36 => ?_) (fun ht36 => ?_)
      · -- t36 True
        try simp only [decide_eq_true_eq, decide_eq_false_iff_not, beq_iff_eq, bne_iff_ne, beq_eq_false_iff_ne, bne_eq_false_iff_eq, Int.not_lt, Int.not_le, Bool.not_eq_true, ne_eq] at ht36
        repeat refine jc_seq ?_
        refine jc_region ?_
        refine r_move rfl ?_
        refine r_move rfl ?_
        refine r_assign rfl ?_
        refine r_assign rfl ?_
        refine J.nil ?_
        refine jx_then ?_
        refine jc_ret ?_
        repeat (first | refine jx_thenRet ?_ | refine jx_blockRet ?_)
        have hf : flatPlay lines l = (mk, (k : Int)) := by rw [hpl, drop_at hd, playFrom_stop (by first | exact .inl (by omega) | exact .inr (by omega))]
        refine jx_body (.inr rfl) (fun B w hs => res2 rfl rfl rfl B w) (fun w hs => ?_)
        rw [hf]; exact ⟨v, rfl, hs.sub (by repeat (first | exact .refl | exact .nil | refine .cons (by first | exact .hd | exact .tl .hd | exact .tl (.tl .hd) | exact .tl (.tl (.tl .hd)) | exact .tl (.tl (.tl (.tl .hd))) | exact .tl (.tl (.tl (.tl (.tl .hd)))) | exact .tl (.tl (.tl (.tl (.tl (.tl .hd))))) | exact .tl (.tl (.tl (.tl (.tl (.tl (.tl .hd)))))) | exact .tl (.tl (.tl (.tl (.tl (.tl (.tl (.tl .hd)))))))) ?_ | refine .drop ?_)) (by repeat (first | exact FSub.refl | exact FSub.nil | refine FSub.cons (by first | assumption | (repeat (first | assumption | exact List.Mem.head _ | refine .tail _ ?_))) ?_ | refine FSub.drop ?_))⟩
      · -- t36 False
        try simp only [decide_eq_true_eq, decide_eq_false_iff_not, beq_iff_eq, bne_iff_ne, beq_eq_false_iff_ne, bne_eq_false_iff_eq, Int.not_lt, Int.not_le, Bool.not_eq_true, ne_eq] at ht36
        refine jc_skip ?_
        refine jx_then ?_
        refine jc_region ?_
        refine r_move rfl ?_
        refine r_assign rfl ?_
        refine J.nil ?_
        refine jx_block ?_
        refine jx_then ?_
        refine jc_region ?_
        refine r_bin rfl rfl (b_add (by omega) (by omega)) ?_
        refine r_move rfl ?_
        refine J.nil ?_
        refine jx_head (k + 1, v25, (flatDo mk d.op).1) ⟨by show k + 1 ≤ l.length; omega, Nat.le_trans flatDo_len hmk, ?_⟩ (by show l.length - (k + 1) < l.length - k; omega) ⟨rfl, rfl, rfl, rfl, trivial⟩ (fun w hs => hs.sub (by repeat (first | exact .refl | exact .nil | refine .cons (by first | exact .hd | exact .tl .hd | exact .tl (.tl .hd) | exact .tl (.tl (.tl .hd)) | exact .tl (.tl (.tl (.tl .hd))) | exact .tl (.tl (.tl (.tl (.tl .hd)))) | exact .tl (.tl (.tl (.tl (.tl (.tl .hd))))) | exact .tl (.tl (.tl (.tl (.tl (.tl (.tl .hd)))))) | exact .tl (.tl (.tl (.tl (.tl (.tl (.tl (.tl .hd)))))))) ?_ | refine .drop ?_)) (by repeat (first | exact FSub.refl | exact FSub.nil | refine FSub.cons (by first | assumption | (repeat (first | assumption | exact List.Mem.head _ | refine .tail _ ?_))) ?_ | refine FSub.drop ?_)))
        show flatPlay lines l = playFrom (flatDo mk d.op).1 ((k + 1 : Nat) : Int) (l.drop (k + 1))
        rw [hpl, drop_at hd, playFrom_go (by rintro (h | h) <;> omega)]; rfl
  · -- t17 False
    try simp only [decide_eq_true_eq, decide_eq_false_iff_not, beq_iff_eq, bne_iff_ne, beq_eq_false_iff_ne, bne_eq_false_iff_eq, Int.not_lt, Int.not_le, Bool.not_eq_true, ne_eq] at ht17
    refine jc_exit ?_
    repeat (first | refine jx_thenExit ?_ | refine jx_blockMiss rfl ?_)
    refine jx_blockHit ?_
    refine jx_then ?_
    repeat refine jc_seq ?_
    refine jc_region ?_
    refine r_move rfl ?_
    refine r_assign rfl ?_
    refine r_assign rfl ?_
    refine J.nil ?_
    refine jx_then ?_
    refine jc_ret ?_
    repeat (first | refine jx_thenRet ?_ | refine jx_blockRet ?_)
    have hf : flatPlay lines l = (mk, -1) := by rw [hpl, List.drop_of_length_le (by omega)]; rfl
    refine jx_body (.inr rfl) (fun B w hs => res2 rfl rfl rfl B w) (fun w hs => ?_)
    rw [hf]; exact ⟨v, rfl, hs.sub (by repeat (first | exact .refl | exact .nil | refine .cons (by first | exact .hd | exact .tl .hd | exact .tl (.tl .hd) | exact .tl (.tl (.tl .hd)) | exact .tl (.tl (.tl (.tl .hd))) | exact .tl (.tl (.tl (.tl (.tl .hd)))) | exact .tl (.tl (.tl (.tl (.tl (.tl .hd))))) | exact .tl (.tl (.tl (.tl (.tl (.tl (.tl .hd)))))) | exact .tl (.tl (.tl (.tl (.tl (.tl (.tl (.tl .hd)))))))) ?_ | refine .drop ?_)) (by repeat (first | exact FSub.refl | exact FSub.nil | refine FSub.cons (by first | assumption | (repeat (first | assumption | exact List.Mem.head _ | refine .tail _ ?_))) ?_ | refine FSub.drop ?_))⟩
theorem refPlay_calls {L : List Chunk} {R : List Fact} {w : World} {v2 : Value} {lines : Int} {l : List Done} (hs : St L R w) (hlines : lines ≤ 100000) (h1 : sl v2 l ∈ R) : Calls Try.prog 45 [vi lines, v2].toArray w (Post (fun v : Value => .tuple #[v, vi (flatPlay lines l).2]) (fun _ => L) (fun v => sl v (flatPlay lines l).1 :: R)) := by
  have hlen := sl_len h1 hs
  have hz : (zeros lines).length ≤ 16777216 := by unfold zeros; rw [List.length_replicate]; omega
  refine calls_args Try.func45 rfl Try.ntmps45 rfl hs ?_
  clear hs
  repeat refine jc_seq ?_
  refine jc_region ?_
  refine r_assign rfl ?_
  refine r_assign rfl ?_
  refine J.nil ?_
  refine jx_then ?_
  repeat refine jc_seq ?_
  refine jc_region ?_
  refine r_assign rfl ?_
  refine J.nil ?_
  refine jx_then ?_
  repeat refine jc_seq ?_
  refine jc_region ?_
  refine r_move rfl ?_
  refine r_max rfl rfl ?_
  refine r_move rfl ?_
  refine J.nil ?_
  refine jx_then ?_
  repeat refine jc_seq ?_
  refine jc_block ?_
  refine JC.rowNil 3 Int ?_
  refine jc_loop (γ := Nat × Value) (fun g => (g.1 : Int) ≤ max lines 0) (fun g => row 3 g.2 (List.replicate g.1 (0 : Int)) :: L) (fun _ => R) (fun g => [(1, v2), (6, g.2), (13, vi (max lines 0)), (14, vi (g.1 : Int))]) (fun g => (max lines 0).toNat - g.1) (0, .slice none 0 0) (by simp; omega) ⟨rfl, rfl, rfl, rfl, trivial⟩ (fun w hs => hs) ?_
  rintro ⟨k, v6⟩ hk
  simp only at hk ⊢
  repeat refine jc_seq ?_
  refine jc_region ?_
  refine r_bin rfl rfl b_lss ?_
  refine J.nil ?_
  refine jx_then ?_
  repeat refine jc_seq ?_
  refine jc_cond rfl (fun ht15 => ?_) (fun ht15 => ?_)
  · -- t15 True
    try simp only [decide_eq_true_eq, decide_eq_false_iff_not, beq_iff_eq, bne_iff_ne, beq_eq_false_iff_ne, bne_eq_false_iff_eq, Int.not_lt, Int.not_le, Bool.not_eq_true, ne_eq] at ht15
    refine jc_skip ?_
    refine jx_then ?_
    repeat refine jc_seq ?_
    refine jc_block ?_
    refine jc_region ?_
    refine r_move rfl ?_
    refine r_lit (α := Int) [0] eo_22 rfl rfl rfl rfl rfl rfl (fun j hj => ⟨⟨_, rfl, rfl, (by first | assumption | (unfold In64; omega))⟩, trivial⟩) ?_; intro v17
    refine J.shut .hd ?_
    refine r_append eo_22 rfl rfl rfl (by decide) (by first | exact .hd | exact .tl .hd | exact .tl (.tl .hd) | exact .tl (.tl (.tl .hd)) | exact .tl (.tl (.tl (.tl .hd))) | exact .tl (.tl (.tl (.tl (.tl .hd)))) | exact .tl (.tl (.tl (.tl (.tl (.tl .hd))))) | exact .tl (.tl (.tl (.tl (.tl (.tl (.tl .hd)))))) | exact .tl (.tl (.tl (.tl (.tl (.tl (.tl (.tl .hd)))))))) (by first | assumption | (repeat (first | assumption | exact List.Mem.head _ | refine .tail _ ?_))) (fun w hs => by have : maxN = 16777216 := rfl; simp only [List.length_nil, List.length_cons, List.length_take, List.length_append, List.length_replicate]; omega) ?_; intro v18
    refine r_assign rfl ?_
    refine J.nil ?_
    refine jx_block ?_
    refine jx_then ?_
    refine jc_region ?_
    refine r_bin rfl rfl (b_add (by omega) (by omega)) ?_
    refine r_move rfl ?_
    refine J.nil ?_
    refine jx_head (k + 1, v18) (by show ((k + 1 : Nat) : Int) ≤ max lines 0; omega) (by show (max lines 0).toNat - (k + 1) < (max lines 0).toNat - k; omega) ⟨rfl, rfl, rfl, rfl, trivial⟩ (fun w hs => ?_)
    show St (row 3 v18 (List.replicate (k + 1) (0 : Int)) :: L) R w
    rw [List.replicate_succ']; exact hs.sub (by repeat (first | exact .refl | exact .nil | refine .cons (by first | exact .hd | exact .tl .hd | exact .tl (.tl .hd) | exact .tl (.tl (.tl .hd)) | exact .tl (.tl (.tl (.tl .hd))) | exact .tl (.tl (.tl (.tl (.tl .hd)))) | exact .tl (.tl (.tl (.tl (.tl (.tl .hd))))) | exact .tl (.tl (.tl (.tl (.tl (.tl (.tl .hd)))))) | exact .tl (.tl (.tl (.tl (.tl (.tl (.tl (.tl .hd)))))))) ?_ | refine .drop ?_)) (by repeat (first | exact FSub.refl | exact FSub.nil | refine FSub.cons (by first | assumption | (repeat (first | assumption | exact List.Mem.head _ | refine .tail _ ?_))) ?_ | refine FSub.drop ?_))
  · -- t15 False
    try simp only [decide_eq_true_eq, decide_eq_false_iff_not, beq_iff_eq, bne_iff_ne, beq_eq_false_iff_ne, bne_eq_false_iff_eq, Int.not_lt, Int.not_le, Bool.not_eq_true, ne_eq] at ht15
    refine jc_exit ?_
    repeat (first | refine jx_thenExit ?_ | refine jx_blockMiss rfl ?_)
    refine jx_blockHit ?_
    refine jx_then ?_
    repeat refine jc_seq ?_
    refine JC.shut (T := 3) (by first | exact .hd | exact .tl .hd | exact .tl (.tl .hd) | exact .tl (.tl (.tl .hd)) | exact .tl (.tl (.tl (.tl .hd))) | exact .tl (.tl (.tl (.tl (.tl .hd)))) | exact .tl (.tl (.tl (.tl (.tl (.tl .hd))))) | exact .tl (.tl (.tl (.tl (.tl (.tl (.tl .hd)))))) | exact .tl (.tl (.tl (.tl (.tl (.tl (.tl (.tl .hd)))))))) ?_
    rw [show List.replicate k (0 : Int) = zeros lines by unfold zeros; congr 1; omega]
    refine jc_region ?_
    refine r_move rfl ?_
    refine r_len Try.underlying25 rfl (by first | exact len_row (by first | exact .hd | exact .tl .hd | exact .tl (.tl .hd) | exact .tl (.tl (.tl .hd)) | exact .tl (.tl (.tl (.tl .hd))) | exact .tl (.tl (.tl (.tl (.tl .hd)))) | exact .tl (.tl (.tl (.tl (.tl (.tl .hd))))) | exact .tl (.tl (.tl (.tl (.tl (.tl (.tl .hd)))))) | exact .tl (.tl (.tl (.tl (.tl (.tl (.tl (.tl .hd)))))))) | exact len_sl (by first | assumption | (repeat (first | assumption | exact List.Mem.head _ | refine .tail _ ?_)))) ?_
    refine r_move rfl ?_
    refine J.nil ?_
    refine jx_then ?_
    repeat refine jc_seq ?_
    refine jc_block ?_
    refine jc_loop (γ := Nat × Value × List Int) (fun g => g.1 ≤ l.length ∧ g.2.2.length ≤ 16777216 ∧ flatPlay lines l = playFrom g.2.2 (g.1 : Int) (l.drop g.1)) (fun _ => L) (fun g => sl g.2.1 g.2.2 :: R) (fun g => [(6, g.2.1), (20, v2), (21, vi (l.length : Int)), (22, vi (g.1 : Int))]) (fun g => l.length - g.1) (0, v6, zeros lines) ⟨by simp, hz, rfl⟩ ⟨rfl, rfl, rfl, rfl, trivial⟩ (fun w hs => hs.sub (by repeat (first | exact .refl | exact .nil | refine .cons (by first | exact .hd | exact .tl .hd | exact .tl (.tl .hd) | exact .tl (.tl (.tl .hd)) | exact .tl (.tl (.tl (.tl .hd))) | exact .tl (.tl (.tl (.tl (.tl .hd)))) | exact .tl (.tl (.tl (.tl (.tl (.tl .hd))))) | exact .tl (.tl (.tl (.tl (.tl (.tl (.tl .hd)))))) | exact .tl (.tl (.tl (.tl (.tl (.tl (.tl (.tl .hd)))))))) ?_ | refine .drop ?_)) (by repeat (first | exact FSub.refl | exact FSub.nil | refine FSub.cons (by first | assumption | (repeat (first | assumption | exact List.Mem.head _ | refine .tail _ ?_))) ?_ | refine FSub.drop ?_))) ?_
    rintro ⟨k, v, mk⟩ ⟨hk, hmk, hpl⟩
    simp only at hk hmk hpl ⊢
    repeat refine jc_seq ?_
    refine jc_region ?_
    refine r_bin rfl rfl b_lss ?_
    refine J.nil ?_
    refine jx_then ?_
    repeat refine jc_seq ?_
    refine jc_cond rfl (fun ht23 => ?_) (fun ht23 => ?_)
    · -- t23 True
      try simp only [decide_eq_true_eq, decide_eq_false_iff_not, beq_iff_eq, bne_iff_ne, beq_eq_false_iff_ne, bne_eq_false_iff_eq, Int.not_lt, Int.not_le, Bool.not_eq_true, ne_eq] at ht23
      refine jc_skip ?_
      refine jx_then ?_
      repeat refine jc_seq ?_
      refine jc_block ?_
      repeat refine jc_seq ?_
      obtain ⟨d, hd⟩ : ∃ d, l[k]? = some d := ⟨_, List.getElem?_eq_getElem (by omega)⟩
      refine jc_region ?_
      refine r_move rfl ?_
      refine r_indexAddr so_25 rfl rfl (by first | exact len_row (by first | exact .hd | exact .tl .hd | exact .tl (.tl .hd) | exact .tl (.tl (.tl .hd)) | exact .tl (.tl (.tl (.tl .hd))) | exact .tl (.tl (.tl (.tl (.tl .hd)))) | exact .tl (.tl (.tl (.tl (.tl (.tl .hd))))) | exact .tl (.tl (.tl (.tl (.tl (.tl (.tl .hd)))))) | exact .tl (.tl (.tl (.tl (.tl (.tl (.tl (.tl .hd)))))))) | exact len_sl (by first | assumption | (repeat (first | assumption | exact List.Mem.head _ | refine .tail _ ?_)))) (by omega) (by omega) ?_
      first | refine r_loadN Try.isAgg100 Try.sizeOf100 rfl (at_blkAll (by first | exact .hd | exact .tl .hd | exact .tl (.tl .hd) | exact .tl (.tl (.tl .hd)) | exact .tl (.tl (.tl (.tl .hd))) | exact .tl (.tl (.tl (.tl (.tl .hd)))) | exact .tl (.tl (.tl (.tl (.tl (.tl .hd))))) | exact .tl (.tl (.tl (.tl (.tl (.tl (.tl .hd)))))) | exact .tl (.tl (.tl (.tl (.tl (.tl (.tl (.tl .hd))))))))) (by exact rfl) ?_ | refine r_loadN Try.isAgg100 Try.sizeOf100 rfl (at_blkN (sz := 5) (by first | exact .hd | exact .tl .hd | exact .tl (.tl .hd) | exact .tl (.tl (.tl .hd)) | exact .tl (.tl (.tl (.tl .hd))) | exact .tl (.tl (.tl (.tl (.tl .hd)))) | exact .tl (.tl (.tl (.tl (.tl (.tl .hd))))) | exact .tl (.tl (.tl (.tl (.tl (.tl (.tl .hd)))))) | exact .tl (.tl (.tl (.tl (.tl (.tl (.tl (.tl .hd))))))))) (by exact rfl) ?_ | refine r_loadN Try.isAgg100 Try.sizeOf100 rfl (at_Done (by first | assumption | (repeat (first | assumption | exact List.Mem.head _ | refine .tail _ ?_))) (by assumption)) rfl ?_
      refine r_alloc Try.zeroValue100 rfl ?_; intro b8
      refine r_assign rfl ?_
      first | refine r_storeAll Try.sizeOf100 rfl rfl rfl (by simp [Value.oneCell', Config.cells, Msg.cells, Line.cells, Op.cells, Done.cells, Step.cells, Answer.cells, Seen.cells, Core.cells, Entry.cells, Chip.cells]) (by first | exact .hd | exact .tl .hd | exact .tl (.tl .hd) | exact .tl (.tl (.tl .hd)) | exact .tl (.tl (.tl (.tl .hd))) | exact .tl (.tl (.tl (.tl (.tl .hd)))) | exact .tl (.tl (.tl (.tl (.tl (.tl .hd))))) | exact .tl (.tl (.tl (.tl (.tl (.tl (.tl .hd)))))) | exact .tl (.tl (.tl (.tl (.tl (.tl (.tl (.tl .hd)))))))) (by exact rfl) ?_ | refine r_storeN Try.sizeOf100 rfl rfl rfl (by simp [Value.oneCell', Config.cells, Msg.cells, Line.cells, Op.cells, Done.cells, Step.cells, Answer.cells, Seen.cells, Core.cells, Entry.cells, Chip.cells]) (by first | exact .hd | exact .tl .hd | exact .tl (.tl .hd) | exact .tl (.tl (.tl .hd)) | exact .tl (.tl (.tl (.tl .hd))) | exact .tl (.tl (.tl (.tl (.tl .hd)))) | exact .tl (.tl (.tl (.tl (.tl (.tl .hd))))) | exact .tl (.tl (.tl (.tl (.tl (.tl (.tl .hd)))))) | exact .tl (.tl (.tl (.tl (.tl (.tl (.tl (.tl .hd)))))))) (by exact rfl) ?_
      refine J.nil ?_
      refine jx_then ?_
      repeat refine jc_seq ?_
      refine jc_region ?_
      refine r_move rfl ?_
      first | refine r_fieldAddr fo_100_1 rfl ?_ | refine r_fieldAddrE fo_100_1 rfl (by first | exact len_row (by first | exact .hd | exact .tl .hd | exact .tl (.tl .hd) | exact .tl (.tl (.tl .hd)) | exact .tl (.tl (.tl (.tl .hd))) | exact .tl (.tl (.tl (.tl (.tl .hd)))) | exact .tl (.tl (.tl (.tl (.tl (.tl .hd))))) | exact .tl (.tl (.tl (.tl (.tl (.tl (.tl .hd)))))) | exact .tl (.tl (.tl (.tl (.tl (.tl (.tl (.tl .hd)))))))) | exact len_sl (by first | assumption | (repeat (first | assumption | exact List.Mem.head _ | refine .tail _ ?_)))) (by first | assumption | omega | simp) ?_
      first | refine r_loadN Try.isAgg24 Try.sizeOf24 rfl (at_blkAll (by first | exact .hd | exact .tl .hd | exact .tl (.tl .hd) | exact .tl (.tl (.tl .hd)) | exact .tl (.tl (.tl (.tl .hd))) | exact .tl (.tl (.tl (.tl (.tl .hd)))) | exact .tl (.tl (.tl (.tl (.tl (.tl .hd))))) | exact .tl (.tl (.tl (.tl (.tl (.tl (.tl .hd)))))) | exact .tl (.tl (.tl (.tl (.tl (.tl (.tl (.tl .hd))))))))) (by exact rfl) ?_ | refine r_loadN Try.isAgg24 Try.sizeOf24 rfl (at_blkN (sz := 3) (by first | exact .hd | exact .tl .hd | exact .tl (.tl .hd) | exact .tl (.tl (.tl .hd)) | exact .tl (.tl (.tl (.tl .hd))) | exact .tl (.tl (.tl (.tl (.tl .hd)))) | exact .tl (.tl (.tl (.tl (.tl (.tl .hd))))) | exact .tl (.tl (.tl (.tl (.tl (.tl (.tl .hd)))))) | exact .tl (.tl (.tl (.tl (.tl (.tl (.tl (.tl .hd))))))))) (by exact rfl) ?_ | refine r_loadN Try.isAgg24 Try.sizeOf24 rfl (at_Op (by first | assumption | (repeat (first | assumption | exact List.Mem.head _ | refine .tail _ ?_))) (by assumption)) rfl ?_
      refine r_call Try.call42 rfl (fun w hs => refDo_calls (m := mk) (o := d.op) hs (by first | assumption | (repeat (first | assumption | exact List.Mem.head _ | refine .tail _ ?_)))) ?_; intro v31
      refine r_move rfl ?_
      refine r_extract rfl rfl ?_
      refine r_extract rfl rfl ?_
      refine r_extract rfl rfl ?_
      refine r_assign rfl ?_
      refine r_assign rfl ?_
      refine r_assign rfl ?_
      refine J.nil ?_
      refine jx_then ?_
      repeat refine jc_seq ?_
      refine jc_region ?_
      refine r_move rfl ?_
      refine r_bin rfl rfl b_neq ?_
      refine r_move rfl ?_
      refine j_cases (t := 37) (b := ?b1) ?e1 ?_ ?_
      case e1 => exact rfl
      · -- t37 True
        intro ht37
        try simp only [decide_eq_true_eq, decide_eq_false_iff_not, beq_iff_eq, bne_iff_ne, beq_eq_false_iff_ne, bne_eq_false_iff_eq, Int.not_lt, Int.not_le, Bool.not_eq_true, ne_eq] at ht37
        refine J.guardNo ?_ ?_
        · exact rfl
        refine J.guardNo ?_ ?_
        · exact rfl
        refine J.guardNo ?_ ?_
        · exact rfl
        refine J.guardNo ?_ ?_
        · exact rfl
        refine r_pickT rfl rfl ?_
        refine J.nil ?_
        refine jx_then ?_
        repeat refine jc_seq ?_
        refine jc_condT rfl ?_
        repeat refine jc_seq ?_
        refine jc_region ?_
        refine r_move rfl ?_
        refine r_move rfl ?_
        refine r_assign rfl ?_
        refine r_assign rfl ?_
        refine J.nil ?_
        refine jx_then ?_
        refine jc_ret ?_
        repeat (first | refine jx_thenRet ?_ | refine jx_blockRet ?_)
        have hf : flatPlay lines l = (mk, (k : Int)) := by rw [hpl, drop_at hd, playFrom_stop (by first | exact .inl (by omega) | exact .inr (by omega))]
        refine jx_body (.inr rfl) (fun B w hs => res2 rfl rfl rfl B w) (fun w hs => ?_)
        rw [hf]; exact ⟨v, rfl, hs.sub (by repeat (first | exact .refl | exact .nil | refine .cons (by first | exact .hd | exact .tl .hd | exact .tl (.tl .hd) | exact .tl (.tl (.tl .hd)) | exact .tl (.tl (.tl (.tl .hd))) | exact .tl (.tl (.tl (.tl (.tl .hd)))) | exact .tl (.tl (.tl (.tl (.tl (.tl .hd))))) | exact .tl (.tl (.tl (.tl (.tl (.tl (.tl .hd)))))) | exact .tl (.tl (.tl (.tl (.tl (.tl (.tl (.tl .hd)))))))) ?_ | refine .drop ?_)) (by repeat (first | exact FSub.refl | exact FSub.nil | refine FSub.cons (by first | assumption | (repeat (first | assumption | exact List.Mem.head _ | refine .tail _ ?_))) ?_ | refine FSub.drop ?_))⟩
      · -- t37 False
        intro ht37
        try simp only [decide_eq_true_eq, decide_eq_false_iff_not, beq_iff_eq, bne_iff_ne, beq_eq_false_iff_ne, bne_eq_false_iff_eq, Int.not_lt, Int.not_le, Bool.not_eq_true, ne_eq] at ht37
        refine J.guardYes ?_ ?_
        · exact rfl
        refine r_move rfl ?_
        refine J.guardYes ?_ ?_
        · exact rfl
        first | refine r_fieldAddr fo_100_2 rfl ?_ | refine r_fieldAddrE fo_100_2 rfl (by first | exact len_row (by first | exact .hd | exact .tl .hd | exact .tl (.tl .hd) | exact .tl (.tl (.tl .hd)) | exact .tl (.tl (.tl (.tl .hd))) | exact .tl (.tl (.tl (.tl (.tl .hd)))) | exact .tl (.tl (.tl (.tl (.tl (.tl .hd))))) | exact .tl (.tl (.tl (.tl (.tl (.tl (.tl .hd)))))) | exact .tl (.tl (.tl (.tl (.tl (.tl (.tl (.tl .hd)))))))) | exact len_sl (by first | assumption | (repeat (first | assumption | exact List.Mem.head _ | refine .tail _ ?_)))) (by first | assumption | omega | simp) ?_
        refine J.guardYes ?_ ?_
        · exact rfl
        first
          | (refine r_load1 Try.isAgg3 rfl (at_blk1 (by first | exact .hd | exact .tl .hd | exact .tl (.tl .hd) | exact .tl (.tl (.tl .hd)) | exact .tl (.tl (.tl (.tl .hd))) | exact .tl (.tl (.tl (.tl (.tl .hd)))) | exact .tl (.tl (.tl (.tl (.tl (.tl .hd))))) | exact .tl (.tl (.tl (.tl (.tl (.tl (.tl .hd)))))) | exact .tl (.tl (.tl (.tl (.tl (.tl (.tl (.tl .hd)))))))) (by exact rfl)) ?_)
          | (refine r_load1 Try.isAgg3 rfl (at_int (by first | assumption | (repeat (first | assumption | exact List.Mem.head _ | refine .tail _ ?_))) (by assumption)) ?_)
        refine J.guardYes ?_ ?_
        · exact rfl
        refine r_bin rfl rfl b_neq ?_
        refine r_pickF rfl rfl ?_
        refine J.nil ?_
        refine jx_then ?_
        repeat refine jc_seq ?_
        refine jc_cond rfl (fun ht42 => ?_) (fun ht42 => ?_)
        · -- t42 True
          try simp only [decide_eq_true_eq, decide_eq_false_iff_not, beq_iff_eq, bne_iff_ne, beq_eq_false_iff_ne, bne_eq_false_iff_eq, Int.not_lt, Int.not_le, Bool.not_eq_true, ne_eq] at ht42
          repeat refine jc_seq ?_
          refine jc_region ?_
          refine r_move rfl ?_
          refine r_move rfl ?_
          refine r_assign rfl ?_
          refine r_assign rfl ?_
          refine J.nil ?_
          refine jx_then ?_
          refine jc_ret ?_
          repeat (first | refine jx_thenRet ?_ | refine jx_blockRet ?_)
          have hf : flatPlay lines l = (mk, (k : Int)) := by rw [hpl, drop_at hd, playFrom_stop (by first | exact .inl (by omega) | exact .inr (by omega))]
          refine jx_body (.inr rfl) (fun B w hs => res2 rfl rfl rfl B w) (fun w hs => ?_)
          rw [hf]; exact ⟨v, rfl, hs.sub (by repeat (first | exact .refl | exact .nil | refine .cons (by first | exact .hd | exact .tl .hd | exact .tl (.tl .hd) | exact .tl (.tl (.tl .hd)) | exact .tl (.tl (.tl (.tl .hd))) | exact .tl (.tl (.tl (.tl (.tl .hd)))) | exact .tl (.tl (.tl (.tl (.tl (.tl .hd))))) | exact .tl (.tl (.tl (.tl (.tl (.tl (.tl .hd)))))) | exact .tl (.tl (.tl (.tl (.tl (.tl (.tl (.tl .hd)))))))) ?_ | refine .drop ?_)) (by repeat (first | exact FSub.refl | exact FSub.nil | refine FSub.cons (by first | assumption | (repeat (first | assumption | exact List.Mem.head _ | refine .tail _ ?_))) ?_ | refine FSub.drop ?_))⟩
        · -- t42 False
          try simp only [decide_eq_true_eq, decide_eq_false_iff_not, beq_iff_eq, bne_iff_ne, beq_eq_false_iff_ne, bne_eq_false_iff_eq, Int.not_lt, Int.not_le, Bool.not_eq_true, ne_eq] at ht42
          refine jc_skip ?_
          refine jx_then ?_
          refine jc_region ?_
          refine r_move rfl ?_
          refine r_assign rfl ?_
          refine J.nil ?_
          refine jx_block ?_
          refine jx_then ?_
          refine jc_region ?_
          refine r_bin rfl rfl (b_add (by omega) (by omega)) ?_
          refine r_move rfl ?_
          refine J.nil ?_
          refine jx_head (k + 1, v31, (flatDo mk d.op).1) ⟨by show k + 1 ≤ l.length; omega, Nat.le_trans flatDo_len hmk, ?_⟩ (by show l.length - (k + 1) < l.length - k; omega) ⟨rfl, rfl, rfl, rfl, trivial⟩ (fun w hs => hs.sub (by repeat (first | exact .refl | exact .nil | refine .cons (by first | exact .hd | exact .tl .hd | exact .tl (.tl .hd) | exact .tl (.tl (.tl .hd)) | exact .tl (.tl (.tl (.tl .hd))) | exact .tl (.tl (.tl (.tl (.tl .hd)))) | exact .tl (.tl (.tl (.tl (.tl (.tl .hd))))) | exact .tl (.tl (.tl (.tl (.tl (.tl (.tl .hd)))))) | exact .tl (.tl (.tl (.tl (.tl (.tl (.tl (.tl .hd)))))))) ?_ | refine .drop ?_)) (by repeat (first | exact FSub.refl | exact FSub.nil | refine FSub.cons (by first | assumption | (repeat (first | assumption | exact List.Mem.head _ | refine .tail _ ?_))) ?_ | refine FSub.drop ?_)))
          show flatPlay lines l = playFrom (flatDo mk d.op).1 ((k + 1 : Nat) : Int) (l.drop (k + 1))
          rw [hpl, drop_at hd, playFrom_go (by rintro (h | h) <;> omega)]; rfl
    · -- t23 False
      try simp only [decide_eq_true_eq, decide_eq_false_iff_not, beq_iff_eq, bne_iff_ne, beq_eq_false_iff_ne, bne_eq_false_iff_eq, Int.not_lt, Int.not_le, Bool.not_eq_true, ne_eq] at ht23
      refine jc_exit ?_
      repeat (first | refine jx_thenExit ?_ | refine jx_blockMiss rfl ?_)
      refine jx_blockHit ?_
      refine jx_then ?_
      repeat refine jc_seq ?_
      refine jc_region ?_
      refine r_move rfl ?_
      refine r_assign rfl ?_
      refine r_assign rfl ?_
      refine J.nil ?_
      refine jx_then ?_
      refine jc_ret ?_
      repeat (first | refine jx_thenRet ?_ | refine jx_blockRet ?_)
      have hf : flatPlay lines l = (mk, -1) := by rw [hpl, List.drop_of_length_le (by omega)]; rfl
      refine jx_body (.inr rfl) (fun B w hs => res2 rfl rfl rfl B w) (fun w hs => ?_)
      rw [hf]; exact ⟨v, rfl, hs.sub (by repeat (first | exact .refl | exact .nil | refine .cons (by first | exact .hd | exact .tl .hd | exact .tl (.tl .hd) | exact .tl (.tl (.tl .hd)) | exact .tl (.tl (.tl (.tl .hd))) | exact .tl (.tl (.tl (.tl (.tl .hd)))) | exact .tl (.tl (.tl (.tl (.tl (.tl .hd))))) | exact .tl (.tl (.tl (.tl (.tl (.tl (.tl .hd)))))) | exact .tl (.tl (.tl (.tl (.tl (.tl (.tl (.tl .hd)))))))) ?_ | refine .drop ?_)) (by repeat (first | exact FSub.refl | exact FSub.nil | refine FSub.cons (by first | assumption | (repeat (first | assumption | exact List.Mem.head _ | refine .tail _ ?_))) ?_ | refine FSub.drop ?_))⟩
end Go.Proofs.Ytfdkkncmpjbkbaa
