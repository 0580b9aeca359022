/- This file proves what the laws of frames compute. No conditions. -/
import Derived.Test.YtfdkkncmpjbkbaaFacts
import Derived.Test.YtfdkkncmpjbkbaaFrame5
import Derived.Test.YtfdkkncmpjbkbaaFrame3
import Derived.Test.YtfdkkncmpjbkbaaFrame4
import Derived.Test.YtfdkkncmpjbkbaaEqs
set_option linter.unusedVariables false
set_option linter.unusedSimpArgs false
set_option maxHeartbeats 1000000
namespace Go.Proofs.Ytfdkkncmpjbkbaa
open Go
theorem frameTells_walk {L : List Chunk} {R : List Fact} {w : World} {v2 : Value} {c : Config} {m : Msg} {b : List UInt8} {bit : Int} (hs : St L R w) (h2 : sl v2 b ∈ R) (hc : c.wf) (hm : m.wf) (hbit : In64 bit) : Calls Try.prog 5 [.agg c.cells.toArray, .agg m.cells.toArray, v2, vi bit].toArray w (Post (fun _ : Unit => .bool true) (fun _ => L) (fun _ => R)) := by
  refine calls_args Try.func5 rfl Try.ntmps5 rfl hs ?_
  clear hs
  repeat refine jc_seq ?_
  refine jc_region ?_
  refine r_box rfl rfl ?_; intro b4
  refine r_box rfl rfl ?_; intro b5
  refine r_assign rfl ?_
  refine J.nil ?_
  refine jx_then ?_
  repeat refine jc_seq ?_
  refine jc_draw mixed (by kernel_rfl) (by kernel_rfl) (fun _ _ => _) (fun _ => rfl) ?_
  refine dj ?_
  first | refine d_loadN Try.isAgg37 Try.sizeOf37 (fun _ => rfl) (fun _ _ => at_blkAll (by first | exact .hd | exact .tl .hd | exact .tl (.tl .hd) | exact .tl (.tl (.tl .hd)) | exact .tl (.tl (.tl (.tl .hd))) | exact .tl (.tl (.tl (.tl (.tl .hd)))) | exact .tl (.tl (.tl (.tl (.tl (.tl .hd))))) | exact .tl (.tl (.tl (.tl (.tl (.tl (.tl .hd)))))) | exact .tl (.tl (.tl (.tl (.tl (.tl (.tl (.tl .hd))))))))) (by exact rfl) (fun _ _ _ _ => rfl) ?_ | refine d_loadN Try.isAgg37 Try.sizeOf37 (fun _ => rfl) (fun _ _ => at_blkN (sz := 2) (by first | exact .hd | exact .tl .hd | exact .tl (.tl .hd) | exact .tl (.tl (.tl .hd)) | exact .tl (.tl (.tl (.tl .hd))) | exact .tl (.tl (.tl (.tl (.tl .hd)))) | exact .tl (.tl (.tl (.tl (.tl (.tl .hd))))) | exact .tl (.tl (.tl (.tl (.tl (.tl (.tl .hd)))))) | exact .tl (.tl (.tl (.tl (.tl (.tl (.tl (.tl .hd))))))))) (by exact rfl) (fun _ _ _ _ => rfl) ?_
  refine dj ?_
  first | refine d_loadN Try.isAgg39 Try.sizeOf39 (fun _ => rfl) (fun _ _ => at_blkAll (by first | exact .hd | exact .tl .hd | exact .tl (.tl .hd) | exact .tl (.tl (.tl .hd)) | exact .tl (.tl (.tl (.tl .hd))) | exact .tl (.tl (.tl (.tl (.tl .hd)))) | exact .tl (.tl (.tl (.tl (.tl (.tl .hd))))) | exact .tl (.tl (.tl (.tl (.tl (.tl (.tl .hd)))))) | exact .tl (.tl (.tl (.tl (.tl (.tl (.tl (.tl .hd))))))))) (by exact rfl) (fun _ _ _ _ => rfl) ?_ | refine d_loadN Try.isAgg39 Try.sizeOf39 (fun _ => rfl) (fun _ _ => at_blkN (sz := 8) (by first | exact .hd | exact .tl .hd | exact .tl (.tl .hd) | exact .tl (.tl (.tl .hd)) | exact .tl (.tl (.tl (.tl .hd))) | exact .tl (.tl (.tl (.tl (.tl .hd)))) | exact .tl (.tl (.tl (.tl (.tl (.tl .hd))))) | exact .tl (.tl (.tl (.tl (.tl (.tl (.tl .hd)))))) | exact .tl (.tl (.tl (.tl (.tl (.tl (.tl (.tl .hd))))))))) (by exact rfl) (fun _ _ _ _ => rfl) ?_
  refine dj ?_
  refine d_call (γ := Unit) (val := fun _ => vi (msgWrong c m)) (F := fun v => []) (C := fun _ => []) Try.call48 (fun _ => rfl) (fun _ _ _ _ => rfl) (fun ρ L R w hd hs => frameWrong_calls hs (c := c) (m := m)) ?_
  refine dj ?_
  first | refine d_loadN Try.isAgg37 Try.sizeOf37 (fun _ => rfl) (fun _ _ => at_blkAll (by first | exact .hd | exact .tl .hd | exact .tl (.tl .hd) | exact .tl (.tl (.tl .hd)) | exact .tl (.tl (.tl (.tl .hd))) | exact .tl (.tl (.tl (.tl (.tl .hd)))) | exact .tl (.tl (.tl (.tl (.tl (.tl .hd))))) | exact .tl (.tl (.tl (.tl (.tl (.tl (.tl .hd)))))) | exact .tl (.tl (.tl (.tl (.tl (.tl (.tl (.tl .hd))))))))) (by exact rfl) (fun _ _ _ _ => rfl) ?_ | refine d_loadN Try.isAgg37 Try.sizeOf37 (fun _ => rfl) (fun _ _ => at_blkN (sz := 2) (by first | exact .hd | exact .tl .hd | exact .tl (.tl .hd) | exact .tl (.tl (.tl .hd)) | exact .tl (.tl (.tl (.tl .hd))) | exact .tl (.tl (.tl (.tl (.tl .hd)))) | exact .tl (.tl (.tl (.tl (.tl (.tl .hd))))) | exact .tl (.tl (.tl (.tl (.tl (.tl (.tl .hd)))))) | exact .tl (.tl (.tl (.tl (.tl (.tl (.tl (.tl .hd))))))))) (by exact rfl) (fun _ _ _ _ => rfl) ?_
  refine dj ?_
  first | refine d_loadN Try.isAgg39 Try.sizeOf39 (fun _ => rfl) (fun _ _ => at_blkAll (by first | exact .hd | exact .tl .hd | exact .tl (.tl .hd) | exact .tl (.tl (.tl .hd)) | exact .tl (.tl (.tl (.tl .hd))) | exact .tl (.tl (.tl (.tl (.tl .hd)))) | exact .tl (.tl (.tl (.tl (.tl (.tl .hd))))) | exact .tl (.tl (.tl (.tl (.tl (.tl (.tl .hd)))))) | exact .tl (.tl (.tl (.tl (.tl (.tl (.tl (.tl .hd))))))))) (by exact rfl) (fun _ _ _ _ => rfl) ?_ | refine d_loadN Try.isAgg39 Try.sizeOf39 (fun _ => rfl) (fun _ _ => at_blkN (sz := 8) (by first | exact .hd | exact .tl .hd | exact .tl (.tl .hd) | exact .tl (.tl (.tl .hd)) | exact .tl (.tl (.tl (.tl .hd))) | exact .tl (.tl (.tl (.tl (.tl .hd)))) | exact .tl (.tl (.tl (.tl (.tl (.tl .hd))))) | exact .tl (.tl (.tl (.tl (.tl (.tl (.tl .hd)))))) | exact .tl (.tl (.tl (.tl (.tl (.tl (.tl (.tl .hd))))))))) (by exact rfl) (fun _ _ _ _ => rfl) ?_
  refine dj ?_
  refine d_call (γ := Unit) (val := fun _ => vi (msgWrong c m)) (F := fun v => []) (C := fun _ => []) Try.call49 (fun _ => rfl) (fun _ _ _ _ => rfl) (fun ρ L R w hd hs => refWrong_calls hs (c := c) (m := m) hc hm) ?_
  refine dj ?_
  refine d_bin (fun _ => rfl) (fun _ => rfl) (fun _ => b_neq_F (by omega)) (by first | exact Ind.const _ | exact fun _ _ _ _ _ => rfl | exact Ind.self | exact Ind.gh _ 3 rfl) (fun _ _ _ _ => rfl) ?_
  refine dj ?_
  refine d_move (fun _ => rfl) (by first | exact Ind.const _ | exact fun _ _ _ _ _ => rfl | exact Ind.self | exact Ind.gh _ 3 rfl) (fun _ _ _ _ => rfl) ?_
  refine dj ?_
  refine d_guardYes ?_ ?_
  · exact fun _ => rfl
  refine d_move (fun _ => rfl) (by first | exact Ind.const _ | exact fun _ _ _ _ _ => rfl | exact Ind.self | exact Ind.gh _ 3 rfl) (fun _ _ _ _ => rfl) ?_
  refine dj ?_
  refine d_guardYes ?_ ?_
  · exact fun _ => rfl
  refine d_call (γ := Unit) (val := fun _ => vi (sumI b)) (F := fun v => []) (C := fun _ => []) Try.call50 (fun _ => rfl) (fun _ _ _ _ => rfl) (fun ρ L R w hd hs => frameSum_calls hs (b := b) (by first | exact hd.base (by first | assumption | exact .head _ | (refine .tail _ ?_; first | assumption | exact .head _ | (refine .tail _ ?_; first | assumption | exact .head _ | (refine .tail _ ?_; first | assumption | exact .head _ | (refine .tail _ ?_; first | assumption | exact .head _ | (refine .tail _ ?_; first | assumption | exact .head _ | (refine .tail _ ?_; first | assumption | exact .head _ | (refine .tail _ ?_; first | assumption | exact .head _ | (refine .tail _ ?_; first | assumption | exact .head _ | (refine .tail _ ?_; first | assumption | exact .head _)))))))))))) ?_
  refine dj ?_
  refine d_guardYes ?_ ?_
  · exact fun _ => rfl
  refine d_move (fun _ => rfl) (by first | exact Ind.const _ | exact fun _ _ _ _ _ => rfl | exact Ind.self | exact Ind.gh _ 3 rfl) (fun _ _ _ _ => rfl) ?_
  refine dj ?_
  refine d_guardYes ?_ ?_
  · exact fun _ => rfl
  refine d_call (γ := Unit) (val := fun _ => vi (sumI b)) (F := fun v => []) (C := fun _ => []) Try.call51 (fun _ => rfl) (fun _ _ _ _ => rfl) (fun ρ L R w hd hs => refSum_calls hs (b := b) (by first | exact hd.base (by first | assumption | exact .head _ | (refine .tail _ ?_; first | assumption | exact .head _ | (refine .tail _ ?_; first | assumption | exact .head _ | (refine .tail _ ?_; first | assumption | exact .head _ | (refine .tail _ ?_; first | assumption | exact .head _ | (refine .tail _ ?_; first | assumption | exact .head _ | (refine .tail _ ?_; first | assumption | exact .head _ | (refine .tail _ ?_; first | assumption | exact .head _ | (refine .tail _ ?_; first | assumption | exact .head _ | (refine .tail _ ?_; first | assumption | exact .head _)))))))))))) ?_
  refine dj ?_
  refine d_guardYes ?_ ?_
  · exact fun _ => rfl
  refine d_bin (fun _ => rfl) (fun _ => rfl) (fun _ => b_neq_F (by omega)) (by first | exact Ind.const _ | exact fun _ _ _ _ _ => rfl | exact Ind.self | exact Ind.gh _ 3 rfl) (fun _ _ _ _ => rfl) ?_
  refine dj ?_
  refine d_pickF (fun _ => rfl) (fun _ => rfl) (by first | exact Ind.const _ | exact fun _ _ _ _ _ => rfl | exact Ind.self | exact Ind.gh _ 3 rfl) (fun _ _ _ _ => rfl) ?_
  refine dj ?_
  refine d_move (fun _ => rfl) (by first | exact Ind.const _ | exact fun _ _ _ _ _ => rfl | exact Ind.self | exact Ind.gh _ 3 rfl) (fun _ _ _ _ => rfl) ?_
  refine dj ?_
  refine d_guardYes ?_ ?_
  · exact fun _ => rfl
  refine d_move (fun _ => rfl) (by first | exact Ind.const _ | exact fun _ _ _ _ _ => rfl | exact Ind.self | exact Ind.gh _ 3 rfl) (fun _ _ _ _ => rfl) ?_
  refine dj ?_
  refine d_guardYes ?_ ?_
  · exact fun _ => rfl
  refine d_move (fun _ => rfl) (by first | exact Ind.const _ | exact fun _ _ _ _ _ => rfl | exact Ind.self | exact Ind.gh _ 3 rfl) (fun _ _ _ _ => rfl) ?_
  refine dj ?_
  refine d_guardYes ?_ ?_
  · exact fun _ => rfl
  refine d_call (γ := Value) (val := fun v => v) (F := fun v => [sl v (bitTurn b bit)]) (C := fun _ => []) Try.call52 (fun _ => rfl) (fun _ _ _ _ => rfl) (fun ρ L R w hd hs => frameTurn_calls hs (b := b) (bit := bit) (by first | exact hd.base (by first | assumption | exact .head _ | (refine .tail _ ?_; first | assumption | exact .head _ | (refine .tail _ ?_; first | assumption | exact .head _ | (refine .tail _ ?_; first | assumption | exact .head _ | (refine .tail _ ?_; first | assumption | exact .head _ | (refine .tail _ ?_; first | assumption | exact .head _ | (refine .tail _ ?_; first | assumption | exact .head _ | (refine .tail _ ?_; first | assumption | exact .head _ | (refine .tail _ ?_; first | assumption | exact .head _ | (refine .tail _ ?_; first | assumption | exact .head _))))))))))) hbit) ?_
  refine dj ?_
  refine d_guardYes ?_ ?_
  · exact fun _ => rfl
  refine d_convStr Try.underlying40 Try.underlying5 Try.underlying9 (fun _ => rfl) (fun ρ R hd => (by first | exact hd.base (by first | assumption | exact .head _ | (refine .tail _ ?_; first | assumption | exact .head _ | (refine .tail _ ?_; first | assumption | exact .head _ | (refine .tail _ ?_; first | assumption | exact .head _ | (refine .tail _ ?_; first | assumption | exact .head _ | (refine .tail _ ?_; first | assumption | exact .head _ | (refine .tail _ ?_; first | assumption | exact .head _ | (refine .tail _ ?_; first | assumption | exact .head _ | (refine .tail _ ?_; first | assumption | exact .head _ | (refine .tail _ ?_; first | assumption | exact .head _)))))))))) | exact hd.dep (it := ⟨17, _, _, _, _⟩) (by repeat (first | exact List.Mem.head _ | refine List.Mem.tail _ ?_)) ⟨8, rfl⟩ (by first | exact List.Mem.head _ | exact .tail _ (.head _) | exact .tail _ (.tail _ (.head _))))) (fun _ _ _ _ => rfl) ?_
  refine dj ?_
  refine d_guardYes ?_ ?_
  · exact fun _ => rfl
  refine d_move (fun _ => rfl) (by first | exact Ind.const _ | exact fun _ _ _ _ _ => rfl | exact Ind.self | exact Ind.gh _ 3 rfl) (fun _ _ _ _ => rfl) ?_
  refine dj ?_
  refine d_guardYes ?_ ?_
  · exact fun _ => rfl
  refine d_move (fun _ => rfl) (by first | exact Ind.const _ | exact fun _ _ _ _ _ => rfl | exact Ind.self | exact Ind.gh _ 3 rfl) (fun _ _ _ _ => rfl) ?_
  refine dj ?_
  refine d_guardYes ?_ ?_
  · exact fun _ => rfl
  refine d_call (γ := Value) (val := fun v => v) (F := fun v => [sl v (bitTurn b bit)]) (C := fun _ => []) Try.call53 (fun _ => rfl) (fun _ _ _ _ => rfl) (fun ρ L R w hd hs => refTurned_calls hs (b := b) (bit := bit) (by first | exact hd.base (by first | assumption | exact .head _ | (refine .tail _ ?_; first | assumption | exact .head _ | (refine .tail _ ?_; first | assumption | exact .head _ | (refine .tail _ ?_; first | assumption | exact .head _ | (refine .tail _ ?_; first | assumption | exact .head _ | (refine .tail _ ?_; first | assumption | exact .head _ | (refine .tail _ ?_; first | assumption | exact .head _ | (refine .tail _ ?_; first | assumption | exact .head _ | (refine .tail _ ?_; first | assumption | exact .head _ | (refine .tail _ ?_; first | assumption | exact .head _)))))))))) | exact hd.dep (it := ⟨17, _, _, _, _⟩) (by repeat (first | exact List.Mem.head _ | refine List.Mem.tail _ ?_)) ⟨8, rfl⟩ (by first | exact List.Mem.head _ | exact .tail _ (.head _) | exact .tail _ (.tail _ (.head _)))) hbit) ?_
  refine dj ?_
  refine d_guardYes ?_ ?_
  · exact fun _ => rfl
  refine d_convStr Try.underlying40 Try.underlying5 Try.underlying9 (fun _ => rfl) (fun ρ R hd => (by first | exact hd.base (by first | assumption | exact .head _ | (refine .tail _ ?_; first | assumption | exact .head _ | (refine .tail _ ?_; first | assumption | exact .head _ | (refine .tail _ ?_; first | assumption | exact .head _ | (refine .tail _ ?_; first | assumption | exact .head _ | (refine .tail _ ?_; first | assumption | exact .head _ | (refine .tail _ ?_; first | assumption | exact .head _ | (refine .tail _ ?_; first | assumption | exact .head _ | (refine .tail _ ?_; first | assumption | exact .head _ | (refine .tail _ ?_; first | assumption | exact .head _)))))))))) | exact hd.dep (it := ⟨17, _, _, _, _⟩) (by repeat (first | exact List.Mem.head _ | refine List.Mem.tail _ ?_)) ⟨8, rfl⟩ (by first | exact List.Mem.head _ | exact .tail _ (.head _) | exact .tail _ (.tail _ (.head _))) | exact hd.dep (it := ⟨21, _, _, _, _⟩) (by repeat (first | exact List.Mem.head _ | refine List.Mem.tail _ ?_)) ⟨8, rfl⟩ (by first | exact List.Mem.head _ | exact .tail _ (.head _) | exact .tail _ (.tail _ (.head _))))) (fun _ _ _ _ => rfl) ?_
  refine dj ?_
  refine d_guardYes ?_ ?_
  · exact fun _ => rfl
  first | refine d_pc (fun _ _ => p_str rfl rfl (b_strne_F rfl)) rfl (fun _ _ _ _ => rfl) ?_ | refine d_p (fun _ _ => p_str rfl rfl (b_strne_F rfl)) rfl (by first | exact Ind.const _ | exact fun _ _ _ _ _ => rfl | exact Ind.self | exact Ind.gh _ 3 rfl) (fun _ _ _ _ => rfl) ?_
  refine dj ?_
  refine d_pickF (fun _ => rfl) (fun _ => rfl) (by first | exact Ind.const _ | exact fun _ _ _ _ _ => rfl | exact Ind.self | exact Ind.gh _ 3 rfl) (fun _ _ _ _ => rfl) ?_
  refine d_nilC ?_; intro ρ; simp only [chunks, facts, alOf, List.append_nil, List.nil_append, List.cons_append]
  refine jx_then ?_
  repeat refine jc_seq ?_
  refine jc_condF rfl ?_
  refine jc_skip ?_
  refine jx_then ?_
  repeat refine jc_seq ?_
  refine jc_region ?_
  first | refine r_loadN Try.isAgg37 Try.sizeOf37 rfl (at_blkAll (by first | exact .hd | exact .tl .hd | exact .tl (.tl .hd) | exact .tl (.tl (.tl .hd)) | exact .tl (.tl (.tl (.tl .hd))) | exact .tl (.tl (.tl (.tl (.tl .hd)))) | exact .tl (.tl (.tl (.tl (.tl (.tl .hd))))) | exact .tl (.tl (.tl (.tl (.tl (.tl (.tl .hd)))))) | exact .tl (.tl (.tl (.tl (.tl (.tl (.tl (.tl .hd))))))))) (by exact rfl) ?_ | refine r_loadN Try.isAgg37 Try.sizeOf37 rfl (at_blkN (sz := 2) (by first | exact .hd | exact .tl .hd | exact .tl (.tl .hd) | exact .tl (.tl (.tl .hd)) | exact .tl (.tl (.tl (.tl .hd))) | exact .tl (.tl (.tl (.tl (.tl .hd)))) | exact .tl (.tl (.tl (.tl (.tl (.tl .hd))))) | exact .tl (.tl (.tl (.tl (.tl (.tl (.tl .hd)))))) | exact .tl (.tl (.tl (.tl (.tl (.tl (.tl (.tl .hd))))))))) (by exact rfl) ?_ | refine r_loadN Try.isAgg37 Try.sizeOf37 rfl (at_Config (by first | assumption | exact .head _ | (refine .tail _ ?_; first | assumption | exact .head _ | (refine .tail _ ?_; first | assumption | exact .head _ | (refine .tail _ ?_; first | assumption | exact .head _ | (refine .tail _ ?_; first | assumption | exact .head _ | (refine .tail _ ?_; first | assumption | exact .head _ | (refine .tail _ ?_; first | assumption | exact .head _ | (refine .tail _ ?_; first | assumption | exact .head _ | (refine .tail _ ?_; first | assumption | exact .head _ | (refine .tail _ ?_; first | assumption | exact .head _)))))))))) (by assumption)) rfl ?_
  refine r_move rfl ?_
  refine r_call Try.call54 rfl (fun w hs => frameParse_calls hs (c := c) (b := b) (by first | assumption | exact .head _ | (refine .tail _ ?_; first | assumption | exact .head _ | (refine .tail _ ?_; first | assumption | exact .head _ | (refine .tail _ ?_; first | assumption | exact .head _ | (refine .tail _ ?_; first | assumption | exact .head _ | (refine .tail _ ?_; first | assumption | exact .head _ | (refine .tail _ ?_; first | assumption | exact .head _ | (refine .tail _ ?_; first | assumption | exact .head _ | (refine .tail _ ?_; first | assumption | exact .head _ | (refine .tail _ ?_; first | assumption | exact .head _))))))))))) ?_; intro _
  refine r_move rfl ?_
  refine r_extract rfl rfl ?_
  refine r_extract rfl rfl ?_
  refine r_alloc (cs := zMsg.cells) Try.zeroValue39 rfl ?_; intro b9
  first | refine r_storeAll Try.sizeOf39 rfl rfl rfl (by simp [Value.oneCell', Config.cells, Msg.cells, Line.cells, Op.cells, Done.cells, Step.cells, Answer.cells, Seen.cells, Core.cells, Entry.cells, Chip.cells]) (by first | exact .hd | exact .tl .hd | exact .tl (.tl .hd) | exact .tl (.tl (.tl .hd)) | exact .tl (.tl (.tl (.tl .hd))) | exact .tl (.tl (.tl (.tl (.tl .hd)))) | exact .tl (.tl (.tl (.tl (.tl (.tl .hd))))) | exact .tl (.tl (.tl (.tl (.tl (.tl (.tl .hd)))))) | exact .tl (.tl (.tl (.tl (.tl (.tl (.tl (.tl .hd)))))))) (by exact rfl) ?_ | refine r_storeN Try.sizeOf39 rfl rfl rfl (by simp [Value.oneCell', Config.cells, Msg.cells, Line.cells, Op.cells, Done.cells, Step.cells, Answer.cells, Seen.cells, Core.cells, Entry.cells, Chip.cells]) (by first | exact .hd | exact .tl .hd | exact .tl (.tl .hd) | exact .tl (.tl (.tl .hd)) | exact .tl (.tl (.tl (.tl .hd))) | exact .tl (.tl (.tl (.tl (.tl .hd)))) | exact .tl (.tl (.tl (.tl (.tl (.tl .hd))))) | exact .tl (.tl (.tl (.tl (.tl (.tl (.tl .hd)))))) | exact .tl (.tl (.tl (.tl (.tl (.tl (.tl (.tl .hd)))))))) (by exact rfl) ?_
  refine r_assign rfl ?_
  refine J.nil ?_
  refine jx_then ?_
  repeat refine jc_seq ?_
  refine jc_region ?_
  first | refine r_loadN Try.isAgg37 Try.sizeOf37 rfl (at_blkAll (by first | exact .hd | exact .tl .hd | exact .tl (.tl .hd) | exact .tl (.tl (.tl .hd)) | exact .tl (.tl (.tl (.tl .hd))) | exact .tl (.tl (.tl (.tl (.tl .hd)))) | exact .tl (.tl (.tl (.tl (.tl (.tl .hd))))) | exact .tl (.tl (.tl (.tl (.tl (.tl (.tl .hd)))))) | exact .tl (.tl (.tl (.tl (.tl (.tl (.tl (.tl .hd))))))))) (by exact rfl) ?_ | refine r_loadN Try.isAgg37 Try.sizeOf37 rfl (at_blkN (sz := 2) (by first | exact .hd | exact .tl .hd | exact .tl (.tl .hd) | exact .tl (.tl (.tl .hd)) | exact .tl (.tl (.tl (.tl .hd))) | exact .tl (.tl (.tl (.tl (.tl .hd)))) | exact .tl (.tl (.tl (.tl (.tl (.tl .hd))))) | exact .tl (.tl (.tl (.tl (.tl (.tl (.tl .hd)))))) | exact .tl (.tl (.tl (.tl (.tl (.tl (.tl (.tl .hd))))))))) (by exact rfl) ?_ | refine r_loadN Try.isAgg37 Try.sizeOf37 rfl (at_Config (by first | assumption | exact .head _ | (refine .tail _ ?_; first | assumption | exact .head _ | (refine .tail _ ?_; first | assumption | exact .head _ | (refine .tail _ ?_; first | assumption | exact .head _ | (refine .tail _ ?_; first | assumption | exact .head _ | (refine .tail _ ?_; first | assumption | exact .head _ | (refine .tail _ ?_; first | assumption | exact .head _ | (refine .tail _ ?_; first | assumption | exact .head _ | (refine .tail _ ?_; first | assumption | exact .head _ | (refine .tail _ ?_; first | assumption | exact .head _)))))))))) (by assumption)) rfl ?_
  refine r_move rfl ?_
  refine r_call Try.call55 rfl (fun w hs => refParse_calls hs (c := c) (b := b) (by first | assumption | exact .head _ | (refine .tail _ ?_; first | assumption | exact .head _ | (refine .tail _ ?_; first | assumption | exact .head _ | (refine .tail _ ?_; first | assumption | exact .head _ | (refine .tail _ ?_; first | assumption | exact .head _ | (refine .tail _ ?_; first | assumption | exact .head _ | (refine .tail _ ?_; first | assumption | exact .head _ | (refine .tail _ ?_; first | assumption | exact .head _ | (refine .tail _ ?_; first | assumption | exact .head _ | (refine .tail _ ?_; first | assumption | exact .head _)))))))))) hc) ?_; intro _
  refine r_move rfl ?_
  refine r_extract rfl rfl ?_
  refine r_extract rfl rfl ?_
  refine r_alloc (cs := zMsg.cells) Try.zeroValue39 rfl ?_; intro b11
  first | refine r_storeAll Try.sizeOf39 rfl rfl rfl (by simp [Value.oneCell', Config.cells, Msg.cells, Line.cells, Op.cells, Done.cells, Step.cells, Answer.cells, Seen.cells, Core.cells, Entry.cells, Chip.cells]) (by first | exact .hd | exact .tl .hd | exact .tl (.tl .hd) | exact .tl (.tl (.tl .hd)) | exact .tl (.tl (.tl (.tl .hd))) | exact .tl (.tl (.tl (.tl (.tl .hd)))) | exact .tl (.tl (.tl (.tl (.tl (.tl .hd))))) | exact .tl (.tl (.tl (.tl (.tl (.tl (.tl .hd)))))) | exact .tl (.tl (.tl (.tl (.tl (.tl (.tl (.tl .hd)))))))) (by exact rfl) ?_ | refine r_storeN Try.sizeOf39 rfl rfl rfl (by simp [Value.oneCell', Config.cells, Msg.cells, Line.cells, Op.cells, Done.cells, Step.cells, Answer.cells, Seen.cells, Core.cells, Entry.cells, Chip.cells]) (by first | exact .hd | exact .tl .hd | exact .tl (.tl .hd) | exact .tl (.tl (.tl .hd)) | exact .tl (.tl (.tl (.tl .hd))) | exact .tl (.tl (.tl (.tl (.tl .hd)))) | exact .tl (.tl (.tl (.tl (.tl (.tl .hd))))) | exact .tl (.tl (.tl (.tl (.tl (.tl (.tl .hd)))))) | exact .tl (.tl (.tl (.tl (.tl (.tl (.tl (.tl .hd)))))))) (by exact rfl) ?_
  refine r_assign rfl ?_
  refine J.nil ?_
  refine jx_then ?_
  repeat refine jc_seq ?_
  refine jc_region ?_
  refine r_move rfl ?_
  refine r_move rfl ?_
  refine r_bin rfl rfl (b_neq_F (by omega)) ?_
  refine r_move rfl ?_
  refine J.guardYes ?_ ?_
  · exact rfl
  first | refine r_loadN Try.isAgg39 Try.sizeOf39 rfl (at_blkAll (by first | exact .hd | exact .tl .hd | exact .tl (.tl .hd) | exact .tl (.tl (.tl .hd)) | exact .tl (.tl (.tl (.tl .hd))) | exact .tl (.tl (.tl (.tl (.tl .hd)))) | exact .tl (.tl (.tl (.tl (.tl (.tl .hd))))) | exact .tl (.tl (.tl (.tl (.tl (.tl (.tl .hd)))))) | exact .tl (.tl (.tl (.tl (.tl (.tl (.tl (.tl .hd))))))))) (by exact rfl) ?_ | refine r_loadN Try.isAgg39 Try.sizeOf39 rfl (at_blkN (sz := 8) (by first | exact .hd | exact .tl .hd | exact .tl (.tl .hd) | exact .tl (.tl (.tl .hd)) | exact .tl (.tl (.tl (.tl .hd))) | exact .tl (.tl (.tl (.tl (.tl .hd)))) | exact .tl (.tl (.tl (.tl (.tl (.tl .hd))))) | exact .tl (.tl (.tl (.tl (.tl (.tl (.tl .hd)))))) | exact .tl (.tl (.tl (.tl (.tl (.tl (.tl (.tl .hd))))))))) (by exact rfl) ?_ | refine r_loadN Try.isAgg39 Try.sizeOf39 rfl (at_Msg (by first | assumption | exact .head _ | (refine .tail _ ?_; first | assumption | exact .head _ | (refine .tail _ ?_; first | assumption | exact .head _ | (refine .tail _ ?_; first | assumption | exact .head _ | (refine .tail _ ?_; first | assumption | exact .head _ | (refine .tail _ ?_; first | assumption | exact .head _ | (refine .tail _ ?_; first | assumption | exact .head _ | (refine .tail _ ?_; first | assumption | exact .head _ | (refine .tail _ ?_; first | assumption | exact .head _ | (refine .tail _ ?_; first | assumption | exact .head _)))))))))) (by assumption)) rfl ?_
  refine J.guardYes ?_ ?_
  · exact rfl
  first | refine r_loadN Try.isAgg39 Try.sizeOf39 rfl (at_blkAll (by first | exact .hd | exact .tl .hd | exact .tl (.tl .hd) | exact .tl (.tl (.tl .hd)) | exact .tl (.tl (.tl (.tl .hd))) | exact .tl (.tl (.tl (.tl (.tl .hd)))) | exact .tl (.tl (.tl (.tl (.tl (.tl .hd))))) | exact .tl (.tl (.tl (.tl (.tl (.tl (.tl .hd)))))) | exact .tl (.tl (.tl (.tl (.tl (.tl (.tl (.tl .hd))))))))) (by exact rfl) ?_ | refine r_loadN Try.isAgg39 Try.sizeOf39 rfl (at_blkN (sz := 8) (by first | exact .hd | exact .tl .hd | exact .tl (.tl .hd) | exact .tl (.tl (.tl .hd)) | exact .tl (.tl (.tl (.tl .hd))) | exact .tl (.tl (.tl (.tl (.tl .hd)))) | exact .tl (.tl (.tl (.tl (.tl (.tl .hd))))) | exact .tl (.tl (.tl (.tl (.tl (.tl (.tl .hd)))))) | exact .tl (.tl (.tl (.tl (.tl (.tl (.tl (.tl .hd))))))))) (by exact rfl) ?_ | refine r_loadN Try.isAgg39 Try.sizeOf39 rfl (at_Msg (by first | assumption | exact .head _ | (refine .tail _ ?_; first | assumption | exact .head _ | (refine .tail _ ?_; first | assumption | exact .head _ | (refine .tail _ ?_; first | assumption | exact .head _ | (refine .tail _ ?_; first | assumption | exact .head _ | (refine .tail _ ?_; first | assumption | exact .head _ | (refine .tail _ ?_; first | assumption | exact .head _ | (refine .tail _ ?_; first | assumption | exact .head _ | (refine .tail _ ?_; first | assumption | exact .head _ | (refine .tail _ ?_; first | assumption | exact .head _)))))))))) (by assumption)) rfl ?_
  refine J.guardYes ?_ ?_
  · exact rfl
  refine r_p (p_binG rfl rfl (ag_Msg (msgParse c b).1 (msgParse c b).1 _) (bn_Msg_F (x := (msgParse c b).1) (y := (msgParse c b).1) rfl)) rfl ?_
  refine r_pickF rfl rfl ?_
  refine J.nil ?_
  refine jx_then ?_
  repeat refine jc_seq ?_
  refine jc_condF rfl ?_
  refine jc_skip ?_
  refine jx_then ?_
  repeat refine jc_seq ?_
  rcases (show (msgWrong ⟨4, 4⟩ m ≠ 0) ∨ (msgWrong ⟨4, 4⟩ m = 0) from by omega) with hcc | hcc
  · -- case 0
    refine jc_draw mixed (by kernel_rfl) (by kernel_rfl) (fun _ _ => _) (fun _ => rfl) ?_
    refine dj ?_
    refine d_p (fun _ _ => p_build st_37 rfl rfl) rfl (by first | exact Ind.const _ | exact fun _ _ _ _ _ => rfl | exact Ind.self | exact Ind.gh _ 3 rfl) (fun _ _ _ _ => rfl) ?_
    refine dj ?_
    first | refine d_loadN Try.isAgg39 Try.sizeOf39 (fun _ => rfl) (fun _ _ => at_blkAll (by first | exact .hd | exact .tl .hd | exact .tl (.tl .hd) | exact .tl (.tl (.tl .hd)) | exact .tl (.tl (.tl (.tl .hd))) | exact .tl (.tl (.tl (.tl (.tl .hd)))) | exact .tl (.tl (.tl (.tl (.tl (.tl .hd))))) | exact .tl (.tl (.tl (.tl (.tl (.tl (.tl .hd)))))) | exact .tl (.tl (.tl (.tl (.tl (.tl (.tl (.tl .hd))))))))) (by exact rfl) (fun _ _ _ _ => rfl) ?_ | refine d_loadN Try.isAgg39 Try.sizeOf39 (fun _ => rfl) (fun _ _ => at_blkN (sz := 8) (by first | exact .hd | exact .tl .hd | exact .tl (.tl .hd) | exact .tl (.tl (.tl .hd)) | exact .tl (.tl (.tl (.tl .hd))) | exact .tl (.tl (.tl (.tl (.tl .hd)))) | exact .tl (.tl (.tl (.tl (.tl (.tl .hd))))) | exact .tl (.tl (.tl (.tl (.tl (.tl (.tl .hd)))))) | exact .tl (.tl (.tl (.tl (.tl (.tl (.tl (.tl .hd))))))))) (by exact rfl) (fun _ _ _ _ => rfl) ?_
    refine dj ?_
    refine d_call (γ := Unit) (val := fun _ => vi (msgWrong ⟨4, 4⟩ m)) (F := fun v => []) (C := fun _ => []) Try.call49 (fun _ => rfl) (fun _ _ _ _ => rfl) (fun ρ L R w hd hs => refWrong_calls hs (c := ⟨4, 4⟩) (m := m) (by unfold Config.wf In64; decide) hm) ?_
    refine dj ?_
    refine d_bin (fun _ => rfl) (fun _ => rfl) (fun _ => b_neq_T (by omega)) (by first | exact Ind.const _ | exact fun _ _ _ _ _ => rfl | exact Ind.self | exact Ind.gh _ 3 rfl) (fun _ _ _ _ => rfl) ?_
    refine dj ?_
    refine d_move (fun _ => rfl) (by first | exact Ind.const _ | exact fun _ _ _ _ _ => rfl | exact Ind.self | exact Ind.gh _ 3 rfl) (fun _ _ _ _ => rfl) ?_
    refine dj ?_
    refine d_guardNo ?_ ?_ ?_
    · exact fun _ => rfl
    · exact fun _ _ _ _ => rfl
    refine dj ?_
    refine d_guardNo ?_ ?_ ?_
    · exact fun _ => rfl
    · exact fun _ _ _ _ => rfl
    refine dj ?_
    refine d_guardNo ?_ ?_ ?_
    · exact fun _ => rfl
    · exact fun _ _ _ _ => rfl
    refine dj ?_
    refine d_guardNo ?_ ?_ ?_
    · exact fun _ => rfl
    · exact fun _ _ _ _ => rfl
    refine dj ?_
    refine d_guardNo ?_ ?_ ?_
    · exact fun _ => rfl
    · exact fun _ _ _ _ => rfl
    refine dj ?_
    refine d_guardNo ?_ ?_ ?_
    · exact fun _ => rfl
    · exact fun _ _ _ _ => rfl
    refine dj ?_
    refine d_guardNo ?_ ?_ ?_
    · exact fun _ => rfl
    · exact fun _ _ _ _ => rfl
    refine dj ?_
    refine d_pickT (fun _ => rfl) (fun _ => rfl) (by first | exact Ind.const _ | exact fun _ _ _ _ _ => rfl | exact Ind.self | exact Ind.gh _ 3 rfl) (fun _ _ _ _ => rfl) ?_
    refine dj ?_
    refine d_assign (fun _ => rfl) (by first | exact Ind.const _ | exact fun _ _ _ _ _ => rfl | exact Ind.self | exact Ind.gh _ 3 rfl) (fun _ _ _ _ => rfl) ?_
    refine d_nilC ?_; intro ρ; simp only [chunks, facts, alOf, List.append_nil, List.nil_append, List.cons_append]
    refine jx_then ?_
    refine jc_ret ?_
    repeat (first | refine jx_thenRet ?_ | refine jx_blockRet ?_)
    refine jx_body (.inr rfl) (fun B w _ => res1 rfl rfl B w) (fun w hs => ⟨(), ?_, hs.sub (by repeat (first | exact .refl | exact .nil | refine .cons (by first | exact .hd | exact .tl .hd | exact .tl (.tl .hd) | exact .tl (.tl (.tl .hd)) | exact .tl (.tl (.tl (.tl .hd))) | exact .tl (.tl (.tl (.tl (.tl .hd)))) | exact .tl (.tl (.tl (.tl (.tl (.tl .hd))))) | exact .tl (.tl (.tl (.tl (.tl (.tl (.tl .hd)))))) | exact .tl (.tl (.tl (.tl (.tl (.tl (.tl (.tl .hd)))))))) ?_ | refine .drop ?_)) (by repeat (first | exact FSub.refl | exact FSub.nil | refine FSub.cons (by first | assumption | (repeat (first | assumption | exact List.Mem.head _ | refine .tail _ ?_))) ?_ | refine FSub.drop ?_))⟩)
    rfl
  · -- case 1
    have hin : MsgIn m := msgIn_of hcc (by decide) (by decide)
    refine jc_draw mixed (by kernel_rfl) (by kernel_rfl) (fun _ _ => _) (fun _ => rfl) ?_
    refine dj ?_
    refine d_p (fun _ _ => p_build st_37 rfl rfl) rfl (by first | exact Ind.const _ | exact fun _ _ _ _ _ => rfl | exact Ind.self | exact Ind.gh _ 3 rfl) (fun _ _ _ _ => rfl) ?_
    refine dj ?_
    first | refine d_loadN Try.isAgg39 Try.sizeOf39 (fun _ => rfl) (fun _ _ => at_blkAll (by first | exact .hd | exact .tl .hd | exact .tl (.tl .hd) | exact .tl (.tl (.tl .hd)) | exact .tl (.tl (.tl (.tl .hd))) | exact .tl (.tl (.tl (.tl (.tl .hd)))) | exact .tl (.tl (.tl (.tl (.tl (.tl .hd))))) | exact .tl (.tl (.tl (.tl (.tl (.tl (.tl .hd)))))) | exact .tl (.tl (.tl (.tl (.tl (.tl (.tl (.tl .hd))))))))) (by exact rfl) (fun _ _ _ _ => rfl) ?_ | refine d_loadN Try.isAgg39 Try.sizeOf39 (fun _ => rfl) (fun _ _ => at_blkN (sz := 8) (by first | exact .hd | exact .tl .hd | exact .tl (.tl .hd) | exact .tl (.tl (.tl .hd)) | exact .tl (.tl (.tl (.tl .hd))) | exact .tl (.tl (.tl (.tl (.tl .hd)))) | exact .tl (.tl (.tl (.tl (.tl (.tl .hd))))) | exact .tl (.tl (.tl (.tl (.tl (.tl (.tl .hd)))))) | exact .tl (.tl (.tl (.tl (.tl (.tl (.tl (.tl .hd))))))))) (by exact rfl) (fun _ _ _ _ => rfl) ?_
    refine dj ?_
    refine d_call (γ := Unit) (val := fun _ => vi (msgWrong ⟨4, 4⟩ m)) (F := fun v => []) (C := fun _ => []) Try.call49 (fun _ => rfl) (fun _ _ _ _ => rfl) (fun ρ L R w hd hs => refWrong_calls hs (c := ⟨4, 4⟩) (m := m) (by unfold Config.wf In64; decide) hm) ?_
    refine dj ?_
    refine d_bin (fun _ => rfl) (fun _ => rfl) (fun _ => b_neq_F (by omega)) (by first | exact Ind.const _ | exact fun _ _ _ _ _ => rfl | exact Ind.self | exact Ind.gh _ 3 rfl) (fun _ _ _ _ => rfl) ?_
    refine dj ?_
    refine d_move (fun _ => rfl) (by first | exact Ind.const _ | exact fun _ _ _ _ _ => rfl | exact Ind.self | exact Ind.gh _ 3 rfl) (fun _ _ _ _ => rfl) ?_
    refine dj ?_
    refine d_guardYes ?_ ?_
    · exact fun _ => rfl
    first | refine d_loadN Try.isAgg39 Try.sizeOf39 (fun _ => rfl) (fun _ _ => at_blkAll (by first | exact .hd | exact .tl .hd | exact .tl (.tl .hd) | exact .tl (.tl (.tl .hd)) | exact .tl (.tl (.tl (.tl .hd))) | exact .tl (.tl (.tl (.tl (.tl .hd)))) | exact .tl (.tl (.tl (.tl (.tl (.tl .hd))))) | exact .tl (.tl (.tl (.tl (.tl (.tl (.tl .hd)))))) | exact .tl (.tl (.tl (.tl (.tl (.tl (.tl (.tl .hd))))))))) (by exact rfl) (fun _ _ _ _ => rfl) ?_ | refine d_loadN Try.isAgg39 Try.sizeOf39 (fun _ => rfl) (fun _ _ => at_blkN (sz := 8) (by first | exact .hd | exact .tl .hd | exact .tl (.tl .hd) | exact .tl (.tl (.tl .hd)) | exact .tl (.tl (.tl (.tl .hd))) | exact .tl (.tl (.tl (.tl (.tl .hd)))) | exact .tl (.tl (.tl (.tl (.tl (.tl .hd))))) | exact .tl (.tl (.tl (.tl (.tl (.tl (.tl .hd)))))) | exact .tl (.tl (.tl (.tl (.tl (.tl (.tl (.tl .hd))))))))) (by exact rfl) (fun _ _ _ _ => rfl) ?_
    refine dj ?_
    refine d_guardYes ?_ ?_
    · exact fun _ => rfl
    refine d_call (γ := Value) (val := fun v => v) (F := fun v => [sl v (msgBytes m)]) (C := fun _ => []) Try.call56 (fun _ => rfl) (fun _ _ _ _ => rfl) (fun ρ L R w hd hs => frameBytes_calls hs (m := m) hin) ?_
    refine dj ?_
    refine d_guardYes ?_ ?_
    · exact fun _ => rfl
    refine d_convStr Try.underlying40 Try.underlying5 Try.underlying9 (fun _ => rfl) (fun ρ R hd => (by first | exact hd.base (by first | assumption | exact .head _ | (refine .tail _ ?_; first | assumption | exact .head _ | (refine .tail _ ?_; first | assumption | exact .head _ | (refine .tail _ ?_; first | assumption | exact .head _ | (refine .tail _ ?_; first | assumption | exact .head _ | (refine .tail _ ?_; first | assumption | exact .head _ | (refine .tail _ ?_; first | assumption | exact .head _ | (refine .tail _ ?_; first | assumption | exact .head _ | (refine .tail _ ?_; first | assumption | exact .head _ | (refine .tail _ ?_; first | assumption | exact .head _)))))))))) | exact hd.dep (it := ⟨6, _, _, _, _⟩) (by repeat (first | exact List.Mem.head _ | refine List.Mem.tail _ ?_)) ⟨8, rfl⟩ (by first | exact List.Mem.head _ | exact .tail _ (.head _) | exact .tail _ (.tail _ (.head _))))) (fun _ _ _ _ => rfl) ?_
    refine dj ?_
    refine d_guardYes ?_ ?_
    · exact fun _ => rfl
    first | refine d_loadN Try.isAgg39 Try.sizeOf39 (fun _ => rfl) (fun _ _ => at_blkAll (by first | exact .hd | exact .tl .hd | exact .tl (.tl .hd) | exact .tl (.tl (.tl .hd)) | exact .tl (.tl (.tl (.tl .hd))) | exact .tl (.tl (.tl (.tl (.tl .hd)))) | exact .tl (.tl (.tl (.tl (.tl (.tl .hd))))) | exact .tl (.tl (.tl (.tl (.tl (.tl (.tl .hd)))))) | exact .tl (.tl (.tl (.tl (.tl (.tl (.tl (.tl .hd))))))))) (by exact rfl) (fun _ _ _ _ => rfl) ?_ | refine d_loadN Try.isAgg39 Try.sizeOf39 (fun _ => rfl) (fun _ _ => at_blkN (sz := 8) (by first | exact .hd | exact .tl .hd | exact .tl (.tl .hd) | exact .tl (.tl (.tl .hd)) | exact .tl (.tl (.tl (.tl .hd))) | exact .tl (.tl (.tl (.tl (.tl .hd)))) | exact .tl (.tl (.tl (.tl (.tl (.tl .hd))))) | exact .tl (.tl (.tl (.tl (.tl (.tl (.tl .hd)))))) | exact .tl (.tl (.tl (.tl (.tl (.tl (.tl (.tl .hd))))))))) (by exact rfl) (fun _ _ _ _ => rfl) ?_
    refine dj ?_
    refine d_guardYes ?_ ?_
    · exact fun _ => rfl
    refine d_call (γ := Value) (val := fun v => v) (F := fun v => [sl v (msgBytes m)]) (C := fun _ => []) Try.call57 (fun _ => rfl) (fun _ _ _ _ => rfl) (fun ρ L R w hd hs => refBytes_calls hs (m := m) hin) ?_
    refine dj ?_
    refine d_guardYes ?_ ?_
    · exact fun _ => rfl
    refine d_convStr Try.underlying40 Try.underlying5 Try.underlying9 (fun _ => rfl) (fun ρ R hd => (by first | exact hd.base (by first | assumption | exact .head _ | (refine .tail _ ?_; first | assumption | exact .head _ | (refine .tail _ ?_; first | assumption | exact .head _ | (refine .tail _ ?_; first | assumption | exact .head _ | (refine .tail _ ?_; first | assumption | exact .head _ | (refine .tail _ ?_; first | assumption | exact .head _ | (refine .tail _ ?_; first | assumption | exact .head _ | (refine .tail _ ?_; first | assumption | exact .head _ | (refine .tail _ ?_; first | assumption | exact .head _ | (refine .tail _ ?_; first | assumption | exact .head _)))))))))) | exact hd.dep (it := ⟨6, _, _, _, _⟩) (by repeat (first | exact List.Mem.head _ | refine List.Mem.tail _ ?_)) ⟨8, rfl⟩ (by first | exact List.Mem.head _ | exact .tail _ (.head _) | exact .tail _ (.tail _ (.head _))) | exact hd.dep (it := ⟨9, _, _, _, _⟩) (by repeat (first | exact List.Mem.head _ | refine List.Mem.tail _ ?_)) ⟨8, rfl⟩ (by first | exact List.Mem.head _ | exact .tail _ (.head _) | exact .tail _ (.tail _ (.head _))))) (fun _ _ _ _ => rfl) ?_
    refine dj ?_
    refine d_guardYes ?_ ?_
    · exact fun _ => rfl
    first | refine d_pc (fun _ _ => p_str rfl rfl (b_streq_T rfl)) rfl (fun _ _ _ _ => rfl) ?_ | refine d_p (fun _ _ => p_str rfl rfl (b_streq_T rfl)) rfl (by first | exact Ind.const _ | exact fun _ _ _ _ _ => rfl | exact Ind.self | exact Ind.gh _ 3 rfl) (fun _ _ _ _ => rfl) ?_
    refine dj ?_
    refine d_pickF (fun _ => rfl) (fun _ => rfl) (by first | exact Ind.const _ | exact fun _ _ _ _ _ => rfl | exact Ind.self | exact Ind.gh _ 3 rfl) (fun _ _ _ _ => rfl) ?_
    refine dj ?_
    refine d_assign (fun _ => rfl) (by first | exact Ind.const _ | exact fun _ _ _ _ _ => rfl | exact Ind.self | exact Ind.gh _ 3 rfl) (fun _ _ _ _ => rfl) ?_
    refine d_nilC ?_; intro ρ; simp only [chunks, facts, alOf, List.append_nil, List.nil_append, List.cons_append]
    refine jx_then ?_
    refine jc_ret ?_
    repeat (first | refine jx_thenRet ?_ | refine jx_blockRet ?_)
    refine jx_body (.inr rfl) (fun B w _ => res1 rfl rfl B w) (fun w hs => ⟨(), ?_, hs.sub (by repeat (first | exact .refl | exact .nil | refine .cons (by first | exact .hd | exact .tl .hd | exact .tl (.tl .hd) | exact .tl (.tl (.tl .hd)) | exact .tl (.tl (.tl (.tl .hd))) | exact .tl (.tl (.tl (.tl (.tl .hd)))) | exact .tl (.tl (.tl (.tl (.tl (.tl .hd))))) | exact .tl (.tl (.tl (.tl (.tl (.tl (.tl .hd)))))) | exact .tl (.tl (.tl (.tl (.tl (.tl (.tl (.tl .hd)))))))) ?_ | refine .drop ?_)) (by repeat (first | exact FSub.refl | exact FSub.nil | refine FSub.cons (by first | assumption | (repeat (first | assumption | exact List.Mem.head _ | refine .tail _ ?_))) ?_ | refine FSub.drop ?_))⟩)
    rfl
end Go.Proofs.Ytfdkkncmpjbkbaa
