/- This file proves what frame.Bytes, frame.Turn and their twins in shref1 compute. No conditions. -/
import Derived.Test.YtfdkkncmpjbkbaaFacts
import Derived.Test.YtfdkkncmpjbkbaaFrame1
set_option linter.unusedVariables false
set_option linter.unusedSimpArgs false
set_option maxHeartbeats 1000000
namespace Go.Proofs.Ytfdkkncmpjbkbaa
open Go
theorem frameBytes_calls {L : List Chunk} {R : List Fact} {w : World} {m : Msg} (hs : St L R w) (hin : MsgIn m) : Calls Try.prog 56 [.agg m.cells.toArray].toArray w (Post (fun v : Value => v) (fun _ => L) (fun v => sl v (msgBytes m) :: R)) := by
  obtain ⟨k0, k1, k2, k3, k4, k5, k6⟩ := hin
  refine calls_args Try.func56 rfl Try.ntmps56 rfl hs ?_
  clear hs
  repeat refine jc_seq ?_
  refine jc_region ?_
  refine r_box rfl rfl ?_; intro b1
  refine r_assign rfl ?_
  refine J.nil ?_
  refine jx_then ?_
  repeat refine jc_seq ?_
  refine jc_region ?_
  refine r_assign rfl ?_
  refine J.nil ?_
  refine jx_then ?_
  repeat refine jc_seq ?_
  refine jc_region ?_
  first | refine r_fieldAddr fo_39_7 rfl ?_ | refine r_fieldAddrE fo_39_7 rfl (by first | exact len_row (by first | exact .hd | exact .tl .hd | exact .tl (.tl .hd) | exact .tl (.tl (.tl .hd)) | exact .tl (.tl (.tl (.tl .hd))) | exact .tl (.tl (.tl (.tl (.tl .hd)))) | exact .tl (.tl (.tl (.tl (.tl (.tl .hd))))) | exact .tl (.tl (.tl (.tl (.tl (.tl (.tl .hd)))))) | exact .tl (.tl (.tl (.tl (.tl (.tl (.tl (.tl .hd)))))))) | exact len_sl (by first | assumption | (repeat (first | assumption | exact List.Mem.head _ | refine .tail _ ?_)))) (by first | assumption | omega | simp) ?_
  first
    | (refine r_load1 Try.isAgg4 rfl (at_blk1 (by first | exact .hd | exact .tl .hd | exact .tl (.tl .hd) | exact .tl (.tl (.tl .hd)) | exact .tl (.tl (.tl (.tl .hd))) | exact .tl (.tl (.tl (.tl (.tl .hd)))) | exact .tl (.tl (.tl (.tl (.tl (.tl .hd))))) | exact .tl (.tl (.tl (.tl (.tl (.tl (.tl .hd)))))) | exact .tl (.tl (.tl (.tl (.tl (.tl (.tl (.tl .hd)))))))) (by exact rfl)) ?_)
    | (refine r_load1 Try.isAgg4 rfl (at_int (by first | assumption | (repeat (first | assumption | exact List.Mem.head _ | refine .tail _ ?_))) (by assumption)) ?_)
  refine J.nil ?_
  refine jx_then ?_
  repeat refine jc_seq ?_
  refine jc_cond rfl (fun ht7 => ?_) (fun ht7 => ?_)
  · -- t7 True
    try simp only [decide_eq_true_eq, decide_eq_false_iff_not, beq_iff_eq, bne_iff_ne, beq_eq_false_iff_ne, bne_eq_false_iff_eq, Int.not_lt, Int.not_le, Bool.not_eq_true, ne_eq, Bool.not_eq_eq_eq_not, Bool.not_true, Bool.not_false] at ht7
    refine jc_region ?_
    refine r_assign rfl ?_
    refine J.nil ?_
    refine jx_then ?_
    repeat refine jc_seq ?_
    refine jc_region ?_
    first | refine r_fieldAddr fo_39_0 rfl ?_ | refine r_fieldAddrE fo_39_0 rfl (by first | exact len_row (by first | exact .hd | exact .tl .hd | exact .tl (.tl .hd) | exact .tl (.tl (.tl .hd)) | exact .tl (.tl (.tl (.tl .hd))) | exact .tl (.tl (.tl (.tl (.tl .hd)))) | exact .tl (.tl (.tl (.tl (.tl (.tl .hd))))) | exact .tl (.tl (.tl (.tl (.tl (.tl (.tl .hd)))))) | exact .tl (.tl (.tl (.tl (.tl (.tl (.tl (.tl .hd)))))))) | exact len_sl (by first | assumption | (repeat (first | assumption | exact List.Mem.head _ | refine .tail _ ?_)))) (by first | assumption | omega | simp) ?_
    first
      | (refine r_load1 Try.isAgg3 rfl (at_blk1 (by first | exact .hd | exact .tl .hd | exact .tl (.tl .hd) | exact .tl (.tl (.tl .hd)) | exact .tl (.tl (.tl (.tl .hd))) | exact .tl (.tl (.tl (.tl (.tl .hd)))) | exact .tl (.tl (.tl (.tl (.tl (.tl .hd))))) | exact .tl (.tl (.tl (.tl (.tl (.tl (.tl .hd)))))) | exact .tl (.tl (.tl (.tl (.tl (.tl (.tl (.tl .hd)))))))) (by exact rfl)) ?_)
      | (refine r_load1 Try.isAgg3 rfl (at_int (by first | assumption | (repeat (first | assumption | exact List.Mem.head _ | refine .tail _ ?_))) (by assumption)) ?_)
    refine r_p (p_convInt Try.underlying3 Try.underlying5 rfl (wrap_u8' _)) rfl ?_
    first | refine r_fieldAddr fo_39_1 rfl ?_ | refine r_fieldAddrE fo_39_1 rfl (by first | exact len_row (by first | exact .hd | exact .tl .hd | exact .tl (.tl .hd) | exact .tl (.tl (.tl .hd)) | exact .tl (.tl (.tl (.tl .hd))) | exact .tl (.tl (.tl (.tl (.tl .hd)))) | exact .tl (.tl (.tl (.tl (.tl (.tl .hd))))) | exact .tl (.tl (.tl (.tl (.tl (.tl (.tl .hd)))))) | exact .tl (.tl (.tl (.tl (.tl (.tl (.tl (.tl .hd)))))))) | exact len_sl (by first | assumption | (repeat (first | assumption | exact List.Mem.head _ | refine .tail _ ?_)))) (by first | assumption | omega | simp) ?_
    first
      | (refine r_load1 Try.isAgg3 rfl (at_blk1 (by first | exact .hd | exact .tl .hd | exact .tl (.tl .hd) | exact .tl (.tl (.tl .hd)) | exact .tl (.tl (.tl (.tl .hd))) | exact .tl (.tl (.tl (.tl (.tl .hd)))) | exact .tl (.tl (.tl (.tl (.tl (.tl .hd))))) | exact .tl (.tl (.tl (.tl (.tl (.tl (.tl .hd)))))) | exact .tl (.tl (.tl (.tl (.tl (.tl (.tl (.tl .hd)))))))) (by exact rfl)) ?_)
      | (refine r_load1 Try.isAgg3 rfl (at_int (by first | assumption | (repeat (first | assumption | exact List.Mem.head _ | refine .tail _ ?_))) (by assumption)) ?_)
    refine r_p (p_int rfl rfl (b_shl4 (by omega) (by omega))) rfl ?_
    first | refine r_fieldAddr fo_39_2 rfl ?_ | refine r_fieldAddrE fo_39_2 rfl (by first | exact len_row (by first | exact .hd | exact .tl .hd | exact .tl (.tl .hd) | exact .tl (.tl (.tl .hd)) | exact .tl (.tl (.tl (.tl .hd))) | exact .tl (.tl (.tl (.tl (.tl .hd)))) | exact .tl (.tl (.tl (.tl (.tl (.tl .hd))))) | exact .tl (.tl (.tl (.tl (.tl (.tl (.tl .hd)))))) | exact .tl (.tl (.tl (.tl (.tl (.tl (.tl (.tl .hd)))))))) | exact len_sl (by first | assumption | (repeat (first | assumption | exact List.Mem.head _ | refine .tail _ ?_)))) (by first | assumption | omega | simp) ?_
    first
      | (refine r_load1 Try.isAgg3 rfl (at_blk1 (by first | exact .hd | exact .tl .hd | exact .tl (.tl .hd) | exact .tl (.tl (.tl .hd)) | exact .tl (.tl (.tl (.tl .hd))) | exact .tl (.tl (.tl (.tl (.tl .hd)))) | exact .tl (.tl (.tl (.tl (.tl (.tl .hd))))) | exact .tl (.tl (.tl (.tl (.tl (.tl (.tl .hd)))))) | exact .tl (.tl (.tl (.tl (.tl (.tl (.tl (.tl .hd)))))))) (by exact rfl)) ?_)
      | (refine r_load1 Try.isAgg3 rfl (at_int (by first | assumption | (repeat (first | assumption | exact List.Mem.head _ | refine .tail _ ?_))) (by assumption)) ?_)
    refine r_p (p_int rfl rfl b_and15) rfl ?_
    refine r_p (p_int rfl rfl (b_or16 (by omega) (by omega) (by omega) (by omega))) rfl ?_
    refine r_p (p_convInt Try.underlying3 Try.underlying5 rfl (wrap_u8' _)) rfl ?_
    first | refine r_fieldAddr fo_39_3 rfl ?_ | refine r_fieldAddrE fo_39_3 rfl (by first | exact len_row (by first | exact .hd | exact .tl .hd | exact .tl (.tl .hd) | exact .tl (.tl (.tl .hd)) | exact .tl (.tl (.tl (.tl .hd))) | exact .tl (.tl (.tl (.tl (.tl .hd)))) | exact .tl (.tl (.tl (.tl (.tl (.tl .hd))))) | exact .tl (.tl (.tl (.tl (.tl (.tl (.tl .hd)))))) | exact .tl (.tl (.tl (.tl (.tl (.tl (.tl (.tl .hd)))))))) | exact len_sl (by first | assumption | (repeat (first | assumption | exact List.Mem.head _ | refine .tail _ ?_)))) (by first | assumption | omega | simp) ?_
    first
      | (refine r_load1 Try.isAgg3 rfl (at_blk1 (by first | exact .hd | exact .tl .hd | exact .tl (.tl .hd) | exact .tl (.tl (.tl .hd)) | exact .tl (.tl (.tl (.tl .hd))) | exact .tl (.tl (.tl (.tl (.tl .hd)))) | exact .tl (.tl (.tl (.tl (.tl (.tl .hd))))) | exact .tl (.tl (.tl (.tl (.tl (.tl (.tl .hd)))))) | exact .tl (.tl (.tl (.tl (.tl (.tl (.tl (.tl .hd)))))))) (by exact rfl)) ?_)
      | (refine r_load1 Try.isAgg3 rfl (at_int (by first | assumption | (repeat (first | assumption | exact List.Mem.head _ | refine .tail _ ?_))) (by assumption)) ?_)
    refine r_p (p_convInt Try.underlying3 Try.underlying5 rfl (wrap_u8' _)) rfl ?_
    first | refine r_fieldAddr fo_39_4 rfl ?_ | refine r_fieldAddrE fo_39_4 rfl (by first | exact len_row (by first | exact .hd | exact .tl .hd | exact .tl (.tl .hd) | exact .tl (.tl (.tl .hd)) | exact .tl (.tl (.tl (.tl .hd))) | exact .tl (.tl (.tl (.tl (.tl .hd)))) | exact .tl (.tl (.tl (.tl (.tl (.tl .hd))))) | exact .tl (.tl (.tl (.tl (.tl (.tl (.tl .hd)))))) | exact .tl (.tl (.tl (.tl (.tl (.tl (.tl (.tl .hd)))))))) | exact len_sl (by first | assumption | (repeat (first | assumption | exact List.Mem.head _ | refine .tail _ ?_)))) (by first | assumption | omega | simp) ?_
    first
      | (refine r_load1 Try.isAgg3 rfl (at_blk1 (by first | exact .hd | exact .tl .hd | exact .tl (.tl .hd) | exact .tl (.tl (.tl .hd)) | exact .tl (.tl (.tl (.tl .hd))) | exact .tl (.tl (.tl (.tl (.tl .hd)))) | exact .tl (.tl (.tl (.tl (.tl (.tl .hd))))) | exact .tl (.tl (.tl (.tl (.tl (.tl (.tl .hd)))))) | exact .tl (.tl (.tl (.tl (.tl (.tl (.tl (.tl .hd)))))))) (by exact rfl)) ?_)
      | (refine r_load1 Try.isAgg3 rfl (at_int (by first | assumption | (repeat (first | assumption | exact List.Mem.head _ | refine .tail _ ?_))) (by assumption)) ?_)
    refine r_p (p_int rfl rfl b_shr256) rfl ?_
    refine r_p (p_convInt Try.underlying3 Try.underlying5 rfl (wrap_u8' _)) rfl ?_
    first | refine r_fieldAddr fo_39_4 rfl ?_ | refine r_fieldAddrE fo_39_4 rfl (by first | exact len_row (by first | exact .hd | exact .tl .hd | exact .tl (.tl .hd) | exact .tl (.tl (.tl .hd)) | exact .tl (.tl (.tl (.tl .hd))) | exact .tl (.tl (.tl (.tl (.tl .hd)))) | exact .tl (.tl (.tl (.tl (.tl (.tl .hd))))) | exact .tl (.tl (.tl (.tl (.tl (.tl (.tl .hd)))))) | exact .tl (.tl (.tl (.tl (.tl (.tl (.tl (.tl .hd)))))))) | exact len_sl (by first | assumption | (repeat (first | assumption | exact List.Mem.head _ | refine .tail _ ?_)))) (by first | assumption | omega | simp) ?_
    first
      | (refine r_load1 Try.isAgg3 rfl (at_blk1 (by first | exact .hd | exact .tl .hd | exact .tl (.tl .hd) | exact .tl (.tl (.tl .hd)) | exact .tl (.tl (.tl (.tl .hd))) | exact .tl (.tl (.tl (.tl (.tl .hd)))) | exact .tl (.tl (.tl (.tl (.tl (.tl .hd))))) | exact .tl (.tl (.tl (.tl (.tl (.tl (.tl .hd)))))) | exact .tl (.tl (.tl (.tl (.tl (.tl (.tl (.tl .hd)))))))) (by exact rfl)) ?_)
      | (refine r_load1 Try.isAgg3 rfl (at_int (by first | assumption | (repeat (first | assumption | exact List.Mem.head _ | refine .tail _ ?_))) (by assumption)) ?_)
    refine r_p (p_convInt Try.underlying3 Try.underlying5 rfl (wrap_u8' _)) rfl ?_
    first | refine r_fieldAddr fo_39_5 rfl ?_ | refine r_fieldAddrE fo_39_5 rfl (by first | exact len_row (by first | exact .hd | exact .tl .hd | exact .tl (.tl .hd) | exact .tl (.tl (.tl .hd)) | exact .tl (.tl (.tl (.tl .hd))) | exact .tl (.tl (.tl (.tl (.tl .hd)))) | exact .tl (.tl (.tl (.tl (.tl (.tl .hd))))) | exact .tl (.tl (.tl (.tl (.tl (.tl (.tl .hd)))))) | exact .tl (.tl (.tl (.tl (.tl (.tl (.tl (.tl .hd)))))))) | exact len_sl (by first | assumption | (repeat (first | assumption | exact List.Mem.head _ | refine .tail _ ?_)))) (by first | assumption | omega | simp) ?_
    first
      | (refine r_load1 Try.isAgg3 rfl (at_blk1 (by first | exact .hd | exact .tl .hd | exact .tl (.tl .hd) | exact .tl (.tl (.tl .hd)) | exact .tl (.tl (.tl (.tl .hd))) | exact .tl (.tl (.tl (.tl (.tl .hd)))) | exact .tl (.tl (.tl (.tl (.tl (.tl .hd))))) | exact .tl (.tl (.tl (.tl (.tl (.tl (.tl .hd)))))) | exact .tl (.tl (.tl (.tl (.tl (.tl (.tl (.tl .hd)))))))) (by exact rfl)) ?_)
      | (refine r_load1 Try.isAgg3 rfl (at_int (by first | assumption | (repeat (first | assumption | exact List.Mem.head _ | refine .tail _ ?_))) (by assumption)) ?_)
    refine r_p (p_int rfl rfl b_shr256) rfl ?_
    refine r_p (p_convInt Try.underlying3 Try.underlying5 rfl (wrap_u8' _)) rfl ?_
    first | refine r_fieldAddr fo_39_5 rfl ?_ | refine r_fieldAddrE fo_39_5 rfl (by first | exact len_row (by first | exact .hd | exact .tl .hd | exact .tl (.tl .hd) | exact .tl (.tl (.tl .hd)) | exact .tl (.tl (.tl (.tl .hd))) | exact .tl (.tl (.tl (.tl (.tl .hd)))) | exact .tl (.tl (.tl (.tl (.tl (.tl .hd))))) | exact .tl (.tl (.tl (.tl (.tl (.tl (.tl .hd)))))) | exact .tl (.tl (.tl (.tl (.tl (.tl (.tl (.tl .hd)))))))) | exact len_sl (by first | assumption | (repeat (first | assumption | exact List.Mem.head _ | refine .tail _ ?_)))) (by first | assumption | omega | simp) ?_
    first
      | (refine r_load1 Try.isAgg3 rfl (at_blk1 (by first | exact .hd | exact .tl .hd | exact .tl (.tl .hd) | exact .tl (.tl (.tl .hd)) | exact .tl (.tl (.tl (.tl .hd))) | exact .tl (.tl (.tl (.tl (.tl .hd)))) | exact .tl (.tl (.tl (.tl (.tl (.tl .hd))))) | exact .tl (.tl (.tl (.tl (.tl (.tl (.tl .hd)))))) | exact .tl (.tl (.tl (.tl (.tl (.tl (.tl (.tl .hd)))))))) (by exact rfl)) ?_)
      | (refine r_load1 Try.isAgg3 rfl (at_int (by first | assumption | (repeat (first | assumption | exact List.Mem.head _ | refine .tail _ ?_))) (by assumption)) ?_)
    refine r_p (p_convInt Try.underlying3 Try.underlying5 rfl (wrap_u8' _)) rfl ?_
    first | refine r_fieldAddr fo_39_6 rfl ?_ | refine r_fieldAddrE fo_39_6 rfl (by first | exact len_row (by first | exact .hd | exact .tl .hd | exact .tl (.tl .hd) | exact .tl (.tl (.tl .hd)) | exact .tl (.tl (.tl (.tl .hd))) | exact .tl (.tl (.tl (.tl (.tl .hd)))) | exact .tl (.tl (.tl (.tl (.tl (.tl .hd))))) | exact .tl (.tl (.tl (.tl (.tl (.tl (.tl .hd)))))) | exact .tl (.tl (.tl (.tl (.tl (.tl (.tl (.tl .hd)))))))) | exact len_sl (by first | assumption | (repeat (first | assumption | exact List.Mem.head _ | refine .tail _ ?_)))) (by first | assumption | omega | simp) ?_
    first
      | (refine r_load1 Try.isAgg3 rfl (at_blk1 (by first | exact .hd | exact .tl .hd | exact .tl (.tl .hd) | exact .tl (.tl (.tl .hd)) | exact .tl (.tl (.tl (.tl .hd))) | exact .tl (.tl (.tl (.tl (.tl .hd)))) | exact .tl (.tl (.tl (.tl (.tl (.tl .hd))))) | exact .tl (.tl (.tl (.tl (.tl (.tl (.tl .hd)))))) | exact .tl (.tl (.tl (.tl (.tl (.tl (.tl (.tl .hd)))))))) (by exact rfl)) ?_)
      | (refine r_load1 Try.isAgg3 rfl (at_int (by first | assumption | (repeat (first | assumption | exact List.Mem.head _ | refine .tail _ ?_))) (by assumption)) ?_)
    refine r_p (p_convInt Try.underlying3 Try.underlying5 rfl (wrap_u8' _)) rfl ?_
    refine r_move rfl ?_
    refine r_lit (α := UInt8) [u8 m.kind, u8 (16 * m.src + m.dst % 16), u8 m.line, u8 (m.serial / 256), u8 m.serial, u8 (m.turn / 256), u8 m.turn, u8 m.value, 1, 0] eo_40 rfl rfl rfl rfl rfl rfl (fun j hj => ⟨⟨_, rfl, rfl⟩, ⟨⟨_, rfl, rfl⟩, ⟨⟨_, rfl, rfl⟩, ⟨⟨_, rfl, rfl⟩, ⟨⟨_, rfl, rfl⟩, ⟨⟨_, rfl, rfl⟩, ⟨⟨_, rfl, rfl⟩, ⟨⟨_, rfl, rfl⟩, ⟨⟨_, rfl, rfl⟩, ⟨⟨_, rfl, rfl⟩, trivial⟩⟩⟩⟩⟩⟩⟩⟩⟩⟩) ?_; intro v40
    have hxs : ([u8 m.kind, u8 (16 * m.src + m.dst % 16), u8 m.line, u8 (m.serial / 256), u8 m.serial, u8 (m.turn / 256), u8 m.turn, u8 m.value, 1, 0] : List UInt8) = msgHead m := by unfold msgHead; rw [ht7, show 16 * m.src + m.dst % 16 = 16 * m.src + m.dst by omega]; rfl
    rw [hxs]
    refine r_assign rfl ?_
    refine J.nil ?_
    refine jx_then ?_
    repeat refine jc_seq ?_
    refine jc_region ?_
    refine r_move rfl ?_
    refine r_call (γ := Unit) (val := fun _ => vi (sumI (msgHead m))) Try.call50 rfl (fun w hs => lend .hd (fun L R w hs hf _ => frameSum_calls hs hf) hs) ?_; intro _
    have hsm := sum_in (msgHead m)
    refine r_assign rfl ?_
    refine J.nil ?_
    refine jx_then ?_
    repeat refine jc_seq ?_
    refine jc_region ?_
    refine r_move rfl ?_
    refine r_move rfl ?_
    refine r_p (p_int rfl rfl b_shr256) rfl ?_
    refine r_p (p_convInt Try.underlying3 Try.underlying5 rfl (wrap_u8' _)) rfl ?_
    refine r_move rfl ?_
    refine r_p (p_convInt Try.underlying3 Try.underlying5 rfl (wrap_u8' _)) rfl ?_
    refine r_lit (α := UInt8) [u8 (sumI (msgHead m) / 256), u8 (sumI (msgHead m))] eo_40 rfl rfl rfl rfl rfl rfl (fun j hj => ⟨⟨_, rfl, rfl⟩, ⟨⟨_, rfl, rfl⟩, trivial⟩⟩) ?_; intro v49
    refine J.shut .hd ?_
    refine r_append eo_40 rfl rfl rfl (by decide) .hd (.head _) (fun w hs => by have : maxN = 16777216 := rfl; rw [len_head]; simp only [List.length_cons, List.length_nil]; omega) ?_; intro v50
    refine r_assign rfl ?_
    refine J.nil ?_
    refine jx_then ?_
    refine jc_ret ?_
    repeat (first | refine jx_thenRet ?_ | refine jx_blockRet ?_)
    refine jx_body (.inr rfl) (fun B w hs => res1 rfl rfl B w) (fun w hs => ?_)
    refine ⟨v50, rfl, ?_⟩
    have h := hs.shut
    exact h.sub (by repeat (first | exact .refl | exact .nil | refine .cons (by first | exact .hd | exact .tl .hd | exact .tl (.tl .hd) | exact .tl (.tl (.tl .hd)) | exact .tl (.tl (.tl (.tl .hd))) | exact .tl (.tl (.tl (.tl (.tl .hd)))) | exact .tl (.tl (.tl (.tl (.tl (.tl .hd))))) | exact .tl (.tl (.tl (.tl (.tl (.tl (.tl .hd)))))) | exact .tl (.tl (.tl (.tl (.tl (.tl (.tl (.tl .hd)))))))) ?_ | refine .drop ?_)) (by repeat (first | exact FSub.refl | exact FSub.nil | refine FSub.cons (by first | assumption | (repeat (first | assumption | exact List.Mem.head _ | refine .tail _ ?_))) ?_ | refine FSub.drop ?_))
  · -- t7 False
    try simp only [decide_eq_true_eq, decide_eq_false_iff_not, beq_iff_eq, bne_iff_ne, beq_eq_false_iff_ne, bne_eq_false_iff_eq, Int.not_lt, Int.not_le, Bool.not_eq_true, ne_eq, Bool.not_eq_eq_eq_not, Bool.not_true, Bool.not_false] at ht7
    refine jc_skip ?_
    refine jx_then ?_
    repeat refine jc_seq ?_
    refine jc_region ?_
    first | refine r_fieldAddr fo_39_0 rfl ?_ | refine r_fieldAddrE fo_39_0 rfl (by first | exact len_row (by first | exact .hd | exact .tl .hd | exact .tl (.tl .hd) | exact .tl (.tl (.tl .hd)) | exact .tl (.tl (.tl (.tl .hd))) | exact .tl (.tl (.tl (.tl (.tl .hd)))) | exact .tl (.tl (.tl (.tl (.tl (.tl .hd))))) | exact .tl (.tl (.tl (.tl (.tl (.tl (.tl .hd)))))) | exact .tl (.tl (.tl (.tl (.tl (.tl (.tl (.tl .hd)))))))) | exact len_sl (by first | assumption | (repeat (first | assumption | exact List.Mem.head _ | refine .tail _ ?_)))) (by first | assumption | omega | simp) ?_
    first
      | (refine r_load1 Try.isAgg3 rfl (at_blk1 (by first | exact .hd | exact .tl .hd | exact .tl (.tl .hd) | exact .tl (.tl (.tl .hd)) | exact .tl (.tl (.tl (.tl .hd))) | exact .tl (.tl (.tl (.tl (.tl .hd)))) | exact .tl (.tl (.tl (.tl (.tl (.tl .hd))))) | exact .tl (.tl (.tl (.tl (.tl (.tl (.tl .hd)))))) | exact .tl (.tl (.tl (.tl (.tl (.tl (.tl (.tl .hd)))))))) (by exact rfl)) ?_)
      | (refine r_load1 Try.isAgg3 rfl (at_int (by first | assumption | (repeat (first | assumption | exact List.Mem.head _ | refine .tail _ ?_))) (by assumption)) ?_)
    refine r_p (p_convInt Try.underlying3 Try.underlying5 rfl (wrap_u8' _)) rfl ?_
    first | refine r_fieldAddr fo_39_1 rfl ?_ | refine r_fieldAddrE fo_39_1 rfl (by first | exact len_row (by first | exact .hd | exact .tl .hd | exact .tl (.tl .hd) | exact .tl (.tl (.tl .hd)) | exact .tl (.tl (.tl (.tl .hd))) | exact .tl (.tl (.tl (.tl (.tl .hd)))) | exact .tl (.tl (.tl (.tl (.tl (.tl .hd))))) | exact .tl (.tl (.tl (.tl (.tl (.tl (.tl .hd)))))) | exact .tl (.tl (.tl (.tl (.tl (.tl (.tl (.tl .hd)))))))) | exact len_sl (by first | assumption | (repeat (first | assumption | exact List.Mem.head _ | refine .tail _ ?_)))) (by first | assumption | omega | simp) ?_
    first
      | (refine r_load1 Try.isAgg3 rfl (at_blk1 (by first | exact .hd | exact .tl .hd | exact .tl (.tl .hd) | exact .tl (.tl (.tl .hd)) | exact .tl (.tl (.tl (.tl .hd))) | exact .tl (.tl (.tl (.tl (.tl .hd)))) | exact .tl (.tl (.tl (.tl (.tl (.tl .hd))))) | exact .tl (.tl (.tl (.tl (.tl (.tl (.tl .hd)))))) | exact .tl (.tl (.tl (.tl (.tl (.tl (.tl (.tl .hd)))))))) (by exact rfl)) ?_)
      | (refine r_load1 Try.isAgg3 rfl (at_int (by first | assumption | (repeat (first | assumption | exact List.Mem.head _ | refine .tail _ ?_))) (by assumption)) ?_)
    refine r_p (p_int rfl rfl (b_shl4 (by omega) (by omega))) rfl ?_
    first | refine r_fieldAddr fo_39_2 rfl ?_ | refine r_fieldAddrE fo_39_2 rfl (by first | exact len_row (by first | exact .hd | exact .tl .hd | exact .tl (.tl .hd) | exact .tl (.tl (.tl .hd)) | exact .tl (.tl (.tl (.tl .hd))) | exact .tl (.tl (.tl (.tl (.tl .hd)))) | exact .tl (.tl (.tl (.tl (.tl (.tl .hd))))) | exact .tl (.tl (.tl (.tl (.tl (.tl (.tl .hd)))))) | exact .tl (.tl (.tl (.tl (.tl (.tl (.tl (.tl .hd)))))))) | exact len_sl (by first | assumption | (repeat (first | assumption | exact List.Mem.head _ | refine .tail _ ?_)))) (by first | assumption | omega | simp) ?_
    first
      | (refine r_load1 Try.isAgg3 rfl (at_blk1 (by first | exact .hd | exact .tl .hd | exact .tl (.tl .hd) | exact .tl (.tl (.tl .hd)) | exact .tl (.tl (.tl (.tl .hd))) | exact .tl (.tl (.tl (.tl (.tl .hd)))) | exact .tl (.tl (.tl (.tl (.tl (.tl .hd))))) | exact .tl (.tl (.tl (.tl (.tl (.tl (.tl .hd)))))) | exact .tl (.tl (.tl (.tl (.tl (.tl (.tl (.tl .hd)))))))) (by exact rfl)) ?_)
      | (refine r_load1 Try.isAgg3 rfl (at_int (by first | assumption | (repeat (first | assumption | exact List.Mem.head _ | refine .tail _ ?_))) (by assumption)) ?_)
    refine r_p (p_int rfl rfl b_and15) rfl ?_
    refine r_p (p_int rfl rfl (b_or16 (by omega) (by omega) (by omega) (by omega))) rfl ?_
    refine r_p (p_convInt Try.underlying3 Try.underlying5 rfl (wrap_u8' _)) rfl ?_
    first | refine r_fieldAddr fo_39_3 rfl ?_ | refine r_fieldAddrE fo_39_3 rfl (by first | exact len_row (by first | exact .hd | exact .tl .hd | exact .tl (.tl .hd) | exact .tl (.tl (.tl .hd)) | exact .tl (.tl (.tl (.tl .hd))) | exact .tl (.tl (.tl (.tl (.tl .hd)))) | exact .tl (.tl (.tl (.tl (.tl (.tl .hd))))) | exact .tl (.tl (.tl (.tl (.tl (.tl (.tl .hd)))))) | exact .tl (.tl (.tl (.tl (.tl (.tl (.tl (.tl .hd)))))))) | exact len_sl (by first | assumption | (repeat (first | assumption | exact List.Mem.head _ | refine .tail _ ?_)))) (by first | assumption | omega | simp) ?_
    first
      | (refine r_load1 Try.isAgg3 rfl (at_blk1 (by first | exact .hd | exact .tl .hd | exact .tl (.tl .hd) | exact .tl (.tl (.tl .hd)) | exact .tl (.tl (.tl (.tl .hd))) | exact .tl (.tl (.tl (.tl (.tl .hd)))) | exact .tl (.tl (.tl (.tl (.tl (.tl .hd))))) | exact .tl (.tl (.tl (.tl (.tl (.tl (.tl .hd)))))) | exact .tl (.tl (.tl (.tl (.tl (.tl (.tl (.tl .hd)))))))) (by exact rfl)) ?_)
      | (refine r_load1 Try.isAgg3 rfl (at_int (by first | assumption | (repeat (first | assumption | exact List.Mem.head _ | refine .tail _ ?_))) (by assumption)) ?_)
    refine r_p (p_convInt Try.underlying3 Try.underlying5 rfl (wrap_u8' _)) rfl ?_
    first | refine r_fieldAddr fo_39_4 rfl ?_ | refine r_fieldAddrE fo_39_4 rfl (by first | exact len_row (by first | exact .hd | exact .tl .hd | exact .tl (.tl .hd) | exact .tl (.tl (.tl .hd)) | exact .tl (.tl (.tl (.tl .hd))) | exact .tl (.tl (.tl (.tl (.tl .hd)))) | exact .tl (.tl (.tl (.tl (.tl (.tl .hd))))) | exact .tl (.tl (.tl (.tl (.tl (.tl (.tl .hd)))))) | exact .tl (.tl (.tl (.tl (.tl (.tl (.tl (.tl .hd)))))))) | exact len_sl (by first | assumption | (repeat (first | assumption | exact List.Mem.head _ | refine .tail _ ?_)))) (by first | assumption | omega | simp) ?_
    first
      | (refine r_load1 Try.isAgg3 rfl (at_blk1 (by first | exact .hd | exact .tl .hd | exact .tl (.tl .hd) | exact .tl (.tl (.tl .hd)) | exact .tl (.tl (.tl (.tl .hd))) | exact .tl (.tl (.tl (.tl (.tl .hd)))) | exact .tl (.tl (.tl (.tl (.tl (.tl .hd))))) | exact .tl (.tl (.tl (.tl (.tl (.tl (.tl .hd)))))) | exact .tl (.tl (.tl (.tl (.tl (.tl (.tl (.tl .hd)))))))) (by exact rfl)) ?_)
      | (refine r_load1 Try.isAgg3 rfl (at_int (by first | assumption | (repeat (first | assumption | exact List.Mem.head _ | refine .tail _ ?_))) (by assumption)) ?_)
    refine r_p (p_int rfl rfl b_shr256) rfl ?_
    refine r_p (p_convInt Try.underlying3 Try.underlying5 rfl (wrap_u8' _)) rfl ?_
    first | refine r_fieldAddr fo_39_4 rfl ?_ | refine r_fieldAddrE fo_39_4 rfl (by first | exact len_row (by first | exact .hd | exact .tl .hd | exact .tl (.tl .hd) | exact .tl (.tl (.tl .hd)) | exact .tl (.tl (.tl (.tl .hd))) | exact .tl (.tl (.tl (.tl (.tl .hd)))) | exact .tl (.tl (.tl (.tl (.tl (.tl .hd))))) | exact .tl (.tl (.tl (.tl (.tl (.tl (.tl .hd)))))) | exact .tl (.tl (.tl (.tl (.tl (.tl (.tl (.tl .hd)))))))) | exact len_sl (by first | assumption | (repeat (first | assumption | exact List.Mem.head _ | refine .tail _ ?_)))) (by first | assumption | omega | simp) ?_
    first
      | (refine r_load1 Try.isAgg3 rfl (at_blk1 (by first | exact .hd | exact .tl .hd | exact .tl (.tl .hd) | exact .tl (.tl (.tl .hd)) | exact .tl (.tl (.tl (.tl .hd))) | exact .tl (.tl (.tl (.tl (.tl .hd)))) | exact .tl (.tl (.tl (.tl (.tl (.tl .hd))))) | exact .tl (.tl (.tl (.tl (.tl (.tl (.tl .hd)))))) | exact .tl (.tl (.tl (.tl (.tl (.tl (.tl (.tl .hd)))))))) (by exact rfl)) ?_)
      | (refine r_load1 Try.isAgg3 rfl (at_int (by first | assumption | (repeat (first | assumption | exact List.Mem.head _ | refine .tail _ ?_))) (by assumption)) ?_)
    refine r_p (p_convInt Try.underlying3 Try.underlying5 rfl (wrap_u8' _)) rfl ?_
    first | refine r_fieldAddr fo_39_5 rfl ?_ | refine r_fieldAddrE fo_39_5 rfl (by first | exact len_row (by first | exact .hd | exact .tl .hd | exact .tl (.tl .hd) | exact .tl (.tl (.tl .hd)) | exact .tl (.tl (.tl (.tl .hd))) | exact .tl (.tl (.tl (.tl (.tl .hd)))) | exact .tl (.tl (.tl (.tl (.tl (.tl .hd))))) | exact .tl (.tl (.tl (.tl (.tl (.tl (.tl .hd)))))) | exact .tl (.tl (.tl (.tl (.tl (.tl (.tl (.tl .hd)))))))) | exact len_sl (by first | assumption | (repeat (first | assumption | exact List.Mem.head _ | refine .tail _ ?_)))) (by first | assumption | omega | simp) ?_
    first
      | (refine r_load1 Try.isAgg3 rfl (at_blk1 (by first | exact .hd | exact .tl .hd | exact .tl (.tl .hd) | exact .tl (.tl (.tl .hd)) | exact .tl (.tl (.tl (.tl .hd))) | exact .tl (.tl (.tl (.tl (.tl .hd)))) | exact .tl (.tl (.tl (.tl (.tl (.tl .hd))))) | exact .tl (.tl (.tl (.tl (.tl (.tl (.tl .hd)))))) | exact .tl (.tl (.tl (.tl (.tl (.tl (.tl (.tl .hd)))))))) (by exact rfl)) ?_)
      | (refine r_load1 Try.isAgg3 rfl (at_int (by first | assumption | (repeat (first | assumption | exact List.Mem.head _ | refine .tail _ ?_))) (by assumption)) ?_)
    refine r_p (p_int rfl rfl b_shr256) rfl ?_
    refine r_p (p_convInt Try.underlying3 Try.underlying5 rfl (wrap_u8' _)) rfl ?_
    first | refine r_fieldAddr fo_39_5 rfl ?_ | refine r_fieldAddrE fo_39_5 rfl (by first | exact len_row (by first | exact .hd | exact .tl .hd | exact .tl (.tl .hd) | exact .tl (.tl (.tl .hd)) | exact .tl (.tl (.tl (.tl .hd))) | exact .tl (.tl (.tl (.tl (.tl .hd)))) | exact .tl (.tl (.tl (.tl (.tl (.tl .hd))))) | exact .tl (.tl (.tl (.tl (.tl (.tl (.tl .hd)))))) | exact .tl (.tl (.tl (.tl (.tl (.tl (.tl (.tl .hd)))))))) | exact len_sl (by first | assumption | (repeat (first | assumption | exact List.Mem.head _ | refine .tail _ ?_)))) (by first | assumption | omega | simp) ?_
    first
      | (refine r_load1 Try.isAgg3 rfl (at_blk1 (by first | exact .hd | exact .tl .hd | exact .tl (.tl .hd) | exact .tl (.tl (.tl .hd)) | exact .tl (.tl (.tl (.tl .hd))) | exact .tl (.tl (.tl (.tl (.tl .hd)))) | exact .tl (.tl (.tl (.tl (.tl (.tl .hd))))) | exact .tl (.tl (.tl (.tl (.tl (.tl (.tl .hd)))))) | exact .tl (.tl (.tl (.tl (.tl (.tl (.tl (.tl .hd)))))))) (by exact rfl)) ?_)
      | (refine r_load1 Try.isAgg3 rfl (at_int (by first | assumption | (repeat (first | assumption | exact List.Mem.head _ | refine .tail _ ?_))) (by assumption)) ?_)
    refine r_p (p_convInt Try.underlying3 Try.underlying5 rfl (wrap_u8' _)) rfl ?_
    first | refine r_fieldAddr fo_39_6 rfl ?_ | refine r_fieldAddrE fo_39_6 rfl (by first | exact len_row (by first | exact .hd | exact .tl .hd | exact .tl (.tl .hd) | exact .tl (.tl (.tl .hd)) | exact .tl (.tl (.tl (.tl .hd))) | exact .tl (.tl (.tl (.tl (.tl .hd)))) | exact .tl (.tl (.tl (.tl (.tl (.tl .hd))))) | exact .tl (.tl (.tl (.tl (.tl (.tl (.tl .hd)))))) | exact .tl (.tl (.tl (.tl (.tl (.tl (.tl (.tl .hd)))))))) | exact len_sl (by first | assumption | (repeat (first | assumption | exact List.Mem.head _ | refine .tail _ ?_)))) (by first | assumption | omega | simp) ?_
    first
      | (refine r_load1 Try.isAgg3 rfl (at_blk1 (by first | exact .hd | exact .tl .hd | exact .tl (.tl .hd) | exact .tl (.tl (.tl .hd)) | exact .tl (.tl (.tl (.tl .hd))) | exact .tl (.tl (.tl (.tl (.tl .hd)))) | exact .tl (.tl (.tl (.tl (.tl (.tl .hd))))) | exact .tl (.tl (.tl (.tl (.tl (.tl (.tl .hd)))))) | exact .tl (.tl (.tl (.tl (.tl (.tl (.tl (.tl .hd)))))))) (by exact rfl)) ?_)
      | (refine r_load1 Try.isAgg3 rfl (at_int (by first | assumption | (repeat (first | assumption | exact List.Mem.head _ | refine .tail _ ?_))) (by assumption)) ?_)
    refine r_p (p_convInt Try.underlying3 Try.underlying5 rfl (wrap_u8' _)) rfl ?_
    refine r_move rfl ?_
    refine r_lit (α := UInt8) [u8 m.kind, u8 (16 * m.src + m.dst % 16), u8 m.line, u8 (m.serial / 256), u8 m.serial, u8 (m.turn / 256), u8 m.turn, u8 m.value, 0, 0] eo_40 rfl rfl rfl rfl rfl rfl (fun j hj => ⟨⟨_, rfl, rfl⟩, ⟨⟨_, rfl, rfl⟩, ⟨⟨_, rfl, rfl⟩, ⟨⟨_, rfl, rfl⟩, ⟨⟨_, rfl, rfl⟩, ⟨⟨_, rfl, rfl⟩, ⟨⟨_, rfl, rfl⟩, ⟨⟨_, rfl, rfl⟩, ⟨⟨_, rfl, rfl⟩, ⟨⟨_, rfl, rfl⟩, trivial⟩⟩⟩⟩⟩⟩⟩⟩⟩⟩) ?_; intro v40
    have hxs : ([u8 m.kind, u8 (16 * m.src + m.dst % 16), u8 m.line, u8 (m.serial / 256), u8 m.serial, u8 (m.turn / 256), u8 m.turn, u8 m.value, 0, 0] : List UInt8) = msgHead m := by unfold msgHead; rw [ht7, show 16 * m.src + m.dst % 16 = 16 * m.src + m.dst by omega]; rfl
    rw [hxs]
    refine r_assign rfl ?_
    refine J.nil ?_
    refine jx_then ?_
    repeat refine jc_seq ?_
    refine jc_region ?_
    refine r_move rfl ?_
    refine r_call (γ := Unit) (val := fun _ => vi (sumI (msgHead m))) Try.call50 rfl (fun w hs => lend .hd (fun L R w hs hf _ => frameSum_calls hs hf) hs) ?_; intro _
    have hsm := sum_in (msgHead m)
    refine r_assign rfl ?_
    refine J.nil ?_
    refine jx_then ?_
    repeat refine jc_seq ?_
    refine jc_region ?_
    refine r_move rfl ?_
    refine r_move rfl ?_
    refine r_p (p_int rfl rfl b_shr256) rfl ?_
    refine r_p (p_convInt Try.underlying3 Try.underlying5 rfl (wrap_u8' _)) rfl ?_
    refine r_move rfl ?_
    refine r_p (p_convInt Try.underlying3 Try.underlying5 rfl (wrap_u8' _)) rfl ?_
    refine r_lit (α := UInt8) [u8 (sumI (msgHead m) / 256), u8 (sumI (msgHead m))] eo_40 rfl rfl rfl rfl rfl rfl (fun j hj => ⟨⟨_, rfl, rfl⟩, ⟨⟨_, rfl, rfl⟩, trivial⟩⟩) ?_; intro v49
    refine J.shut .hd ?_
    refine r_append eo_40 rfl rfl rfl (by decide) .hd (.head _) (fun w hs => by have : maxN = 16777216 := rfl; rw [len_head]; simp only [List.length_cons, List.length_nil]; omega) ?_; intro v50
    refine r_assign rfl ?_
    refine J.nil ?_
    refine jx_then ?_
    refine jc_ret ?_
    repeat (first | refine jx_thenRet ?_ | refine jx_blockRet ?_)
    refine jx_body (.inr rfl) (fun B w hs => res1 rfl rfl B w) (fun w hs => ?_)
    refine ⟨v50, rfl, ?_⟩
    have h := hs.shut
    exact h.sub (by repeat (first | exact .refl | exact .nil | refine .cons (by first | exact .hd | exact .tl .hd | exact .tl (.tl .hd) | exact .tl (.tl (.tl .hd)) | exact .tl (.tl (.tl (.tl .hd))) | exact .tl (.tl (.tl (.tl (.tl .hd)))) | exact .tl (.tl (.tl (.tl (.tl (.tl .hd))))) | exact .tl (.tl (.tl (.tl (.tl (.tl (.tl .hd)))))) | exact .tl (.tl (.tl (.tl (.tl (.tl (.tl (.tl .hd)))))))) ?_ | refine .drop ?_)) (by repeat (first | exact FSub.refl | exact FSub.nil | refine FSub.cons (by first | assumption | (repeat (first | assumption | exact List.Mem.head _ | refine .tail _ ?_))) ?_ | refine FSub.drop ?_))
theorem refBytes_calls {L : List Chunk} {R : List Fact} {w : World} {m : Msg} (hs : St L R w) (hin : MsgIn m) : Calls Try.prog 57 [.agg m.cells.toArray].toArray w (Post (fun v : Value => v) (fun _ => L) (fun v => sl v (msgBytes m) :: R)) := by
  obtain ⟨k0, k1, k2, k3, k4, k5, k6⟩ := hin
  refine calls_args Try.func57 rfl Try.ntmps57 rfl hs ?_
  clear hs
  repeat refine jc_seq ?_
  refine jc_region ?_
  refine r_box rfl rfl ?_; intro b1
  refine r_assign rfl ?_
  refine J.nil ?_
  refine jx_then ?_
  repeat refine jc_seq ?_
  refine jc_region ?_
  refine r_assign rfl ?_
  refine J.nil ?_
  refine jx_then ?_
  repeat refine jc_seq ?_
  refine jc_region ?_
  first | refine r_fieldAddr fo_39_7 rfl ?_ | refine r_fieldAddrE fo_39_7 rfl (by first | exact len_row (by first | exact .hd | exact .tl .hd | exact .tl (.tl .hd) | exact .tl (.tl (.tl .hd)) | exact .tl (.tl (.tl (.tl .hd))) | exact .tl (.tl (.tl (.tl (.tl .hd)))) | exact .tl (.tl (.tl (.tl (.tl (.tl .hd))))) | exact .tl (.tl (.tl (.tl (.tl (.tl (.tl .hd)))))) | exact .tl (.tl (.tl (.tl (.tl (.tl (.tl (.tl .hd)))))))) | exact len_sl (by first | assumption | (repeat (first | assumption | exact List.Mem.head _ | refine .tail _ ?_)))) (by first | assumption | omega | simp) ?_
  first
    | (refine r_load1 Try.isAgg4 rfl (at_blk1 (by first | exact .hd | exact .tl .hd | exact .tl (.tl .hd) | exact .tl (.tl (.tl .hd)) | exact .tl (.tl (.tl (.tl .hd))) | exact .tl (.tl (.tl (.tl (.tl .hd)))) | exact .tl (.tl (.tl (.tl (.tl (.tl .hd))))) | exact .tl (.tl (.tl (.tl (.tl (.tl (.tl .hd)))))) | exact .tl (.tl (.tl (.tl (.tl (.tl (.tl (.tl .hd)))))))) (by exact rfl)) ?_)
    | (refine r_load1 Try.isAgg4 rfl (at_int (by first | assumption | (repeat (first | assumption | exact List.Mem.head _ | refine .tail _ ?_))) (by assumption)) ?_)
  refine J.nil ?_
  refine jx_then ?_
  repeat refine jc_seq ?_
  refine jc_cond rfl (fun ht9 => ?_) (fun ht9 => ?_)
  · -- t9 True
    try simp only [decide_eq_true_eq, decide_eq_false_iff_not, beq_iff_eq, bne_iff_ne, beq_eq_false_iff_ne, bne_eq_false_iff_eq, Int.not_lt, Int.not_le, Bool.not_eq_true, ne_eq, Bool.not_eq_eq_eq_not, Bool.not_true, Bool.not_false] at ht9
    refine jc_region ?_
    refine r_assign rfl ?_
    refine J.nil ?_
    refine jx_then ?_
    repeat refine jc_seq ?_
    refine jc_region ?_
    refine r_assign rfl ?_
    refine J.nil ?_
    refine jx_then ?_
    repeat refine jc_seq ?_
    refine jc_region ?_
    first | refine r_fieldAddr fo_39_0 rfl ?_ | refine r_fieldAddrE fo_39_0 rfl (by first | exact len_row (by first | exact .hd | exact .tl .hd | exact .tl (.tl .hd) | exact .tl (.tl (.tl .hd)) | exact .tl (.tl (.tl (.tl .hd))) | exact .tl (.tl (.tl (.tl (.tl .hd)))) | exact .tl (.tl (.tl (.tl (.tl (.tl .hd))))) | exact .tl (.tl (.tl (.tl (.tl (.tl (.tl .hd)))))) | exact .tl (.tl (.tl (.tl (.tl (.tl (.tl (.tl .hd)))))))) | exact len_sl (by first | assumption | (repeat (first | assumption | exact List.Mem.head _ | refine .tail _ ?_)))) (by first | assumption | omega | simp) ?_
    first
      | (refine r_load1 Try.isAgg3 rfl (at_blk1 (by first | exact .hd | exact .tl .hd | exact .tl (.tl .hd) | exact .tl (.tl (.tl .hd)) | exact .tl (.tl (.tl (.tl .hd))) | exact .tl (.tl (.tl (.tl (.tl .hd)))) | exact .tl (.tl (.tl (.tl (.tl (.tl .hd))))) | exact .tl (.tl (.tl (.tl (.tl (.tl (.tl .hd)))))) | exact .tl (.tl (.tl (.tl (.tl (.tl (.tl (.tl .hd)))))))) (by exact rfl)) ?_)
      | (refine r_load1 Try.isAgg3 rfl (at_int (by first | assumption | (repeat (first | assumption | exact List.Mem.head _ | refine .tail _ ?_))) (by assumption)) ?_)
    first | refine r_fieldAddr fo_39_1 rfl ?_ | refine r_fieldAddrE fo_39_1 rfl (by first | exact len_row (by first | exact .hd | exact .tl .hd | exact .tl (.tl .hd) | exact .tl (.tl (.tl .hd)) | exact .tl (.tl (.tl (.tl .hd))) | exact .tl (.tl (.tl (.tl (.tl .hd)))) | exact .tl (.tl (.tl (.tl (.tl (.tl .hd))))) | exact .tl (.tl (.tl (.tl (.tl (.tl (.tl .hd)))))) | exact .tl (.tl (.tl (.tl (.tl (.tl (.tl (.tl .hd)))))))) | exact len_sl (by first | assumption | (repeat (first | assumption | exact List.Mem.head _ | refine .tail _ ?_)))) (by first | assumption | omega | simp) ?_
    first
      | (refine r_load1 Try.isAgg3 rfl (at_blk1 (by first | exact .hd | exact .tl .hd | exact .tl (.tl .hd) | exact .tl (.tl (.tl .hd)) | exact .tl (.tl (.tl (.tl .hd))) | exact .tl (.tl (.tl (.tl (.tl .hd)))) | exact .tl (.tl (.tl (.tl (.tl (.tl .hd))))) | exact .tl (.tl (.tl (.tl (.tl (.tl (.tl .hd)))))) | exact .tl (.tl (.tl (.tl (.tl (.tl (.tl (.tl .hd)))))))) (by exact rfl)) ?_)
      | (refine r_load1 Try.isAgg3 rfl (at_int (by first | assumption | (repeat (first | assumption | exact List.Mem.head _ | refine .tail _ ?_))) (by assumption)) ?_)
    refine r_bin rfl rfl (b_mul (by omega) (by omega)) ?_
    first | refine r_fieldAddr fo_39_2 rfl ?_ | refine r_fieldAddrE fo_39_2 rfl (by first | exact len_row (by first | exact .hd | exact .tl .hd | exact .tl (.tl .hd) | exact .tl (.tl (.tl .hd)) | exact .tl (.tl (.tl (.tl .hd))) | exact .tl (.tl (.tl (.tl (.tl .hd)))) | exact .tl (.tl (.tl (.tl (.tl (.tl .hd))))) | exact .tl (.tl (.tl (.tl (.tl (.tl (.tl .hd)))))) | exact .tl (.tl (.tl (.tl (.tl (.tl (.tl (.tl .hd)))))))) | exact len_sl (by first | assumption | (repeat (first | assumption | exact List.Mem.head _ | refine .tail _ ?_)))) (by first | assumption | omega | simp) ?_
    first
      | (refine r_load1 Try.isAgg3 rfl (at_blk1 (by first | exact .hd | exact .tl .hd | exact .tl (.tl .hd) | exact .tl (.tl (.tl .hd)) | exact .tl (.tl (.tl (.tl .hd))) | exact .tl (.tl (.tl (.tl (.tl .hd)))) | exact .tl (.tl (.tl (.tl (.tl (.tl .hd))))) | exact .tl (.tl (.tl (.tl (.tl (.tl (.tl .hd)))))) | exact .tl (.tl (.tl (.tl (.tl (.tl (.tl (.tl .hd)))))))) (by exact rfl)) ?_)
      | (refine r_load1 Try.isAgg3 rfl (at_int (by first | assumption | (repeat (first | assumption | exact List.Mem.head _ | refine .tail _ ?_))) (by assumption)) ?_)
    refine r_bin rfl rfl (b_add (by omega) (by omega)) ?_
    first | refine r_fieldAddr fo_39_3 rfl ?_ | refine r_fieldAddrE fo_39_3 rfl (by first | exact len_row (by first | exact .hd | exact .tl .hd | exact .tl (.tl .hd) | exact .tl (.tl (.tl .hd)) | exact .tl (.tl (.tl (.tl .hd))) | exact .tl (.tl (.tl (.tl (.tl .hd)))) | exact .tl (.tl (.tl (.tl (.tl (.tl .hd))))) | exact .tl (.tl (.tl (.tl (.tl (.tl (.tl .hd)))))) | exact .tl (.tl (.tl (.tl (.tl (.tl (.tl (.tl .hd)))))))) | exact len_sl (by first | assumption | (repeat (first | assumption | exact List.Mem.head _ | refine .tail _ ?_)))) (by first | assumption | omega | simp) ?_
    first
      | (refine r_load1 Try.isAgg3 rfl (at_blk1 (by first | exact .hd | exact .tl .hd | exact .tl (.tl .hd) | exact .tl (.tl (.tl .hd)) | exact .tl (.tl (.tl (.tl .hd))) | exact .tl (.tl (.tl (.tl (.tl .hd)))) | exact .tl (.tl (.tl (.tl (.tl (.tl .hd))))) | exact .tl (.tl (.tl (.tl (.tl (.tl (.tl .hd)))))) | exact .tl (.tl (.tl (.tl (.tl (.tl (.tl (.tl .hd)))))))) (by exact rfl)) ?_)
      | (refine r_load1 Try.isAgg3 rfl (at_int (by first | assumption | (repeat (first | assumption | exact List.Mem.head _ | refine .tail _ ?_))) (by assumption)) ?_)
    first | refine r_fieldAddr fo_39_4 rfl ?_ | refine r_fieldAddrE fo_39_4 rfl (by first | exact len_row (by first | exact .hd | exact .tl .hd | exact .tl (.tl .hd) | exact .tl (.tl (.tl .hd)) | exact .tl (.tl (.tl (.tl .hd))) | exact .tl (.tl (.tl (.tl (.tl .hd)))) | exact .tl (.tl (.tl (.tl (.tl (.tl .hd))))) | exact .tl (.tl (.tl (.tl (.tl (.tl (.tl .hd)))))) | exact .tl (.tl (.tl (.tl (.tl (.tl (.tl (.tl .hd)))))))) | exact len_sl (by first | assumption | (repeat (first | assumption | exact List.Mem.head _ | refine .tail _ ?_)))) (by first | assumption | omega | simp) ?_
    first
      | (refine r_load1 Try.isAgg3 rfl (at_blk1 (by first | exact .hd | exact .tl .hd | exact .tl (.tl .hd) | exact .tl (.tl (.tl .hd)) | exact .tl (.tl (.tl (.tl .hd))) | exact .tl (.tl (.tl (.tl (.tl .hd)))) | exact .tl (.tl (.tl (.tl (.tl (.tl .hd))))) | exact .tl (.tl (.tl (.tl (.tl (.tl (.tl .hd)))))) | exact .tl (.tl (.tl (.tl (.tl (.tl (.tl (.tl .hd)))))))) (by exact rfl)) ?_)
      | (refine r_load1 Try.isAgg3 rfl (at_int (by first | assumption | (repeat (first | assumption | exact List.Mem.head _ | refine .tail _ ?_))) (by assumption)) ?_)
    refine r_p (p_int rfl rfl (b_quoP (by omega) (by omega) (by omega))) rfl ?_
    first | refine r_fieldAddr fo_39_4 rfl ?_ | refine r_fieldAddrE fo_39_4 rfl (by first | exact len_row (by first | exact .hd | exact .tl .hd | exact .tl (.tl .hd) | exact .tl (.tl (.tl .hd)) | exact .tl (.tl (.tl (.tl .hd))) | exact .tl (.tl (.tl (.tl (.tl .hd)))) | exact .tl (.tl (.tl (.tl (.tl (.tl .hd))))) | exact .tl (.tl (.tl (.tl (.tl (.tl (.tl .hd)))))) | exact .tl (.tl (.tl (.tl (.tl (.tl (.tl (.tl .hd)))))))) | exact len_sl (by first | assumption | (repeat (first | assumption | exact List.Mem.head _ | refine .tail _ ?_)))) (by first | assumption | omega | simp) ?_
    first
      | (refine r_load1 Try.isAgg3 rfl (at_blk1 (by first | exact .hd | exact .tl .hd | exact .tl (.tl .hd) | exact .tl (.tl (.tl .hd)) | exact .tl (.tl (.tl (.tl .hd))) | exact .tl (.tl (.tl (.tl (.tl .hd)))) | exact .tl (.tl (.tl (.tl (.tl (.tl .hd))))) | exact .tl (.tl (.tl (.tl (.tl (.tl (.tl .hd)))))) | exact .tl (.tl (.tl (.tl (.tl (.tl (.tl (.tl .hd)))))))) (by exact rfl)) ?_)
      | (refine r_load1 Try.isAgg3 rfl (at_int (by first | assumption | (repeat (first | assumption | exact List.Mem.head _ | refine .tail _ ?_))) (by assumption)) ?_)
    refine r_p (p_int rfl rfl (b_remP (by omega) (by omega) (by omega))) rfl ?_
    first | refine r_fieldAddr fo_39_5 rfl ?_ | refine r_fieldAddrE fo_39_5 rfl (by first | exact len_row (by first | exact .hd | exact .tl .hd | exact .tl (.tl .hd) | exact .tl (.tl (.tl .hd)) | exact .tl (.tl (.tl (.tl .hd))) | exact .tl (.tl (.tl (.tl (.tl .hd)))) | exact .tl (.tl (.tl (.tl (.tl (.tl .hd))))) | exact .tl (.tl (.tl (.tl (.tl (.tl (.tl .hd)))))) | exact .tl (.tl (.tl (.tl (.tl (.tl (.tl (.tl .hd)))))))) | exact len_sl (by first | assumption | (repeat (first | assumption | exact List.Mem.head _ | refine .tail _ ?_)))) (by first | assumption | omega | simp) ?_
    first
      | (refine r_load1 Try.isAgg3 rfl (at_blk1 (by first | exact .hd | exact .tl .hd | exact .tl (.tl .hd) | exact .tl (.tl (.tl .hd)) | exact .tl (.tl (.tl (.tl .hd))) | exact .tl (.tl (.tl (.tl (.tl .hd)))) | exact .tl (.tl (.tl (.tl (.tl (.tl .hd))))) | exact .tl (.tl (.tl (.tl (.tl (.tl (.tl .hd)))))) | exact .tl (.tl (.tl (.tl (.tl (.tl (.tl (.tl .hd)))))))) (by exact rfl)) ?_)
      | (refine r_load1 Try.isAgg3 rfl (at_int (by first | assumption | (repeat (first | assumption | exact List.Mem.head _ | refine .tail _ ?_))) (by assumption)) ?_)
    refine r_p (p_int rfl rfl (b_quoP (by omega) (by omega) (by omega))) rfl ?_
    first | refine r_fieldAddr fo_39_5 rfl ?_ | refine r_fieldAddrE fo_39_5 rfl (by first | exact len_row (by first | exact .hd | exact .tl .hd | exact .tl (.tl .hd) | exact .tl (.tl (.tl .hd)) | exact .tl (.tl (.tl (.tl .hd))) | exact .tl (.tl (.tl (.tl (.tl .hd)))) | exact .tl (.tl (.tl (.tl (.tl (.tl .hd))))) | exact .tl (.tl (.tl (.tl (.tl (.tl (.tl .hd)))))) | exact .tl (.tl (.tl (.tl (.tl (.tl (.tl (.tl .hd)))))))) | exact len_sl (by first | assumption | (repeat (first | assumption | exact List.Mem.head _ | refine .tail _ ?_)))) (by first | assumption | omega | simp) ?_
    first
      | (refine r_load1 Try.isAgg3 rfl (at_blk1 (by first | exact .hd | exact .tl .hd | exact .tl (.tl .hd) | exact .tl (.tl (.tl .hd)) | exact .tl (.tl (.tl (.tl .hd))) | exact .tl (.tl (.tl (.tl (.tl .hd)))) | exact .tl (.tl (.tl (.tl (.tl (.tl .hd))))) | exact .tl (.tl (.tl (.tl (.tl (.tl (.tl .hd)))))) | exact .tl (.tl (.tl (.tl (.tl (.tl (.tl (.tl .hd)))))))) (by exact rfl)) ?_)
      | (refine r_load1 Try.isAgg3 rfl (at_int (by first | assumption | (repeat (first | assumption | exact List.Mem.head _ | refine .tail _ ?_))) (by assumption)) ?_)
    refine r_p (p_int rfl rfl (b_remP (by omega) (by omega) (by omega))) rfl ?_
    first | refine r_fieldAddr fo_39_6 rfl ?_ | refine r_fieldAddrE fo_39_6 rfl (by first | exact len_row (by first | exact .hd | exact .tl .hd | exact .tl (.tl .hd) | exact .tl (.tl (.tl .hd)) | exact .tl (.tl (.tl (.tl .hd))) | exact .tl (.tl (.tl (.tl (.tl .hd)))) | exact .tl (.tl (.tl (.tl (.tl (.tl .hd))))) | exact .tl (.tl (.tl (.tl (.tl (.tl (.tl .hd)))))) | exact .tl (.tl (.tl (.tl (.tl (.tl (.tl (.tl .hd)))))))) | exact len_sl (by first | assumption | (repeat (first | assumption | exact List.Mem.head _ | refine .tail _ ?_)))) (by first | assumption | omega | simp) ?_
    first
      | (refine r_load1 Try.isAgg3 rfl (at_blk1 (by first | exact .hd | exact .tl .hd | exact .tl (.tl .hd) | exact .tl (.tl (.tl .hd)) | exact .tl (.tl (.tl (.tl .hd))) | exact .tl (.tl (.tl (.tl (.tl .hd)))) | exact .tl (.tl (.tl (.tl (.tl (.tl .hd))))) | exact .tl (.tl (.tl (.tl (.tl (.tl (.tl .hd)))))) | exact .tl (.tl (.tl (.tl (.tl (.tl (.tl (.tl .hd)))))))) (by exact rfl)) ?_)
      | (refine r_load1 Try.isAgg3 rfl (at_int (by first | assumption | (repeat (first | assumption | exact List.Mem.head _ | refine .tail _ ?_))) (by assumption)) ?_)
    refine r_move rfl ?_
    refine r_lit (α := Int) [m.kind, 16 * m.src + m.dst, m.line, m.serial / 256, m.serial % 256, m.turn / 256, m.turn % 256, m.value, 1, 0] eo_22 rfl rfl rfl rfl rfl rfl (fun j hj => ⟨⟨_, rfl, rfl, by unfold In64; omega⟩, ⟨⟨_, rfl, rfl, by unfold In64; omega⟩, ⟨⟨_, rfl, rfl, by unfold In64; omega⟩, ⟨⟨_, rfl, rfl, by unfold In64; omega⟩, ⟨⟨_, rfl, rfl, by unfold In64; omega⟩, ⟨⟨_, rfl, rfl, by unfold In64; omega⟩, ⟨⟨_, rfl, rfl, by unfold In64; omega⟩, ⟨⟨_, rfl, rfl, by unfold In64; omega⟩, ⟨⟨_, rfl, rfl, by unfold In64; omega⟩, ⟨⟨_, rfl, rfl, by unfold In64; omega⟩, trivial⟩⟩⟩⟩⟩⟩⟩⟩⟩⟩) ?_; intro v35
    refine J.shut .hd ?_
    have hxl : ([m.kind, 16 * m.src + m.dst, m.line, m.serial / 256, m.serial % 256, m.turn / 256, m.turn % 256, m.value, 1, 0] : List Int).length = 10 := rfl
    have hxb : ([m.kind, 16 * m.src + m.dst, m.line, m.serial / 256, m.serial % 256, m.turn / 256, m.turn % 256, m.value, 1, 0] : List Int).map u8 = msgHead m := by
      have e : ∀ x y : Int, x % 256 = y % 256 → u8 x = u8 y := fun x y h => by unfold u8; rw [h]
      unfold msgHead
      simp only [List.map_cons, List.map_nil]
      rw [ht9, e (m.serial % 256) m.serial (by omega), e (m.turn % 256) m.turn (by omega)]; rfl
    generalize hxs : ([m.kind, 16 * m.src + m.dst, m.line, m.serial / 256, m.serial % 256, m.turn / 256, m.turn % 256, m.value, 1, 0] : List Int) = xs at hxl hxb ⊢
    refine r_len Try.underlying22 rfl (by first | exact len_row (by first | exact .hd | exact .tl .hd | exact .tl (.tl .hd) | exact .tl (.tl (.tl .hd)) | exact .tl (.tl (.tl (.tl .hd))) | exact .tl (.tl (.tl (.tl (.tl .hd)))) | exact .tl (.tl (.tl (.tl (.tl (.tl .hd))))) | exact .tl (.tl (.tl (.tl (.tl (.tl (.tl .hd)))))) | exact .tl (.tl (.tl (.tl (.tl (.tl (.tl (.tl .hd)))))))) | exact len_sl (by first | assumption | (repeat (first | assumption | exact List.Mem.head _ | refine .tail _ ?_)))) ?_
    refine r_move rfl ?_
    refine J.nil ?_
    refine jx_then ?_
    repeat refine jc_seq ?_
    refine jc_block ?_
    refine JC.rowNil 5 UInt8 ?_
    refine jc_loop (γ := Nat × Value) (fun g => g.1 ≤ 10) (fun g => row 5 g.2 ((xs.map u8).take g.1) :: blk b1 39 m.cells :: L) (fun _ => sl v35 xs :: R) (fun g => [(1, bp b1 0), (4, g.2), (35, v35), (36, vi (10 : Int)), (37, vi (g.1 : Int))]) (fun g => 10 - g.1) (0, .slice none 0 0) (by omega) ⟨rfl, rfl, rfl, congrArg (fun z : Nat => some (vi (z : Int))) hxl, rfl, trivial⟩ (fun w hs => hs.sub (by repeat (first | exact .refl | exact .nil | refine .cons (by first | exact .hd | exact .tl .hd | exact .tl (.tl .hd) | exact .tl (.tl (.tl .hd)) | exact .tl (.tl (.tl (.tl .hd))) | exact .tl (.tl (.tl (.tl (.tl .hd)))) | exact .tl (.tl (.tl (.tl (.tl (.tl .hd))))) | exact .tl (.tl (.tl (.tl (.tl (.tl (.tl .hd)))))) | exact .tl (.tl (.tl (.tl (.tl (.tl (.tl (.tl .hd)))))))) ?_ | refine .drop ?_)) (by repeat (first | exact FSub.refl | exact FSub.nil | refine FSub.cons (by first | assumption | (repeat (first | assumption | exact List.Mem.head _ | refine .tail _ ?_))) ?_ | refine FSub.drop ?_))) ?_
    rintro ⟨k, v4⟩ hk
    simp only at hk ⊢
    repeat refine jc_seq ?_
    refine jc_region ?_
    refine r_bin rfl rfl b_lss ?_
    refine J.nil ?_
    refine jx_then ?_
    repeat refine jc_seq ?_
    refine jc_cond rfl (fun ht38 => ?_) (fun ht38 => ?_)
    · -- t38 True
      try simp only [decide_eq_true_eq, decide_eq_false_iff_not, beq_iff_eq, bne_iff_ne, beq_eq_false_iff_ne, bne_eq_false_iff_eq, Int.not_lt, Int.not_le, Bool.not_eq_true, ne_eq, Bool.not_eq_eq_eq_not, Bool.not_true, Bool.not_false] at ht38
      refine jc_skip ?_
      refine jx_then ?_
      repeat refine jc_seq ?_
      refine jc_block ?_
      repeat refine jc_seq ?_
      refine jc_region ?_
      first | refine r_indexAddrN so_22 rfl rfl (by first | exact len_row (by first | exact .hd | exact .tl .hd | exact .tl (.tl .hd) | exact .tl (.tl (.tl .hd)) | exact .tl (.tl (.tl (.tl .hd))) | exact .tl (.tl (.tl (.tl (.tl .hd)))) | exact .tl (.tl (.tl (.tl (.tl (.tl .hd))))) | exact .tl (.tl (.tl (.tl (.tl (.tl (.tl .hd)))))) | exact .tl (.tl (.tl (.tl (.tl (.tl (.tl (.tl .hd)))))))) | exact len_sl (by first | assumption | (repeat (first | assumption | exact List.Mem.head _ | refine .tail _ ?_)))) (by first | assumption | omega | (simp only [List.length_nil, List.length_cons, List.length_append, List.length_take, List.length_drop, List.length_set, List.length_replicate]; omega)) ?_ | refine r_indexAddr so_22 rfl rfl (by first | exact len_row (by first | exact .hd | exact .tl .hd | exact .tl (.tl .hd) | exact .tl (.tl (.tl .hd)) | exact .tl (.tl (.tl (.tl .hd))) | exact .tl (.tl (.tl (.tl (.tl .hd)))) | exact .tl (.tl (.tl (.tl (.tl (.tl .hd))))) | exact .tl (.tl (.tl (.tl (.tl (.tl (.tl .hd)))))) | exact .tl (.tl (.tl (.tl (.tl (.tl (.tl (.tl .hd)))))))) | exact len_sl (by first | assumption | (repeat (first | assumption | exact List.Mem.head _ | refine .tail _ ?_)))) (by first | assumption | omega | (simp only [List.length_nil, List.length_cons, List.length_append, List.length_take, List.length_drop, List.length_set, List.length_replicate]; omega)) (by first | assumption | omega | (simp only [List.length_nil, List.length_cons, List.length_append, List.length_take, List.length_drop, List.length_set, List.length_replicate]; omega)) ?_
      refine r_load1 Try.isAgg3 rfl (at_intD (by first | assumption | (repeat (first | assumption | exact List.Mem.head _ | refine .tail _ ?_))) (by first | assumption | omega | (simp only [List.length_nil, List.length_cons, List.length_append, List.length_take, List.length_drop, List.length_set, List.length_replicate]; omega))) ?_
      refine r_assign rfl ?_
      refine J.nil ?_
      refine jx_then ?_
      refine jc_region ?_
      refine r_move rfl ?_
      refine r_move rfl ?_
      refine r_p (p_convInt Try.underlying3 Try.underlying5 rfl (wrap_u8' _)) rfl ?_
      refine r_lit (α := UInt8) [u8 (xs.getD k 0)] eo_40 rfl rfl rfl rfl rfl rfl (fun j hj => ⟨⟨_, rfl, rfl⟩, trivial⟩) ?_; intro v44
      refine J.shut .hd ?_
      refine r_append eo_40 rfl rfl rfl (by decide) .hd (.head _) (fun w hs => by have : maxN = 16777216 := rfl; rw [List.length_take, List.length_map]; simp only [List.length_cons, List.length_nil]; omega) ?_; intro v45
      refine r_assign rfl ?_
      refine J.nil ?_
      refine jx_block ?_
      refine jx_then ?_
      refine jc_region ?_
      refine r_bin rfl rfl (b_add (by omega) (by omega)) ?_
      refine r_move rfl ?_
      refine J.nil ?_
      refine jx_head (k + 1, v45) (by show k + 1 ≤ 10; omega) (by show 10 - (k + 1) < 10 - k; omega) ⟨rfl, rfl, rfl, rfl, rfl, trivial⟩ (fun w hs => ?_)
      have hxk : ((xs.map u8)[k]?).toList = [u8 (xs.getD k 0)] := by rw [List.getElem?_map, getD_some 0 (show k < xs.length by omega)]; rfl
      show St (row 5 v45 ((xs.map u8).take (k + 1)) :: _) _ w
      rw [List.take_add_one, hxk]; exact hs.sub (by repeat (first | exact .refl | exact .nil | refine .cons (by first | exact .hd | exact .tl .hd | exact .tl (.tl .hd) | exact .tl (.tl (.tl .hd)) | exact .tl (.tl (.tl (.tl .hd))) | exact .tl (.tl (.tl (.tl (.tl .hd)))) | exact .tl (.tl (.tl (.tl (.tl (.tl .hd))))) | exact .tl (.tl (.tl (.tl (.tl (.tl (.tl .hd)))))) | exact .tl (.tl (.tl (.tl (.tl (.tl (.tl (.tl .hd)))))))) ?_ | refine .drop ?_)) (by repeat (first | exact FSub.refl | exact FSub.nil | refine FSub.cons (by first | assumption | (repeat (first | assumption | exact List.Mem.head _ | refine .tail _ ?_))) ?_ | refine FSub.drop ?_))
    · -- t38 False
      try simp only [decide_eq_true_eq, decide_eq_false_iff_not, beq_iff_eq, bne_iff_ne, beq_eq_false_iff_ne, bne_eq_false_iff_eq, Int.not_lt, Int.not_le, Bool.not_eq_true, ne_eq, Bool.not_eq_eq_eq_not, Bool.not_true, Bool.not_false] at ht38
      refine jc_exit ?_
      repeat (first | refine jx_thenExit ?_ | refine jx_blockMiss rfl ?_)
      refine jx_blockHit ?_
      refine jx_then ?_
      repeat refine jc_seq ?_
      have hk10 : k = 10 := by omega
      subst hk10
      rw [List.take_of_length_le (by rw [List.length_map]; omega), hxb]
      refine jc_region ?_
      refine r_move rfl ?_
      refine r_call (γ := Unit) (val := fun _ => vi (sumI (msgHead m))) Try.call51 rfl (fun w hs => lend .hd (fun L R w hs hf _ => refSum_calls hs hf) hs) ?_; intro _
      have hsm := sum_in (msgHead m)
      refine r_assign rfl ?_
      refine J.nil ?_
      refine jx_then ?_
      repeat refine jc_seq ?_
      refine jc_region ?_
      refine r_move rfl ?_
      refine r_move rfl ?_
      refine r_p (p_int rfl rfl (b_quoP (by omega) (by omega) (by omega))) rfl ?_
      refine r_p (p_convInt Try.underlying3 Try.underlying5 rfl (wrap_u8' _)) rfl ?_
      refine r_move rfl ?_
      refine r_p (p_int rfl rfl (b_remP (by omega) (by omega) (by omega))) rfl ?_
      refine r_p (p_convInt Try.underlying3 Try.underlying5 rfl (wrap_u8' _)) rfl ?_
      have hsr : u8 (sumI (msgHead m) % 256) = u8 (sumI (msgHead m)) := by unfold u8; rw [Int.emod_emod_of_dvd _ (by decide)]
      refine r_lit (α := UInt8) [u8 (sumI (msgHead m) / 256), u8 (sumI (msgHead m) % 256)] eo_40 rfl rfl rfl rfl rfl rfl (fun j hj => ⟨⟨_, rfl, rfl⟩, ⟨⟨_, rfl, rfl⟩, trivial⟩⟩) ?_; intro v56
      refine J.shut .hd ?_
      rw [hsr]
      refine r_append eo_40 rfl rfl rfl (by decide) .hd (.head _) (fun w hs => by have : maxN = 16777216 := rfl; rw [len_head]; simp only [List.length_cons, List.length_nil]; omega) ?_; intro v57
      refine r_assign rfl ?_
      refine J.nil ?_
      refine jx_then ?_
      refine jc_ret ?_
      repeat (first | refine jx_thenRet ?_ | refine jx_blockRet ?_)
      refine jx_body (.inr rfl) (fun B w hs => res1 rfl rfl B w) (fun w hs => ?_)
      refine ⟨v57, rfl, ?_⟩
      have h := hs.shut
      exact h.sub (by repeat (first | exact .refl | exact .nil | refine .cons (by first | exact .hd | exact .tl .hd | exact .tl (.tl .hd) | exact .tl (.tl (.tl .hd)) | exact .tl (.tl (.tl (.tl .hd))) | exact .tl (.tl (.tl (.tl (.tl .hd)))) | exact .tl (.tl (.tl (.tl (.tl (.tl .hd))))) | exact .tl (.tl (.tl (.tl (.tl (.tl (.tl .hd)))))) | exact .tl (.tl (.tl (.tl (.tl (.tl (.tl (.tl .hd)))))))) ?_ | refine .drop ?_)) (by repeat (first | exact FSub.refl | exact FSub.nil | refine FSub.cons (by first | assumption | (repeat (first | assumption | exact List.Mem.head _ | refine .tail _ ?_))) ?_ | refine FSub.drop ?_))
  · -- t9 False
    try simp only [decide_eq_true_eq, decide_eq_false_iff_not, beq_iff_eq, bne_iff_ne, beq_eq_false_iff_ne, bne_eq_false_iff_eq, Int.not_lt, Int.not_le, Bool.not_eq_true, ne_eq, Bool.not_eq_eq_eq_not, Bool.not_true, Bool.not_false] at ht9
    refine jc_skip ?_
    refine jx_then ?_
    repeat refine jc_seq ?_
    refine jc_region ?_
    refine r_assign rfl ?_
    refine J.nil ?_
    refine jx_then ?_
    repeat refine jc_seq ?_
    refine jc_region ?_
    first | refine r_fieldAddr fo_39_0 rfl ?_ | refine r_fieldAddrE fo_39_0 rfl (by first | exact len_row (by first | exact .hd | exact .tl .hd | exact .tl (.tl .hd) | exact .tl (.tl (.tl .hd)) | exact .tl (.tl (.tl (.tl .hd))) | exact .tl (.tl (.tl (.tl (.tl .hd)))) | exact .tl (.tl (.tl (.tl (.tl (.tl .hd))))) | exact .tl (.tl (.tl (.tl (.tl (.tl (.tl .hd)))))) | exact .tl (.tl (.tl (.tl (.tl (.tl (.tl (.tl .hd)))))))) | exact len_sl (by first | assumption | (repeat (first | assumption | exact List.Mem.head _ | refine .tail _ ?_)))) (by first | assumption | omega | simp) ?_
    first
      | (refine r_load1 Try.isAgg3 rfl (at_blk1 (by first | exact .hd | exact .tl .hd | exact .tl (.tl .hd) | exact .tl (.tl (.tl .hd)) | exact .tl (.tl (.tl (.tl .hd))) | exact .tl (.tl (.tl (.tl (.tl .hd)))) | exact .tl (.tl (.tl (.tl (.tl (.tl .hd))))) | exact .tl (.tl (.tl (.tl (.tl (.tl (.tl .hd)))))) | exact .tl (.tl (.tl (.tl (.tl (.tl (.tl (.tl .hd)))))))) (by exact rfl)) ?_)
      | (refine r_load1 Try.isAgg3 rfl (at_int (by first | assumption | (repeat (first | assumption | exact List.Mem.head _ | refine .tail _ ?_))) (by assumption)) ?_)
    first | refine r_fieldAddr fo_39_1 rfl ?_ | refine r_fieldAddrE fo_39_1 rfl (by first | exact len_row (by first | exact .hd | exact .tl .hd | exact .tl (.tl .hd) | exact .tl (.tl (.tl .hd)) | exact .tl (.tl (.tl (.tl .hd))) | exact .tl (.tl (.tl (.tl (.tl .hd)))) | exact .tl (.tl (.tl (.tl (.tl (.tl .hd))))) | exact .tl (.tl (.tl (.tl (.tl (.tl (.tl .hd)))))) | exact .tl (.tl (.tl (.tl (.tl (.tl (.tl (.tl .hd)))))))) | exact len_sl (by first | assumption | (repeat (first | assumption | exact List.Mem.head _ | refine .tail _ ?_)))) (by first | assumption | omega | simp) ?_
    first
      | (refine r_load1 Try.isAgg3 rfl (at_blk1 (by first | exact .hd | exact .tl .hd | exact .tl (.tl .hd) | exact .tl (.tl (.tl .hd)) | exact .tl (.tl (.tl (.tl .hd))) | exact .tl (.tl (.tl (.tl (.tl .hd)))) | exact .tl (.tl (.tl (.tl (.tl (.tl .hd))))) | exact .tl (.tl (.tl (.tl (.tl (.tl (.tl .hd)))))) | exact .tl (.tl (.tl (.tl (.tl (.tl (.tl (.tl .hd)))))))) (by exact rfl)) ?_)
      | (refine r_load1 Try.isAgg3 rfl (at_int (by first | assumption | (repeat (first | assumption | exact List.Mem.head _ | refine .tail _ ?_))) (by assumption)) ?_)
    refine r_bin rfl rfl (b_mul (by omega) (by omega)) ?_
    first | refine r_fieldAddr fo_39_2 rfl ?_ | refine r_fieldAddrE fo_39_2 rfl (by first | exact len_row (by first | exact .hd | exact .tl .hd | exact .tl (.tl .hd) | exact .tl (.tl (.tl .hd)) | exact .tl (.tl (.tl (.tl .hd))) | exact .tl (.tl (.tl (.tl (.tl .hd)))) | exact .tl (.tl (.tl (.tl (.tl (.tl .hd))))) | exact .tl (.tl (.tl (.tl (.tl (.tl (.tl .hd)))))) | exact .tl (.tl (.tl (.tl (.tl (.tl (.tl (.tl .hd)))))))) | exact len_sl (by first | assumption | (repeat (first | assumption | exact List.Mem.head _ | refine .tail _ ?_)))) (by first | assumption | omega | simp) ?_
    first
      | (refine r_load1 Try.isAgg3 rfl (at_blk1 (by first | exact .hd | exact .tl .hd | exact .tl (.tl .hd) | exact .tl (.tl (.tl .hd)) | exact .tl (.tl (.tl (.tl .hd))) | exact .tl (.tl (.tl (.tl (.tl .hd)))) | exact .tl (.tl (.tl (.tl (.tl (.tl .hd))))) | exact .tl (.tl (.tl (.tl (.tl (.tl (.tl .hd)))))) | exact .tl (.tl (.tl (.tl (.tl (.tl (.tl (.tl .hd)))))))) (by exact rfl)) ?_)
      | (refine r_load1 Try.isAgg3 rfl (at_int (by first | assumption | (repeat (first | assumption | exact List.Mem.head _ | refine .tail _ ?_))) (by assumption)) ?_)
    refine r_bin rfl rfl (b_add (by omega) (by omega)) ?_
    first | refine r_fieldAddr fo_39_3 rfl ?_ | refine r_fieldAddrE fo_39_3 rfl (by first | exact len_row (by first | exact .hd | exact .tl .hd | exact .tl (.tl .hd) | exact .tl (.tl (.tl .hd)) | exact .tl (.tl (.tl (.tl .hd))) | exact .tl (.tl (.tl (.tl (.tl .hd)))) | exact .tl (.tl (.tl (.tl (.tl (.tl .hd))))) | exact .tl (.tl (.tl (.tl (.tl (.tl (.tl .hd)))))) | exact .tl (.tl (.tl (.tl (.tl (.tl (.tl (.tl .hd)))))))) | exact len_sl (by first | assumption | (repeat (first | assumption | exact List.Mem.head _ | refine .tail _ ?_)))) (by first | assumption | omega | simp) ?_
    first
      | (refine r_load1 Try.isAgg3 rfl (at_blk1 (by first | exact .hd | exact .tl .hd | exact .tl (.tl .hd) | exact .tl (.tl (.tl .hd)) | exact .tl (.tl (.tl (.tl .hd))) | exact .tl (.tl (.tl (.tl (.tl .hd)))) | exact .tl (.tl (.tl (.tl (.tl (.tl .hd))))) | exact .tl (.tl (.tl (.tl (.tl (.tl (.tl .hd)))))) | exact .tl (.tl (.tl (.tl (.tl (.tl (.tl (.tl .hd)))))))) (by exact rfl)) ?_)
      | (refine r_load1 Try.isAgg3 rfl (at_int (by first | assumption | (repeat (first | assumption | exact List.Mem.head _ | refine .tail _ ?_))) (by assumption)) ?_)
    first | refine r_fieldAddr fo_39_4 rfl ?_ | refine r_fieldAddrE fo_39_4 rfl (by first | exact len_row (by first | exact .hd | exact .tl .hd | exact .tl (.tl .hd) | exact .tl (.tl (.tl .hd)) | exact .tl (.tl (.tl (.tl .hd))) | exact .tl (.tl (.tl (.tl (.tl .hd)))) | exact .tl (.tl (.tl (.tl (.tl (.tl .hd))))) | exact .tl (.tl (.tl (.tl (.tl (.tl (.tl .hd)))))) | exact .tl (.tl (.tl (.tl (.tl (.tl (.tl (.tl .hd)))))))) | exact len_sl (by first | assumption | (repeat (first | assumption | exact List.Mem.head _ | refine .tail _ ?_)))) (by first | assumption | omega | simp) ?_
    first
      | (refine r_load1 Try.isAgg3 rfl (at_blk1 (by first | exact .hd | exact .tl .hd | exact .tl (.tl .hd) | exact .tl (.tl (.tl .hd)) | exact .tl (.tl (.tl (.tl .hd))) | exact .tl (.tl (.tl (.tl (.tl .hd)))) | exact .tl (.tl (.tl (.tl (.tl (.tl .hd))))) | exact .tl (.tl (.tl (.tl (.tl (.tl (.tl .hd)))))) | exact .tl (.tl (.tl (.tl (.tl (.tl (.tl (.tl .hd)))))))) (by exact rfl)) ?_)
      | (refine r_load1 Try.isAgg3 rfl (at_int (by first | assumption | (repeat (first | assumption | exact List.Mem.head _ | refine .tail _ ?_))) (by assumption)) ?_)
    refine r_p (p_int rfl rfl (b_quoP (by omega) (by omega) (by omega))) rfl ?_
    first | refine r_fieldAddr fo_39_4 rfl ?_ | refine r_fieldAddrE fo_39_4 rfl (by first | exact len_row (by first | exact .hd | exact .tl .hd | exact .tl (.tl .hd) | exact .tl (.tl (.tl .hd)) | exact .tl (.tl (.tl (.tl .hd))) | exact .tl (.tl (.tl (.tl (.tl .hd)))) | exact .tl (.tl (.tl (.tl (.tl (.tl .hd))))) | exact .tl (.tl (.tl (.tl (.tl (.tl (.tl .hd)))))) | exact .tl (.tl (.tl (.tl (.tl (.tl (.tl (.tl .hd)))))))) | exact len_sl (by first | assumption | (repeat (first | assumption | exact List.Mem.head _ | refine .tail _ ?_)))) (by first | assumption | omega | simp) ?_
    first
      | (refine r_load1 Try.isAgg3 rfl (at_blk1 (by first | exact .hd | exact .tl .hd | exact .tl (.tl .hd) | exact .tl (.tl (.tl .hd)) | exact .tl (.tl (.tl (.tl .hd))) | exact .tl (.tl (.tl (.tl (.tl .hd)))) | exact .tl (.tl (.tl (.tl (.tl (.tl .hd))))) | exact .tl (.tl (.tl (.tl (.tl (.tl (.tl .hd)))))) | exact .tl (.tl (.tl (.tl (.tl (.tl (.tl (.tl .hd)))))))) (by exact rfl)) ?_)
      | (refine r_load1 Try.isAgg3 rfl (at_int (by first | assumption | (repeat (first | assumption | exact List.Mem.head _ | refine .tail _ ?_))) (by assumption)) ?_)
    refine r_p (p_int rfl rfl (b_remP (by omega) (by omega) (by omega))) rfl ?_
    first | refine r_fieldAddr fo_39_5 rfl ?_ | refine r_fieldAddrE fo_39_5 rfl (by first | exact len_row (by first | exact .hd | exact .tl .hd | exact .tl (.tl .hd) | exact .tl (.tl (.tl .hd)) | exact .tl (.tl (.tl (.tl .hd))) | exact .tl (.tl (.tl (.tl (.tl .hd)))) | exact .tl (.tl (.tl (.tl (.tl (.tl .hd))))) | exact .tl (.tl (.tl (.tl (.tl (.tl (.tl .hd)))))) | exact .tl (.tl (.tl (.tl (.tl (.tl (.tl (.tl .hd)))))))) | exact len_sl (by first | assumption | (repeat (first | assumption | exact List.Mem.head _ | refine .tail _ ?_)))) (by first | assumption | omega | simp) ?_
    first
      | (refine r_load1 Try.isAgg3 rfl (at_blk1 (by first | exact .hd | exact .tl .hd | exact .tl (.tl .hd) | exact .tl (.tl (.tl .hd)) | exact .tl (.tl (.tl (.tl .hd))) | exact .tl (.tl (.tl (.tl (.tl .hd)))) | exact .tl (.tl (.tl (.tl (.tl (.tl .hd))))) | exact .tl (.tl (.tl (.tl (.tl (.tl (.tl .hd)))))) | exact .tl (.tl (.tl (.tl (.tl (.tl (.tl (.tl .hd)))))))) (by exact rfl)) ?_)
      | (refine r_load1 Try.isAgg3 rfl (at_int (by first | assumption | (repeat (first | assumption | exact List.Mem.head _ | refine .tail _ ?_))) (by assumption)) ?_)
    refine r_p (p_int rfl rfl (b_quoP (by omega) (by omega) (by omega))) rfl ?_
    first | refine r_fieldAddr fo_39_5 rfl ?_ | refine r_fieldAddrE fo_39_5 rfl (by first | exact len_row (by first | exact .hd | exact .tl .hd | exact .tl (.tl .hd) | exact .tl (.tl (.tl .hd)) | exact .tl (.tl (.tl (.tl .hd))) | exact .tl (.tl (.tl (.tl (.tl .hd)))) | exact .tl (.tl (.tl (.tl (.tl (.tl .hd))))) | exact .tl (.tl (.tl (.tl (.tl (.tl (.tl .hd)))))) | exact .tl (.tl (.tl (.tl (.tl (.tl (.tl (.tl .hd)))))))) | exact len_sl (by first | assumption | (repeat (first | assumption | exact List.Mem.head _ | refine .tail _ ?_)))) (by first | assumption | omega | simp) ?_
    first
      | (refine r_load1 Try.isAgg3 rfl (at_blk1 (by first | exact .hd | exact .tl .hd | exact .tl (.tl .hd) | exact .tl (.tl (.tl .hd)) | exact .tl (.tl (.tl (.tl .hd))) | exact .tl (.tl (.tl (.tl (.tl .hd)))) | exact .tl (.tl (.tl (.tl (.tl (.tl .hd))))) | exact .tl (.tl (.tl (.tl (.tl (.tl (.tl .hd)))))) | exact .tl (.tl (.tl (.tl (.tl (.tl (.tl (.tl .hd)))))))) (by exact rfl)) ?_)
      | (refine r_load1 Try.isAgg3 rfl (at_int (by first | assumption | (repeat (first | assumption | exact List.Mem.head _ | refine .tail _ ?_))) (by assumption)) ?_)
    refine r_p (p_int rfl rfl (b_remP (by omega) (by omega) (by omega))) rfl ?_
    first | refine r_fieldAddr fo_39_6 rfl ?_ | refine r_fieldAddrE fo_39_6 rfl (by first | exact len_row (by first | exact .hd | exact .tl .hd | exact .tl (.tl .hd) | exact .tl (.tl (.tl .hd)) | exact .tl (.tl (.tl (.tl .hd))) | exact .tl (.tl (.tl (.tl (.tl .hd)))) | exact .tl (.tl (.tl (.tl (.tl (.tl .hd))))) | exact .tl (.tl (.tl (.tl (.tl (.tl (.tl .hd)))))) | exact .tl (.tl (.tl (.tl (.tl (.tl (.tl (.tl .hd)))))))) | exact len_sl (by first | assumption | (repeat (first | assumption | exact List.Mem.head _ | refine .tail _ ?_)))) (by first | assumption | omega | simp) ?_
    first
      | (refine r_load1 Try.isAgg3 rfl (at_blk1 (by first | exact .hd | exact .tl .hd | exact .tl (.tl .hd) | exact .tl (.tl (.tl .hd)) | exact .tl (.tl (.tl (.tl .hd))) | exact .tl (.tl (.tl (.tl (.tl .hd)))) | exact .tl (.tl (.tl (.tl (.tl (.tl .hd))))) | exact .tl (.tl (.tl (.tl (.tl (.tl (.tl .hd)))))) | exact .tl (.tl (.tl (.tl (.tl (.tl (.tl (.tl .hd)))))))) (by exact rfl)) ?_)
      | (refine r_load1 Try.isAgg3 rfl (at_int (by first | assumption | (repeat (first | assumption | exact List.Mem.head _ | refine .tail _ ?_))) (by assumption)) ?_)
    refine r_move rfl ?_
    refine r_lit (α := Int) [m.kind, 16 * m.src + m.dst, m.line, m.serial / 256, m.serial % 256, m.turn / 256, m.turn % 256, m.value, 0, 0] eo_22 rfl rfl rfl rfl rfl rfl (fun j hj => ⟨⟨_, rfl, rfl, by unfold In64; omega⟩, ⟨⟨_, rfl, rfl, by unfold In64; omega⟩, ⟨⟨_, rfl, rfl, by unfold In64; omega⟩, ⟨⟨_, rfl, rfl, by unfold In64; omega⟩, ⟨⟨_, rfl, rfl, by unfold In64; omega⟩, ⟨⟨_, rfl, rfl, by unfold In64; omega⟩, ⟨⟨_, rfl, rfl, by unfold In64; omega⟩, ⟨⟨_, rfl, rfl, by unfold In64; omega⟩, ⟨⟨_, rfl, rfl, by unfold In64; omega⟩, ⟨⟨_, rfl, rfl, by unfold In64; omega⟩, trivial⟩⟩⟩⟩⟩⟩⟩⟩⟩⟩) ?_; intro v35
    refine J.shut .hd ?_
    have hxl : ([m.kind, 16 * m.src + m.dst, m.line, m.serial / 256, m.serial % 256, m.turn / 256, m.turn % 256, m.value, 0, 0] : List Int).length = 10 := rfl
    have hxb : ([m.kind, 16 * m.src + m.dst, m.line, m.serial / 256, m.serial % 256, m.turn / 256, m.turn % 256, m.value, 0, 0] : List Int).map u8 = msgHead m := by
      have e : ∀ x y : Int, x % 256 = y % 256 → u8 x = u8 y := fun x y h => by unfold u8; rw [h]
      unfold msgHead
      simp only [List.map_cons, List.map_nil]
      rw [ht9, e (m.serial % 256) m.serial (by omega), e (m.turn % 256) m.turn (by omega)]; rfl
    generalize hxs : ([m.kind, 16 * m.src + m.dst, m.line, m.serial / 256, m.serial % 256, m.turn / 256, m.turn % 256, m.value, 0, 0] : List Int) = xs at hxl hxb ⊢
    refine r_len Try.underlying22 rfl (by first | exact len_row (by first | exact .hd | exact .tl .hd | exact .tl (.tl .hd) | exact .tl (.tl (.tl .hd)) | exact .tl (.tl (.tl (.tl .hd))) | exact .tl (.tl (.tl (.tl (.tl .hd)))) | exact .tl (.tl (.tl (.tl (.tl (.tl .hd))))) | exact .tl (.tl (.tl (.tl (.tl (.tl (.tl .hd)))))) | exact .tl (.tl (.tl (.tl (.tl (.tl (.tl (.tl .hd)))))))) | exact len_sl (by first | assumption | (repeat (first | assumption | exact List.Mem.head _ | refine .tail _ ?_)))) ?_
    refine r_move rfl ?_
    refine J.nil ?_
    refine jx_then ?_
    repeat refine jc_seq ?_
    refine jc_block ?_
    refine JC.rowNil 5 UInt8 ?_
    refine jc_loop (γ := Nat × Value) (fun g => g.1 ≤ 10) (fun g => row 5 g.2 ((xs.map u8).take g.1) :: blk b1 39 m.cells :: L) (fun _ => sl v35 xs :: R) (fun g => [(1, bp b1 0), (4, g.2), (35, v35), (36, vi (10 : Int)), (37, vi (g.1 : Int))]) (fun g => 10 - g.1) (0, .slice none 0 0) (by omega) ⟨rfl, rfl, rfl, congrArg (fun z : Nat => some (vi (z : Int))) hxl, rfl, trivial⟩ (fun w hs => hs.sub (by repeat (first | exact .refl | exact .nil | refine .cons (by first | exact .hd | exact .tl .hd | exact .tl (.tl .hd) | exact .tl (.tl (.tl .hd)) | exact .tl (.tl (.tl (.tl .hd))) | exact .tl (.tl (.tl (.tl (.tl .hd)))) | exact .tl (.tl (.tl (.tl (.tl (.tl .hd))))) | exact .tl (.tl (.tl (.tl (.tl (.tl (.tl .hd)))))) | exact .tl (.tl (.tl (.tl (.tl (.tl (.tl (.tl .hd)))))))) ?_ | refine .drop ?_)) (by repeat (first | exact FSub.refl | exact FSub.nil | refine FSub.cons (by first | assumption | (repeat (first | assumption | exact List.Mem.head _ | refine .tail _ ?_))) ?_ | refine FSub.drop ?_))) ?_
    rintro ⟨k, v4⟩ hk
    simp only at hk ⊢
    repeat refine jc_seq ?_
    refine jc_region ?_
    refine r_bin rfl rfl b_lss ?_
    refine J.nil ?_
    refine jx_then ?_
    repeat refine jc_seq ?_
    refine jc_cond rfl (fun ht38 => ?_) (fun ht38 => ?_)
    · -- t38 True
      try simp only [decide_eq_true_eq, decide_eq_false_iff_not, beq_iff_eq, bne_iff_ne, beq_eq_false_iff_ne, bne_eq_false_iff_eq, Int.not_lt, Int.not_le, Bool.not_eq_true, ne_eq, Bool.not_eq_eq_eq_not, Bool.not_true, Bool.not_false] at ht38
      refine jc_skip ?_
      refine jx_then ?_
      repeat refine jc_seq ?_
      refine jc_block ?_
      repeat refine jc_seq ?_
      refine jc_region ?_
      first | refine r_indexAddrN so_22 rfl rfl (by first | exact len_row (by first | exact .hd | exact .tl .hd | exact .tl (.tl .hd) | exact .tl (.tl (.tl .hd)) | exact .tl (.tl (.tl (.tl .hd))) | exact .tl (.tl (.tl (.tl (.tl .hd)))) | exact .tl (.tl (.tl (.tl (.tl (.tl .hd))))) | exact .tl (.tl (.tl (.tl (.tl (.tl (.tl .hd)))))) | exact .tl (.tl (.tl (.tl (.tl (.tl (.tl (.tl .hd)))))))) | exact len_sl (by first | assumption | (repeat (first | assumption | exact List.Mem.head _ | refine .tail _ ?_)))) (by first | assumption | omega | (simp only [List.length_nil, List.length_cons, List.length_append, List.length_take, List.length_drop, List.length_set, List.length_replicate]; omega)) ?_ | refine r_indexAddr so_22 rfl rfl (by first | exact len_row (by first | exact .hd | exact .tl .hd | exact .tl (.tl .hd) | exact .tl (.tl (.tl .hd)) | exact .tl (.tl (.tl (.tl .hd))) | exact .tl (.tl (.tl (.tl (.tl .hd)))) | exact .tl (.tl (.tl (.tl (.tl (.tl .hd))))) | exact .tl (.tl (.tl (.tl (.tl (.tl (.tl .hd)))))) | exact .tl (.tl (.tl (.tl (.tl (.tl (.tl (.tl .hd)))))))) | exact len_sl (by first | assumption | (repeat (first | assumption | exact List.Mem.head _ | refine .tail _ ?_)))) (by first | assumption | omega | (simp only [List.length_nil, List.length_cons, List.length_append, List.length_take, List.length_drop, List.length_set, List.length_replicate]; omega)) (by first | assumption | omega | (simp only [List.length_nil, List.length_cons, List.length_append, List.length_take, List.length_drop, List.length_set, List.length_replicate]; omega)) ?_
      refine r_load1 Try.isAgg3 rfl (at_intD (by first | assumption | (repeat (first | assumption | exact List.Mem.head _ | refine .tail _ ?_))) (by first | assumption | omega | (simp only [List.length_nil, List.length_cons, List.length_append, List.length_take, List.length_drop, List.length_set, List.length_replicate]; omega))) ?_
      refine r_assign rfl ?_
      refine J.nil ?_
      refine jx_then ?_
      refine jc_region ?_
      refine r_move rfl ?_
      refine r_move rfl ?_
      refine r_p (p_convInt Try.underlying3 Try.underlying5 rfl (wrap_u8' _)) rfl ?_
      refine r_lit (α := UInt8) [u8 (xs.getD k 0)] eo_40 rfl rfl rfl rfl rfl rfl (fun j hj => ⟨⟨_, rfl, rfl⟩, trivial⟩) ?_; intro v44
      refine J.shut .hd ?_
      refine r_append eo_40 rfl rfl rfl (by decide) .hd (.head _) (fun w hs => by have : maxN = 16777216 := rfl; rw [List.length_take, List.length_map]; simp only [List.length_cons, List.length_nil]; omega) ?_; intro v45
      refine r_assign rfl ?_
      refine J.nil ?_
      refine jx_block ?_
      refine jx_then ?_
      refine jc_region ?_
      refine r_bin rfl rfl (b_add (by omega) (by omega)) ?_
      refine r_move rfl ?_
      refine J.nil ?_
      refine jx_head (k + 1, v45) (by show k + 1 ≤ 10; omega) (by show 10 - (k + 1) < 10 - k; omega) ⟨rfl, rfl, rfl, rfl, rfl, trivial⟩ (fun w hs => ?_)
      have hxk : ((xs.map u8)[k]?).toList = [u8 (xs.getD k 0)] := by rw [List.getElem?_map, getD_some 0 (show k < xs.length by omega)]; rfl
      show St (row 5 v45 ((xs.map u8).take (k + 1)) :: _) _ w
      rw [List.take_add_one, hxk]; exact hs.sub (by repeat (first | exact .refl | exact .nil | refine .cons (by first | exact .hd | exact .tl .hd | exact .tl (.tl .hd) | exact .tl (.tl (.tl .hd)) | exact .tl (.tl (.tl (.tl .hd))) | exact .tl (.tl (.tl (.tl (.tl .hd)))) | exact .tl (.tl (.tl (.tl (.tl (.tl .hd))))) | exact .tl (.tl (.tl (.tl (.tl (.tl (.tl .hd)))))) | exact .tl (.tl (.tl (.tl (.tl (.tl (.tl (.tl .hd)))))))) ?_ | refine .drop ?_)) (by repeat (first | exact FSub.refl | exact FSub.nil | refine FSub.cons (by first | assumption | (repeat (first | assumption | exact List.Mem.head _ | refine .tail _ ?_))) ?_ | refine FSub.drop ?_))
    · -- t38 False
      try simp only [decide_eq_true_eq, decide_eq_false_iff_not, beq_iff_eq, bne_iff_ne, beq_eq_false_iff_ne, bne_eq_false_iff_eq, Int.not_lt, Int.not_le, Bool.not_eq_true, ne_eq, Bool.not_eq_eq_eq_not, Bool.not_true, Bool.not_false] at ht38
      refine jc_exit ?_
      repeat (first | refine jx_thenExit ?_ | refine jx_blockMiss rfl ?_)
      refine jx_blockHit ?_
      refine jx_then ?_
      repeat refine jc_seq ?_
      have hk10 : k = 10 := by omega
      subst hk10
      rw [List.take_of_length_le (by rw [List.length_map]; omega), hxb]
      refine jc_region ?_
      refine r_move rfl ?_
      refine r_call (γ := Unit) (val := fun _ => vi (sumI (msgHead m))) Try.call51 rfl (fun w hs => lend .hd (fun L R w hs hf _ => refSum_calls hs hf) hs) ?_; intro _
      have hsm := sum_in (msgHead m)
      refine r_assign rfl ?_
      refine J.nil ?_
      refine jx_then ?_
      repeat refine jc_seq ?_
      refine jc_region ?_
      refine r_move rfl ?_
      refine r_move rfl ?_
      refine r_p (p_int rfl rfl (b_quoP (by omega) (by omega) (by omega))) rfl ?_
      refine r_p (p_convInt Try.underlying3 Try.underlying5 rfl (wrap_u8' _)) rfl ?_
      refine r_move rfl ?_
      refine r_p (p_int rfl rfl (b_remP (by omega) (by omega) (by omega))) rfl ?_
      refine r_p (p_convInt Try.underlying3 Try.underlying5 rfl (wrap_u8' _)) rfl ?_
      have hsr : u8 (sumI (msgHead m) % 256) = u8 (sumI (msgHead m)) := by unfold u8; rw [Int.emod_emod_of_dvd _ (by decide)]
      refine r_lit (α := UInt8) [u8 (sumI (msgHead m) / 256), u8 (sumI (msgHead m) % 256)] eo_40 rfl rfl rfl rfl rfl rfl (fun j hj => ⟨⟨_, rfl, rfl⟩, ⟨⟨_, rfl, rfl⟩, trivial⟩⟩) ?_; intro v56
      refine J.shut .hd ?_
      rw [hsr]
      refine r_append eo_40 rfl rfl rfl (by decide) .hd (.head _) (fun w hs => by have : maxN = 16777216 := rfl; rw [len_head]; simp only [List.length_cons, List.length_nil]; omega) ?_; intro v57
      refine r_assign rfl ?_
      refine J.nil ?_
      refine jx_then ?_
      refine jc_ret ?_
      repeat (first | refine jx_thenRet ?_ | refine jx_blockRet ?_)
      refine jx_body (.inr rfl) (fun B w hs => res1 rfl rfl B w) (fun w hs => ?_)
      refine ⟨v57, rfl, ?_⟩
      have h := hs.shut
      exact h.sub (by repeat (first | exact .refl | exact .nil | refine .cons (by first | exact .hd | exact .tl .hd | exact .tl (.tl .hd) | exact .tl (.tl (.tl .hd)) | exact .tl (.tl (.tl (.tl .hd))) | exact .tl (.tl (.tl (.tl (.tl .hd)))) | exact .tl (.tl (.tl (.tl (.tl (.tl .hd))))) | exact .tl (.tl (.tl (.tl (.tl (.tl (.tl .hd)))))) | exact .tl (.tl (.tl (.tl (.tl (.tl (.tl (.tl .hd)))))))) ?_ | refine .drop ?_)) (by repeat (first | exact FSub.refl | exact FSub.nil | refine FSub.cons (by first | assumption | (repeat (first | assumption | exact List.Mem.head _ | refine .tail _ ?_))) ?_ | refine FSub.drop ?_))
end Go.Proofs.Ytfdkkncmpjbkbaa
