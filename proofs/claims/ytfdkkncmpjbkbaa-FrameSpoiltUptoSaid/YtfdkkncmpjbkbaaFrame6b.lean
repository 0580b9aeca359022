/- This file proves that the closed fact of frames holds. No conditions. -/
import Derived.Test.YtfdkkncmpjbkbaaFacts
import Derived.Test.YtfdkkncmpjbkbaaFrame6
set_option linter.unusedVariables false
set_option linter.unusedSimpArgs false
set_option maxHeartbeats 1000000
namespace Go.Proofs.Ytfdkkncmpjbkbaa
open Go
theorem frameParse_eq {L : List Chunk} {R : List Fact} {w : World} {v1 : Value} {b : List UInt8} {c : Config} {m : Msg} {k : Int} (hs : St L R w) (h1 : sl v1 b ∈ R) (e : msgParse c b = (m, k)) : Calls Try.prog 54 [.agg c.cells.toArray, v1].toArray w (Post (fun _ : Unit => .tuple #[.agg m.cells.toArray, vi k]) (fun _ => L) (fun _ => R)) := by
  have h := frameParse_calls (c := c) hs h1
  rw [e] at h; exact h
theorem r_litS {P : Program} {n : Nat} {ops : Array Oper} {Q : Exit → Act → World → Prop} {rest : List Oper} {L : List Chunk} {R : List Fact} {al : List (Nat × Value)} {d : Nat} {ty : TypeId} {pos : String} {aft : Array Edge} {α : Type} [Enc α]
    {t el : TypeId} {sz bytes len : Nat} {z : Value} {parts : List (Nat × Operand)} {vs : List Value} (xs : List α) (he : ElemOf P t el sz z bytes) (hsz : Enc.sz α = sz)
    (ha : evL n al (parts.map (·.2)) = some vs) (hidx : parts.map (·.1) = List.range' 0 len) (hlv : vs.length = len) (hsmall : Nat.ble (len * sz) 1000 = true) (hsm2 : Nat.ble len 1000 = true)
    (hrd : ∀ j, (∀ q ∈ R, q.p j) → RdV xs vs j)
    (k : ∀ v, J P n ops Q rest L (sl v xs :: R) ((d, v) :: al)) : J P n ops Q (⟨some d, .buildSlice t len parts.toArray, ty, pos, aft, none⟩ :: rest) L R al :=
  r_lit xs he hsz ha hidx hlv hsmall hsm2 hrd fun v => J.shut .hd (k v)
def am : Msg := ⟨7, 2, 1, 1, 300, 7, 9, true⟩
theorem am_ok : msgWrong ⟨2, 2⟩ am = 0 := by decide
theorem am_in : MsgIn am := by unfold MsgIn; decide
theorem am_parse : msgParse ⟨2, 2⟩ (msgBytes am) = (am, 0) := parse_bytes am_ok (by decide) (by decide)
theorem am_spoilt : msgParse ⟨2, 2⟩ (bitTurn (msgBytes am) 5) = (zMsg, 7) := turn_found am_parse (by decide) (by decide)
theorem sums_unlike : sumI [1] ≠ sumI [0] := by
  intro h
  have h' : sumOf ([] ++ (1 : UInt8) :: []) = sumOf ([] ++ (0 : UInt8) :: []) := by
    apply BitVec.eq_of_toNat_eq
    have : ((sumOf [1]).toNat : Int) = ((sumOf [0]).toNat : Int) := h
    simp only [List.nil_append]; omega
  exact absurd (sum_unlike h') (by decide)
theorem aliveFrame_calls {L : List Chunk} {R : List Fact} {w : World} (hs : St L R w) : Calls Try.prog 58 [].toArray w (Post (fun _ : Unit => .bool true) (fun _ => L) (fun _ => R)) := by
  refine calls_args Try.func58 rfl Try.ntmps58 rfl hs ?_
  clear hs
  repeat refine jc_seq ?_
  refine jc_region ?_
  refine r_assign rfl ?_
  refine J.nil ?_
  refine jx_then ?_
  repeat refine jc_seq ?_
  refine jc_region ?_
  refine r_p (p_build st_37 rfl rfl) rfl ?_
  refine r_alloc (cs := zConfig.cells) Try.zeroValue37 rfl ?_; intro b1
  first | refine r_storeAll Try.sizeOf37 rfl rfl rfl (by simp [Value.oneCell', Config.cells, Msg.cells, Line.cells, Op.cells, Done.cells, Step.cells, Answer.cells, Seen.cells, Core.cells, Entry.cells, Chip.cells]) (by first | exact .hd | exact .tl .hd | exact .tl (.tl .hd) | exact .tl (.tl (.tl .hd)) | exact .tl (.tl (.tl (.tl .hd))) | exact .tl (.tl (.tl (.tl (.tl .hd)))) | exact .tl (.tl (.tl (.tl (.tl (.tl .hd))))) | exact .tl (.tl (.tl (.tl (.tl (.tl (.tl .hd)))))) | exact .tl (.tl (.tl (.tl (.tl (.tl (.tl (.tl .hd)))))))) (by exact rfl) ?_ | refine r_storeN Try.sizeOf37 rfl rfl rfl (by simp [Value.oneCell', Config.cells, Msg.cells, Line.cells, Op.cells, Done.cells, Step.cells, Answer.cells, Seen.cells, Core.cells, Entry.cells, Chip.cells]) (by first | exact .hd | exact .tl .hd | exact .tl (.tl .hd) | exact .tl (.tl (.tl .hd)) | exact .tl (.tl (.tl (.tl .hd))) | exact .tl (.tl (.tl (.tl (.tl .hd)))) | exact .tl (.tl (.tl (.tl (.tl (.tl .hd))))) | exact .tl (.tl (.tl (.tl (.tl (.tl (.tl .hd)))))) | exact .tl (.tl (.tl (.tl (.tl (.tl (.tl (.tl .hd)))))))) (by exact rfl) ?_
  refine J.nil ?_
  refine jx_then ?_
  repeat refine jc_seq ?_
  refine jc_region ?_
  refine r_p (p_build st_39 rfl rfl) rfl ?_
  refine r_alloc (cs := zMsg.cells) Try.zeroValue39 rfl ?_; intro b2
  first | refine r_storeAll Try.sizeOf39 rfl rfl rfl (by simp [Value.oneCell', Config.cells, Msg.cells, Line.cells, Op.cells, Done.cells, Step.cells, Answer.cells, Seen.cells, Core.cells, Entry.cells, Chip.cells]) (by first | exact .hd | exact .tl .hd | exact .tl (.tl .hd) | exact .tl (.tl (.tl .hd)) | exact .tl (.tl (.tl (.tl .hd))) | exact .tl (.tl (.tl (.tl (.tl .hd)))) | exact .tl (.tl (.tl (.tl (.tl (.tl .hd))))) | exact .tl (.tl (.tl (.tl (.tl (.tl (.tl .hd)))))) | exact .tl (.tl (.tl (.tl (.tl (.tl (.tl (.tl .hd)))))))) (by exact rfl) ?_ | refine r_storeN Try.sizeOf39 rfl rfl rfl (by simp [Value.oneCell', Config.cells, Msg.cells, Line.cells, Op.cells, Done.cells, Step.cells, Answer.cells, Seen.cells, Core.cells, Entry.cells, Chip.cells]) (by first | exact .hd | exact .tl .hd | exact .tl (.tl .hd) | exact .tl (.tl (.tl .hd)) | exact .tl (.tl (.tl (.tl .hd))) | exact .tl (.tl (.tl (.tl (.tl .hd)))) | exact .tl (.tl (.tl (.tl (.tl (.tl .hd))))) | exact .tl (.tl (.tl (.tl (.tl (.tl (.tl .hd)))))) | exact .tl (.tl (.tl (.tl (.tl (.tl (.tl (.tl .hd)))))))) (by exact rfl) ?_
  refine J.nil ?_
  refine jx_then ?_
  repeat refine jc_seq ?_
  refine jc_region ?_
  first | refine r_loadN Try.isAgg39 Try.sizeOf39 rfl (at_blkAll (by first | exact .hd | exact .tl .hd | exact .tl (.tl .hd) | exact .tl (.tl (.tl .hd)) | exact .tl (.tl (.tl (.tl .hd))) | exact .tl (.tl (.tl (.tl (.tl .hd)))) | exact .tl (.tl (.tl (.tl (.tl (.tl .hd))))) | exact .tl (.tl (.tl (.tl (.tl (.tl (.tl .hd)))))) | exact .tl (.tl (.tl (.tl (.tl (.tl (.tl (.tl .hd))))))))) (by exact rfl) ?_ | refine r_loadN Try.isAgg39 Try.sizeOf39 rfl (at_blkN (sz := 8) (by first | exact .hd | exact .tl .hd | exact .tl (.tl .hd) | exact .tl (.tl (.tl .hd)) | exact .tl (.tl (.tl (.tl .hd))) | exact .tl (.tl (.tl (.tl (.tl .hd)))) | exact .tl (.tl (.tl (.tl (.tl (.tl .hd))))) | exact .tl (.tl (.tl (.tl (.tl (.tl (.tl .hd)))))) | exact .tl (.tl (.tl (.tl (.tl (.tl (.tl (.tl .hd))))))))) (by exact rfl) ?_ | refine r_loadN Try.isAgg39 Try.sizeOf39 rfl (at_Msg (by first | assumption | exact .head _ | (refine .tail _ ?_; first | assumption | exact .head _ | (refine .tail _ ?_; first | assumption | exact .head _ | (refine .tail _ ?_; first | assumption | exact .head _ | (refine .tail _ ?_; first | assumption | exact .head _ | (refine .tail _ ?_; first | assumption | exact .head _ | (refine .tail _ ?_; first | assumption | exact .head _ | (refine .tail _ ?_; first | assumption | exact .head _ | (refine .tail _ ?_; first | assumption | exact .head _ | (refine .tail _ ?_; first | assumption | exact .head _)))))))))) (by assumption)) rfl ?_
  refine r_call Try.call56 rfl (fun w hs => frameBytes_calls (m := am) hs am_in) ?_; intro v11
  generalize hB : msgBytes am = B
  have p1 : msgParse ⟨2, 2⟩ B = (am, 0) := by rw [← hB]; exact am_parse
  have p2 : msgParse ⟨2, 2⟩ (bitTurn B 5) = (zMsg, 7) := by rw [← hB]; exact am_spoilt
  have p3 : B.length = 12 := by rw [← hB]; exact len_bytes am
  refine r_assign rfl ?_
  refine J.nil ?_
  refine jx_then ?_
  repeat refine jc_seq ?_
  refine jc_region ?_
  first | refine r_loadN Try.isAgg37 Try.sizeOf37 rfl (at_blkAll (by first | exact .hd | exact .tl .hd | exact .tl (.tl .hd) | exact .tl (.tl (.tl .hd)) | exact .tl (.tl (.tl (.tl .hd))) | exact .tl (.tl (.tl (.tl (.tl .hd)))) | exact .tl (.tl (.tl (.tl (.tl (.tl .hd))))) | exact .tl (.tl (.tl (.tl (.tl (.tl (.tl .hd)))))) | exact .tl (.tl (.tl (.tl (.tl (.tl (.tl (.tl .hd))))))))) (by exact rfl) ?_ | refine r_loadN Try.isAgg37 Try.sizeOf37 rfl (at_blkN (sz := 2) (by first | exact .hd | exact .tl .hd | exact .tl (.tl .hd) | exact .tl (.tl (.tl .hd)) | exact .tl (.tl (.tl (.tl .hd))) | exact .tl (.tl (.tl (.tl (.tl .hd)))) | exact .tl (.tl (.tl (.tl (.tl (.tl .hd))))) | exact .tl (.tl (.tl (.tl (.tl (.tl (.tl .hd)))))) | exact .tl (.tl (.tl (.tl (.tl (.tl (.tl (.tl .hd))))))))) (by exact rfl) ?_ | refine r_loadN Try.isAgg37 Try.sizeOf37 rfl (at_Config (by first | assumption | exact .head _ | (refine .tail _ ?_; first | assumption | exact .head _ | (refine .tail _ ?_; first | assumption | exact .head _ | (refine .tail _ ?_; first | assumption | exact .head _ | (refine .tail _ ?_; first | assumption | exact .head _ | (refine .tail _ ?_; first | assumption | exact .head _ | (refine .tail _ ?_; first | assumption | exact .head _ | (refine .tail _ ?_; first | assumption | exact .head _ | (refine .tail _ ?_; first | assumption | exact .head _ | (refine .tail _ ?_; first | assumption | exact .head _)))))))))) (by assumption)) rfl ?_
  refine r_move rfl ?_
  refine r_call Try.call54 rfl (fun w hs => frameParse_eq (c := ⟨2, 2⟩) (b := B) hs (by first | assumption | exact .head _ | (refine .tail _ ?_; first | assumption | exact .head _ | (refine .tail _ ?_; first | assumption | exact .head _ | (refine .tail _ ?_; first | assumption | exact .head _ | (refine .tail _ ?_; first | assumption | exact .head _ | (refine .tail _ ?_; first | assumption | exact .head _ | (refine .tail _ ?_; first | assumption | exact .head _ | (refine .tail _ ?_; first | assumption | exact .head _ | (refine .tail _ ?_; first | assumption | exact .head _ | (refine .tail _ ?_; first | assumption | exact .head _)))))))))) p1) ?_; intro _
  refine r_move rfl ?_
  refine r_extract rfl rfl ?_
  refine r_extract rfl rfl ?_
  refine r_alloc (cs := zMsg.cells) Try.zeroValue39 rfl ?_; intro b4
  first | refine r_storeAll Try.sizeOf39 rfl rfl rfl (by simp [Value.oneCell', Config.cells, Msg.cells, Line.cells, Op.cells, Done.cells, Step.cells, Answer.cells, Seen.cells, Core.cells, Entry.cells, Chip.cells]) (by first | exact .hd | exact .tl .hd | exact .tl (.tl .hd) | exact .tl (.tl (.tl .hd)) | exact .tl (.tl (.tl (.tl .hd))) | exact .tl (.tl (.tl (.tl (.tl .hd)))) | exact .tl (.tl (.tl (.tl (.tl (.tl .hd))))) | exact .tl (.tl (.tl (.tl (.tl (.tl (.tl .hd)))))) | exact .tl (.tl (.tl (.tl (.tl (.tl (.tl (.tl .hd)))))))) (by exact rfl) ?_ | refine r_storeN Try.sizeOf39 rfl rfl rfl (by simp [Value.oneCell', Config.cells, Msg.cells, Line.cells, Op.cells, Done.cells, Step.cells, Answer.cells, Seen.cells, Core.cells, Entry.cells, Chip.cells]) (by first | exact .hd | exact .tl .hd | exact .tl (.tl .hd) | exact .tl (.tl (.tl .hd)) | exact .tl (.tl (.tl (.tl .hd))) | exact .tl (.tl (.tl (.tl (.tl .hd)))) | exact .tl (.tl (.tl (.tl (.tl (.tl .hd))))) | exact .tl (.tl (.tl (.tl (.tl (.tl (.tl .hd)))))) | exact .tl (.tl (.tl (.tl (.tl (.tl (.tl (.tl .hd)))))))) (by exact rfl) ?_
  refine r_assign rfl ?_
  refine J.nil ?_
  refine jx_then ?_
  repeat refine jc_seq ?_
  refine jc_draw mixed (by kernel_rfl) (by kernel_rfl) (fun ρ S => blk b4 39 am.cells :: blk b2 39 am.cells :: blk b1 37 (Config.mk 2 2).cells :: (L ++ (bif S 7 then [blk (Gh.dec (γ := Nat) (ρ 7)) 39 (bif S 8 then zMsg.cells else zMsg.cells)] else []))) (fun _ => List.append_nil (blk b4 39 am.cells :: blk b2 39 am.cells :: blk b1 37 (Config.mk 2 2).cells :: L)) ?_
  refine dj ?_
  first | refine d_loadN Try.isAgg37 Try.sizeOf37 (fun _ => rfl) (fun _ _ => at_blkAll (by first | exact .hd | exact .tl .hd | exact .tl (.tl .hd) | exact .tl (.tl (.tl .hd)) | exact .tl (.tl (.tl (.tl .hd))) | exact .tl (.tl (.tl (.tl (.tl .hd)))) | exact .tl (.tl (.tl (.tl (.tl (.tl .hd))))) | exact .tl (.tl (.tl (.tl (.tl (.tl (.tl .hd)))))) | exact .tl (.tl (.tl (.tl (.tl (.tl (.tl (.tl .hd))))))))) (by exact rfl) (fun _ _ _ _ => rfl) ?_ | refine d_loadN Try.isAgg37 Try.sizeOf37 (fun _ => rfl) (fun _ _ => at_blkN (sz := 2) (by first | exact .hd | exact .tl .hd | exact .tl (.tl .hd) | exact .tl (.tl (.tl .hd)) | exact .tl (.tl (.tl (.tl .hd))) | exact .tl (.tl (.tl (.tl (.tl .hd)))) | exact .tl (.tl (.tl (.tl (.tl (.tl .hd))))) | exact .tl (.tl (.tl (.tl (.tl (.tl (.tl .hd)))))) | exact .tl (.tl (.tl (.tl (.tl (.tl (.tl (.tl .hd))))))))) (by exact rfl) (fun _ _ _ _ => rfl) ?_
  refine dj ?_
  refine d_move (fun _ => rfl) (by first | exact Ind.const _ | exact fun _ _ _ _ _ => rfl | exact Ind.self | exact Ind.gh _ 3 rfl) (fun _ _ _ _ => rfl) ?_
  refine dj ?_
  refine d_call (γ := Value) (val := fun v => v) (F := fun v => [sl v (bitTurn B 5)]) (C := fun _ => []) Try.call52 (fun _ => rfl) (fun _ _ _ _ => rfl) (fun ρ L R w hd hs => frameTurn_calls hs (b := B) (bit := 5) (by first | exact hd.base (by first | assumption | exact .head _ | (refine .tail _ ?_; first | assumption | exact .head _ | (refine .tail _ ?_; first | assumption | exact .head _ | (refine .tail _ ?_; first | assumption | exact .head _ | (refine .tail _ ?_; first | assumption | exact .head _ | (refine .tail _ ?_; first | assumption | exact .head _ | (refine .tail _ ?_; first | assumption | exact .head _ | (refine .tail _ ?_; first | assumption | exact .head _ | (refine .tail _ ?_; first | assumption | exact .head _ | (refine .tail _ ?_; first | assumption | exact .head _))))))))))) (by unfold In64; decide)) ?_
  refine dj ?_
  refine d_call (γ := Unit) (val := fun _ => .tuple #[.agg zMsg.cells.toArray, vi 7]) (F := fun _ => []) (C := fun _ => []) Try.call54 (fun _ => rfl) (fun _ _ _ _ => rfl) (fun ρ L R w hd hs => frameParse_eq (c := ⟨2, 2⟩) (b := bitTurn B 5) hs (by first | exact hd.base (by first | assumption | exact .head _ | (refine .tail _ ?_; first | assumption | exact .head _ | (refine .tail _ ?_; first | assumption | exact .head _ | (refine .tail _ ?_; first | assumption | exact .head _ | (refine .tail _ ?_; first | assumption | exact .head _ | (refine .tail _ ?_; first | assumption | exact .head _ | (refine .tail _ ?_; first | assumption | exact .head _ | (refine .tail _ ?_; first | assumption | exact .head _ | (refine .tail _ ?_; first | assumption | exact .head _ | (refine .tail _ ?_; first | assumption | exact .head _)))))))))) | exact hd.dep (it := ⟨2, _, _, _, _⟩) (by repeat (first | exact List.Mem.head _ | refine List.Mem.tail _ ?_)) ⟨8, rfl⟩ (by first | exact List.Mem.head _ | exact .tail _ (.head _) | exact .tail _ (.tail _ (.head _)))) p2) ?_
  refine dj ?_
  refine d_move (fun _ => rfl) (by first | exact Ind.const _ | exact fun _ _ _ _ _ => rfl | exact Ind.self | exact Ind.gh _ 3 rfl) (fun _ _ _ _ => rfl) ?_
  refine dj ?_
  refine d_extract (fun _ => rfl) (fun _ => rfl) (by first | exact Ind.const _ | exact fun _ _ _ _ _ => rfl | exact Ind.self | exact Ind.gh _ 3 rfl) (fun _ _ _ _ => rfl) ?_
  refine dj ?_
  refine d_extract (fun _ => rfl) (fun _ => rfl) (by first | exact Ind.const _ | exact fun _ _ _ _ _ => rfl | exact Ind.self | exact Ind.gh _ 3 rfl) (fun _ _ _ _ => rfl) ?_
  refine dj ?_
  refine d_allocSh (cs := zMsg.cells) Try.zeroValue39 rfl (fun ρ b S hS ha => ?_) ?_
  · have h7 : S 7 = false := hS
    have h8 : S 8 = false := ha 8 ⟨1, rfl⟩
    show List.Perm ((blk b4 39 am.cells :: blk b2 39 am.cells :: blk b1 37 (Config.mk 2 2).cells :: L) ++ [blk b 39 (bif S 8 then zMsg.cells else zMsg.cells)]) (blk b 39 zMsg.cells :: ((blk b4 39 am.cells :: blk b2 39 am.cells :: blk b1 37 (Config.mk 2 2).cells :: L) ++ (bif S 7 then _ else [])))
    rw [h7, h8]; exact sh_add
  refine dj ?_
  refine d_storeSh (T0 := 39) (b := fun ρ => Gh.dec (γ := Nat) (ρ 7)) (vs := fun _ => zMsg.cells) (cs := fun _ => zMsg.cells) Try.sizeOf39 (fun _ => rfl) (fun _ => rfl) (fun _ => rfl) (fun _ => by simp [Value.oneCell', Config.cells, Msg.cells, Line.cells, Op.cells, Done.cells, Step.cells, Answer.cells, Seen.cells, Core.cells, Entry.cells, Chip.cells]) (fun _ => rfl) (fun ρ g S hS hb => ?_) ?_
  · have h7 : S 7 = true := hb 7 ⟨1, rfl⟩
    have h8 : S 8 = false := hS
    refine ⟨(blk b4 39 am.cells :: blk b2 39 am.cells :: blk b1 37 (Config.mk 2 2).cells :: L) ++ [], ?_, ?_⟩
    · show List.Perm ((blk b4 39 am.cells :: blk b2 39 am.cells :: blk b1 37 (Config.mk 2 2).cells :: L) ++ (bif S 7 then [blk _ 39 (bif S 8 then zMsg.cells else zMsg.cells)] else [])) _
      rw [h7, h8]; exact sh_add
    · show List.Perm ((blk b4 39 am.cells :: blk b2 39 am.cells :: blk b1 37 (Config.mk 2 2).cells :: L) ++ (bif S 7 then [blk _ 39 zMsg.cells] else [])) _
      rw [h7]; exact sh_add
  refine d_tailC (by kernel_rfl) ?_; intro ρ; simp only [chunks, facts, alOf, List.append_nil, List.nil_append, List.cons_append]
  refine J.conseq (L' := blk (Gh.dec (γ := Nat) (ρ 7)) 39 zMsg.cells :: (blk b4 39 am.cells :: blk b2 39 am.cells :: blk b1 37 (Config.mk 2 2).cells :: L)) (fun w hs => hs.perm (by have h := sh_add (l := (blk b4 39 am.cells :: blk b2 39 am.cells :: blk b1 37 (Config.mk 2 2).cells :: L)) (x := blk (Gh.dec (γ := Nat) (ρ 7)) 39 zMsg.cells); rw [List.append_nil] at h; exact h)) ?_
  refine r_assign rfl ?_
  refine J.nil ?_
  refine jx_then ?_
  repeat refine jc_seq ?_
  refine jc_region ?_
  refine r_move rfl ?_
  refine r_bin rfl rfl (b_eql_T (by omega)) ?_
  refine r_move rfl ?_
  refine J.guardYes ?_ ?_
  · exact rfl
  first | refine r_loadN Try.isAgg39 Try.sizeOf39 rfl (at_blkAll (by first | exact .hd | exact .tl .hd | exact .tl (.tl .hd) | exact .tl (.tl (.tl .hd)) | exact .tl (.tl (.tl (.tl .hd))) | exact .tl (.tl (.tl (.tl (.tl .hd)))) | exact .tl (.tl (.tl (.tl (.tl (.tl .hd))))) | exact .tl (.tl (.tl (.tl (.tl (.tl (.tl .hd)))))) | exact .tl (.tl (.tl (.tl (.tl (.tl (.tl (.tl .hd))))))))) (by exact rfl) ?_ | refine r_loadN Try.isAgg39 Try.sizeOf39 rfl (at_blkN (sz := 8) (by first | exact .hd | exact .tl .hd | exact .tl (.tl .hd) | exact .tl (.tl (.tl .hd)) | exact .tl (.tl (.tl (.tl .hd))) | exact .tl (.tl (.tl (.tl (.tl .hd)))) | exact .tl (.tl (.tl (.tl (.tl (.tl .hd))))) | exact .tl (.tl (.tl (.tl (.tl (.tl (.tl .hd)))))) | exact .tl (.tl (.tl (.tl (.tl (.tl (.tl (.tl .hd))))))))) (by exact rfl) ?_ | refine r_loadN Try.isAgg39 Try.sizeOf39 rfl (at_Msg (by first | assumption | exact .head _ | (refine .tail _ ?_; first | assumption | exact .head _ | (refine .tail _ ?_; first | assumption | exact .head _ | (refine .tail _ ?_; first | assumption | exact .head _ | (refine .tail _ ?_; first | assumption | exact .head _ | (refine .tail _ ?_; first | assumption | exact .head _ | (refine .tail _ ?_; first | assumption | exact .head _ | (refine .tail _ ?_; first | assumption | exact .head _ | (refine .tail _ ?_; first | assumption | exact .head _ | (refine .tail _ ?_; first | assumption | exact .head _)))))))))) (by assumption)) rfl ?_
  refine J.guardYes ?_ ?_
  · exact rfl
  first | refine r_loadN Try.isAgg39 Try.sizeOf39 rfl (at_blkAll (by first | exact .hd | exact .tl .hd | exact .tl (.tl .hd) | exact .tl (.tl (.tl .hd)) | exact .tl (.tl (.tl (.tl .hd))) | exact .tl (.tl (.tl (.tl (.tl .hd)))) | exact .tl (.tl (.tl (.tl (.tl (.tl .hd))))) | exact .tl (.tl (.tl (.tl (.tl (.tl (.tl .hd)))))) | exact .tl (.tl (.tl (.tl (.tl (.tl (.tl (.tl .hd))))))))) (by exact rfl) ?_ | refine r_loadN Try.isAgg39 Try.sizeOf39 rfl (at_blkN (sz := 8) (by first | exact .hd | exact .tl .hd | exact .tl (.tl .hd) | exact .tl (.tl (.tl .hd)) | exact .tl (.tl (.tl (.tl .hd))) | exact .tl (.tl (.tl (.tl (.tl .hd)))) | exact .tl (.tl (.tl (.tl (.tl (.tl .hd))))) | exact .tl (.tl (.tl (.tl (.tl (.tl (.tl .hd)))))) | exact .tl (.tl (.tl (.tl (.tl (.tl (.tl (.tl .hd))))))))) (by exact rfl) ?_ | refine r_loadN Try.isAgg39 Try.sizeOf39 rfl (at_Msg (by first | assumption | exact .head _ | (refine .tail _ ?_; first | assumption | exact .head _ | (refine .tail _ ?_; first | assumption | exact .head _ | (refine .tail _ ?_; first | assumption | exact .head _ | (refine .tail _ ?_; first | assumption | exact .head _ | (refine .tail _ ?_; first | assumption | exact .head _ | (refine .tail _ ?_; first | assumption | exact .head _ | (refine .tail _ ?_; first | assumption | exact .head _ | (refine .tail _ ?_; first | assumption | exact .head _ | (refine .tail _ ?_; first | assumption | exact .head _)))))))))) (by assumption)) rfl ?_
  refine J.guardYes ?_ ?_
  · exact rfl
  refine r_p (p_binG rfl rfl (ag_Msg am am _) (be_Msg_T (x := am) (y := am) rfl)) rfl ?_
  refine r_pickT rfl rfl ?_
  refine r_move rfl ?_
  refine J.guardYes ?_ ?_
  · exact rfl
  refine r_move rfl ?_
  refine J.guardYes ?_ ?_
  · exact rfl
  refine r_bin rfl rfl (b_eql_T (by omega)) ?_
  refine r_pickT rfl rfl ?_
  refine r_move rfl ?_
  refine J.guardYes ?_ ?_
  · exact rfl
  refine r_move rfl ?_
  refine J.guardYes ?_ ?_
  · exact rfl
  refine r_len Try.underlying40 rfl (by first | exact len_row (by first | exact .hd | exact .tl .hd | exact .tl (.tl .hd) | exact .tl (.tl (.tl .hd)) | exact .tl (.tl (.tl (.tl .hd))) | exact .tl (.tl (.tl (.tl (.tl .hd)))) | exact .tl (.tl (.tl (.tl (.tl (.tl .hd))))) | exact .tl (.tl (.tl (.tl (.tl (.tl (.tl .hd)))))) | exact .tl (.tl (.tl (.tl (.tl (.tl (.tl (.tl .hd)))))))) | exact len_sl (by first | assumption | exact .head _ | (refine .tail _ ?_; first | assumption | exact .head _ | (refine .tail _ ?_; first | assumption | exact .head _ | (refine .tail _ ?_; first | assumption | exact .head _ | (refine .tail _ ?_; first | assumption | exact .head _ | (refine .tail _ ?_; first | assumption | exact .head _ | (refine .tail _ ?_; first | assumption | exact .head _ | (refine .tail _ ?_; first | assumption | exact .head _ | (refine .tail _ ?_; first | assumption | exact .head _ | (refine .tail _ ?_; first | assumption | exact .head _))))))))))) ?_
  refine J.guardYes ?_ ?_
  · exact rfl
  refine r_bin rfl rfl (b_eql_T (by omega)) ?_
  refine r_pickT rfl rfl ?_
  refine r_move rfl ?_
  refine J.guardYes ?_ ?_
  · exact rfl
  first | refine r_loadN Try.isAgg37 Try.sizeOf37 rfl (at_blkAll (by first | exact .hd | exact .tl .hd | exact .tl (.tl .hd) | exact .tl (.tl (.tl .hd)) | exact .tl (.tl (.tl (.tl .hd))) | exact .tl (.tl (.tl (.tl (.tl .hd)))) | exact .tl (.tl (.tl (.tl (.tl (.tl .hd))))) | exact .tl (.tl (.tl (.tl (.tl (.tl (.tl .hd)))))) | exact .tl (.tl (.tl (.tl (.tl (.tl (.tl (.tl .hd))))))))) (by exact rfl) ?_ | refine r_loadN Try.isAgg37 Try.sizeOf37 rfl (at_blkN (sz := 2) (by first | exact .hd | exact .tl .hd | exact .tl (.tl .hd) | exact .tl (.tl (.tl .hd)) | exact .tl (.tl (.tl (.tl .hd))) | exact .tl (.tl (.tl (.tl (.tl .hd)))) | exact .tl (.tl (.tl (.tl (.tl (.tl .hd))))) | exact .tl (.tl (.tl (.tl (.tl (.tl (.tl .hd)))))) | exact .tl (.tl (.tl (.tl (.tl (.tl (.tl (.tl .hd))))))))) (by exact rfl) ?_ | refine r_loadN Try.isAgg37 Try.sizeOf37 rfl (at_Config (by first | assumption | exact .head _ | (refine .tail _ ?_; first | assumption | exact .head _ | (refine .tail _ ?_; first | assumption | exact .head _ | (refine .tail _ ?_; first | assumption | exact .head _ | (refine .tail _ ?_; first | assumption | exact .head _ | (refine .tail _ ?_; first | assumption | exact .head _ | (refine .tail _ ?_; first | assumption | exact .head _ | (refine .tail _ ?_; first | assumption | exact .head _ | (refine .tail _ ?_; first | assumption | exact .head _ | (refine .tail _ ?_; first | assumption | exact .head _)))))))))) (by assumption)) rfl ?_
  refine J.guardYes ?_ ?_
  · exact rfl
  first | refine r_loadN Try.isAgg39 Try.sizeOf39 rfl (at_blkAll (by first | exact .hd | exact .tl .hd | exact .tl (.tl .hd) | exact .tl (.tl (.tl .hd)) | exact .tl (.tl (.tl (.tl .hd))) | exact .tl (.tl (.tl (.tl (.tl .hd)))) | exact .tl (.tl (.tl (.tl (.tl (.tl .hd))))) | exact .tl (.tl (.tl (.tl (.tl (.tl (.tl .hd)))))) | exact .tl (.tl (.tl (.tl (.tl (.tl (.tl (.tl .hd))))))))) (by exact rfl) ?_ | refine r_loadN Try.isAgg39 Try.sizeOf39 rfl (at_blkN (sz := 8) (by first | exact .hd | exact .tl .hd | exact .tl (.tl .hd) | exact .tl (.tl (.tl .hd)) | exact .tl (.tl (.tl (.tl .hd))) | exact .tl (.tl (.tl (.tl (.tl .hd)))) | exact .tl (.tl (.tl (.tl (.tl (.tl .hd))))) | exact .tl (.tl (.tl (.tl (.tl (.tl (.tl .hd)))))) | exact .tl (.tl (.tl (.tl (.tl (.tl (.tl (.tl .hd))))))))) (by exact rfl) ?_ | refine r_loadN Try.isAgg39 Try.sizeOf39 rfl (at_Msg (by first | assumption | exact .head _ | (refine .tail _ ?_; first | assumption | exact .head _ | (refine .tail _ ?_; first | assumption | exact .head _ | (refine .tail _ ?_; first | assumption | exact .head _ | (refine .tail _ ?_; first | assumption | exact .head _ | (refine .tail _ ?_; first | assumption | exact .head _ | (refine .tail _ ?_; first | assumption | exact .head _ | (refine .tail _ ?_; first | assumption | exact .head _ | (refine .tail _ ?_; first | assumption | exact .head _ | (refine .tail _ ?_; first | assumption | exact .head _)))))))))) (by assumption)) rfl ?_
  refine J.guardYes ?_ ?_
  · exact rfl
  refine r_call (val := fun _ => vi 0) Try.call48 rfl (fun w hs => by have h := frameWrong_calls (c := ⟨2, 2⟩) (m := am) hs; rw [am_ok] at h; exact h) ?_; intro _
  refine J.guardYes ?_ ?_
  · exact rfl
  refine r_bin rfl rfl (b_eql_T (by omega)) ?_
  refine r_pickT rfl rfl ?_
  refine r_move rfl ?_
  refine J.guardYes ?_ ?_
  · exact rfl
  refine r_litS (α := UInt8) [1] eo_40 rfl rfl rfl rfl rfl rfl (fun j hj => ⟨⟨_, rfl, rfl⟩, trivial⟩) ?_; intro v48
  refine J.guardYes ?_ ?_
  · exact rfl
  refine r_call Try.call50 rfl (fun w hs => frameSum_calls (b := [1]) hs (by first | assumption | exact .head _ | (refine .tail _ ?_; first | assumption | exact .head _ | (refine .tail _ ?_; first | assumption | exact .head _ | (refine .tail _ ?_; first | assumption | exact .head _ | (refine .tail _ ?_; first | assumption | exact .head _ | (refine .tail _ ?_; first | assumption | exact .head _ | (refine .tail _ ?_; first | assumption | exact .head _ | (refine .tail _ ?_; first | assumption | exact .head _ | (refine .tail _ ?_; first | assumption | exact .head _ | (refine .tail _ ?_; first | assumption | exact .head _))))))))))) ?_; intro _
  refine J.guardYes ?_ ?_
  · exact rfl
  refine r_litS (α := UInt8) [0] eo_40 rfl rfl rfl rfl rfl rfl (fun j hj => ⟨⟨_, rfl, rfl⟩, trivial⟩) ?_; intro v50
  refine J.guardYes ?_ ?_
  · exact rfl
  refine r_call Try.call50 rfl (fun w hs => frameSum_calls (b := [0]) hs (by first | assumption | exact .head _ | (refine .tail _ ?_; first | assumption | exact .head _ | (refine .tail _ ?_; first | assumption | exact .head _ | (refine .tail _ ?_; first | assumption | exact .head _ | (refine .tail _ ?_; first | assumption | exact .head _ | (refine .tail _ ?_; first | assumption | exact .head _ | (refine .tail _ ?_; first | assumption | exact .head _ | (refine .tail _ ?_; first | assumption | exact .head _ | (refine .tail _ ?_; first | assumption | exact .head _ | (refine .tail _ ?_; first | assumption | exact .head _))))))))))) ?_; intro _
  refine J.guardYes ?_ ?_
  · exact rfl
  refine r_bin rfl rfl (b_neq_T sums_unlike) ?_
  refine r_pickT rfl rfl ?_
  refine r_assign rfl ?_
  refine J.nil ?_
  refine jx_then ?_
  refine jc_ret ?_
  repeat (first | refine jx_thenRet ?_ | refine jx_blockRet ?_)
  refine jx_body (.inr rfl) (fun B w _ => res1 rfl rfl B w) (fun w hs => ⟨(), ?_, hs.sub (by repeat (first | exact .refl | exact .nil | refine .cons (by first | exact .hd | exact .tl .hd | exact .tl (.tl .hd) | exact .tl (.tl (.tl .hd)) | exact .tl (.tl (.tl (.tl .hd))) | exact .tl (.tl (.tl (.tl (.tl .hd)))) | exact .tl (.tl (.tl (.tl (.tl (.tl .hd))))) | exact .tl (.tl (.tl (.tl (.tl (.tl (.tl .hd)))))) | exact .tl (.tl (.tl (.tl (.tl (.tl (.tl (.tl .hd)))))))) ?_ | refine .drop ?_)) (by repeat (first | exact FSub.refl | exact FSub.nil | refine FSub.cons (by first | assumption | (repeat (first | assumption | exact List.Mem.head _ | refine .tail _ ?_))) ?_ | refine FSub.drop ?_))⟩)
  rfl
end Go.Proofs.Ytfdkkncmpjbkbaa
