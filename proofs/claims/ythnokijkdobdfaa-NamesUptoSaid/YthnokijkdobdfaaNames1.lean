/- This file proves what the law of names computes. No conditions. -/
import Derived.Test.YthnokijkdobdfaaFacts
import Derived.Test.YthnokijkdobdfaaAuto2
set_option linter.unusedVariables false
set_option linter.unusedSimpArgs false
set_option maxHeartbeats 1000000
namespace Go.Proofs.Ythnokijkdobdfaa
open Go
theorem rd_ints {j : Mem} : ∀ {xs : List Int}, (∀ x ∈ xs, In64 x) → RdV xs (xs.map vi) j
  | [], _ => trivial
  | x :: xs, h => ⟨⟨_, rfl, rfl, h x (List.mem_cons_self ..)⟩, rd_ints fun y hy => h y (List.mem_cons_of_mem _ hy)⟩
theorem names_walk {L : List Chunk} {R : List Fact} {w : World}  (hs : St (L) R w) : Calls Try.prog 3 [].toArray w (Post (fun _ : Unit => .bool true) (fun _ => L) (fun _ => R)) := by
  refine calls_args Try.func3 rfl Try.ntmps3 rfl hs ?_
  clear hs
  repeat refine jc_seq ?_
  refine jc_region ?_
  refine o q_as ?_
  refine J.nil ?_
  refine jx_then ?_
  repeat refine jc_seq ?_
  refine jc_region ?_
  refine li ([0, 1, 2, 3, 4, 5, 6, 7, 8] : List Int) eo_23 rfl (fun j _ => rd_ints (by unfold In64; decide)) ?_; intro v7
  have hxk : ∀ k, k < ([0, 1, 2, 3, 4, 5, 6, 7, 8] : List Int).length → ([0, 1, 2, 3, 4, 5, 6, 7, 8] : List Int).getD k 0 = (k : Int) := by decide
  have hxl : ([0, 1, 2, 3, 4, 5, 6, 7, 8] : List Int).length ≤ 100 := by decide
  generalize hxs : ([0, 1, 2, 3, 4, 5, 6, 7, 8] : List Int) = xs at hxk hxl ⊢
  refine o q_as ?_
  refine J.nil ?_
  refine jx_then ?_
  repeat refine jc_seq ?_
  refine jc_region ?_
  refine o q_mv ?_
  refine o (q_len Try.underlying23) ?_
  refine o q_mv ?_
  refine J.nil ?_
  refine jx_then ?_
  repeat refine jc_seq ?_
  refine jc_block ?_
  refine jc_loop (γ := Nat) (fun k => k ≤ xs.length) (fun _ => L) (fun _ => sl v7 xs :: R) (fun k => [(8, v7), (9, vi (xs.length : Int)), (10, vi (k : Int))]) (fun k => xs.length - k) 0 (Nat.zero_le _) alT (fun w hs => st_cut hs) ?_
  intro k hk
  repeat refine jc_seq ?_
  refine jc_region ?_
  refine o (q_in b_lss) ?_
  refine J.nil ?_
  refine jx_then ?_
  repeat refine jc_seq ?_
  first | refine cd (fun ht11 => ?_) (fun ht11 => ?_) | refine cb (fun ht11 => ?_) (fun ht11 => ?_)
  ·
    refine jc_skip ?_
    refine jx_then ?_
    repeat refine jc_seq ?_
    refine jc_block ?_
    repeat refine jc_seq ?_
    refine JC.open0 (xs := xs) (v := v7) k mm (by omega) (fun _ => ?_)
    refine jc_region ?_
    refine o q_mv ?_
    first | refine o (q_iN so_23) ?_ | refine o (q_iI so_23) ?_
    refine o (q_l1 Try.isAgg22) ?_
    refine o q_as ?_
    refine o q_as ?_
    refine J.nil ?_
    refine jx_then ?_
    repeat refine jc_seq ?_
    refine jc_region ?_
    refine o q_mv ?_
    refine o q_mv ?_
    refine o (p_int rfl rfl (b_neq_F (hxk k (by omega)))) ?_
    refine J.nil ?_
    refine jx_then ?_
    refine cF_ ?_
    refine jc_skip ?_
    refine jx_block ?_
    refine jx_then ?_
    refine jc_region ?_
    first | refine o (q_addN) ?_ | refine o (q_add) ?_
    refine o q_mv ?_
    refine J.nil ?_
    refine jx_head (k + 1) (by omega) (by omega) alT (fun w hs => st_cut hs)
  ·
    refine jc_exit ?_
    repeat (first | refine jx_thenExit ?_ | refine jx_blockMiss rfl ?_)
    refine jx_blockHit ?_
    refine jx_then ?_
    repeat refine jc_seq ?_
    refine jc_region ?_
    refine li ([4, 4, 40, 300, 12, 255, 65535, 1, 2, 3, 4, 5, 6, 7, 8, 9, 10, 11, 0, 1, 2, 3, 1, 2, 3, 4, 0, 1, 2, 3, 1, 2, 3, 4, 5, 6, 12, 120] : List Int) eo_24 rfl (fun j _ => rd_ints (by unfold In64; decide)) ?_; intro v19
    refine o q_as ?_
    refine J.nil ?_
    refine jx_then ?_
    repeat refine jc_seq ?_
    refine jc_region ?_
    refine li ([4, 4, 40, 300, 12, 255, 65535, 1, 2, 3, 4, 5, 6, 7, 8, 9, 10, 11, 0, 1, 2, 3, 1, 2, 3, 4, 0, 1, 2, 3, 1, 2, 3, 4, 5, 6, 12, 120] : List Int) eo_24 rfl (fun j _ => rd_ints (by unfold In64; decide)) ?_; intro v20
    have hyl : ([4, 4, 40, 300, 12, 255, 65535, 1, 2, 3, 4, 5, 6, 7, 8, 9, 10, 11, 0, 1, 2, 3, 1, 2, 3, 4, 0, 1, 2, 3, 1, 2, 3, 4, 5, 6, 12, 120] : List Int).length ≤ 100 := by decide
    generalize hys : ([4, 4, 40, 300, 12, 255, 65535, 1, 2, 3, 4, 5, 6, 7, 8, 9, 10, 11, 0, 1, 2, 3, 1, 2, 3, 4, 0, 1, 2, 3, 1, 2, 3, 4, 5, 6, 12, 120] : List Int) = ys at hyl ⊢
    refine o q_as ?_
    refine J.nil ?_
    refine jx_then ?_
    repeat refine jc_seq ?_
    refine jc_region ?_
    refine o q_mv ?_
    refine o (q_len Try.underlying24) ?_
    refine o q_mv ?_
    refine J.nil ?_
    refine jx_then ?_
    repeat refine jc_seq ?_
    refine jc_block ?_
    refine jc_loop (γ := Nat) (fun k => k ≤ ys.length) (fun _ => L) (fun _ => sl v20 ys :: sl v19 ys :: R) (fun k => [(4, v19), (21, v20), (5, v20), (22, vi (ys.length : Int)), (23, vi (k : Int))]) (fun k => ys.length - k) 0 (Nat.zero_le _) alT (fun w hs => st_cut hs) ?_
    intro k hk
    repeat refine jc_seq ?_
    refine jc_region ?_
    refine o (q_in b_lss) ?_
    refine J.nil ?_
    refine jx_then ?_
    repeat refine jc_seq ?_
    first | refine cd (fun ht24 => ?_) (fun ht24 => ?_) | refine cb (fun ht24 => ?_) (fun ht24 => ?_)
    ·
      refine jc_skip ?_
      refine jx_then ?_
      repeat refine jc_seq ?_
      refine jc_block ?_
      repeat refine jc_seq ?_
      refine jc_region ?_
      refine o q_mv ?_
      refine o q_as ?_
      refine J.nil ?_
      refine jx_then ?_
      repeat refine jc_seq ?_
      refine JC.open0 (xs := ys) (v := v19) k mm (by omega) (fun _ => ?_)
      refine JC.open0 (xs := ys) (v := v20) k mm (by omega) (fun _ => ?_)
      refine jc_draw mixed (by kernel_rfl) (by kernel_rfl) (fun _ _ => _) (fun _ => rfl) ?_
      refine dj ?_
      first | refine dc (fun _ _ => q_mv) ?_
      refine dj ?_
      first | refine dc (fun _ _ => q_mv) ?_
      refine dj ?_
      first | refine dc (fun _ _ => q_iN so_24) ?_ | refine dc (fun _ _ => q_iI so_24) ?_
      refine dj ?_
      first | refine dc (fun _ _ => q_l1 Try.isAgg3) ?_
      refine dj ?_
      first | refine dc (fun _ _ => q_mv) ?_
      refine dj ?_
      first | refine dc (fun _ _ => q_mv) ?_
      refine dj ?_
      first | refine dc (fun _ _ => q_iN so_24) ?_ | refine dc (fun _ _ => q_iI so_24) ?_
      refine dj ?_
      first | refine dc (fun _ _ => q_l1 Try.isAgg3) ?_
      refine dj ?_
      first | refine dc (fun _ _ => p_int rfl rfl (b_neq_F rfl)) ?_
      refine d_nilC ?_; intro ρ; simp only [chunks, facts, alOf, List.append_nil, List.nil_append, List.cons_append]
      refine jx_then ?_
      refine cF_ ?_
      refine jc_skip ?_
      refine jx_block ?_
      refine jx_then ?_
      refine jc_region ?_
      first | refine o (q_addN) ?_ | refine o (q_add) ?_
      refine o q_mv ?_
      refine J.nil ?_
      refine jx_head (k + 1) (by omega) (by omega) alT (fun w hs => st_cut hs)
    ·
      refine jc_exit ?_
      repeat (first | refine jx_thenExit ?_ | refine jx_blockMiss rfl ?_)
      refine jx_blockHit ?_
      refine jx_then ?_
      repeat refine jc_seq ?_
      refine jc_region ?_
      refine o q_as ?_
      refine J.nil ?_
      refine jx_then ?_
      refine jc_ret ?_
      repeat (first | refine jx_thenRet ?_ | refine jx_blockRet ?_)
      refine jx_body (.inr rfl) (fun B w hs => res1 rfl rfl B w) (fun w hs => ⟨(), ?_, st_cut hs⟩)
      rfl
end Go.Proofs.Ythnokijkdobdfaa
