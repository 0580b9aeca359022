/- This file proves what net.Take, Twice, Spoil and their twins compute. No conditions. -/
import Derived.Test.YtofgpimoekhfaaaFacts
import Derived.Test.YtofgpimoekhfaaaNet2
set_option linter.unusedVariables false
set_option linter.unusedSimpArgs false
set_option maxHeartbeats 1000000
namespace Go.Proofs.Ytofgpimoekhfaaa
open Go
theorem netTake_ {L : List Chunk} {R : List Fact} {w : World} {v0 : Value} {l : Frames} {n : Int} (hs : St (L) R w) (h0 : sl v0 l ∈ R) (hn : In64 n) : Calls Try.prog 22 [v0, vi n].toArray w (Post (fun v : Value × Value => .tuple #[v.1, v.2, vi (netTake l n).2.2]) (fun v => row 23 v.1 (netTake l n).1 :: L) (fun v => sl v.2 (netTake l n).2.1 :: R)) := by
  have hlen := sl_len h0 hs
  unfold In64 at hn
  refine calls_args Try.func22 rfl Try.ntmps22 rfl hs ?_
  clear hs
  repeat refine jc_seq ?_
  refine jc_region ?_
  refine o q_as ?_
  refine o q_as ?_
  refine o q_as ?_
  refine J.nil ?_
  refine jx_then ?_
  repeat refine jc_seq ?_
  rcases (show (n < 0) ∨ (¬ n < 0 ∧ (l.length : Int) ≤ n) ∨ (0 ≤ n ∧ n < (l.length : Int)) from by omega) with hc | hc | hc
  ·
    refine jc_region ?_
    refine o q_mv ?_
    refine o (p_int rfl rfl (b_lss_T (by omega))) ?_
    refine o q_mv ?_
    refine gn ?_
    refine gn ?_
    refine gn ?_
    refine gn ?_
    refine o q_pT ?_
    refine J.nil ?_
    refine jx_then ?_
    repeat refine jc_seq ?_
    refine cT ?_
    repeat refine jc_seq ?_
    refine jc_region ?_
    refine o q_as ?_
    refine o q_as ?_
    refine o q_as ?_
    refine J.nil ?_
    refine jx_then ?_
    refine jc_ret ?_
    repeat (first | refine jx_thenRet ?_ | refine jx_blockRet ?_)
    have er : netTake l n = ([], [], 5) := by unfold netTake; rw [if_pos (by omega)]
    rw [er]
    refine jx_body (.inr rfl) (fun B w hs => res3 rfl rfl rfl rfl B w) (fun w hs => ⟨(.slice none 0 0, .slice none 0 0), ?_, st_cut (St.shut (((hs.rowNil 23 (List UInt8)).rowNil 5 UInt8)))⟩)
    rfl
  ·
    refine jc_region ?_
    refine o q_mv ?_
    refine o (p_int rfl rfl (b_lss_F (by omega))) ?_
    refine o q_mv ?_
    refine gy ?_
    refine o q_mv ?_
    refine gy ?_
    refine o q_mv ?_
    refine gy ?_
    refine o (q_len Try.underlying22) ?_
    refine gy ?_
    refine o (p_int rfl rfl (b_geq_T (by omega))) ?_
    refine o q_pF ?_
    refine J.nil ?_
    refine jx_then ?_
    repeat refine jc_seq ?_
    refine cT ?_
    repeat refine jc_seq ?_
    refine jc_region ?_
    refine o q_as ?_
    refine o q_as ?_
    refine o q_as ?_
    refine J.nil ?_
    refine jx_then ?_
    refine jc_ret ?_
    repeat (first | refine jx_thenRet ?_ | refine jx_blockRet ?_)
    have er : netTake l n = ([], [], 5) := by unfold netTake; rw [if_pos (by omega)]
    rw [er]
    refine jx_body (.inr rfl) (fun B w hs => res3 rfl rfl rfl rfl B w) (fun w hs => ⟨(.slice none 0 0, .slice none 0 0), ?_, st_cut (St.shut (((hs.rowNil 23 (List UInt8)).rowNil 5 UInt8)))⟩)
    rfl
  ·
    refine jc_region ?_
    refine o q_mv ?_
    refine o (p_int rfl rfl (b_lss_F (by omega))) ?_
    refine o q_mv ?_
    refine gy ?_
    refine o q_mv ?_
    refine gy ?_
    refine o q_mv ?_
    refine gy ?_
    refine o (q_len Try.underlying22) ?_
    refine gy ?_
    refine o (p_int rfl rfl (b_geq_F (by omega))) ?_
    refine o q_pF ?_
    refine J.nil ?_
    refine jx_then ?_
    repeat refine jc_seq ?_
    refine cF_ ?_
    refine jc_skip ?_
    refine jx_then ?_
    repeat refine jc_seq ?_
    refine jc_region ?_
    refine o q_mv ?_
    refine r_call Try.call19 rfl (fun w hs => netOwn hs mm) ?_; intro v18
    refine o q_as ?_
    refine J.nil ?_
    refine jx_then ?_
    repeat refine jc_seq ?_
    refine jc_region ?_
    refine o q_mv ?_
    refine o q_mv ?_
    refine o (q_iI so_22) ?_
    refine l_Sr Try.isAgg23 rfl .hd (by omega) ?_; intro v22
    refine o q_as ?_
    refine J.nil ?_
    refine jx_then ?_
    repeat refine jc_seq ?_
    refine jc_region ?_
    refine o q_mv ?_
    refine o q_mv ?_
    refine o q_mv ?_
    refine o q_add ?_
    rw [show n + 1 = ((n.toNat + 1 : Nat) : Int) by omega]
    refine r_call Try.call62 rfl (fun w hs => by have h := netDelete (i := n.toNat) (st_take hs) (by omega); rw [Int.toNat_of_nonneg (by omega)] at h; exact h) ?_; intro v27
    refine o q_mv ?_
    refine o q_as ?_
    refine o q_as ?_
    refine o q_as ?_
    refine J.nil ?_
    refine jx_then ?_
    refine jc_ret ?_
    repeat (first | refine jx_thenRet ?_ | refine jx_blockRet ?_)
    have er : netTake l n = (l.eraseIdx n.toNat, netAt l n, 0) := by unfold netTake; rw [if_neg (by omega)]
    rw [er]
    refine jx_body (.inr rfl) (fun B w hs => res3 rfl rfl rfl rfl B w) (fun w hs => ⟨(v27, v22), ?_, st_cut hs⟩)
    rfl
def outF (l : Frames) (n : Nat) (k : Nat) : Frames := (l.take k).eraseIdx n
theorem outF_all {l : Frames} {n k : Nat} (h : k = l.length) : outF l n k = l.eraseIdx n := by unfold outF; rw [h, List.take_length]
theorem outF_ne {l : Frames} {n k : Nat} (h : k < l.length) (hn : k ≠ n) : outF l n (k + 1) = outF l n k ++ [l.getD k []] := by
  unfold outF
  rw [takeS [] h]
  by_cases h' : n < k
  · rw [List.eraseIdx_append_of_lt_length (by rw [List.length_take]; omega)]
  · rw [List.eraseIdx_of_length_le (by simp; omega), List.eraseIdx_of_length_le (by simp; omega)]
theorem outF_len (l : Frames) (n k : Nat) : (outF l n k).length ≤ k := by
  unfold outF; rw [List.length_eraseIdx]
  split <;> rw [List.length_take] <;> omega
theorem outF_eq {l : Frames} {n k : Nat} (h : k < l.length) (hn : k = n) : outF l n (k + 1) = outF l n k := by
  unfold outF
  subst hn
  rw [takeS [] h, List.eraseIdx_append_of_length_le (by rw [List.length_take]; omega), List.length_take, Nat.min_eq_left (by omega), Nat.sub_self, List.eraseIdx_of_length_le (l := l.take k) (by rw [List.length_take]; omega)]
  simp
theorem refTake {L : List Chunk} {R : List Fact} {w : World} {v0 : Value} {l : Frames} {n : Int} (hs : St (L) R w) (h0 : sl v0 l ∈ R) (hn : In64 n) : Calls Try.prog 23 [v0, vi n].toArray w (Post (fun v : Value × Value => .tuple #[v.1, v.2, vi (netTake l n).2.2]) (fun v => L) (fun v => sl v.1 (netTake l n).1 :: sl v.2 (netTake l n).2.1 :: R)) := by
  have hlen := sl_len h0 hs
  unfold In64 at hn
  refine calls_args Try.func23 rfl Try.ntmps23 rfl hs ?_
  clear hs
  repeat refine jc_seq ?_
  refine jc_region ?_
  refine o q_as ?_
  refine o q_as ?_
  refine o q_as ?_
  refine J.nil ?_
  refine jx_then ?_
  repeat refine jc_seq ?_
  rcases (show (n < 0) ∨ (¬ n < 0 ∧ (l.length : Int) ≤ n) ∨ (0 ≤ n ∧ n < (l.length : Int)) from by omega) with hc | hc | hc
  ·
    refine jc_region ?_
    refine o q_mv ?_
    refine o (p_int rfl rfl (b_lss_T (by omega))) ?_
    refine o q_mv ?_
    refine gn ?_
    refine gn ?_
    refine gn ?_
    refine gn ?_
    refine o q_pT ?_
    refine J.nil ?_
    refine jx_then ?_
    repeat refine jc_seq ?_
    refine cT ?_
    repeat refine jc_seq ?_
    refine jc_region ?_
    refine o q_as ?_
    refine o q_as ?_
    refine o q_as ?_
    refine J.nil ?_
    refine jx_then ?_
    refine jc_ret ?_
    repeat (first | refine jx_thenRet ?_ | refine jx_blockRet ?_)
    have er : netTake l n = ([], [], 5) := by unfold netTake; rw [if_pos (by omega)]
    rw [er]
    refine jx_body (.inr rfl) (fun B w hs => res3 rfl rfl rfl rfl B w) (fun w hs => ⟨(.slice none 0 0, .slice none 0 0), ?_, st_cut (St.shut (St.rowNil 23 (List UInt8) (St.shut (hs.rowNil 5 UInt8))))⟩)
    rfl
  ·
    refine jc_region ?_
    refine o q_mv ?_
    refine o (p_int rfl rfl (b_lss_F (by omega))) ?_
    refine o q_mv ?_
    refine gy ?_
    refine o q_mv ?_
    refine gy ?_
    refine o q_mv ?_
    refine gy ?_
    refine o (q_len Try.underlying22) ?_
    refine gy ?_
    refine o (p_int rfl rfl (b_geq_T (by omega))) ?_
    refine o q_pF ?_
    refine J.nil ?_
    refine jx_then ?_
    repeat refine jc_seq ?_
    refine cT ?_
    repeat refine jc_seq ?_
    refine jc_region ?_
    refine o q_as ?_
    refine o q_as ?_
    refine o q_as ?_
    refine J.nil ?_
    refine jx_then ?_
    refine jc_ret ?_
    repeat (first | refine jx_thenRet ?_ | refine jx_blockRet ?_)
    have er : netTake l n = ([], [], 5) := by unfold netTake; rw [if_pos (by omega)]
    rw [er]
    refine jx_body (.inr rfl) (fun B w hs => res3 rfl rfl rfl rfl B w) (fun w hs => ⟨(.slice none 0 0, .slice none 0 0), ?_, st_cut (St.shut (St.rowNil 23 (List UInt8) (St.shut (hs.rowNil 5 UInt8))))⟩)
    rfl
  ·
    refine jc_region ?_
    refine o q_mv ?_
    refine o (p_int rfl rfl (b_lss_F (by omega))) ?_
    refine o q_mv ?_
    refine gy ?_
    refine o q_mv ?_
    refine gy ?_
    refine o q_mv ?_
    refine gy ?_
    refine o (q_len Try.underlying22) ?_
    refine gy ?_
    refine o (p_int rfl rfl (b_geq_F (by omega))) ?_
    refine o q_pF ?_
    refine J.nil ?_
    refine jx_then ?_
    repeat refine jc_seq ?_
    refine cF_ ?_
    refine jc_skip ?_
    refine jx_then ?_
    repeat refine jc_seq ?_
    refine jc_region ?_
    refine o q_as ?_
    refine J.nil ?_
    refine jx_then ?_
    repeat refine jc_seq ?_
    refine jc_region ?_
    refine o q_mv ?_
    refine o (q_len Try.underlying22) ?_
    refine o q_mv ?_
    refine J.nil ?_
    refine jx_then ?_
    repeat refine jc_seq ?_
    refine jc_block ?_
    refine JC.rowNil 23 (List UInt8) ?_
    refine jc_loop (γ := Nat × Value) (fun g => g.1 ≤ l.length) (fun g => row 23 g.2 (outF l n.toNat g.1) :: L) (fun _ => R) (fun g => [(0, v0), (1, vi n), (7, g.2), (18, v0), (19, vi (l.length : Int)), (20, vi (g.1 : Int))]) (fun g => l.length - g.1) (0, .slice none 0 0) (Nat.zero_le _) alT (fun w hs => hs) ?_
    rintro ⟨k, vs⟩ hk
    try simp only at hk ⊢
    repeat refine jc_seq ?_
    refine jc_region ?_
    refine o (q_in b_lss) ?_
    refine J.nil ?_
    refine jx_then ?_
    repeat refine jc_seq ?_
    first | refine cd (fun ht21 => ?_) (fun ht21 => ?_) | refine cb (fun ht21 => ?_) (fun ht21 => ?_)
    ·
      refine jc_skip ?_
      refine jx_then ?_
      repeat refine jc_seq ?_
      refine jc_block ?_
      repeat refine jc_seq ?_
      refine JC.open1 (xs := l) k mm (by omega) (fun _ u => ?_)
      refine jc_region ?_
      refine o q_mv ?_
      first | refine o (q_iN so_22) ?_ | refine o (q_iI so_22) ?_
      refine o (q_l1 Try.isAgg23) ?_
      refine o q_as ?_
      refine o q_as ?_
      refine J.nil ?_
      refine jx_then ?_
      repeat refine jc_seq ?_
      refine jc_region ?_
      refine o q_mv ?_
      refine o q_mv ?_
      refine o (q_in b_neD) ?_
      refine J.nil ?_
      refine jx_then ?_
      first | refine cd (fun ht27 => ?_) (fun ht27 => ?_) | refine cb (fun ht27 => ?_) (fun ht27 => ?_)
      ·
        refine jc_region ?_
        refine o q_mv ?_
        refine o q_mv ?_
        refine li [_] eo_22 rfl rd_sl ?_; intro v30
        refine ap eo_22 (hb := fun w hs => by have : maxN = 16777216 := rfl; have h9 := outF_len l n.toNat k; simp only [List.length_cons, List.length_nil]; omega) (k := ?_); intro v31
        refine o q_as ?_
        refine J.nil ?_
        refine jx_block ?_
        refine jx_then ?_
        refine jc_region ?_
        first | refine o (q_addN) ?_ | refine o (q_add) ?_
        refine o q_mv ?_
        refine J.nil ?_
        refine jx_head (k + 1, v31) (by show k + 1 ≤ l.length; omega) (by show l.length - (k + 1) < l.length - k; omega) alT (fun w hs => ?_)
        try simp only
        rw [outF_ne (by omega) (by omega)]; exact st_cut hs
      ·
        refine jc_skip ?_
        refine jx_block ?_
        refine jx_then ?_
        refine jc_region ?_
        first | refine o (q_addN) ?_ | refine o (q_add) ?_
        refine o q_mv ?_
        refine J.nil ?_
        refine jx_head (k + 1, vs) (by show k + 1 ≤ l.length; omega) (by show l.length - (k + 1) < l.length - k; omega) alT (fun w hs => ?_)
        try simp only
        rw [outF_eq (by omega) (by omega)]; exact st_cut hs
    ·
      refine jc_exit ?_
      repeat (first | refine jx_thenExit ?_ | refine jx_blockMiss rfl ?_)
      refine jx_blockHit ?_
      refine jx_then ?_
      repeat refine jc_seq ?_
      refine JC.open1 (xs := l) n.toNat mm (by omega) (fun _ u => ?_)
      refine jc_draw mixed (by kernel_rfl) (by kernel_rfl) (fun _ _ => _) (fun _ => rfl) ?_
      refine dj ?_
      first | refine dc (fun _ _ => q_mv) ?_
      refine dj ?_
      first | refine dc (fun _ _ => q_mv) ?_
      refine dj ?_
      first | refine dc (fun _ _ => q_mv) ?_
      refine dj ?_
      first | refine dc (fun _ _ => q_iN so_22) ?_ | refine dc (fun _ _ => q_iI so_22) ?_
      refine dj ?_
      first | refine dc (fun _ _ => q_l1 Try.isAgg23) ?_
      refine dj ?_
      first | refine dc (fun _ _ => q_as) ?_
      refine dj ?_
      first | refine dc (fun _ _ => q_as) ?_
      refine dj ?_
      first | refine dc (fun _ _ => q_as) ?_
      refine d_nilC ?_; intro ρ; simp only [chunks, facts, alOf, List.append_nil, List.nil_append, List.cons_append]
      refine jx_then ?_
      refine jc_ret ?_
      repeat (first | refine jx_thenRet ?_ | refine jx_blockRet ?_)
      have er : netTake l n = (l.eraseIdx n.toNat, netAt l n, 0) := by unfold netTake; rw [if_neg (by omega)]
      rw [er]
      refine jx_body (.inr rfl) (fun B w hs => res3 rfl rfl rfl rfl B w) (fun w hs => ⟨(vs, u), ?_, by rw [outF_all (show k = l.length by omega)] at hs; exact st_cut (St.shut hs)⟩)
      rfl
theorem netTwice_ {L : List Chunk} {R : List Fact} {w : World} {v0 : Value} {l : Frames} {n : Int} (hs : St (L) R w) (h0 : sl v0 l ∈ R) (hn : In64 n) : Calls Try.prog 24 [v0, vi n].toArray w (Post (fun v : Value => .tuple #[v, vi (netTwice l n).2]) (fun v => row 23 v (netTwice l n).1 :: L) (fun v => R)) := by
  have hlen := sl_len h0 hs
  unfold In64 at hn
  refine calls_args Try.func24 rfl Try.ntmps24 rfl hs ?_
  clear hs
  repeat refine jc_seq ?_
  refine jc_region ?_
  refine o q_as ?_
  refine o q_as ?_
  refine J.nil ?_
  refine jx_then ?_
  repeat refine jc_seq ?_
  rcases (show (n < 0) ∨ (¬ n < 0 ∧ (l.length : Int) ≤ n) ∨ (0 ≤ n ∧ n < (l.length : Int)) from by omega) with hc | hc | hc
  ·
    refine jc_region ?_
    refine o q_mv ?_
    refine o (p_int rfl rfl (b_lss_T (by omega))) ?_
    refine o q_mv ?_
    refine gn ?_
    refine gn ?_
    refine gn ?_
    refine gn ?_
    refine o q_pT ?_
    refine J.nil ?_
    refine jx_then ?_
    repeat refine jc_seq ?_
    refine cT ?_
    repeat refine jc_seq ?_
    refine jc_region ?_
    refine o q_as ?_
    refine o q_as ?_
    refine J.nil ?_
    refine jx_then ?_
    refine jc_ret ?_
    repeat (first | refine jx_thenRet ?_ | refine jx_blockRet ?_)
    have er : netTwice l n = ([], 5) := by unfold netTwice; rw [if_pos (by omega)]
    rw [er]
    refine jx_body (.inr rfl) (fun B w hs => res2 rfl rfl rfl B w) (fun w hs => ⟨.slice none 0 0, ?_, st_cut (hs.rowNil 23 (List UInt8))⟩)
    rfl
  ·
    refine jc_region ?_
    refine o q_mv ?_
    refine o (p_int rfl rfl (b_lss_F (by omega))) ?_
    refine o q_mv ?_
    refine gy ?_
    refine o q_mv ?_
    refine gy ?_
    refine o q_mv ?_
    refine gy ?_
    refine o (q_len Try.underlying22) ?_
    refine gy ?_
    refine o (p_int rfl rfl (b_geq_T (by omega))) ?_
    refine o q_pF ?_
    refine J.nil ?_
    refine jx_then ?_
    repeat refine jc_seq ?_
    refine cT ?_
    repeat refine jc_seq ?_
    refine jc_region ?_
    refine o q_as ?_
    refine o q_as ?_
    refine J.nil ?_
    refine jx_then ?_
    refine jc_ret ?_
    repeat (first | refine jx_thenRet ?_ | refine jx_blockRet ?_)
    have er : netTwice l n = ([], 5) := by unfold netTwice; rw [if_pos (by omega)]
    rw [er]
    refine jx_body (.inr rfl) (fun B w hs => res2 rfl rfl rfl B w) (fun w hs => ⟨.slice none 0 0, ?_, st_cut (hs.rowNil 23 (List UInt8))⟩)
    rfl
  ·
    refine jc_region ?_
    refine o q_mv ?_
    refine o (p_int rfl rfl (b_lss_F (by omega))) ?_
    refine o q_mv ?_
    refine gy ?_
    refine o q_mv ?_
    refine gy ?_
    refine o q_mv ?_
    refine gy ?_
    refine o (q_len Try.underlying22) ?_
    refine gy ?_
    refine o (p_int rfl rfl (b_geq_F (by omega))) ?_
    refine o q_pF ?_
    refine J.nil ?_
    refine jx_then ?_
    repeat refine jc_seq ?_
    refine cF_ ?_
    refine jc_skip ?_
    refine jx_then ?_
    repeat refine jc_seq ?_
    refine JC.open1 (xs := l) n.toNat mm (by omega) (fun _ u => ?_)
    refine jc_region ?_
    refine o q_mv ?_
    refine o q_mv ?_
    refine o q_mv ?_
    first | refine o (q_iN so_22) ?_ | refine o (q_iI so_22) ?_
    refine o (q_l1 Try.isAgg23) ?_
    refine r_call Try.call20 rfl (fun w hs => netSend_ hs mm mm) ?_; intro v19
    refine o q_as ?_
    refine o q_as ?_
    refine J.nil ?_
    refine jx_then ?_
    refine jc_ret ?_
    repeat (first | refine jx_thenRet ?_ | refine jx_blockRet ?_)
    have er : netTwice l n = (netSend l (netAt l n), 0) := by unfold netTwice; rw [if_neg (by omega)]
    rw [er]
    refine jx_body (.inr rfl) (fun B w hs => res2 rfl rfl rfl B w) (fun w hs => ⟨v19, ?_, st_cut hs⟩)
    rfl
theorem netSpoil_ {L : List Chunk} {R : List Fact} {w : World} {v0 : Value} {l : Frames} {n bit : Int} (hs : St (L) R w) (h0 : sl v0 l ∈ R) (hn : In64 n) (hbit : In64 bit) : Calls Try.prog 25 [v0, vi n, vi bit].toArray w (Post (fun v : Value => .tuple #[v, vi (netSpoil l n bit).2]) (fun v => row 23 v (netSpoil l n bit).1 :: L) (fun v => R)) := by
  have hlen := sl_len h0 hs
  unfold In64 at hn
  refine calls_args Try.func25 rfl Try.ntmps25 rfl hs ?_
  clear hs
  repeat refine jc_seq ?_
  refine jc_region ?_
  refine o q_as ?_
  refine o q_as ?_
  refine J.nil ?_
  refine jx_then ?_
  repeat refine jc_seq ?_
  rcases (show (n < 0) ∨ (¬ n < 0 ∧ (l.length : Int) ≤ n) ∨ (0 ≤ n ∧ n < (l.length : Int)) from by omega) with hc | hc | hc
  ·
    refine jc_region ?_
    refine o q_mv ?_
    refine o (p_int rfl rfl (b_lss_T (by omega))) ?_
    refine o q_mv ?_
    refine gn ?_
    refine gn ?_
    refine gn ?_
    refine gn ?_
    refine o q_pT ?_
    refine J.nil ?_
    refine jx_then ?_
    repeat refine jc_seq ?_
    refine cT ?_
    repeat refine jc_seq ?_
    refine jc_region ?_
    refine o q_as ?_
    refine o q_as ?_
    refine J.nil ?_
    refine jx_then ?_
    refine jc_ret ?_
    repeat (first | refine jx_thenRet ?_ | refine jx_blockRet ?_)
    have er : netSpoil l n bit = ([], 5) := by unfold netSpoil; rw [if_pos (by omega)]
    rw [er]
    refine jx_body (.inr rfl) (fun B w hs => res2 rfl rfl rfl B w) (fun w hs => ⟨.slice none 0 0, ?_, st_cut (hs.rowNil 23 (List UInt8))⟩)
    rfl
  ·
    refine jc_region ?_
    refine o q_mv ?_
    refine o (p_int rfl rfl (b_lss_F (by omega))) ?_
    refine o q_mv ?_
    refine gy ?_
    refine o q_mv ?_
    refine gy ?_
    refine o q_mv ?_
    refine gy ?_
    refine o (q_len Try.underlying22) ?_
    refine gy ?_
    refine o (p_int rfl rfl (b_geq_T (by omega))) ?_
    refine o q_pF ?_
    refine J.nil ?_
    refine jx_then ?_
    repeat refine jc_seq ?_
    refine cT ?_
    repeat refine jc_seq ?_
    refine jc_region ?_
    refine o q_as ?_
    refine o q_as ?_
    refine J.nil ?_
    refine jx_then ?_
    refine jc_ret ?_
    repeat (first | refine jx_thenRet ?_ | refine jx_blockRet ?_)
    have er : netSpoil l n bit = ([], 5) := by unfold netSpoil; rw [if_pos (by omega)]
    rw [er]
    refine jx_body (.inr rfl) (fun B w hs => res2 rfl rfl rfl B w) (fun w hs => ⟨.slice none 0 0, ?_, st_cut (hs.rowNil 23 (List UInt8))⟩)
    rfl
  ·
    refine jc_region ?_
    refine o q_mv ?_
    refine o (p_int rfl rfl (b_lss_F (by omega))) ?_
    refine o q_mv ?_
    refine gy ?_
    refine o q_mv ?_
    refine gy ?_
    refine o q_mv ?_
    refine gy ?_
    refine o (q_len Try.underlying22) ?_
    refine gy ?_
    refine o (p_int rfl rfl (b_geq_F (by omega))) ?_
    refine o q_pF ?_
    refine J.nil ?_
    refine jx_then ?_
    repeat refine jc_seq ?_
    refine cF_ ?_
    refine jc_skip ?_
    refine jx_then ?_
    repeat refine jc_seq ?_
    refine JC.open1 (xs := l) n.toNat mm (by omega) (fun _ u => ?_)
    refine JC.know (p := (l.getD n.toNat []).length ≤ 16777216) (fun w hs => sl_len (α := UInt8) (v := u) (.tail _ (.head _)) hs) (fun hlb => ?_)
    rcases (show (bit < 0) ∨ (¬ bit < 0 ∧ 8 * ((l.getD n.toNat []).length : Int) ≤ bit) ∨ (0 ≤ bit ∧ bit < 8 * ((l.getD n.toNat []).length : Int)) from by omega) with hc | hc | hc
    ·
      refine jc_region ?_
      refine o q_mv ?_
      refine o (p_int rfl rfl (b_lss_T (by omega))) ?_
      refine o q_mv ?_
      refine gn ?_
      refine gn ?_
      refine gn ?_
      refine gn ?_
      refine gn ?_
      refine gn ?_
      refine gn ?_
      refine gn ?_
      refine o q_pT ?_
      refine J.nil ?_
      refine jx_then ?_
      repeat refine jc_seq ?_
      refine cT ?_
      repeat refine jc_seq ?_
      refine jc_region ?_
      refine o q_as ?_
      refine o q_as ?_
      refine J.nil ?_
      refine jx_then ?_
      refine jc_ret ?_
      repeat (first | refine jx_thenRet ?_ | refine jx_blockRet ?_)
      have er : netSpoil l n bit = ([], 3) := by unfold netSpoil netAt; rw [if_neg (by omega), if_pos (by omega)]
      rw [er]
      refine jx_body (.inr rfl) (fun B w hs => res2 rfl rfl rfl B w) (fun w hs => ⟨.slice none 0 0, ?_, st_cut (hs.rowNil 23 (List UInt8))⟩)
      rfl
    ·
      refine jc_region ?_
      refine o q_mv ?_
      refine o (p_int rfl rfl (b_lss_F (by omega))) ?_
      refine o q_mv ?_
      refine gy ?_
      refine o q_mv ?_
      refine gy ?_
      refine o q_mv ?_
      refine gy ?_
      refine o q_mv ?_
      refine gy ?_
      first | refine o (q_iN so_22) ?_ | refine o (q_iI so_22) ?_
      refine gy ?_
      refine o (q_l1 Try.isAgg23) ?_
      refine gy ?_
      refine o (q_len Try.underlying23) ?_
      refine gy ?_
      refine o (p_int (a := 8) (b := ((l.getD n.toNat []).length : Int)) rfl rfl (b_mul (by omega) (by omega))) ?_
      refine gy ?_
      refine o (p_int rfl rfl (b_geq_T (by omega))) ?_
      refine o q_pF ?_
      refine J.nil ?_
      refine jx_then ?_
      repeat refine jc_seq ?_
      refine cT ?_
      repeat refine jc_seq ?_
      refine jc_region ?_
      refine o q_as ?_
      refine o q_as ?_
      refine J.nil ?_
      refine jx_then ?_
      refine jc_ret ?_
      repeat (first | refine jx_thenRet ?_ | refine jx_blockRet ?_)
      have er : netSpoil l n bit = ([], 3) := by unfold netSpoil netAt; rw [if_neg (by omega), if_pos (by omega)]
      rw [er]
      refine jx_body (.inr rfl) (fun B w hs => res2 rfl rfl rfl B w) (fun w hs => ⟨.slice none 0 0, ?_, st_cut (hs.rowNil 23 (List UInt8))⟩)
      rfl
    ·
      refine jc_region ?_
      refine o q_mv ?_
      refine o (p_int rfl rfl (b_lss_F (by omega))) ?_
      refine o q_mv ?_
      refine gy ?_
      refine o q_mv ?_
      refine gy ?_
      refine o q_mv ?_
      refine gy ?_
      refine o q_mv ?_
      refine gy ?_
      first | refine o (q_iN so_22) ?_ | refine o (q_iI so_22) ?_
      refine gy ?_
      refine o (q_l1 Try.isAgg23) ?_
      refine gy ?_
      refine o (q_len Try.underlying23) ?_
      refine gy ?_
      refine o (p_int (a := 8) (b := ((l.getD n.toNat []).length : Int)) rfl rfl (b_mul (by omega) (by omega))) ?_
      refine gy ?_
      refine o (p_int rfl rfl (b_geq_F (by omega))) ?_
      refine o q_pF ?_
      refine J.nil ?_
      refine jx_then ?_
      repeat refine jc_seq ?_
      refine cF_ ?_
      refine jc_skip ?_
      refine jx_then ?_
      repeat refine jc_seq ?_
      refine jc_region ?_
      refine o q_mv ?_
      refine r_call Try.call19 rfl (fun w hs => netOwn hs mm) ?_; intro v30
      refine o q_as ?_
      refine J.nil ?_
      refine jx_then ?_
      repeat refine jc_seq ?_
      refine jc_region ?_
      refine o q_mv ?_
      refine o q_mv ?_
      refine o q_mv ?_
      refine o q_mv ?_
      refine o (q_iI so_22) ?_
      refine l_Sr Try.isAgg23 rfl .hd (by omega) ?_; intro v36
      refine o q_mv ?_
      refine r_call Try.call63 rfl (fun w hs => frameTurn_calls (bit := bit) hs mm hbit) ?_; intro v38
      refine o (q_iI so_22) ?_
      refine s_Sr Try.sizeOf23 rfl rfl mm .hd (by omega) ?_
      refine J.nil ?_
      refine jx_then ?_
      repeat refine jc_seq ?_
      refine kp [6, 7, 8, 40] ?_
      refine jc_region ?_
      refine o q_mv ?_
      refine o q_as ?_
      refine o q_as ?_
      refine J.nil ?_
      refine jx_then ?_
      refine jc_ret ?_
      repeat (first | refine jx_thenRet ?_ | refine jx_blockRet ?_)
      have er : netSpoil l n bit = (l.set n.toNat (bitTurn (netAt l n) bit), 0) := by unfold netSpoil netAt; rw [if_neg (by omega), if_neg (by omega)]
      rw [er]
      refine jx_body (.inr rfl) (fun B w hs => res2 rfl rfl rfl B w) (fun w hs => ⟨v30, ?_, st_cut hs⟩)
      rfl
end Go.Proofs.Ytofgpimoekhfaaa
