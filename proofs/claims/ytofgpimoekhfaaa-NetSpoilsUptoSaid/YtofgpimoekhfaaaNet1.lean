/- This file proves what net.Own, Send, and copies of slices compute. No conditions. -/
import Derived.Test.YtofgpimoekhfaaaFacts
import Derived.Test.YtofgpimoekhfaaaAuto2
set_option linter.unusedVariables false
set_option linter.unusedSimpArgs false
set_option maxHeartbeats 1000000
namespace Go.Proofs.Ytofgpimoekhfaaa
open Go
theorem cloneBytes {L : List Chunk} {R : List Fact} {w : World} {v0 : Value} {xs : List UInt8} (hs : St (L) R w) (h0 : sl v0 xs ∈ R) : Calls Try.prog 61 [v0].toArray w (Post (fun v : Value => v) (fun v => row 5 v xs :: L) (fun v => R)) := by
  refine calls_args Try.func61 rfl Try.ntmps61 rfl hs ?_
  clear hs
  repeat refine jc_seq ?_
  refine jc_region ?_
  refine o q_as ?_
  refine J.nil ?_
  refine jx_then ?_
  repeat refine jc_seq ?_
  refine jc_region ?_
  refine o q_mv ?_
  refine o (q_nil Try.underlying23 (len_sl h0)) ?_
  refine J.nil ?_
  refine jx_then ?_
  repeat refine jc_seq ?_
  first | refine cd (fun ht4 => ?_) (fun ht4 => ?_) | refine cb (fun ht4 => ?_) (fun ht4 => ?_)
  ·
    refine JC.nilOf ht4 h0 (fun hx => ?_)
    repeat refine jc_seq ?_
    refine jc_region ?_
    refine o q_as ?_
    refine J.nil ?_
    refine jx_then ?_
    refine jc_ret ?_
    repeat (first | refine jx_thenRet ?_ | refine jx_blockRet ?_)
    refine jx_body (.inr rfl) (fun B w hs => res1 rfl rfl B w) (fun w hs => ⟨.slice none 0 0, ?_, by rw [hx]; exact st_cut (hs.rowNil 5 UInt8)⟩)
    rfl
  ·
    refine jc_skip ?_
    refine jx_then ?_
    repeat refine jc_seq ?_
    refine jc_region ?_
    refine liO ([] : List UInt8) eo_23 rfl (fun j h => rd_nil) ?_; intro v5
    refine o q_mv ?_
    refine ap eo_23 (hb := fun w hs => by have := sl_len h0 hs; have : maxN = 16777216 := rfl; simp; omega) (k := ?_); intro v7
    refine o q_as ?_
    refine J.nil ?_
    refine jx_then ?_
    refine jc_ret ?_
    repeat (first | refine jx_thenRet ?_ | refine jx_blockRet ?_)
    refine jx_body (.inr rfl) (fun B w hs => res1 rfl rfl B w) (fun w hs => ⟨v7, ?_, st_cut hs⟩)
    rfl
theorem netOwn {L : List Chunk} {R : List Fact} {w : World} {v0 : Value} {l : Frames} (hs : St (L) R w) (h0 : sl v0 l ∈ R) : Calls Try.prog 19 [v0].toArray w (Post (fun v : Value => v) (fun v => row 23 v l :: L) (fun v => R)) := by
  have hlen := sl_len h0 hs
  refine calls_args Try.func19 rfl Try.ntmps19 rfl hs ?_
  clear hs
  repeat refine jc_seq ?_
  refine jc_region ?_
  refine o q_as ?_
  refine J.nil ?_
  refine jx_then ?_
  repeat refine jc_seq ?_
  refine jc_region ?_
  refine o q_as ?_
  refine J.nil ?_
  refine jx_then ?_
  repeat refine jc_seq ?_
  refine jc_region ?_
  refine o q_mv ?_
  refine o (q_len Try.underlying22) ?_
  refine o q_mv ?_
  refine J.nil ?_
  refine jx_then ?_
  repeat refine jc_seq ?_
  refine jc_block ?_
  refine JC.rowNil 23 (List UInt8) ?_
  refine jc_loop (γ := Nat × Value) (fun g => g.1 ≤ l.length) (fun g => row 23 g.2 (l.take g.1) :: L) (fun _ => R) (fun g => [(0, v0), (3, g.2), (6, v0), (7, vi (l.length : Int)), (8, vi (g.1 : Int))]) (fun g => l.length - g.1) (0, .slice none 0 0) (Nat.zero_le _) alT (fun w hs => hs) ?_
  rintro ⟨k, vs⟩ hk
  try simp only at hk ⊢
  repeat refine jc_seq ?_
  refine jc_region ?_
  refine o (q_in b_lss) ?_
  refine J.nil ?_
  refine jx_then ?_
  repeat refine jc_seq ?_
  first | refine cd (fun ht9 => ?_) (fun ht9 => ?_) | refine cb (fun ht9 => ?_) (fun ht9 => ?_)
  ·
    refine jc_skip ?_
    refine jx_then ?_
    repeat refine jc_seq ?_
    refine jc_block ?_
    repeat refine jc_seq ?_
    refine JC.open1 (xs := l) k mm (by omega) (fun _ u => ?_)
    refine jc_region ?_
    first | refine o (q_iN so_22) ?_ | refine o (q_iI so_22) ?_
    refine o (q_l1 Try.isAgg23) ?_
    refine o q_as ?_
    refine J.nil ?_
    refine jx_then ?_
    refine jc_region ?_
    refine o q_mv ?_
    refine o q_mv ?_
    refine r_call Try.call61 rfl (fun w hs => cloneBytes hs mm) ?_; intro v14
    refine J.shut .hd ?_
    refine li [_] eo_22 rfl rd_sl ?_; intro v15
    refine ap eo_22 (hb := fun w hs => by have : maxN = 16777216 := rfl; have := hlen; simp only [List.length_cons, List.length_nil, List.length_take, List.length_append]; omega) (k := ?_); intro v16
    refine o q_as ?_
    refine J.nil ?_
    refine jx_block ?_
    refine jx_then ?_
    refine jc_region ?_
    first | refine o (q_addN) ?_ | refine o (q_add) ?_
    refine o q_mv ?_
    refine J.nil ?_
    refine jx_head (k + 1, v16) (by show k + 1 ≤ l.length; omega) (by show l.length - (k + 1) < l.length - k; omega) alT (fun w hs => ?_)
    try simp only
    rw [takeS [] (by omega)]; exact st_cut hs
  ·
    refine jc_exit ?_
    repeat (first | refine jx_thenExit ?_ | refine jx_blockMiss rfl ?_)
    refine jx_blockHit ?_
    refine jx_then ?_
    repeat refine jc_seq ?_
    refine jc_region ?_
    refine o q_mv ?_
    refine o q_as ?_
    refine J.nil ?_
    refine jx_then ?_
    refine jc_ret ?_
    repeat (first | refine jx_thenRet ?_ | refine jx_blockRet ?_)
    have hkl : k = l.length := by omega
    subst hkl
    refine jx_body (.inr rfl) (fun B w hs => res1 rfl rfl B w) (fun w hs => ⟨vs, ?_, by rw [List.take_length] at hs; exact st_cut hs⟩)
    rfl
theorem netSend_ {L : List Chunk} {R : List Fact} {w : World} {v0 v1 : Value} {l : Frames} {b : List UInt8} (hs : St (L) R w) (h0 : sl v0 l ∈ R) (h1 : sl v1 b ∈ R) : Calls Try.prog 20 [v0, v1].toArray w (Post (fun v : Value => v) (fun v => row 23 v (netSend l b) :: L) (fun v => R)) := by
  have hlen := sl_len h0 hs
  refine calls_args Try.func20 rfl Try.ntmps20 rfl hs ?_
  clear hs
  repeat refine jc_seq ?_
  refine jc_region ?_
  refine o q_as ?_
  refine J.nil ?_
  refine jx_then ?_
  repeat refine jc_seq ?_
  refine jc_region ?_
  refine o q_mv ?_
  refine r_call Try.call19 rfl (fun w hs => netOwn hs mm) ?_; intro v7
  refine o q_as ?_
  refine J.nil ?_
  refine jx_then ?_
  repeat refine jc_seq ?_
  refine jc_region ?_
  refine o q_mv ?_
  refine o (q_len Try.underlying22) ?_
  refine o (q_in b_lss) ?_
  refine J.nil ?_
  refine jx_then ?_
  repeat refine jc_seq ?_
  first | refine cd (fun ht10 => ?_) (fun ht10 => ?_) | refine cb (fun ht10 => ?_) (fun ht10 => ?_)
  ·
    refine jc_region ?_
    refine o q_mv ?_
    refine o q_mv ?_
    refine r_call Try.call61 rfl (fun w hs => cloneBytes hs mm) ?_; intro v13
    refine J.shut .hd ?_
    refine li [_] eo_22 rfl rd_sl ?_; intro v14
    refine ap eo_22 (hb := fun w hs => by have : maxN = 16777216 := rfl; have := hlen; simp only [List.length_cons, List.length_nil, List.length_take, List.length_append]; omega) (k := ?_); intro v15
    refine o q_as ?_
    refine J.nil ?_
    refine jx_then ?_
    repeat refine jc_seq ?_
    refine jc_region ?_
    refine o q_mv ?_
    refine o q_as ?_
    refine J.nil ?_
    refine jx_then ?_
    refine jc_ret ?_
    repeat (first | refine jx_thenRet ?_ | refine jx_blockRet ?_)
    have e : netSend l b = l ++ [b] := by unfold netSend; rw [if_pos (by omega)]
    rw [e]
    refine jx_body (.inr rfl) (fun B w hs => res1 rfl rfl B w) (fun w hs => ⟨v15, ?_, st_cut hs⟩)
    rfl
  ·
    refine jc_skip ?_
    refine jx_then ?_
    repeat refine jc_seq ?_
    refine jc_region ?_
    refine o q_mv ?_
    refine o q_as ?_
    refine J.nil ?_
    refine jx_then ?_
    refine jc_ret ?_
    repeat (first | refine jx_thenRet ?_ | refine jx_blockRet ?_)
    have e : netSend l b = l := by unfold netSend; rw [if_neg (by omega)]
    rw [e]
    refine jx_body (.inr rfl) (fun B w hs => res1 rfl rfl B w) (fun w hs => ⟨v7, ?_, st_cut hs⟩)
    rfl
theorem refSend {L : List Chunk} {R : List Fact} {w : World} {v0 v1 : Value} {l : Frames} {b : List UInt8} (hs : St (L) R w) (h0 : sl v0 l ∈ R) (h1 : sl v1 b ∈ R) : Calls Try.prog 21 [v0, v1].toArray w (Post (fun v : Value => v) (fun v => L) (fun v => sl v (netSend l b) :: R)) := by
  have hlen := sl_len h0 hs
  refine calls_args Try.func21 rfl Try.ntmps21 rfl hs ?_
  clear hs
  repeat refine jc_seq ?_
  refine jc_region ?_
  refine o q_as ?_
  refine J.nil ?_
  refine jx_then ?_
  repeat refine jc_seq ?_
  refine jc_region ?_
  refine o q_mv ?_
  refine o (q_len Try.underlying22) ?_
  refine o (q_in b_geq) ?_
  refine J.nil ?_
  refine jx_then ?_
  repeat refine jc_seq ?_
  first | refine cd (fun ht7 => ?_) (fun ht7 => ?_) | refine cb (fun ht7 => ?_) (fun ht7 => ?_)
  ·
    repeat refine jc_seq ?_
    refine jc_region ?_
    refine o q_mv ?_
    refine o q_as ?_
    refine J.nil ?_
    refine jx_then ?_
    refine jc_ret ?_
    repeat (first | refine jx_thenRet ?_ | refine jx_blockRet ?_)
    have e : netSend l b = l := by unfold netSend; rw [if_neg (by omega)]
    rw [e]
    refine jx_body (.inr rfl) (fun B w hs => res1 rfl rfl B w) (fun w hs => ⟨v0, ?_, st_cut hs⟩)
    rfl
  ·
    refine jc_skip ?_
    refine jx_then ?_
    repeat refine jc_seq ?_
    refine jc_region ?_
    refine liO ([] : Frames) eo_22 rfl (fun j h => rd_nil) ?_; intro v9
    refine o q_mv ?_
    refine ap eo_22 (hb := fun w hs => by have : maxN = 16777216 := rfl; have := hlen; simp only [List.length_cons, List.length_nil, List.length_take, List.length_append]; omega) (k := ?_); intro v11
    refine o q_mv ?_
    refine li [_] eo_22 rfl rd_sl ?_; intro v13
    refine ap eo_22 (hb := fun w hs => by have : maxN = 16777216 := rfl; have := hlen; simp only [List.length_cons, List.length_nil, List.length_take, List.length_append]; omega) (k := ?_); intro v14
    refine o q_as ?_
    refine J.nil ?_
    refine jx_then ?_
    refine jc_ret ?_
    repeat (first | refine jx_thenRet ?_ | refine jx_blockRet ?_)
    have e : netSend l b = l ++ [b] := by unfold netSend; rw [if_pos (by omega)]
    rw [e]
    refine jx_body (.inr rfl) (fun B w hs => res1 rfl rfl B w) (fun w hs => ⟨v14, ?_, st_cut (St.shut hs)⟩)
    rfl
theorem sameFrames {L : List Chunk} {R : List Fact} {w : World} {v0 v1 : Value} {a b : Frames} (hs : St (L) R w) (h0 : sl v0 a ∈ R) (h1 : sl v1 b ∈ R) : Calls Try.prog 18 [v0, v1].toArray w (Post (fun _ : Unit => .bool (decide (a = b))) (fun _ => L) (fun _ => R)) := by
  have hla := sl_len h0 hs
  have hlb := sl_len h1 hs
  refine calls_args Try.func18 rfl Try.ntmps18 rfl hs ?_
  clear hs
  repeat refine jc_seq ?_
  refine jc_region ?_
  refine o q_as ?_
  refine J.nil ?_
  refine jx_then ?_
  repeat refine jc_seq ?_
  refine jc_region ?_
  refine o q_mv ?_
  refine o (q_len Try.underlying22) ?_
  refine o q_mv ?_
  refine o (q_len Try.underlying22) ?_
  refine o (q_in b_neD) ?_
  refine J.nil ?_
  refine jx_then ?_
  repeat refine jc_seq ?_
  first | refine cd (fun ht10 => ?_) (fun ht10 => ?_) | refine cb (fun ht10 => ?_) (fun ht10 => ?_)
  ·
    repeat refine jc_seq ?_
    refine jc_region ?_
    refine o q_as ?_
    refine J.nil ?_
    refine jx_then ?_
    refine jc_ret ?_
    repeat (first | refine jx_thenRet ?_ | refine jx_blockRet ?_)
    have e : a ≠ b := by intro h; apply ht10; rw [h]
    refine jx_body (.inr rfl) (fun B w hs => res1 rfl rfl B w) (fun w hs => ⟨(), ?_, st_cut hs⟩)
    simp [e]
  ·
    refine jc_skip ?_
    refine jx_then ?_
    repeat refine jc_seq ?_
    refine jc_region ?_
    refine o q_mv ?_
    refine o (q_len Try.underlying22) ?_
    refine o q_mv ?_
    refine J.nil ?_
    refine jx_then ?_
    repeat refine jc_seq ?_
    refine jc_block ?_
    refine jc_loop (γ := Nat) (fun k => k ≤ a.length ∧ a.take k = b.take k) (fun _ => L) (fun _ => R) (fun k => [(0, v0), (1, v1), (12, vi (a.length : Int)), (13, vi (k : Int))]) (fun k => a.length - k) 0 ⟨Nat.zero_le _, rfl⟩ alT (fun w hs => hs) ?_
    rintro k ⟨hk, hab⟩
    repeat refine jc_seq ?_
    refine jc_region ?_
    refine o (q_in b_lss) ?_
    refine J.nil ?_
    refine jx_then ?_
    repeat refine jc_seq ?_
    first | refine cd (fun ht14 => ?_) (fun ht14 => ?_) | refine cb (fun ht14 => ?_) (fun ht14 => ?_)
    ·
      refine jc_skip ?_
      refine jx_then ?_
      repeat refine jc_seq ?_
      refine jc_block ?_
      repeat refine jc_seq ?_
      refine jc_region ?_
      refine o q_mv ?_
      refine o q_as ?_
      refine J.nil ?_
      refine jx_then ?_
      repeat refine jc_seq ?_
      refine JC.open1 (xs := a) k h0 (by omega) (fun _ ua => ?_)
      refine JC.open1 (xs := b) k (.tail _ (.tail _ h1)) (by omega) (fun _ ub => ?_)
      refine jc_draw mixed (by kernel_rfl) (by kernel_rfl) (fun _ _ => _) (fun _ => rfl) ?_
      refine dj ?_
      first | refine dc (fun _ _ => q_mv) ?_
      refine dj ?_
      first | refine dc (fun _ _ => q_mv) ?_
      refine dj ?_
      first | refine dc (fun _ _ => q_iN so_22) ?_ | refine dc (fun _ _ => q_iI so_22) ?_
      refine dj ?_
      first | refine dc (fun _ _ => q_l1 Try.isAgg23) ?_
      refine dj ?_
      first | refine dc (fun _ _ => q_cS Try.underlying23 Try.underlying5 Try.underlying9) ?_
      refine dj ?_
      first | refine dc (fun _ _ => q_mv) ?_
      refine dj ?_
      first | refine dc (fun _ _ => q_mv) ?_
      refine dj ?_
      first | refine dc (fun _ _ => q_iN so_22) ?_ | refine dc (fun _ _ => q_iI so_22) ?_
      refine dj ?_
      first | refine dc (fun _ _ => q_l1 Try.isAgg23) ?_
      refine dj ?_
      first | refine dc (fun _ _ => q_cS Try.underlying23 Try.underlying5 Try.underlying9) ?_
      refine dj ?_
      first | refine dc (fun _ _ => q_s b_snD) ?_
      refine d_nilC ?_; intro ρ; simp only [chunks, facts, alOf, List.append_nil, List.nil_append, List.cons_append]
      refine jx_then ?_
      first | refine cd (fun ht26 => ?_) (fun ht26 => ?_) | refine cb (fun ht26 => ?_) (fun ht26 => ?_)
      ·
        repeat refine jc_seq ?_
        refine jc_region ?_
        refine o q_as ?_
        refine J.nil ?_
        refine jx_then ?_
        refine jc_ret ?_
        repeat (first | refine jx_thenRet ?_ | refine jx_blockRet ?_)
        have e : a ≠ b := by intro h; apply ht26; rw [h]
        refine jx_body (.inr rfl) (fun B w hs => res1 rfl rfl B w) (fun w hs => ⟨(), ?_, st_cut hs⟩)
        simp [e]
      ·
        refine jc_skip ?_
        refine jx_block ?_
        refine jx_then ?_
        refine jc_region ?_
        first | refine o (q_addN) ?_ | refine o (q_add) ?_
        refine o q_mv ?_
        refine J.nil ?_
        refine jx_head (k + 1) ⟨by omega, ?_⟩ (by omega) alT (fun w hs => st_cut hs)
        rw [takeS [] (by omega), takeS [] (by omega), hab]
        exact congrArg (fun z => b.take k ++ [z]) (Classical.byContradiction ht26)
    ·
      refine jc_exit ?_
      repeat (first | refine jx_thenExit ?_ | refine jx_blockMiss rfl ?_)
      refine jx_blockHit ?_
      refine jx_then ?_
      repeat refine jc_seq ?_
      refine jc_region ?_
      refine o q_as ?_
      refine J.nil ?_
      refine jx_then ?_
      refine jc_ret ?_
      repeat (first | refine jx_thenRet ?_ | refine jx_blockRet ?_)
      have e : a = b := by
        have hkl : k = a.length := by omega
        rw [hkl, List.take_length, show a.length = b.length by omega, List.take_length] at hab
        exact hab
      refine jx_body (.inr rfl) (fun B w hs => res1 rfl rfl B w) (fun w hs => ⟨(), ?_, st_cut hs⟩)
      simp [e]
end Go.Proofs.Ytofgpimoekhfaaa
