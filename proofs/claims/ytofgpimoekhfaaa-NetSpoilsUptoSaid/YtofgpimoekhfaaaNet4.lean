/- This file proves that the closed fact of frames on the way holds, and what the laws of them compute. No conditions. -/
import Derived.Test.YtofgpimoekhfaaaFacts
import Derived.Test.YtofgpimoekhfaaaNet3
import Derived.Test.YtofgpimoekhfaaaEqs
set_option linter.unusedVariables false
set_option linter.unusedSimpArgs false
set_option maxHeartbeats 1000000
namespace Go.Proofs.Ytofgpimoekhfaaa
open Go
theorem netSendE {L : List Chunk} {R : List Fact} {w : World} {v0 v1 : Value} {l r : Frames} {b : List UInt8} (e : netSend l b = r) (hs : St L R w) (h0 : sl v0 l ∈ R) (h1 : sl v1 b ∈ R) : Calls Try.prog 20 [v0, v1].toArray w (Post (fun v : Value => v) (fun v => row 23 v r :: L) (fun _ => R)) := by
  have h := netSend_ hs h0 h1; rw [e] at h; exact h
theorem netTakeE {L : List Chunk} {R : List Fact} {w : World} {v0 : Value} {l r : Frames} {b : List UInt8} {n k : Int} (hn : In64 n) (e : netTake l n = (r, b, k)) (hs : St L R w) (h0 : sl v0 l ∈ R) : Calls Try.prog 22 [v0, vi n].toArray w (Post (fun v : Value × Value => .tuple #[v.1, v.2, vi k]) (fun v => row 23 v.1 r :: L) (fun v => sl v.2 b :: R)) := by
  have h := netTake_ hs h0 hn; rw [e] at h; exact h
theorem netTwiceE {L : List Chunk} {R : List Fact} {w : World} {v0 : Value} {l r : Frames} {n k : Int} (hn : In64 n) (e : netTwice l n = (r, k)) (hs : St L R w) (h0 : sl v0 l ∈ R) : Calls Try.prog 24 [v0, vi n].toArray w (Post (fun v : Value => .tuple #[v, vi k]) (fun v => row 23 v r :: L) (fun _ => R)) := by
  have h := netTwice_ hs h0 hn; rw [e] at h; exact h
theorem netSpoilE {L : List Chunk} {R : List Fact} {w : World} {v0 : Value} {l r : Frames} {n bit k : Int} (hn : In64 n) (hb : In64 bit) (e : netSpoil l n bit = (r, k)) (hs : St L R w) (h0 : sl v0 l ∈ R) : Calls Try.prog 25 [v0, vi n, vi bit].toArray w (Post (fun v : Value => .tuple #[v, vi k]) (fun v => row 23 v r :: L) (fun _ => R)) := by
  have h := netSpoil_ hs h0 hn hb; rw [e] at h; exact h
theorem sameT {L : List Chunk} {R : List Fact} {w : World} {v0 v1 : Value} {a b : Frames} (e : a = b) (hs : St L R w) (h0 : sl v0 a ∈ R) (h1 : sl v1 b ∈ R) : Calls Try.prog 18 [v0, v1].toArray w (Post (fun _ : Unit => .bool true) (fun _ => L) (fun _ => R)) := by
  have h := sameFrames hs h0 h1; rw [decide_eq_true e] at h; exact h
theorem aliveNet {L : List Chunk} {R : List Fact} {w : World}  (hs : St (L) R w) : Calls Try.prog 27 [].toArray w (Post (fun _ : Unit => .bool true) (fun _ => L) (fun _ => R)) := by
  refine calls_args Try.func27 rfl Try.ntmps27 rfl hs ?_
  clear hs
  repeat refine jc_seq ?_
  refine jc_region ?_
  refine o q_as ?_
  refine J.nil ?_
  refine jx_then ?_
  repeat refine jc_seq ?_
  refine jc_region ?_
  refine J.slNil (List UInt8) ?_
  refine li ([1] : List UInt8) eo_23 rfl (fun j hj => ⟨⟨_, rfl, rfl⟩, trivial⟩) ?_; intro v9
  refine r_call Try.call20 rfl (fun w hs => frz (netSendE (l := []) (b := [1]) (r := [[1]]) rfl hs mm mm)  ) ?_; intro v10
  refine li ([2] : List UInt8) eo_23 rfl (fun j hj => ⟨⟨_, rfl, rfl⟩, trivial⟩) ?_; intro v11
  refine r_call Try.call20 rfl (fun w hs => frz (netSendE (l := [[1]]) (b := [2]) (r := [[1], [2]]) rfl hs mm mm)  ) ?_; intro v12
  refine o q_as ?_
  refine J.nil ?_
  refine jx_then ?_
  repeat refine jc_seq ?_
  refine jc_region ?_
  refine o q_mv ?_
  refine r_call Try.call22 rfl (fun w hs => frz (netTakeE (l := [[1], [2]]) (r := [[2]]) (b := [1]) (n := 0) (k := 0) (by unfold In64; decide) rfl hs mm)  ) ?_; intro ⟨v16, v17⟩
  refine o q_mv ?_
  refine o q_x ?_
  refine o q_x ?_
  refine o q_x ?_
  refine o q_as ?_
  refine o q_as ?_
  refine o q_as ?_
  refine J.nil ?_
  refine jx_then ?_
  repeat refine jc_seq ?_
  refine jc_region ?_
  refine o q_mv ?_
  refine r_call Try.call24 rfl (fun w hs => frz (netTwiceE (l := [[1], [2]]) (r := [[1], [2], [2]]) (n := 1) (k := 0) (by unfold In64; decide) rfl hs mm)  ) ?_; intro v22
  refine o q_mv ?_
  refine o q_x ?_
  refine o q_x ?_
  refine o q_as ?_
  refine o q_as ?_
  refine J.nil ?_
  refine jx_then ?_
  repeat refine jc_seq ?_
  refine jc_region ?_
  refine o q_mv ?_
  refine r_call Try.call25 rfl (fun w hs => frz (netSpoilE (l := [[1], [2]]) (r := [[3], [2]]) (n := 0) (bit := 1) (k := 0) (by unfold In64; decide) (by unfold In64; decide) (by decide) hs mm)  ) ?_; intro v27
  refine o q_mv ?_
  refine o q_x ?_
  refine o q_x ?_
  refine o q_as ?_
  refine o q_as ?_
  refine J.nil ?_
  refine jx_then ?_
  repeat refine jc_seq ?_
  refine JC.open0 (xs := ([1] : List UInt8)) 0 (v := v17) mm (by decide) (fun _ => ?_)
  refine JC.open1 (xs := ([[3], [2]] : Frames)) 0 mm (by decide) (fun _ u => ?_)
  refine JC.open0 (xs := ([3] : List UInt8)) 0 (v := u) mm (by decide) (fun _ => ?_)
  refine jc_region ?_
  refine o q_mv ?_
  refine o (p_int rfl rfl (b_eql_T (by decide))) ?_
  refine o q_mv ?_
  refine gy ?_
  refine o q_mv ?_
  refine gy ?_
  refine o (p_int rfl rfl (b_eql_T (by decide))) ?_
  refine o q_pT ?_
  refine o q_mv ?_
  refine gy ?_
  refine o q_mv ?_
  refine gy ?_
  refine o (p_int rfl rfl (b_eql_T (by decide))) ?_
  refine o q_pT ?_
  refine o q_mv ?_
  refine gy ?_
  refine o q_mv ?_
  refine gy ?_
  refine o (q_len Try.underlying22) ?_
  refine gy ?_
  refine o (p_int rfl rfl (b_eql_T (by decide))) ?_
  refine o q_pT ?_
  refine o q_mv ?_
  refine gy ?_
  refine o q_mv ?_
  refine gy ?_
  refine o (q_len Try.underlying22) ?_
  refine gy ?_
  refine o (p_int rfl rfl (b_eql_T (by decide))) ?_
  refine o q_pT ?_
  refine o q_mv ?_
  refine gy ?_
  refine o q_mv ?_
  refine gy ?_
  refine o (q_iN (i := 0) so_23) ?_
  refine gy ?_
  refine o (q_l1 Try.isAgg5) ?_
  refine gy ?_
  refine o (p_int rfl rfl (b_eql_T (by decide))) ?_
  refine o q_pT ?_
  refine o q_mv ?_
  refine gy ?_
  refine o q_mv ?_
  refine gy ?_
  refine o (q_len Try.underlying22) ?_
  refine gy ?_
  refine o (p_int rfl rfl (b_eql_T (by decide))) ?_
  refine o q_pT ?_
  refine o q_mv ?_
  refine gy ?_
  refine o q_mv ?_
  refine gy ?_
  refine o (q_iN (i := 0) so_22) ?_
  refine gy ?_
  refine o (q_l1 Try.isAgg23) ?_
  refine gy ?_
  refine o (q_iN (i := 0) so_23) ?_
  refine gy ?_
  refine o (q_l1 Try.isAgg5) ?_
  refine gy ?_
  refine o (p_int rfl rfl (b_eql_T (by decide))) ?_
  refine o q_pT ?_
  refine o q_mv ?_
  refine gy ?_
  refine o q_mv ?_
  refine gy ?_
  refine r_call Try.call19 rfl (fun w hs => frz (netOwn (l := [[1], [2]]) hs mm)  ) ?_; intro v70
  refine gy ?_
  refine o (q_len Try.underlying22) ?_
  refine gy ?_
  refine o (p_int rfl rfl (b_eql_T (by decide))) ?_
  refine o q_pT ?_
  refine o q_as ?_
  refine J.nil ?_
  refine jx_then ?_
  refine jc_ret ?_
  repeat (first | refine jx_thenRet ?_ | refine jx_blockRet ?_)
  refine jx_body (.inr rfl) (fun B w hs => res1 rfl rfl B w) (fun w hs => ⟨(), ?_, st_cut hs⟩)
  rfl
theorem take_err {l : Frames} {n : Int} (h : (netTake l n).2.2 ≠ 0) : (n < 0 ∨ (l.length : Int) ≤ n) := by
  unfold netTake at h; split at h
  · assumption
  · exact absurd rfl h
theorem take_ok {l : Frames} {n : Int} (h : ¬ (netTake l n).2.2 ≠ 0) : 0 ≤ n ∧ n < (l.length : Int) := by
  unfold netTake at h; split at h
  · simp at h
  · omega
theorem netTells_walk {L : List Chunk} {R : List Fact} {w : World} {v0 v1 : Value} {l : Frames} {b : List UInt8} {n bit : Int} (hs : St (L) R w) (h0 : sl v0 l ∈ R) (h1 : sl v1 b ∈ R) (hn : In64 n) (hbit : In64 bit) : Calls Try.prog 3 [v0, v1, vi n, vi bit].toArray w (Post (fun _ : Unit => .bool true) (fun _ => L) (fun _ => R)) := by
  have hlen := sl_len h0 hs
  refine calls_args Try.func3 rfl Try.ntmps3 rfl hs ?_
  clear hs
  repeat refine jc_seq ?_
  refine jc_region ?_
  refine o q_as ?_
  refine J.nil ?_
  refine jx_then ?_
  repeat refine jc_seq ?_
  refine jc_region ?_
  refine o q_mv ?_
  refine r_call Try.call19 rfl (fun w hs => frz (netOwn hs mm)  ) ?_; intro v17
  refine o q_mv ?_
  refine r_call Try.call18 rfl (fun w hs => sameFrames hs mm mm) ?_; intro _
  refine o (q_notT rfl (by simp)) ?_
  refine o q_mv ?_
  refine gy ?_
  refine o q_mv ?_
  refine gy ?_
  refine o q_mv ?_
  refine gy ?_
  refine r_call Try.call20 rfl (fun w hs => frz (netSend_ hs mm mm)  ) ?_; intro v24
  refine gy ?_
  refine o q_mv ?_
  refine gy ?_
  refine o q_mv ?_
  refine gy ?_
  refine r_call Try.call21 rfl (fun w hs => refSend hs mm mm) ?_; intro v27
  refine gy ?_
  refine r_call Try.call18 rfl (fun w hs => sameFrames hs mm mm) ?_; intro _
  refine gy ?_
  refine o (q_notT rfl (by simp)) ?_
  refine o q_pF ?_
  refine J.nil ?_
  refine jx_then ?_
  repeat refine jc_seq ?_
  refine cF_ ?_
  refine jc_skip ?_
  refine jx_then ?_
  repeat refine jc_seq ?_
  refine jc_region ?_
  refine o q_mv ?_
  refine o q_mv ?_
  refine r_call Try.call22 rfl (fun w hs => frz (netTake_ hs mm hn)  ) ?_; intro ⟨vt34, vu34⟩
  refine o q_mv ?_
  refine o q_x ?_
  refine o q_x ?_
  refine o q_x ?_
  refine o q_as ?_
  refine o q_as ?_
  refine o q_as ?_
  refine J.nil ?_
  refine jx_then ?_
  repeat refine jc_seq ?_
  refine jc_region ?_
  refine o q_mv ?_
  refine o q_mv ?_
  refine r_call Try.call23 rfl (fun w hs => refTake hs mm hn) ?_; intro ⟨vt41, vu41⟩
  refine o q_mv ?_
  refine o q_x ?_
  refine o q_x ?_
  refine o q_x ?_
  refine o q_as ?_
  refine o q_as ?_
  refine o q_as ?_
  refine J.nil ?_
  refine jx_then ?_
  repeat refine jc_seq ?_
  refine kp [0, 2, 3, 8, 9, 10, 11, 12, 13, 14, 15, 45, 46, 47, 48, 49, 50, 51, 52, 53, 54, 55, 56, 57, 58, 59, 60, 61, 62, 63, 64, 65, 66, 67, 68, 69, 70, 71, 72, 73, 74, 75, 76, 77, 78, 79, 80, 81, 82, 83, 84, 85, 86, 87, 88, 89, 90, 91, 92, 93, 94, 95, 96, 97, 98, 99, 100, 101, 102, 103, 104, 105, 106, 107, 108, 109, 110, 111, 112, 113, 114, 115, 116, 117, 118, 119, 120, 121, 122, 123, 124, 125, 126, 127, 128, 129, 130, 131, 132, 133, 134, 135, 136, 137, 138, 139, 140, 141, 142] ?_
  refine jc_region ?_
  refine o q_mv ?_
  refine o q_mv ?_
  refine o (p_int rfl rfl (b_neq_F rfl)) ?_
  refine o q_mv ?_
  refine gy ?_
  refine o q_mv ?_
  refine gy ?_
  refine o q_mv ?_
  refine gy ?_
  refine r_call Try.call18 rfl (fun w hs => sameFrames hs mm mm) ?_; intro _
  refine gy ?_
  refine o (q_notT rfl (by simp)) ?_
  refine o q_pF ?_
  refine o q_mv ?_
  refine gy ?_
  refine o q_mv ?_
  refine gy ?_
  refine o (q_cS Try.underlying23 Try.underlying5 Try.underlying9) ?_
  refine gy ?_
  refine o q_mv ?_
  refine gy ?_
  refine o (q_cS Try.underlying23 Try.underlying5 Try.underlying9) ?_
  refine gy ?_
  refine o (p_str rfl rfl (b_strne_F rfl)) ?_
  refine o q_pF ?_
  refine J.nil ?_
  refine jx_then ?_
  repeat refine jc_seq ?_
  refine cF_ ?_
  refine jc_skip ?_
  refine jx_then ?_
  repeat refine jc_seq ?_
  refine jc_region ?_
  refine o q_mv ?_
  refine o q_mv ?_
  refine r_call Try.call24 rfl (fun w hs => frz (netTwice_ hs mm hn)  ) ?_; intro v64
  refine o q_mv ?_
  refine o q_x ?_
  refine o q_x ?_
  refine o q_as ?_
  refine o q_as ?_
  refine J.nil ?_
  refine jx_then ?_
  repeat refine jc_seq ?_
  refine jc_region ?_
  refine o q_mv ?_
  refine o (q_in b_neD) ?_
  refine J.nil ?_
  refine jx_then ?_
  repeat refine jc_seq ?_
  first | refine cd (fun ht68 => ?_) (fun ht68 => ?_) | refine cb (fun ht68 => ?_) (fun ht68 => ?_)
  ·
    have hr := take_err ht68
    have e1 : netTwice l n = ([], 5) := by unfold netTwice; rw [if_pos hr]
    have e2 : netSpoil l n bit = ([], 5) := by unfold netSpoil; rw [if_pos hr]
    repeat refine jc_seq ?_
    refine jc_region ?_
    refine o q_mv ?_
    refine o (p_int rfl rfl (b_neq_F (by rw [e1]))) ?_
    refine o q_mv ?_
    refine gy ?_
    refine o q_mv ?_
    refine gy ?_
    refine o (q_len Try.underlying22) ?_
    refine gy ?_
    refine o (p_int rfl rfl (b_gtr_F (by rw [e1]; exact Int.lt_irrefl _))) ?_
    refine o q_pF ?_
    refine J.nil ?_
    refine jx_then ?_
    refine cF_ ?_
    refine jc_skip ?_
    refine jx_then ?_
    repeat refine jc_seq ?_
    refine kp [0, 2, 3, 8, 9, 11, 14, 15, 89, 90, 91, 92, 93, 94, 95, 96, 97, 98, 99, 100, 101, 102, 103, 104, 105, 106, 107, 108, 109, 110, 111, 112, 113, 114, 115, 116, 117, 118, 119, 120, 121, 122, 123, 124, 125, 126, 127, 128, 129, 130, 131, 132, 133, 134, 135, 136, 137, 138, 139, 140, 141, 142] ?_
    refine jc_region ?_
    refine o q_mv ?_
    refine o q_mv ?_
    refine o q_mv ?_
    refine r_call Try.call25 rfl (fun w hs => frz (netSpoil_ hs mm hn hbit)  ) ?_; intro v93
    refine o q_mv ?_
    refine o q_x ?_
    refine o q_x ?_
    refine o q_as ?_
    refine o q_as ?_
    refine J.nil ?_
    refine jx_then ?_
    repeat refine jc_seq ?_
    refine jc_region ?_
    refine o q_mv ?_
    refine o (q_in b_neD) ?_
    refine J.nil ?_
    refine jx_then ?_
    repeat refine jc_seq ?_
    refine cTp (by exact ht68) ?_
    repeat refine jc_seq ?_
    refine jc_region ?_
    refine o q_mv ?_
    refine o (p_int rfl rfl (b_eql_T (by rw [e2]))) ?_
    refine o q_mv ?_
    refine gy ?_
    refine o q_mv ?_
    refine gy ?_
    refine o (q_len Try.underlying22) ?_
    refine gy ?_
    refine o (p_int rfl rfl (b_eql_T (by rw [e2]; rfl))) ?_
    refine o q_pT ?_
    refine o q_as ?_
    refine J.nil ?_
    refine jx_then ?_
    refine jc_ret ?_
    repeat (first | refine jx_thenRet ?_ | refine jx_blockRet ?_)
    refine jx_body (.inr rfl) (fun B w hs => res1 rfl rfl B w) (fun w hs => ⟨(), ?_, st_cut hs⟩)
    rfl
  ·
    have hr := take_ok ht68
    have e1 : netTwice l n = (netSend l (netAt l n), 0) := by unfold netTwice; rw [if_neg (by omega)]
    repeat refine jc_seq ?_
    refine JC.open1 (xs := l) (v := v0) n.toNat mm (by omega) (fun _ u => ?_)
    refine jc_region ?_
    refine o q_mv ?_
    refine o (p_int rfl rfl (b_neq_F (by rw [e1]))) ?_
    refine o q_mv ?_
    refine gy ?_
    refine o q_mv ?_
    refine gy ?_
    refine o q_mv ?_
    refine gy ?_
    refine o q_mv ?_
    refine gy ?_
    refine o q_mv ?_
    refine gy ?_
    first | refine o (q_iN so_22) ?_ | refine o (q_iI so_22) ?_
    refine gy ?_
    refine o (q_l1 Try.isAgg23) ?_
    refine gy ?_
    refine r_call Try.call21 rfl (fun w hs => refSend hs mm mm) ?_; intro v85
    refine gy ?_
    refine r_call Try.call18 rfl (fun w hs => sameFrames hs mm mm) ?_; intro _
    refine gy ?_
    refine o (q_notT rfl (by rw [e1]; exact decide_eq_true rfl)) ?_
    refine o q_pF ?_
    refine J.nil ?_
    refine jx_then ?_
    refine cF_ ?_
    refine jc_skip ?_
    refine jx_then ?_
    repeat refine jc_seq ?_
    refine kp [0, 2, 3, 8, 9, 11, 14, 15, 89, 90, 91, 92, 93, 94, 95, 96, 97, 98, 99, 100, 101, 102, 103, 104, 105, 106, 107, 108, 109, 110, 111, 112, 113, 114, 115, 116, 117, 118, 119, 120, 121, 122, 123, 124, 125, 126, 127, 128, 129, 130, 131, 132, 133, 134, 135, 136, 137, 138, 139, 140, 141, 142] ?_
    refine jc_region ?_
    refine o q_mv ?_
    refine o q_mv ?_
    refine o q_mv ?_
    refine r_call Try.call25 rfl (fun w hs => frz (netSpoil_ hs mm hn hbit)  ) ?_; intro v93
    refine o q_mv ?_
    refine o q_x ?_
    refine o q_x ?_
    refine o q_as ?_
    refine o q_as ?_
    refine J.nil ?_
    refine jx_then ?_
    repeat refine jc_seq ?_
    refine jc_region ?_
    refine o q_mv ?_
    refine o (q_in b_neD) ?_
    refine J.nil ?_
    refine jx_then ?_
    repeat refine jc_seq ?_
    refine cFp (by exact ht68) ?_
    refine jc_skip ?_
    refine jx_then ?_
    repeat refine jc_seq ?_
    refine JC.open1 (xs := l) (v := v0) n.toNat mm (by omega) (fun _ u => ?_)
    refine JC.know (p := (l.getD n.toNat []).length ≤ 16777216) (fun w hs => sl_len (α := UInt8) (v := u) (.tail _ (.head _)) hs) (fun hlb => ?_)
    rcases (show (bit < 0) ∨ (¬ bit < 0 ∧ 8 * ((l.getD n.toNat []).length : Int) ≤ bit) ∨ (0 ≤ bit ∧ bit < 8 * ((l.getD n.toNat []).length : Int)) from by omega) with hc | hc | hc
    ·
      refine jc_region ?_
      refine o q_mv ?_
      refine o (p_int rfl rfl (b_lss_T (by omega))) ?_
      refine o q_mv ?_
      refine gn ?_
      refine gn ?_
      refine gn ?_
      refine gn ?_
      refine gn ?_
      refine gn ?_
      refine gn ?_
      refine gn ?_
      refine o q_pT ?_
      refine J.nil ?_
      refine jx_then ?_
      repeat refine jc_seq ?_
      refine cT ?_
      repeat refine jc_seq ?_
      have e2 : netSpoil l n bit = ([], 3) := by unfold netSpoil netAt; rw [if_neg (by omega), if_pos (by omega)]
      refine jc_region ?_
      refine o q_mv ?_
      refine o (p_int rfl rfl (b_eql_T (by rw [e2]))) ?_
      refine o q_mv ?_
      refine gy ?_
      refine o q_mv ?_
      refine gy ?_
      refine o (q_len Try.underlying22) ?_
      refine gy ?_
      refine o (p_int rfl rfl (b_eql_T (by rw [e2]; rfl))) ?_
      refine o q_pT ?_
      refine o q_as ?_
      refine J.nil ?_
      refine jx_then ?_
      refine jc_ret ?_
      repeat (first | refine jx_thenRet ?_ | refine jx_blockRet ?_)
      refine jx_body (.inr rfl) (fun B w hs => res1 rfl rfl B w) (fun w hs => ⟨(), ?_, st_cut hs⟩)
      rfl
    ·
      refine jc_region ?_
      refine o q_mv ?_
      refine o (p_int rfl rfl (b_lss_F (by omega))) ?_
      refine o q_mv ?_
      refine gy ?_
      refine o q_mv ?_
      refine gy ?_
      refine o q_mv ?_
      refine gy ?_
      refine o q_mv ?_
      refine gy ?_
      first | refine o (q_iN so_22) ?_ | refine o (q_iI so_22) ?_
      refine gy ?_
      refine o (q_l1 Try.isAgg23) ?_
      refine gy ?_
      refine o (q_len Try.underlying23) ?_
      refine gy ?_
      refine o (p_int (a := 8) (b := ((l.getD n.toNat []).length : Int)) rfl rfl (b_mul (by omega) (by omega))) ?_
      refine gy ?_
      refine o (p_int rfl rfl (b_geq_T (by omega))) ?_
      refine o q_pF ?_
      refine J.nil ?_
      refine jx_then ?_
      repeat refine jc_seq ?_
      refine cT ?_
      repeat refine jc_seq ?_
      have e2 : netSpoil l n bit = ([], 3) := by unfold netSpoil netAt; rw [if_neg (by omega), if_pos (by omega)]
      refine jc_region ?_
      refine o q_mv ?_
      refine o (p_int rfl rfl (b_eql_T (by rw [e2]))) ?_
      refine o q_mv ?_
      refine gy ?_
      refine o q_mv ?_
      refine gy ?_
      refine o (q_len Try.underlying22) ?_
      refine gy ?_
      refine o (p_int rfl rfl (b_eql_T (by rw [e2]; rfl))) ?_
      refine o q_pT ?_
      refine o q_as ?_
      refine J.nil ?_
      refine jx_then ?_
      refine jc_ret ?_
      repeat (first | refine jx_thenRet ?_ | refine jx_blockRet ?_)
      refine jx_body (.inr rfl) (fun B w hs => res1 rfl rfl B w) (fun w hs => ⟨(), ?_, st_cut hs⟩)
      rfl
    ·
      refine jc_region ?_
      refine o q_mv ?_
      refine o (p_int rfl rfl (b_lss_F (by omega))) ?_
      refine o q_mv ?_
      refine gy ?_
      refine o q_mv ?_
      refine gy ?_
      refine o q_mv ?_
      refine gy ?_
      refine o q_mv ?_
      refine gy ?_
      first | refine o (q_iN so_22) ?_ | refine o (q_iI so_22) ?_
      refine gy ?_
      refine o (q_l1 Try.isAgg23) ?_
      refine gy ?_
      refine o (q_len Try.underlying23) ?_
      refine gy ?_
      refine o (p_int (a := 8) (b := ((l.getD n.toNat []).length : Int)) rfl rfl (b_mul (by omega) (by omega))) ?_
      refine gy ?_
      refine o (p_int rfl rfl (b_geq_F (by omega))) ?_
      refine o q_pF ?_
      refine J.nil ?_
      refine jx_then ?_
      repeat refine jc_seq ?_
      refine cF_ ?_
      refine jc_skip ?_
      refine jx_then ?_
      repeat refine jc_seq ?_
      have e3 : netSpoil l n bit = (l.set n.toNat (bitTurn (netAt l n) bit), 0) := by unfold netSpoil netAt; rw [if_neg (by omega), if_neg (by omega)]
      refine jc_region ?_
      refine liO ([] : Frames) eo_22 rfl (fun j h => rd_nil) ?_; intro v124
      refine o q_mv ?_
      refine ap eo_22 (hb := fun w hs => by have : maxN = 16777216 := rfl; have := hlen; simp only [List.length_cons, List.length_nil, List.length_take, List.length_append]; omega) (k := ?_); intro v126
      refine o q_as ?_
      refine J.nil ?_
      refine jx_then ?_
      repeat refine jc_seq ?_
      refine JC.open1 (xs := l) (v := v0) n.toNat mm (by omega) (fun _ u => ?_)
      refine jc_region ?_
      refine o q_mv ?_
      refine o q_mv ?_
      refine o q_mv ?_
      refine o q_mv ?_
      refine o (q_iI so_22) ?_
      refine o (q_l1 Try.isAgg23) ?_
      refine o q_mv ?_
      refine r_call Try.call26 rfl (fun w hs => refTurned_calls (bit := bit) hs mm hbit) ?_; intro v134
      refine o (q_iI so_22) ?_
      refine s_Sr (xs := l) Try.sizeOf23 rfl rfl mm .hd (by omega) ?_
      refine J.shut .hd ?_
      refine J.nil ?_
      refine jx_then ?_
      repeat refine jc_seq ?_
      refine kp [8, 9, 11, 15, 136, 137, 138, 139, 140, 141, 142] ?_
      refine jc_region ?_
      refine o q_mv ?_
      refine o (p_int rfl rfl (b_eql_T (by rw [e3]))) ?_
      refine o q_mv ?_
      refine gy ?_
      refine o q_mv ?_
      refine gy ?_
      refine o q_mv ?_
      refine gy ?_
      refine r_call (val := fun _ => .bool true) Try.call18 rfl (fun w hs => sameT (a := (netSpoil l n bit).1) (b := l.set n.toNat (bitTurn (netAt l n) bit)) (by first | rfl | (rw [e3]) | (unfold netSend; rw [if_neg (by omega)])) hs mm mm) ?_; intro _
      refine o q_pT ?_
      refine o q_as ?_
      refine J.nil ?_
      refine jx_then ?_
      refine jc_ret ?_
      repeat (first | refine jx_thenRet ?_ | refine jx_blockRet ?_)
      refine jx_body (.inr rfl) (fun B w hs => res1 rfl rfl B w) (fun w hs => ⟨(), ?_, st_cut hs⟩)
      rfl
theorem netTakes_walk {L : List Chunk} {R : List Fact} {w : World} {v0 v1 : Value} {l : Frames} {b : List UInt8} (hs : St (L) R w) (h0 : sl v0 l ∈ R) (h1 : sl v1 b ∈ R) : Calls Try.prog 4 [v0, v1].toArray w (Post (fun _ : Unit => .bool true) (fun _ => L) (fun _ => R)) := by
  have hlen := sl_len h0 hs
  refine calls_args Try.func4 rfl Try.ntmps4 rfl hs ?_
  clear hs
  repeat refine jc_seq ?_
  refine jc_region ?_
  refine o q_as ?_
  refine J.nil ?_
  refine jx_then ?_
  repeat refine jc_seq ?_
  refine jc_region ?_
  refine r_call Try.call27 rfl (fun w hs => aliveNet hs ) ?_; intro _
  refine o (q_notT rfl rfl) ?_
  refine J.nil ?_
  refine jx_then ?_
  repeat refine jc_seq ?_
  refine cF_ ?_
  refine jc_skip ?_
  refine jx_then ?_
  repeat refine jc_seq ?_
  refine jc_region ?_
  refine o q_mv ?_
  refine o q_mv ?_
  refine r_call Try.call20 rfl (fun w hs => frz (netSend_ hs mm mm)  ) ?_; intro v13
  refine o q_as ?_
  refine J.nil ?_
  refine jx_then ?_
  repeat refine jc_seq ?_
  refine jc_region ?_
  refine o q_mv ?_
  refine o (q_len Try.underlying22) ?_
  refine o (q_in b_geq) ?_
  refine J.nil ?_
  refine jx_then ?_
  repeat refine jc_seq ?_
  first | refine cd (fun ht16 => ?_) (fun ht16 => ?_) | refine cb (fun ht16 => ?_) (fun ht16 => ?_)
  ·
    repeat refine jc_seq ?_
    refine jc_region ?_
    refine o q_mv ?_
    refine o q_mv ?_
    refine r_call (val := fun _ => .bool true) Try.call18 rfl (fun w hs => sameT (a := netSend l b) (b := l) (by first | rfl | (rw [e3]) | (unfold netSend; rw [if_neg (by omega)])) hs mm mm) ?_; intro _
    refine o q_as ?_
    refine J.nil ?_
    refine jx_then ?_
    refine jc_ret ?_
    repeat (first | refine jx_thenRet ?_ | refine jx_blockRet ?_)
    refine jx_body (.inr rfl) (fun B w hs => res1 rfl rfl B w) (fun w hs => ⟨(), ?_, st_cut hs⟩)
    rfl
  ·
    refine jc_skip ?_
    refine jx_then ?_
    repeat refine jc_seq ?_
    refine jc_region ?_
    refine o q_mv ?_
    refine o q_mv ?_
    refine o (q_len Try.underlying22) ?_
    have e1 : netSend l b = l ++ [b] := by unfold netSend; rw [if_pos (by omega)]
    have e2 : netTake (netSend l b) (l.length : Int) = (l, b, 0) := by
      rw [e1]; unfold netTake netAt
      rw [if_neg (by rw [List.length_append, List.length_cons, List.length_nil]; omega)]
      rw [Int.toNat_natCast, List.eraseIdx_append_of_length_le (Nat.le_refl _), Nat.sub_self]
      simp
    refine r_call Try.call22 rfl (fun w hs => frz (netTakeE (by unfold In64; omega) e2 hs mm)) ?_; intro ⟨vt24, vu24⟩
    refine o q_mv ?_
    refine o q_x ?_
    refine o q_x ?_
    refine o q_x ?_
    refine o q_as ?_
    refine o q_as ?_
    refine o q_as ?_
    refine J.nil ?_
    refine jx_then ?_
    repeat refine jc_seq ?_
    refine jc_region ?_
    refine o q_mv ?_
    refine o (p_int rfl rfl (b_eql_T rfl)) ?_
    refine o q_mv ?_
    refine gy ?_
    refine o q_mv ?_
    refine gy ?_
    refine o (q_cS Try.underlying23 Try.underlying5 Try.underlying9) ?_
    refine gy ?_
    refine o q_mv ?_
    refine gy ?_
    refine o (q_cS Try.underlying23 Try.underlying5 Try.underlying9) ?_
    refine gy ?_
    refine o (p_str rfl rfl (b_streq_T rfl)) ?_
    refine o q_pT ?_
    refine o q_mv ?_
    refine gy ?_
    refine o q_mv ?_
    refine gy ?_
    refine o q_mv ?_
    refine gy ?_
    refine r_call (val := fun _ => .bool true) Try.call18 rfl (fun w hs => sameT (a := l) (b := l) (by first | rfl | (rw [e3]) | (unfold netSend; rw [if_neg (by omega)])) hs mm mm) ?_; intro _
    refine o q_pT ?_
    refine o q_as ?_
    refine J.nil ?_
    refine jx_then ?_
    refine jc_ret ?_
    repeat (first | refine jx_thenRet ?_ | refine jx_blockRet ?_)
    refine jx_body (.inr rfl) (fun B w hs => res1 rfl rfl B w) (fun w hs => ⟨(), ?_, st_cut hs⟩)
    rfl
theorem turn_ne {b : List UInt8} {bit : Int} (h0 : 0 ≤ bit) (h1 : bit < 8 * (b.length : Int)) : bitTurn b bit ≠ b := by
  intro h
  have hq : (bit / 8).toNat < b.length := by omega
  have h2 : (bitTurn b bit).getD (bit / 8).toNat 0 = b.getD (bit / 8).toNat 0 := by rw [h]
  unfold bitTurn at h2
  rw [if_pos ⟨h0, h1⟩, getD_set _ _ _ _ _ hq, if_pos rfl] at h2
  have h3 : ∀ (x : UInt8) (k : _root_.Fin 8), x ^^^ ((1 : UInt8) <<< UInt8.ofNat k.val) ≠ x := by
    intro x k hx
    have e1 : x ^^^ (x ^^^ ((1 : UInt8) <<< UInt8.ofNat k.val)) = x ^^^ x := congrArg (x ^^^ ·) hx
    rw [← UInt8.xor_assoc, UInt8.xor_self, UInt8.zero_xor] at e1
    exact absurd e1 ((by decide : ∀ k : _root_.Fin 8, (1 : UInt8) <<< UInt8.ofNat k.val ≠ 0) k)
  exact h3 _ ⟨(bit % 8).toNat, by omega⟩ h2
theorem spoil_no {l : Frames} {n bit : Int} (h : (netSpoil l n bit).2 ≠ 0) : (netSpoil l n bit).1 = [] := by
  unfold netSpoil at h ⊢; split
  · rfl
  · split
    · rfl
    · rename_i h1 h2; rw [if_neg h1, if_neg h2] at h; exact absurd rfl h
theorem spoil_yes {l : Frames} {n bit : Int} (h : ¬ (netSpoil l n bit).2 ≠ 0) : netSpoil (netSpoil l n bit).1 n bit = (l, 0) ∧ (netSpoil l n bit).1 ≠ l := by
  unfold netSpoil at h
  split at h
  · simp at h
  split at h
  · simp at h
  rename_i h1 h2
  have e : netSpoil l n bit = (l.set n.toNat (bitTurn (netAt l n) bit), 0) := by unfold netSpoil; rw [if_neg h1, if_neg h2]
  have hlt : n.toNat < l.length := by omega
  have ea : netAt (l.set n.toNat (bitTurn (netAt l n) bit)) n = bitTurn (netAt l n) bit := by
    show (l.set n.toNat (bitTurn (netAt l n) bit)).getD n.toNat [] = _
    rw [List.getD_eq_getElem?_getD, List.getElem?_set_self hlt]; rfl
  rw [e]
  constructor
  · unfold netSpoil
    rw [if_neg (by rw [List.length_set]; exact h1), ea, if_neg (by rw [turn_len]; exact h2), turn_twice]
    simp only [List.set_set, Prod.mk.injEq, and_true]
    have hg : netAt l n = l[n.toNat] := by
      show l.getD n.toNat [] = _
      rw [List.getD_eq_getElem?_getD, List.getElem?_eq_getElem hlt]; rfl
    rw [hg, List.set_getElem_self]
  · intro hl
    have hl' : l.set n.toNat (bitTurn (netAt l n) bit) = l := hl
    have h3 : netAt (l.set n.toNat (bitTurn (netAt l n) bit)) n = netAt l n := by rw [hl']
    rw [ea] at h3
    exact turn_ne (by omega) (by omega) h3
theorem netSpoils_walk {L : List Chunk} {R : List Fact} {w : World} {v0 : Value} {l : Frames} {n bit : Int} (hs : St (L) R w) (h0 : sl v0 l ∈ R) (hn : In64 n) (hbit : In64 bit) : Calls Try.prog 5 [v0, vi n, vi bit].toArray w (Post (fun _ : Unit => .bool true) (fun _ => L) (fun _ => R)) := by
  refine calls_args Try.func5 rfl Try.ntmps5 rfl hs ?_
  clear hs
  repeat refine jc_seq ?_
  refine jc_region ?_
  refine o q_as ?_
  refine J.nil ?_
  refine jx_then ?_
  repeat refine jc_seq ?_
  refine jc_region ?_
  refine r_call Try.call27 rfl (fun w hs => aliveNet hs ) ?_; intro _
  refine o (q_notT rfl rfl) ?_
  refine J.nil ?_
  refine jx_then ?_
  repeat refine jc_seq ?_
  refine cF_ ?_
  refine jc_skip ?_
  refine jx_then ?_
  repeat refine jc_seq ?_
  refine jc_region ?_
  refine o q_mv ?_
  refine o q_mv ?_
  refine o q_mv ?_
  refine r_call Try.call25 rfl (fun w hs => frz (netSpoil_ hs mm hn hbit)  ) ?_; intro v16
  refine o q_mv ?_
  refine o q_x ?_
  refine o q_x ?_
  refine o q_as ?_
  refine o q_as ?_
  refine J.nil ?_
  refine jx_then ?_
  repeat refine jc_seq ?_
  refine jc_region ?_
  refine o q_mv ?_
  refine o (q_in b_neD) ?_
  refine J.nil ?_
  refine jx_then ?_
  repeat refine jc_seq ?_
  first | refine cd (fun ht20 => ?_) (fun ht20 => ?_) | refine cb (fun ht20 => ?_) (fun ht20 => ?_)
  ·
    repeat refine jc_seq ?_
    refine jc_region ?_
    refine o q_mv ?_
    refine o (q_len Try.underlying22) ?_
    refine o (p_int rfl rfl (b_eql_T (by rw [spoil_no ht20]; rfl))) ?_
    refine o q_as ?_
    refine J.nil ?_
    refine jx_then ?_
    refine jc_ret ?_
    repeat (first | refine jx_thenRet ?_ | refine jx_blockRet ?_)
    refine jx_body (.inr rfl) (fun B w hs => res1 rfl rfl B w) (fun w hs => ⟨(), ?_, st_cut hs⟩)
    rfl
  ·
    refine jc_skip ?_
    refine jx_then ?_
    repeat refine jc_seq ?_
    refine jc_region ?_
    refine o q_mv ?_
    refine o q_mv ?_
    refine o q_mv ?_
    refine r_call Try.call25 rfl (fun w hs => frz (netSpoilE hn hbit (spoil_yes ht20).1 hs mm)) ?_; intro v28
    refine o q_mv ?_
    refine o q_x ?_
    refine o q_x ?_
    refine o q_as ?_
    refine o q_as ?_
    refine J.nil ?_
    refine jx_then ?_
    repeat refine jc_seq ?_
    refine jc_region ?_
    refine o q_mv ?_
    refine o (p_int rfl rfl (b_eql_T rfl)) ?_
    refine o q_mv ?_
    refine gy ?_
    refine o q_mv ?_
    refine gy ?_
    refine o q_mv ?_
    refine gy ?_
    refine r_call (val := fun _ => .bool true) Try.call18 rfl (fun w hs => sameT (a := l) (b := l) (by first | rfl | (rw [e3]) | (unfold netSend; rw [if_neg (by omega)])) hs mm mm) ?_; intro _
    refine o q_pT ?_
    refine o q_mv ?_
    refine gy ?_
    refine o q_mv ?_
    refine gy ?_
    refine o q_mv ?_
    refine gy ?_
    refine r_call Try.call18 rfl (fun w hs => sameFrames hs mm mm) ?_; intro _
    refine gy ?_
    refine o (q_notF rfl (decide_eq_false (spoil_yes ht20).2)) ?_
    refine o q_pT ?_
    refine o q_as ?_
    refine J.nil ?_
    refine jx_then ?_
    refine jc_ret ?_
    repeat (first | refine jx_thenRet ?_ | refine jx_blockRet ?_)
    refine jx_body (.inr rfl) (fun B w hs => res1 rfl rfl B w) (fun w hs => ⟨(), ?_, st_cut hs⟩)
    rfl
end Go.Proofs.Ytofgpimoekhfaaa
