/- This file proves what net.Take, Twice, Spoil and their twins compute. No conditions. -/
import Derived.Test.YtofgpimoekhfaaaFacts
import Derived.Test.YtofgpimoekhfaaaNet1
import Derived.Test.YtofgpimoekhfaaaFrame4
set_option linter.unusedVariables false
set_option linter.unusedSimpArgs false
set_option maxHeartbeats 1000000
namespace Go.Proofs.Ytofgpimoekhfaaa
open Go
theorem erase_split {α : Type} {l : List α} {i : Nat} : l.eraseIdx i = l.take i ++ l.drop (i + 1) := List.eraseIdx_eq_take_drop_succ ..
theorem RdL.erase {α : Type} [Enc α] {m : Mem} {xs : List α} {cs : List Value} {i : Nat} (hz : Enc.sz α = 1) (hi : i < xs.length) (h : RdL xs cs m) : RdL (xs.eraseIdx i) (cs.take i ++ cs.drop (i + 1)) m := by
  have h1 : xs = xs.take i ++ xs.drop i := (List.take_append_drop i xs).symm
  rw [h1] at h
  obtain ⟨a, b, e1, e2, e3⟩ := RdL.split h
  have la : a.length = i := by rw [e2.len, hz, List.length_take]; omega
  rw [List.drop_eq_getElem_cons hi] at e3
  obtain ⟨c1, c2, g1, g2, g3⟩ := e3
  have lc : c1.length = 1 := by rw [Enc.len _ _ _ g2, hz]
  rw [erase_split]
  have ea : cs.take i = a := by rw [e1, ← la]; simp
  have eb : cs.drop (i + 1) = c2 := by
    rw [e1, g1, ← la, List.drop_append, show a.length + 1 - a.length = 1 by omega, List.drop_append, lc]
    simp [List.drop_of_length_le, lc]
  rw [ea, eb]
  exact RdL.append g3 e2
theorem len_lit {L : List Chunk} {R : List Fact} {a : Addr} {k c : Nat} : SliceLen L R (.slice (some a) k c) k := fun w _ => ⟨some a, c, rfl, fun _ => ⟨a, rfl⟩⟩
theorem p_slice3 {P : Program} {n : Nat} {L : List Chunk} {R : List Fact} {al : List (Nat × Value)} {d : Nat} {x p q r : Operand} {T ty : TypeId} {pos : String} {aft : Array Edge} {e : TypeId} {sz len cap lo hi mx : Nat} {a : Addr} (ht : SliceOf P T e sz) (hx : ev n al x = some (.slice (some a) len cap)) (h1 : ev n al p = some (vi (lo : Int))) (h2 : ev n al q = some (vi (hi : Int))) (h3 : ev n al r = some (vi (mx : Int))) (l1 : lo ≤ hi) (l2 : hi ≤ mx) (l3 : mx ≤ cap) :
    PureOp P n al L R ⟨some d, .slice T x (some p) (some q) (some r), ty, pos, aft, none⟩ (.slice (if mx = lo then some a else some (a.add (lo * sz))) (hi - lo) (mx - lo)) :=
  ⟨rfl, fun ρ w h hs => by
    show (Instr.sliceAt T (ρ x) (some (ρ p)) (some (ρ q)) (some (ρ r)) >>= fun v => Pure.pure (Next.value v)).run P w = _
    rw [h x (by simp [Op.operands]) _ hx, h p (by simp [Op.operands]) _ h1, h q (by simp [Op.operands]) _ h2, h r (by simp [Op.operands]) _ h3, Sem.run_bind]
    have : (Instr.sliceAt T (.slice (some a) len cap) (some (vi (lo : Int))) (some (vi (hi : Int))) (some (vi (mx : Int)))).run P w = .ok (.slice (if mx = lo then some a else some (a.add (lo * sz))) (hi - lo) (mx - lo)) w := by
      have e1 : (0 : Int) ≤ (lo : Int) ∧ (lo : Int) ≤ (hi : Int) := by omega
      have e2 : (0 : Int) ≤ (hi : Int) ∧ (hi : Int) ≤ (mx : Int) := by omega
      have e3 : (0 : Int) ≤ (mx : Int) ∧ (mx : Int) ≤ (cap : Int) := by omega
      simp [Instr.sliceAt, Instr.slice, Instr.sliceBounds, Instr.sliceBound, run_und ht.1, ht.2, asIntOf, e1, e2, e3, l1, l2, l3]
    rw [this]; rfl⟩
theorem netDelete {L : List Chunk} {R : List Fact} {w : World} {v0 : Value} {l : Frames} {i : Nat} (hs : St (row 23 v0 l :: L) R w) (hi : i < l.length) : Calls Try.prog 62 [v0, vi (i : Int), vi ((i + 1 : Nat) : Int)].toArray w (Post (fun v : Value => v) (fun v => row 23 v (l.eraseIdx i) :: L) (fun v => R)) := by
  have hlen := row_len (L := row 23 v0 l :: L) .hd hs
  have hne : l ≠ [] := by intro h; rw [h] at hi; simp at hi
  obtain ⟨g, cap, cs, rfl, hcap, hml, hN, hcl, hs, h1⟩ := row_blk hne hs
  have hz : Enc.sz (List UInt8) = 1 := rfl
  rw [hz, Nat.mul_one] at hcl hs h1
  have fin : ∀ (w : World), St (blk g 23 ((cs.take i ++ (cs.drop (i + 1)).take (l.length - (i + 1)) ++ cs.drop (i + (l.length - (i + 1)))).take (i + (l.length - (i + 1))) ++ [.slice none 0 0] ++ (cs.take i ++ (cs.drop (i + 1)).take (l.length - (i + 1)) ++ cs.drop (i + (l.length - (i + 1)))).drop (i + (l.length - (i + 1)) + 1)) :: L) (rdL l (cs.take l.length) :: R) w →
      ∃ u, Value.slice (some ⟨g, 0, none⟩) (i + (l.length - (i + 1))) cap = u ∧ St (row 23 u (l.eraseIdx i) :: L) R w := by
    intro w hs
    have he : (l.eraseIdx i).length = i + (l.length - (i + 1)) := by rw [List.length_eraseIdx, if_pos hi]; omega
    have hA : (cs.take i ++ (cs.drop (i + 1)).take (l.length - (i + 1))).length = i + (l.length - (i + 1)) := by simp; omega
    refine ⟨_, rfl, ?_⟩
    have := blk_row (T := 23) (g := g) (cap := cap) (xs := l.eraseIdx i) (by omega) (by omega) hml (by rw [hz, Nat.mul_one]; simp only [List.length_append, List.length_take, List.length_drop, List.length_cons, List.length_nil]; omega) (fun j hj => ?_) hs
    · rw [he] at this; exact st_cut this
    · have hr : RdL l (cs.take l.length) j := hj _ (List.Mem.head _)
      have hr2 := hr.erase hz hi
      rw [he, hz, Nat.mul_one]
      have : ((cs.take i ++ (cs.drop (i + 1)).take (l.length - (i + 1)) ++ cs.drop (i + (l.length - (i + 1)))).take (i + (l.length - (i + 1))) ++ [Value.slice none 0 0] ++ (cs.take i ++ (cs.drop (i + 1)).take (l.length - (i + 1)) ++ cs.drop (i + (l.length - (i + 1)))).drop (i + (l.length - (i + 1)) + 1)).take (i + (l.length - (i + 1))) = (cs.take l.length).take i ++ (cs.take l.length).drop (i + 1) := by
        rw [List.append_assoc, List.take_append_of_le_length (by simp; omega), List.take_take, Nat.min_self, List.take_append_of_le_length (by rw [hA]; exact Nat.le_refl _), List.take_of_length_le (by rw [hA]; exact Nat.le_refl _), List.take_take, Nat.min_eq_left (by omega), List.drop_take]
      rw [this]; exact hr2
  refine calls_args Try.func62 rfl Try.ntmps62 rfl hs ?_
  clear hs
  repeat refine jc_seq ?_
  refine jc_region ?_
  refine o q_as ?_
  refine J.nil ?_
  refine jx_then ?_
  repeat refine jc_seq ?_
  refine jc_region ?_
  refine o q_mv ?_
  refine o q_mv ?_
  refine o q_mv ?_
  refine o q_mv ?_
  refine o (q_len (hl := len_lit) Try.underlying22) ?_
  refine o (p_slice3 (a := ⟨g, 0, none⟩) so_22 (lo := i) (hi := i + 1) (mx := l.length) rfl rfl rfl rfl (by omega) (by omega) hcap) ?_
  refine J.nil ?_
  refine jx_then ?_
  repeat refine jc_seq ?_
  refine jc_region ?_
  refine o q_mv ?_
  refine o q_mv ?_
  refine o (p_int rfl rfl (b_eql_F (by omega))) ?_
  refine J.nil ?_
  refine jx_then ?_
  repeat refine jc_seq ?_
  refine cF_ ?_
  refine jc_skip ?_
  refine jx_then ?_
  repeat refine jc_seq ?_
  refine jc_region ?_
  refine o q_mv ?_
  refine o (q_len (hl := len_lit) Try.underlying22) ?_
  refine o q_as ?_
  refine J.nil ?_
  refine jx_then ?_
  repeat refine jc_seq ?_
  refine jc_draw mixed (by kernel_rfl) (by kernel_rfl) (fun _ _ => _) (fun _ => rfl) ?_
  refine dj ?_
  first | refine dc (fun _ _ => q_mv) ?_
  refine dj ?_
  first | refine dc (fun _ _ => q_mv) ?_
  refine dj ?_
  refine dc (fun _ _ => q_sl0 (hi := i) so_22 rfl rfl (by omega)) ?_
  refine dj ?_
  first | refine dc (fun _ _ => q_mv) ?_
  refine dj ?_
  first | refine dc (fun _ _ => q_mv) ?_
  refine dj ?_
  refine dc (fun _ _ => q_slN (lo := i + 1) (hi := l.length) so_22 rfl rfl rfl (by omega) (by omega)) ?_
  refine d_tailC (by kernel_rfl) ?_; intro ρ; simp only [chunks, facts, alOf, List.append_nil, List.nil_append, List.cons_append]
  refine ap_in (j := i + 1) (cs := cs) eo_22 rfl rfl (fun hm => by rw [if_neg (by omega)]; unfold Addr.add; simp) .hd hcl (by omega) (by omega) (fun u hu => h1 u (by rw [← List.drop_take] at hu; exact List.mem_of_mem_drop hu)) ?_
  refine o q_as ?_
  refine J.nil ?_
  refine jx_then ?_
  repeat refine jc_seq ?_
  refine jc_region ?_
  refine o q_mv ?_
  refine o q_mv ?_
  refine o (q_len (hl := len_lit) Try.underlying22) ?_
  refine o q_mv ?_
  refine o (q_slN (lo := i + (l.length - (i + 1))) (hi := l.length) so_22 rfl rfl rfl (by omega) (by omega)) ?_
  refine clr (o := i + (l.length - (i + 1))) (c2 := cap - (i + (l.length - (i + 1)))) (z := .slice none 0 0) eo_22 Try.zeroValue23 rfl rfl ?_ .hd ?_ ?_
  · refine congrArg some ?_; rw [if_neg (by omega), show l.length - (i + (l.length - (i + 1))) = 1 by omega]; rw [add_mk]; simp
  · simp only [List.length_append, List.length_take, List.length_drop]; omega
  intro cs_ hcs_; subst hcs_
  refine J.nil ?_
  refine jx_then ?_
  repeat refine jc_seq ?_
  refine jc_region ?_
  refine o q_mv ?_
  refine o q_as ?_
  refine J.nil ?_
  refine jx_then ?_
  refine jc_ret ?_
  repeat (first | refine jx_thenRet ?_ | refine jx_blockRet ?_)
  refine jx_body (.inr rfl) (fun B w hs => res1 rfl rfl B w) (fun w hs => fin w hs)
end Go.Proofs.Ytofgpimoekhfaaa
