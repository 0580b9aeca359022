/- This file proves parts of what its law needs: each part is told ahead of it. No conditions. -/
import Derived.Test.YtiofgjolhbgkiaaDoorHM3
import Derived.Test.YtiofgjolhbgkiaaDoorHM2
import Derived.Lib.Builder
import Derived.Lib.UnsafeStr
import Derived.Laws.Externs
set_option linter.unusedVariables false
set_option linter.unusedSimpArgs false
set_option linter.unusedSectionVars false
section
/- This file proves what the reader of a line computes. No conditions. -/
set_option maxHeartbeats 1000000
set_option maxRecDepth 8000
namespace Go.Proofs.YtiofgjolhbgkiaaDoor
open Go
theorem rdWord {L : List Chunk} {R : List Fact} {w : World} {b : Nat} {v : Value} {W : List Bs} {ok : Bool} (hs : St (blk b 60 [v, .bool ok] :: L) R w) (h0 : sl (α := Wd) v W ∈ R) : Calls Tryd.prog 33 [bp b 0].toArray w (Post (fun g : Value => .string (bstr (hdW (W, ok)))) (fun g => blk b 60 [g, .bool (rdW (W, ok)).2] :: L) (fun g => sl (α := Wd) g (rdW (W, ok)).1 :: R)) := by
  have hone0 : v.oneCell' = true := isSlice.one (hs.fact h0)
  refine calls_args Tryd.func33 rfl Tryd.ntmps33 rfl hs ?_
  clear hs
  refine Gm ?_
  refine Ga1 ?_
  rcases (show (W = []) ∨ (∃ a r, W = a :: r) from by cases W with
   | nil => exact .inl rfl
   | cons w0 r => exact .inr ⟨w0, r, rfl⟩) with hc | hc
  ·
   subst hc
   refine jc_region ?_
   refine rn5 ?_
   refine ob (p_int rfl rfl (b_eql_T rfl)) ?_
   refine Gmc ?_
   refine rn3 ?_
   refine sc ?_
   refine Gm ?_
   refine Ga1 ?_
   refine jx_body (.inr rfl) (fun B w hs => res1 rfl rfl B w) (fun w hs => ⟨v, rfl, st_cut hs⟩)
  ·
   obtain ⟨w0, r, rfl⟩ := hc
   have hm0 := h0
   refine JC.know (p := ∃ a cap, v = .slice (some a) (@List.length Bs r + 1) cap ∧ @List.length Bs r + 1 ≤ cap) (fun w hs => sl_cons (α := Wd) h0 hs) (fun hx => ?_)
   obtain ⟨a, cap, rfl, hcap⟩ := hx
   refine jc_region ?_
   refine rn5 ?_
   refine ob (p_int rfl rfl (b_eql_F (by show ¬ (((@List.length Bs r + 1 : Nat)) : Int) = 0; omega))) ?_
   refine Glc ?_
   refine JC.open0 (α := Wd) (xs := w0 :: r) (v := .slice (some a) (@List.length Bs r + 1) cap) 0 mm (Nat.zero_lt_succ _) (fun _ => ?_)
   refine jc_region ?_
   refine rn4 ?_
   refine ob (q_iN (i := 0) so_37 (hl := len_sl (α := Wd) (xs := w0 :: r) mm) (h1 := Nat.zero_lt_succ _)) ?_
   refine Gb2 ?_
   refine rn5 ?_
   refine ob (q_sl (lo := 1) (hi := @List.length Bs r + 1) (sz := 1) (e := 9) so_37 rfl rfl rfl (by omega) (by omega)) ?_
   refine rn2 ?_
   refine sc ?_
   refine Gm ?_
   refine Ga2 ?_
   refine jx_body (.inr rfl) (fun B w hs => res1 rfl rfl B w) (fun w hs => ⟨(.slice (if cap = 1 then some a else some (a.add (1 * 1))) (@List.length Bs r + 1 - 1) (cap - 1)), rfl, by have h9 := sl_tail (α := Wd) rfl (List.mem_cons_of_mem _ hm0) hs; exact st_cut h9⟩)
theorem rdNum {L : List Chunk} {R : List Fact} {w : World} {b : Nat} {v : Value} {W : List Bs} {ok : Bool} (hs : St (blk b 60 [v, .bool ok] :: L) R w) (h0 : sl (α := Wd) v W ∈ R) (hl : lbF ∈ R) (hn : (hdW (W, ok)).length ≤ 4294967280) : Calls Tryd.prog 34 [bp b 0].toArray w (Post (fun g : Value => vi (vN (W, ok))) (fun g => blk b 60 [g, .bool (rdN (W, ok)).2] :: L) (fun g => sl (α := Wd) g (rdN (W, ok)).1 :: R)) := by
  refine calls_args Tryd.func34 rfl Tryd.ntmps34 rfl hs ?_
  clear hs
  refine Gm ?_
  refine Gb1 ?_
  refine rn1 ?_
  refine r_call Tryd.call33 rfl (fun w hs => rdWord (W := W) (ok := ok) (st_cut hs) mm) ?_; intro g7
  refine Gb1 ?_
  refine rn1 ?_
  refine r_call Tryd.call37 rfl (fun w hs => cAtoi hs mm (by omega)) ?_; intro g8
  refine Ga5 ?_
  rcases (show (okA (hdW (W, ok)) = true ∧ Go.Lib.itoa (vOf (hdW (W, ok))) = (hdW (W, ok))) ∨ (okA (hdW (W, ok)) = true ∧ Go.Lib.itoa (vOf (hdW (W, ok))) ≠ (hdW (W, ok))) ∨ (okA (hdW (W, ok)) = false ∧ True) from by exact num3 _) with hc | hc | hc
  ·
   have ho : okOf (hdW (W, ok)) = true := by rw [ok_of, hc.1, decide_eq_true hc.2]; rfl
   refine jc_region ?_
   refine rn1 ?_
   refine ob (p_binG rfl rfl guard_er (b_erne_F Tryd.underlying47 hc.1)) ?_
   refine rn2 ?_
   refine gy ?_
   refine r_call Tryd.call15 rfl (fun w hs => cItoa hs mm (vOf_in _)) ?_; intro _
   refine rn1 ?_
   refine gy ?_
   refine ob (p_str rfl rfl (b_strne_F hc.2)) ?_
   refine Gd1 ?_
   refine Ga2 ?_
   have e1 : (rdN (W, ok)).2 = (rdW (W, ok)).2 := by show ((rdW (W, ok)).2 && okOf (hdW (W, ok))) = _; rw [ho]; exact Bool.and_true _
   refine jx_body (.inr rfl) (fun B w hs => res1 rfl rfl B w) (fun w hs => ⟨g7, rfl, by rw [e1]; exact st_cut hs⟩)
  ·
   have ho : okOf (hdW (W, ok)) = false := by rw [ok_of, hc.1, decide_eq_false hc.2]; rfl
   refine jc_region ?_
   refine rn1 ?_
   refine ob (p_binG rfl rfl guard_er (b_erne_F Tryd.underlying47 hc.1)) ?_
   refine rn2 ?_
   refine gy ?_
   refine r_call Tryd.call15 rfl (fun w hs => cItoa hs mm (vOf_in _)) ?_; intro _
   refine rn1 ?_
   refine gy ?_
   refine ob (p_str rfl rfl (b_strne_T hc.2)) ?_
   refine Gd1 ?_
   refine rn3 ?_
   refine sc ?_
   refine Gm ?_
   refine Ga2 ?_
   have e1 : (rdN (W, ok)).2 = false := by show ((rdW (W, ok)).2 && okOf (hdW (W, ok))) = _; rw [ho]; exact Bool.and_false _
   refine jx_body (.inr rfl) (fun B w hs => res1 rfl rfl B w) (fun w hs => ⟨g7, rfl, by rw [e1]; exact st_cut hs⟩)
  ·
   have ho : okOf (hdW (W, ok)) = false := by rw [ok_of, hc.1]; rfl
   refine jc_region ?_
   refine rn1 ?_
   refine ob (p_binG rfl rfl guard_er (b_erne_T Tryd.underlying47 hc.1)) ?_
   refine Gd6 ?_
   refine rn3 ?_
   refine sc ?_
   refine Gm ?_
   refine Ga2 ?_
   have e1 : (rdN (W, ok)).2 = false := by show ((rdW (W, ok)).2 && okOf (hdW (W, ok))) = _; rw [ho]; exact Bool.and_false _
   refine jx_body (.inr rfl) (fun B w hs => res1 rfl rfl B w) (fun w hs => ⟨g7, rfl, by rw [e1]; exact st_cut hs⟩)
theorem rdWordS {L : List Chunk} {R : List Fact} {w : World} {b : Nat} {v : Value} {st : RSt} (hs : St (blk b 60 [v, .bool st.2] :: L) R w) (h0 : sl (α := Wd) v st.1 ∈ R) : Calls Tryd.prog 33 [bp b 0].toArray w (Post (fun g : Value => .string (bstr (hdW st))) (fun g => blk b 60 [g, .bool (rdW st).2] :: L) (fun g => sl (α := Wd) g (rdW st).1 :: R)) := rdWord (W := st.1) (ok := st.2) hs h0
theorem rdNumS {L : List Chunk} {R : List Fact} {w : World} {b N : Nat} {v : Value} {st : RSt} (hs : St (blk b 60 [v, .bool st.2] :: L) R w) (h0 : sl (α := Wd) v st.1 ∈ R) (hl : lbF ∈ R) (hn : BdW N st) (hN : N ≤ 4294967280) : Calls Tryd.prog 34 [bp b 0].toArray w (Post (fun g : Value => vi (vN st)) (fun g => blk b 60 [g, .bool (rdN st).2] :: L) (fun g => sl (α := Wd) g (rdN st).1 :: R)) := rdNum (W := st.1) (ok := st.2) hs h0 hl (Nat.le_trans hn.hd hN)
theorem scLine {L : List Chunk} {R : List Fact} {w : World} {bs : Bs} (hs : St (L) R w) (hl : lbF ∈ R) (hb : bs.length ≤ 16777215) : Calls Tryd.prog 25 [.string (bstr bs)].toArray w (Post (fun _ : Unit => .tuple #[.agg (lineS bs).1.cells.toArray, vi (lineS bs).2]) (fun _ => L) (fun _ => R)) := by
  have hN : bs.length ≤ 4294967280 := by omega
  have hB := BdW.cut (s := bs)
  refine calls_args Tryd.func25 rfl Tryd.ntmps25 rfl hs ?_
  clear hs
  refine Gm ?_
  refine al_ (cs := zStep.cells) Tryd.zeroValue27 ?_; intro b2
  refine Gb1 ?_
  refine rn1 ?_
  refine r_call Tryd.call31 rfl (fun w hs => cSplit (l := bs) (c := 32) hs mm (by omega)) ?_; intro v7
  refine J.know (p := v7.oneCell' = true) (fun w hs => isSlice.one (hs.fact (.head _))) (fun hone7 => ?_)
  refine rn1 ?_
  refine bx ?_; intro b9
  refine Gb1 ?_
  refine r_call Tryd.call13 rfl (fun w hs => scWords hs) ?_; intro v10
  refine rn1 ?_
  refine r_call Tryd.call33 rfl (fun w hs => rdWordS (st := ((cutAt 32 bs, true) : RSt)) (st_cut hs) mm) ?_; intro g12
  refine r_call Tryd.call32 rfl (fun w hs => scIndex hs mm) ?_; intro _
  refine rn1 ?_
  refine al_ (cs := zStep.cells) Tryd.zeroValue27 ?_; intro b5
  refine s_B Tryd.sizeOf27 ?_
  refine Gl ?_
  rcases (show (place kinds (hdW ((cutAt 32 bs, true) : RSt)) = 0) ∨ (place kinds (hdW ((cutAt 32 bs, true) : RSt)) = 1) ∨ (place kinds (hdW ((cutAt 32 bs, true) : RSt)) = 6) ∨ (place kinds (hdW ((cutAt 32 bs, true) : RSt)) = 5) ∨ ((place kinds (hdW ((cutAt 32 bs, true) : RSt)) ≠ 0 ∧ place kinds (hdW ((cutAt 32 bs, true) : RSt)) ≠ 1 ∧ place kinds (hdW ((cutAt 32 bs, true) : RSt)) ≠ 6 ∧ place kinds (hdW ((cutAt 32 bs, true) : RSt)) ≠ 5)) from by exact pl_all _) with hc | hc | hc | hc | hc
  ·
   have e9 : lineS bs = (zStep, 1) := (line_prog bs).trans (pl0 hc)
   refine jc_region ?_
   refine Gb2 ?_
   refine ob (p_int rfl rfl (b_eql_T (by omega))) ?_
   refine Gd1 ?_
   refine ob (q_bd (cs := zStep.cells) st_27) ?_
   refine s_B Tryd.sizeOf27 ?_
   refine Ga1 ?_
   rw [e9]
   exact retc2 () Tryd.isAgg27 Tryd.sizeOf27
  ·
   have hk := hc
   rw [hc]
   refine jc_region ?_
   refine Gb2 ?_
   refine ob (p_int rfl rfl (b_eql_F (by omega))) ?_
   refine Gd1 ?_
   refine ob (p_int rfl rfl (b_eql_T (by omega))) ?_
   refine Gd1 ?_
   refine rn1 ?_
   refine r_call Tryd.call34 rfl (fun w hs => rdNumS (st := (rdW ((cutAt 32 bs, true) : RSt))) (st_cut hs) mm mm hB.w hN) ?_; intro g26
   refine rn1 ?_
   refine sc ?_
   refine Gm ?_
   refine r_call Tryd.call16 rfl (fun w hs => scOps hs) ?_; intro v28
   refine rn1 ?_
   refine r_call Tryd.call33 rfl (fun w hs => rdWordS (st := (rdN (rdW ((cutAt 32 bs, true) : RSt)))) (st_cut hs) mm) ?_; intro g30
   refine r_call Tryd.call32 rfl (fun w hs => scIndex hs mm) ?_; intro _
   refine rn2 ?_
   refine sc ?_
   refine Gl ?_
   rcases (show (place opns (hdW (rdN (rdW ((cutAt 32 bs, true) : RSt)))) = 0 ∧ (rdW (rdN (rdW ((cutAt 32 bs, true) : RSt)))).2 = true) ∨ (place opns (hdW (rdN (rdW ((cutAt 32 bs, true) : RSt)))) = 0 ∧ (rdW (rdN (rdW ((cutAt 32 bs, true) : RSt)))).2 = false) ∨ (place opns (hdW (rdN (rdW ((cutAt 32 bs, true) : RSt)))) ≠ 0 ∧ (place opns (hdW (rdN (rdW ((cutAt 32 bs, true) : RSt)))) = 2 ∨ place opns (hdW (rdN (rdW ((cutAt 32 bs, true) : RSt)))) = 3)) ∨ (place opns (hdW (rdN (rdW ((cutAt 32 bs, true) : RSt)))) ≠ 0 ∧ ¬ (place opns (hdW (rdN (rdW ((cutAt 32 bs, true) : RSt)))) = 2 ∨ place opns (hdW (rdN (rdW ((cutAt 32 bs, true) : RSt)))) = 3)) from by exact po_all _ _) with hc | hc | hc | hc
   ·
    have e9 : lineS bs = (zStep, 1) := (line_prog bs).trans ((pl1 hk).trans (po0 hc.1 hc.2))
    rw [hc.2]
    refine kp [2, 3, 4, 5, 16, 34, 35, 36, 37, 38, 39, 40, 41, 42, 43] ?_
    refine jc_region ?_
    refine rn3 ?_
    refine ob (p_int rfl rfl (b_eql_T (by have := hc.1; omega))) ?_
    refine rn4 ?_
    refine gy ?_
    refine ob (q_l1 Tryd.isAgg4) ?_
    refine Gd1 ?_
    refine ob (q_bd (cs := zStep.cells) st_27) ?_
    refine s_B Tryd.sizeOf27 ?_
    refine Ga1 ?_
    rw [e9]
    exact retc2 () Tryd.isAgg27 Tryd.sizeOf27
   ·
    have hoz := hc.1
    have ho : ¬ (place opns (hdW (rdN (rdW ((cutAt 32 bs, true) : RSt)))) = 0 ∧ (rdW (rdN (rdW ((cutAt 32 bs, true) : RSt)))).2 = true) := fun h => by rw [hc.2] at h; cases h.2
    have ho2 : ¬ (place opns (hdW (rdN (rdW ((cutAt 32 bs, true) : RSt)))) = 2 ∨ place opns (hdW (rdN (rdW ((cutAt 32 bs, true) : RSt)))) = 3) := by omega
    refine kp [2, 3, 4, 5, 16, 34, 35, 36, 37, 38, 39, 40, 41, 42, 43] ?_
    refine jc_region ?_
    refine rn3 ?_
    refine ob (p_int rfl rfl (b_eql_T (by have := hc.1; omega))) ?_
    refine Ga6 ?_
    refine jc_cond (b := ?b1) ?e1 ?_ ?_; case e1 => exact rfl
    ·
     intro ht43
     rw [hc.2] at ht43; cases ht43
    ·
     intro ht43
     refine Gm ?_
     refine rn1 ?_
     refine r_call Tryd.call34 rfl (fun w hs => rdNumS (st := (rdW (rdN (rdW ((cutAt 32 bs, true) : RSt))))) (st_cut hs) mm mm hB.w.n.w hN) ?_; intro g46
     refine rn2 ?_
     refine sc ?_
     refine Gm ?_
     refine rn3 ?_
     refine ob (p_int rfl rfl (b_eql_F (by have := hc.1; omega))) ?_
     refine rn4 ?_
     refine gy ?_
     refine ob (p_int rfl rfl (b_eql_F (by have := hc.1; omega))) ?_
     refine Gc1 ?_
     rcases (show ((rdN (rdW (rdN (rdW ((cutAt 32 bs, true) : RSt))))).2 = false) ∨ ((rdN (rdW (rdN (rdW ((cutAt 32 bs, true) : RSt))))).2 = true ∧ 0 < (rdN (rdW (rdN (rdW ((cutAt 32 bs, true) : RSt))))).1.length) ∨ ((rdN (rdW (rdN (rdW ((cutAt 32 bs, true) : RSt))))).2 = true ∧ (rdN (rdW (rdN (rdW ((cutAt 32 bs, true) : RSt))))).1.length = 0) from by exact fin_all (rdN (rdW (rdN (rdW ((cutAt 32 bs, true) : RSt)))))) with hc | hc | hc
     ·
      have e9 : lineS bs = (zStep, 2) := ((line_prog bs).trans ((pl1 hk).trans (po1 (fun h => ho h) ho2))).trans (fin1 hc)
      rw [hc]
      refine jc_region ?_
      refine rn3 ?_
      refine ob (q_l1 Tryd.isAgg4) ?_
      first | refine ob (q_notD) ?_ | refine ob (q_not) ?_
      refine Gc8 ?_
      refine kp [2, 3, 5, 89] ?_
      refine jc_region ?_
      refine ob (q_bd (cs := zStep.cells) st_27) ?_
      refine s_B Tryd.sizeOf27 ?_
      refine Ga1 ?_
      rw [e9]
      exact retc2 () Tryd.isAgg27 Tryd.sizeOf27
     ·
      have e9 : lineS bs = (zStep, 2) := ((line_prog bs).trans ((pl1 hk).trans (po1 (fun h => ho h) ho2))).trans (fin2 hc.2)
      rw [hc.1]
      refine jc_region ?_
      refine rn3 ?_
      refine ob (q_l1 Tryd.isAgg4) ?_
      first | refine ob (q_notD) ?_ | refine ob (q_not) ?_
      refine rn6 ?_
      refine gy ?_
      refine ob (p_int rfl rfl (b_gtr_T (by have h9 : 0 < @List.length Wd (rdN (rdW (rdN (rdW ((cutAt 32 bs, true) : RSt))))).1 := hc.2; omega))) ?_
      refine Gc1 ?_
      refine kp [2, 3, 5, 89] ?_
      refine jc_region ?_
      refine ob (q_bd (cs := zStep.cells) st_27) ?_
      refine s_B Tryd.sizeOf27 ?_
      refine Ga1 ?_
      rw [e9]
      exact retc2 () Tryd.isAgg27 Tryd.sizeOf27
     ·
      have e9 := ((line_prog bs).trans ((pl1 hk).trans (po1 (fun h => ho h) ho2))).trans (fin3 hc.1 hc.2)
      rw [hc.1]
      refine jc_region ?_
      refine rn3 ?_
      refine ob (q_l1 Tryd.isAgg4) ?_
      first | refine ob (q_notD) ?_ | refine ob (q_not) ?_
      refine rn6 ?_
      refine gy ?_
      refine ob (p_int rfl rfl (b_gtr_F (by have h9 : @List.length Wd (rdN (rdW (rdN (rdW ((cutAt 32 bs, true) : RSt))))).1 = 0 := hc.2; omega))) ?_
      refine Gc1 ?_
      refine kp [2, 3, 5, 90] ?_
      refine jc_region ?_
      refine rn1 ?_
      refine s_B Tryd.sizeOf27 ?_
      refine Ga1 ?_
      rw [e9]
      exact retc2 () Tryd.isAgg27 Tryd.sizeOf27
   ·
    have ho := hc
    refine kp [2, 3, 4, 5, 16, 34, 35, 36, 37, 38, 39, 40, 41, 42, 43] ?_
    refine jc_region ?_
    refine rn3 ?_
    refine ob (p_int rfl rfl (b_eql_F (by have := ho.1; omega))) ?_
    refine Gd6 ?_
    refine rn1 ?_
    refine r_call Tryd.call34 rfl (fun w hs => rdNumS (st := (rdW (rdN (rdW ((cutAt 32 bs, true) : RSt))))) (st_cut hs) mm mm hB.w.n.w hN) ?_; intro g46
    refine rn2 ?_
    refine sc ?_
    refine Gl ?_
    rcases (show (place opns (hdW (rdN (rdW ((cutAt 32 bs, true) : RSt)))) = 2) ∨ (place opns (hdW (rdN (rdW ((cutAt 32 bs, true) : RSt)))) = 3) from by exact ho.2) with hc | hc
    ·
     refine jc_region ?_
     refine rn3 ?_
     refine ob (p_int rfl rfl (b_eql_T (by omega))) ?_
     refine Gd6 ?_
     refine rn1 ?_
     refine r_call Tryd.call34 rfl (fun w hs => rdNumS (st := (rdN (rdW (rdN (rdW ((cutAt 32 bs, true) : RSt)))))) (st_cut hs) mm mm hB.w.n.w.n hN) ?_; intro g60
     refine rn2 ?_
     refine sc ?_
     refine Gl ?_
     rcases (show ((rdN (rdN (rdW (rdN (rdW ((cutAt 32 bs, true) : RSt)))))).2 = false) ∨ ((rdN (rdN (rdW (rdN (rdW ((cutAt 32 bs, true) : RSt)))))).2 = true ∧ 0 < (rdN (rdN (rdW (rdN (rdW ((cutAt 32 bs, true) : RSt)))))).1.length) ∨ ((rdN (rdN (rdW (rdN (rdW ((cutAt 32 bs, true) : RSt)))))).2 = true ∧ (rdN (rdN (rdW (rdN (rdW ((cutAt 32 bs, true) : RSt)))))).1.length = 0) from by exact fin_all (rdN (rdN (rdW (rdN (rdW ((cutAt 32 bs, true) : RSt))))))) with hc | hc | hc
     ·
      have e9 : lineS bs = (zStep, 2) := ((line_prog bs).trans ((pl1 hk).trans (po2 ho.2))).trans (fin1 hc)
      rw [hc]
      refine jc_region ?_
      refine rn3 ?_
      refine ob (q_l1 Tryd.isAgg4) ?_
      first | refine ob (q_notD) ?_ | refine ob (q_not) ?_
      refine Gc8 ?_
      refine kp [2, 3, 5, 89] ?_
      refine jc_region ?_
      refine ob (q_bd (cs := zStep.cells) st_27) ?_
      refine s_B Tryd.sizeOf27 ?_
      refine Ga1 ?_
      rw [e9]
      exact retc2 () Tryd.isAgg27 Tryd.sizeOf27
     ·
      have e9 : lineS bs = (zStep, 2) := ((line_prog bs).trans ((pl1 hk).trans (po2 ho.2))).trans (fin2 hc.2)
      rw [hc.1]
      refine jc_region ?_
      refine rn3 ?_
      refine ob (q_l1 Tryd.isAgg4) ?_
      first | refine ob (q_notD) ?_ | refine ob (q_not) ?_
      refine rn6 ?_
      refine gy ?_
      refine ob (p_int rfl rfl (b_gtr_T (by have h9 : 0 < @List.length Wd (rdN (rdN (rdW (rdN (rdW ((cutAt 32 bs, true) : RSt)))))).1 := hc.2; omega))) ?_
      refine Gc1 ?_
      refine kp [2, 3, 5, 89] ?_
      refine jc_region ?_
      refine ob (q_bd (cs := zStep.cells) st_27) ?_
      refine s_B Tryd.sizeOf27 ?_
      refine Ga1 ?_
      rw [e9]
      exact retc2 () Tryd.isAgg27 Tryd.sizeOf27
     ·
      have e9 := ((line_prog bs).trans ((pl1 hk).trans (po2 ho.2))).trans (fin3 hc.1 hc.2)
      rw [hc.1]
      refine jc_region ?_
      refine rn3 ?_
      refine ob (q_l1 Tryd.isAgg4) ?_
      first | refine ob (q_notD) ?_ | refine ob (q_not) ?_
      refine rn6 ?_
      refine gy ?_
      refine ob (p_int rfl rfl (b_gtr_F (by have h9 : @List.length Wd (rdN (rdN (rdW (rdN (rdW ((cutAt 32 bs, true) : RSt)))))).1 = 0 := hc.2; omega))) ?_
      refine Gc1 ?_
      refine kp [2, 3, 5, 90] ?_
      refine jc_region ?_
      refine rn1 ?_
      refine s_B Tryd.sizeOf27 ?_
      refine Ga1 ?_
      rw [e9]
      exact retc2 () Tryd.isAgg27 Tryd.sizeOf27
    ·
     refine jc_region ?_
     refine rn3 ?_
     refine ob (p_int rfl rfl (b_eql_F (by omega))) ?_
     refine rn4 ?_
     refine gy ?_
     refine ob (p_int rfl rfl (b_eql_T (by omega))) ?_
     refine Gd1 ?_
     refine rn1 ?_
     refine r_call Tryd.call34 rfl (fun w hs => rdNumS (st := (rdN (rdW (rdN (rdW ((cutAt 32 bs, true) : RSt)))))) (st_cut hs) mm mm hB.w.n.w.n hN) ?_; intro g60
     refine rn2 ?_
     refine sc ?_
     refine Gl ?_
     rcases (show ((rdN (rdN (rdW (rdN (rdW ((cutAt 32 bs, true) : RSt)))))).2 = false) ∨ ((rdN (rdN (rdW (rdN (rdW ((cutAt 32 bs, true) : RSt)))))).2 = true ∧ 0 < (rdN (rdN (rdW (rdN (rdW ((cutAt 32 bs, true) : RSt)))))).1.length) ∨ ((rdN (rdN (rdW (rdN (rdW ((cutAt 32 bs, true) : RSt)))))).2 = true ∧ (rdN (rdN (rdW (rdN (rdW ((cutAt 32 bs, true) : RSt)))))).1.length = 0) from by exact fin_all (rdN (rdN (rdW (rdN (rdW ((cutAt 32 bs, true) : RSt))))))) with hc | hc | hc
     ·
      have e9 : lineS bs = (zStep, 2) := ((line_prog bs).trans ((pl1 hk).trans (po2 ho.2))).trans (fin1 hc)
      rw [hc]
      refine jc_region ?_
      refine rn3 ?_
      refine ob (q_l1 Tryd.isAgg4) ?_
      first | refine ob (q_notD) ?_ | refine ob (q_not) ?_
      refine Gc8 ?_
      refine kp [2, 3, 5, 89] ?_
      refine jc_region ?_
      refine ob (q_bd (cs := zStep.cells) st_27) ?_
      refine s_B Tryd.sizeOf27 ?_
      refine Ga1 ?_
      rw [e9]
      exact retc2 () Tryd.isAgg27 Tryd.sizeOf27
     ·
      have e9 : lineS bs = (zStep, 2) := ((line_prog bs).trans ((pl1 hk).trans (po2 ho.2))).trans (fin2 hc.2)
      rw [hc.1]
      refine jc_region ?_
      refine rn3 ?_
      refine ob (q_l1 Tryd.isAgg4) ?_
      first | refine ob (q_notD) ?_ | refine ob (q_not) ?_
      refine rn6 ?_
      refine gy ?_
      refine ob (p_int rfl rfl (b_gtr_T (by have h9 : 0 < @List.length Wd (rdN (rdN (rdW (rdN (rdW ((cutAt 32 bs, true) : RSt)))))).1 := hc.2; omega))) ?_
      refine Gc1 ?_
      refine kp [2, 3, 5, 89] ?_
      refine jc_region ?_
      refine ob (q_bd (cs := zStep.cells) st_27) ?_
      refine s_B Tryd.sizeOf27 ?_
      refine Ga1 ?_
      rw [e9]
      exact retc2 () Tryd.isAgg27 Tryd.sizeOf27
     ·
      have e9 := ((line_prog bs).trans ((pl1 hk).trans (po2 ho.2))).trans (fin3 hc.1 hc.2)
      rw [hc.1]
      refine jc_region ?_
      refine rn3 ?_
      refine ob (q_l1 Tryd.isAgg4) ?_
      first | refine ob (q_notD) ?_ | refine ob (q_not) ?_
      refine rn6 ?_
      refine gy ?_
      refine ob (p_int rfl rfl (b_gtr_F (by have h9 : @List.length Wd (rdN (rdN (rdW (rdN (rdW ((cutAt 32 bs, true) : RSt)))))).1 = 0 := hc.2; omega))) ?_
      refine Gc1 ?_
      refine kp [2, 3, 5, 90] ?_
      refine jc_region ?_
      refine rn1 ?_
      refine s_B Tryd.sizeOf27 ?_
      refine Ga1 ?_
      rw [e9]
      exact retc2 () Tryd.isAgg27 Tryd.sizeOf27
   ·
    have ho0 := hc
    have ho : ¬ (place opns (hdW (rdN (rdW ((cutAt 32 bs, true) : RSt)))) = 0 ∧ (rdW (rdN (rdW ((cutAt 32 bs, true) : RSt)))).2 = true) := fun h => ho0.1 h.1
    have ho2 := ho0.2
    refine kp [2, 3, 4, 5, 16, 34, 35, 36, 37, 38, 39, 40, 41, 42, 43] ?_
    refine jc_region ?_
    refine rn3 ?_
    refine ob (p_int rfl rfl (b_eql_F (by have := ho0.1; omega))) ?_
    refine Gd6 ?_
    refine rn1 ?_
    refine r_call Tryd.call34 rfl (fun w hs => rdNumS (st := (rdW (rdN (rdW ((cutAt 32 bs, true) : RSt))))) (st_cut hs) mm mm hB.w.n.w hN) ?_; intro g46
    refine rn2 ?_
    refine sc ?_
    refine Gm ?_
    refine rn3 ?_
    refine ob (p_int rfl rfl (b_eql_F (by have := ho0.2; omega))) ?_
    refine rn4 ?_
    refine gy ?_
    refine ob (p_int rfl rfl (b_eql_F (by have := ho0.2; omega))) ?_
    refine Gc1 ?_
    rcases (show ((rdN (rdW (rdN (rdW ((cutAt 32 bs, true) : RSt))))).2 = false) ∨ ((rdN (rdW (rdN (rdW ((cutAt 32 bs, true) : RSt))))).2 = true ∧ 0 < (rdN (rdW (rdN (rdW ((cutAt 32 bs, true) : RSt))))).1.length) ∨ ((rdN (rdW (rdN (rdW ((cutAt 32 bs, true) : RSt))))).2 = true ∧ (rdN (rdW (rdN (rdW ((cutAt 32 bs, true) : RSt))))).1.length = 0) from by exact fin_all (rdN (rdW (rdN (rdW ((cutAt 32 bs, true) : RSt)))))) with hc | hc | hc
    ·
     have e9 : lineS bs = (zStep, 2) := ((line_prog bs).trans ((pl1 hk).trans (po1 (fun h => ho h) ho2))).trans (fin1 hc)
     rw [hc]
     refine jc_region ?_
     refine rn3 ?_
     refine ob (q_l1 Tryd.isAgg4) ?_
     first | refine ob (q_notD) ?_ | refine ob (q_not) ?_
     refine Gc8 ?_
     refine kp [2, 3, 5, 89] ?_
     refine jc_region ?_
     refine ob (q_bd (cs := zStep.cells) st_27) ?_
     refine s_B Tryd.sizeOf27 ?_
     refine Ga1 ?_
     rw [e9]
     exact retc2 () Tryd.isAgg27 Tryd.sizeOf27
    ·
     have e9 : lineS bs = (zStep, 2) := ((line_prog bs).trans ((pl1 hk).trans (po1 (fun h => ho h) ho2))).trans (fin2 hc.2)
     rw [hc.1]
     refine jc_region ?_
     refine rn3 ?_
     refine ob (q_l1 Tryd.isAgg4) ?_
     first | refine ob (q_notD) ?_ | refine ob (q_not) ?_
     refine rn6 ?_
     refine gy ?_
     refine ob (p_int rfl rfl (b_gtr_T (by have h9 : 0 < @List.length Wd (rdN (rdW (rdN (rdW ((cutAt 32 bs, true) : RSt))))).1 := hc.2; omega))) ?_
     refine Gc1 ?_
     refine kp [2, 3, 5, 89] ?_
     refine jc_region ?_
     refine ob (q_bd (cs := zStep.cells) st_27) ?_
     refine s_B Tryd.sizeOf27 ?_
     refine Ga1 ?_
     rw [e9]
     exact retc2 () Tryd.isAgg27 Tryd.sizeOf27
    ·
     have e9 := ((line_prog bs).trans ((pl1 hk).trans (po1 (fun h => ho h) ho2))).trans (fin3 hc.1 hc.2)
     rw [hc.1]
     refine jc_region ?_
     refine rn3 ?_
     refine ob (q_l1 Tryd.isAgg4) ?_
     first | refine ob (q_notD) ?_ | refine ob (q_not) ?_
     refine rn6 ?_
     refine gy ?_
     refine ob (p_int rfl rfl (b_gtr_F (by have h9 : @List.length Wd (rdN (rdW (rdN (rdW ((cutAt 32 bs, true) : RSt))))).1 = 0 := hc.2; omega))) ?_
     refine Gc1 ?_
     refine kp [2, 3, 5, 90] ?_
     refine jc_region ?_
     refine rn1 ?_
     refine s_B Tryd.sizeOf27 ?_
     refine Ga1 ?_
     rw [e9]
     exact retc2 () Tryd.isAgg27 Tryd.sizeOf27
  ·
   have hk := hc
   rw [hc]
   refine jc_region ?_
   refine Gb2 ?_
   refine ob (p_int rfl rfl (b_eql_F (by omega))) ?_
   refine Gd1 ?_
   refine ob (p_int rfl rfl (b_eql_F (by omega))) ?_
   refine Gd1 ?_
   refine ob (p_int rfl rfl (b_eql_T (by omega))) ?_
   refine Gd1 ?_
   refine rn1 ?_
   refine r_call Tryd.call34 rfl (fun w hs => rdNumS (st := (rdW ((cutAt 32 bs, true) : RSt))) (st_cut hs) mm mm hB.w hN) ?_; intro g66
   refine rn1 ?_
   refine sc ?_
   refine Gl ?_
   rcases (show ((rdN (rdW ((cutAt 32 bs, true) : RSt))).2 = false) ∨ ((rdN (rdW ((cutAt 32 bs, true) : RSt))).2 = true ∧ 0 < (rdN (rdW ((cutAt 32 bs, true) : RSt))).1.length) ∨ ((rdN (rdW ((cutAt 32 bs, true) : RSt))).2 = true ∧ (rdN (rdW ((cutAt 32 bs, true) : RSt))).1.length = 0) from by exact fin_all (rdN (rdW ((cutAt 32 bs, true) : RSt)))) with hc | hc | hc
   ·
    have e9 : lineS bs = (zStep, 2) := ((line_prog bs).trans (pl6 hk)).trans (fin1 hc)
    rw [hc]
    refine jc_region ?_
    refine rn3 ?_
    refine ob (q_l1 Tryd.isAgg4) ?_
    first | refine ob (q_notD) ?_ | refine ob (q_not) ?_
    refine Gc8 ?_
    refine kp [2, 3, 5, 89] ?_
    refine jc_region ?_
    refine ob (q_bd (cs := zStep.cells) st_27) ?_
    refine s_B Tryd.sizeOf27 ?_
    refine Ga1 ?_
    rw [e9]
    exact retc2 () Tryd.isAgg27 Tryd.sizeOf27
   ·
    have e9 : lineS bs = (zStep, 2) := ((line_prog bs).trans (pl6 hk)).trans (fin2 hc.2)
    rw [hc.1]
    refine jc_region ?_
    refine rn3 ?_
    refine ob (q_l1 Tryd.isAgg4) ?_
    first | refine ob (q_notD) ?_ | refine ob (q_not) ?_
    refine rn6 ?_
    refine gy ?_
    refine ob (p_int rfl rfl (b_gtr_T (by have h9 : 0 < @List.length Wd (rdN (rdW ((cutAt 32 bs, true) : RSt))).1 := hc.2; omega))) ?_
    refine Gc1 ?_
    refine kp [2, 3, 5, 89] ?_
    refine jc_region ?_
    refine ob (q_bd (cs := zStep.cells) st_27) ?_
    refine s_B Tryd.sizeOf27 ?_
    refine Ga1 ?_
    rw [e9]
    exact retc2 () Tryd.isAgg27 Tryd.sizeOf27
   ·
    have e9 := ((line_prog bs).trans (pl6 hk)).trans (fin3 hc.1 hc.2)
    rw [hc.1]
    refine jc_region ?_
    refine rn3 ?_
    refine ob (q_l1 Tryd.isAgg4) ?_
    first | refine ob (q_notD) ?_ | refine ob (q_not) ?_
    refine rn6 ?_
    refine gy ?_
    refine ob (p_int rfl rfl (b_gtr_F (by have h9 : @List.length Wd (rdN (rdW ((cutAt 32 bs, true) : RSt))).1 = 0 := hc.2; omega))) ?_
    refine Gc1 ?_
    refine kp [2, 3, 5, 90] ?_
    refine jc_region ?_
    refine rn1 ?_
    refine s_B Tryd.sizeOf27 ?_
    refine Ga1 ?_
    rw [e9]
    exact retc2 () Tryd.isAgg27 Tryd.sizeOf27
  ·
   have hk := hc
   rw [hc]
   refine jc_region ?_
   refine Gb2 ?_
   refine ob (p_int rfl rfl (b_eql_F (by omega))) ?_
   refine Gd1 ?_
   refine ob (p_int rfl rfl (b_eql_F (by omega))) ?_
   refine Gd1 ?_
   refine ob (p_int rfl rfl (b_eql_F (by omega))) ?_
   refine Gd1 ?_
   refine ob (p_int rfl rfl (b_eql_T (by omega))) ?_
   refine Gd1 ?_
   refine rn1 ?_
   refine r_call Tryd.call34 rfl (fun w hs => rdNumS (st := (rdW ((cutAt 32 bs, true) : RSt))) (st_cut hs) mm mm hB.w hN) ?_; intro g71
   refine rn1 ?_
   refine r_call Tryd.call34 rfl (fun w hs => rdNumS (st := (rdN (rdW ((cutAt 32 bs, true) : RSt)))) (st_cut hs) mm mm hB.w.n hN) ?_; intro g73
   refine rn1 ?_
   refine sc ?_
   refine rn1 ?_
   refine sc ?_
   refine Gl ?_
   rcases (show ((rdN (rdN (rdW ((cutAt 32 bs, true) : RSt)))).2 = false) ∨ ((rdN (rdN (rdW ((cutAt 32 bs, true) : RSt)))).2 = true ∧ 0 < (rdN (rdN (rdW ((cutAt 32 bs, true) : RSt)))).1.length) ∨ ((rdN (rdN (rdW ((cutAt 32 bs, true) : RSt)))).2 = true ∧ (rdN (rdN (rdW ((cutAt 32 bs, true) : RSt)))).1.length = 0) from by exact fin_all (rdN (rdN (rdW ((cutAt 32 bs, true) : RSt))))) with hc | hc | hc
   ·
    have e9 : lineS bs = (zStep, 2) := ((line_prog bs).trans (pl5 hk)).trans (fin1 hc)
    rw [hc]
    refine kp [2, 3, 4, 5, 76, 77, 78, 79, 80, 81, 82, 83, 84, 85, 86, 87, 88] ?_
    refine jc_region ?_
    refine rn3 ?_
    refine ob (q_l1 Tryd.isAgg4) ?_
    first | refine ob (q_notD) ?_ | refine ob (q_not) ?_
    refine Gd8 ?_
    refine ob (q_bd (cs := zStep.cells) st_27) ?_
    refine s_B Tryd.sizeOf27 ?_
    refine Ga1 ?_
    rw [e9]
    exact retc2 () Tryd.isAgg27 Tryd.sizeOf27
   ·
    have e9 : lineS bs = (zStep, 2) := ((line_prog bs).trans (pl5 hk)).trans (fin2 hc.2)
    rw [hc.1]
    refine kp [2, 3, 4, 5, 76, 77, 78, 79, 80, 81, 82, 83, 84, 85, 86, 87, 88] ?_
    refine jc_region ?_
    refine rn3 ?_
    refine ob (q_l1 Tryd.isAgg4) ?_
    first | refine ob (q_notD) ?_ | refine ob (q_not) ?_
    refine rn6 ?_
    refine gy ?_
    refine ob (p_int rfl rfl (b_gtr_T (by have h9 : 0 < @List.length Wd (rdN (rdN (rdW ((cutAt 32 bs, true) : RSt)))).1 := hc.2; omega))) ?_
    refine Gd1 ?_
    refine ob (q_bd (cs := zStep.cells) st_27) ?_
    refine s_B Tryd.sizeOf27 ?_
    refine Ga1 ?_
    rw [e9]
    exact retc2 () Tryd.isAgg27 Tryd.sizeOf27
   ·
    have e9 := ((line_prog bs).trans (pl5 hk)).trans (fin3 hc.1 hc.2)
    rw [hc.1]
    refine kp [2, 3, 4, 5, 76, 77, 78, 79, 80, 81, 82, 83, 84, 85, 86, 87, 88] ?_
    refine jc_region ?_
    refine rn3 ?_
    refine ob (q_l1 Tryd.isAgg4) ?_
    first | refine ob (q_notD) ?_ | refine ob (q_not) ?_
    refine rn6 ?_
    refine gy ?_
    refine ob (p_int rfl rfl (b_gtr_F (by have h9 : @List.length Wd (rdN (rdN (rdW ((cutAt 32 bs, true) : RSt)))).1 = 0 := hc.2; omega))) ?_
    refine Gd1 ?_
    refine rn1 ?_
    refine s_B Tryd.sizeOf27 ?_
    refine Ga1 ?_
    rw [e9]
    exact retc2 () Tryd.isAgg27 Tryd.sizeOf27
  ·
   have hk := hc
   obtain ⟨hq0, hq1, hq6, hq5⟩ := hc
   refine jc_region ?_
   refine Gb2 ?_
   refine ob (p_int rfl rfl (b_eql_F (by omega))) ?_
   refine Gd1 ?_
   refine ob (p_int rfl rfl (b_eql_F (by omega))) ?_
   refine Gd1 ?_
   refine ob (p_int rfl rfl (b_eql_F (by omega))) ?_
   refine Gd1 ?_
   refine ob (p_int rfl rfl (b_eql_F (by omega))) ?_
   refine Gd1 ?_
   refine rn1 ?_
   refine r_call Tryd.call34 rfl (fun w hs => rdNumS (st := (rdW ((cutAt 32 bs, true) : RSt))) (st_cut hs) mm mm hB.w hN) ?_; intro g18
   refine rn1 ?_
   refine sc ?_
   refine Gl ?_
   rcases (show ((rdN (rdW ((cutAt 32 bs, true) : RSt))).2 = false) ∨ ((rdN (rdW ((cutAt 32 bs, true) : RSt))).2 = true ∧ 0 < (rdN (rdW ((cutAt 32 bs, true) : RSt))).1.length) ∨ ((rdN (rdW ((cutAt 32 bs, true) : RSt))).2 = true ∧ (rdN (rdW ((cutAt 32 bs, true) : RSt))).1.length = 0) from by exact fin_all (rdN (rdW ((cutAt 32 bs, true) : RSt)))) with hc | hc | hc
   ·
    have e9 : lineS bs = (zStep, 2) := ((line_prog bs).trans (plE hk.1 hk.2.1 hk.2.2.1 hk.2.2.2)).trans (fin1 hc)
    rw [hc]
    refine jc_region ?_
    refine rn3 ?_
    refine ob (q_l1 Tryd.isAgg4) ?_
    first | refine ob (q_notD) ?_ | refine ob (q_not) ?_
    refine Gc8 ?_
    refine kp [2, 3, 5, 89] ?_
    refine jc_region ?_
    refine ob (q_bd (cs := zStep.cells) st_27) ?_
    refine s_B Tryd.sizeOf27 ?_
    refine Ga1 ?_
    rw [e9]
    exact retc2 () Tryd.isAgg27 Tryd.sizeOf27
   ·
    have e9 : lineS bs = (zStep, 2) := ((line_prog bs).trans (plE hk.1 hk.2.1 hk.2.2.1 hk.2.2.2)).trans (fin2 hc.2)
    rw [hc.1]
    refine jc_region ?_
    refine rn3 ?_
    refine ob (q_l1 Tryd.isAgg4) ?_
    first | refine ob (q_notD) ?_ | refine ob (q_not) ?_
    refine rn6 ?_
    refine gy ?_
    refine ob (p_int rfl rfl (b_gtr_T (by have h9 : 0 < @List.length Wd (rdN (rdW ((cutAt 32 bs, true) : RSt))).1 := hc.2; omega))) ?_
    refine Gc1 ?_
    refine kp [2, 3, 5, 89] ?_
    refine jc_region ?_
    refine ob (q_bd (cs := zStep.cells) st_27) ?_
    refine s_B Tryd.sizeOf27 ?_
    refine Ga1 ?_
    rw [e9]
    exact retc2 () Tryd.isAgg27 Tryd.sizeOf27
   ·
    have e9 := ((line_prog bs).trans (plE hk.1 hk.2.1 hk.2.2.1 hk.2.2.2)).trans (fin3 hc.1 hc.2)
    rw [hc.1]
    refine jc_region ?_
    refine rn3 ?_
    refine ob (q_l1 Tryd.isAgg4) ?_
    first | refine ob (q_notD) ?_ | refine ob (q_not) ?_
    refine rn6 ?_
    refine gy ?_
    refine ob (p_int rfl rfl (b_gtr_F (by have h9 : @List.length Wd (rdN (rdW ((cutAt 32 bs, true) : RSt))).1 = 0 := hc.2; omega))) ?_
    refine Gc1 ?_
    refine kp [2, 3, 5, 90] ?_
    refine jc_region ?_
    refine rn1 ?_
    refine s_B Tryd.sizeOf27 ?_
    refine Ga1 ?_
    rw [e9]
    exact retc2 () Tryd.isAgg27 Tryd.sizeOf27
end Go.Proofs.YtiofgjolhbgkiaaDoor
end
section
/- This file proves what the reader of a text computes. No conditions. -/
set_option maxHeartbeats 1000000
set_option maxRecDepth 8000
namespace Go.Proofs.YtiofgjolhbgkiaaDoor
open Go
theorem scParse {L : List Chunk} {R : List Fact} {w : World} {t : Bs} (hs : St (L) R w) (hl : lbF ∈ R) (ht : t.length ≤ 16777215) : Calls Tryd.prog 9 [.string (bstr t)].toArray w (Post (fun v : Value => .tuple #[v, vi (parseS t).2]) (fun v => L) (fun v => sl v (parseS t).1 :: R)) := by
  refine calls_args Tryd.func9 rfl Tryd.ntmps9 rfl hs ?_
  clear hs
  refine Gm ?_
  refine Gb2 ?_
  refine Ga1 ?_
  refine jc_loop (γ := List Step × Value × Bs) (fun g => parseS t = comb g.1 (parseS g.2.2) ∧ g.1.length + g.2.2.length ≤ t.length) (fun g => row 27 g.2.1 g.1 :: L) (fun _ => R) (fun g => [(0, .string (bstr g.2.2)), (4, g.2.1)]) (fun g => g.2.2.length) ([], .slice none 0 0, t) ⟨prs_head t, by show 0 + t.length ≤ t.length; omega⟩ alT (fun w hs => hs.rowNil 27 Step) ?_
  rintro ⟨D, v, s⟩ ⟨he, hle⟩
  try simp only at he hle ⊢
  refine Gm ?_
  refine rn1 ?_
  refine ob (q_s b_snD) ?_
  refine Gl ?_
  refine cdx (p := ?p1) (hd := ?d1) ?e1 ?_ ?_; case e1 => exact rfl
  ·
   intro ht11
   refine Gl ?_
   rcases (show ((10 : UInt8) ∉ s) ∨ (∃ b r, s = b ++ 10 :: r ∧ (10 : UInt8) ∉ b) from by exact scr_two ht11) with hc | hc
   ·
    skip
    refine jc_region ?_
    refine rn1 ?_
    refine r_call Tryd.call24 rfl (fun w hs => cCutF hs mm (by omega) hc) ?_; intro _
    refine rn3 ?_
    refine ob q_x ?_
    refine Gb3 ?_
    refine Gd2 ?_
    refine Ga2 ?_
    have e9 := prs_op he hc ht11
    rw [e9]
    refine jx_body (.inr rfl) (fun B w hs => res2 rfl rfl rfl B w) (fun w hs => ⟨.slice none 0 0, rfl, st_cut (sl_nilF (α := Step) hs)⟩)
   ·
    obtain ⟨b, r, rfl, hb10⟩ := hc
    have hlen : (b ++ 10 :: r).length = b.length + (r.length + 1) := by simp only [List.length_append, List.length_cons]
    refine jc_region ?_
    refine rn1 ?_
    refine r_call Tryd.call24 rfl (fun w hs => cCutT hs mm (by omega) hb10) ?_; intro _
    refine rn3 ?_
    refine ob q_x ?_
    refine Gb3 ?_
    refine Gd2 ?_
    refine rn1 ?_
    refine r_call Tryd.call25 rfl (fun w hs => scLine (bs := b) hs mm (by omega)) ?_; intro _
    refine rn3 ?_
    refine al_ (cs := zStep.cells) Tryd.zeroValue27 ?_; intro b8
    refine s_B Tryd.sizeOf27 ?_
    refine Ga1 ?_
    rcases (show ((lineS b).2 = 0) ∨ ((lineS b).2 ≠ 0) from by exact Decidable.em _) with hc | hc
    ·
     have h70 := hc
     have hxw := line_wf hc
     refine jc_region ?_
     refine rn1 ?_
     refine ob (p_int rfl rfl (b_neq_F h70)) ?_
     refine Gmc ?_
     refine rn2 ?_
     refine li (α := Step) [(lineS b).1] eo_22 rfl (fun j hj => ⟨⟨_, rfl, rfl, hxw⟩, trivial⟩) ?_; intro v30
     refine ap eo_22 (hb := fun w hs => by have : maxN = 16777216 := rfl; simp only [List.length_cons, List.length_nil]; omega) (k := ?_); intro v31
     refine Ga1 ?_
     refine kp [0, 2, 3, 4, 5, 6, 7, 8, 9, 10, 11, 12, 13, 14, 15, 16, 17, 18, 19, 20, 21, 22, 23, 24, 25, 26, 27, 28, 29, 30, 31, 32] ?_
     refine jc_region ?_
     refine Ga2 ?_
     refine jx_head (D ++ [(lineS b).1], v31, r) ⟨prs_ok he hb10 h70, by simp only [List.length_append, List.length_cons, List.length_nil] at hle ⊢; omega⟩ (by show r.length < (b ++ 10 :: r).length; simp only [List.length_append, List.length_cons]; omega) alT (fun w hs => st_cut hs)
    ·
     refine jc_region ?_
     refine rn1 ?_
     refine ob (p_int rfl rfl (b_neq_T hc)) ?_
     refine Gmc ?_
     refine Ga3 ?_
     have e9 := prs_er he hb10 hc
     rw [e9]
     refine jx_body (.inr rfl) (fun B w hs => res2 rfl rfl rfl B w) (fun w hs => ⟨.slice none 0 0, rfl, st_cut (sl_nilF (α := Step) hs)⟩)
  ·
   intro ht11
   refine Gm ?_
   refine Ga3 ?_
   have e9 := prs_end he (Decidable.not_not.1 ht11)
   rw [e9]
   refine jx_body (.inr rfl) (fun B w hs => res2 rfl rfl rfl B w) (fun w hs => ⟨v, rfl, st_cut hs.shut⟩)
end Go.Proofs.YtiofgjolhbgkiaaDoor
end
section
/- This file proves the rules for what a strings.Builder does with addresses and bytes, where a call keeps it to itself. No conditions. -/
namespace Go.Proofs.YtiofgjolhbgkiaaDoor
open Go
/-- A builder's own address, once it is written. -/
def pv (b : Nat) (u : Bool) : Value := bif u then bp b 0 else .pointer none
theorem pv_one (b : Nat) (u : Bool) : (pv b u).oneCell' = true := by cases u <;> rfl
section
variable {P : Program} {n : Nat} {ops : Array Oper} {Q : Exit → Act → World → Prop} {rest : List Oper} {L L' : List Chunk} {R : List Fact} {al : List (Nat × Value)} {d : Nat} {x y : Operand} {T ty : TypeId} {pos : String} {aft : Array Edge}
theorem q_toU {src dst t : TypeId} {b : Nat} {T0 : TypeId} {vs : List Value} (hs : P.underlying src = some (.pointer t)) (hd : P.underlying dst = some .unsafePointer) (ht : (P.info? t).any (fun j => j.size != 0) = true) (hx : ev n al x = some (bp b 0)) (hp : Pick L (blk b T0 vs) L') (h0 : 0 < vs.length) :
    PureOp P n al L R ⟨some d, .convert src dst x, ty, pos, aft, none⟩ (bp b 0) :=
  ⟨rfl, fun ρ w h hst => by
    show (convert src dst (ρ x) >>= fun v => Pure.pure (Next.value v)).run P w = _
    have hb : w.heap[b]? = some (.cells vs.toArray T0 (0, 0)) := (hst.pick hp).blk_get
    have hsh : w.shape? b = some (T0, vs.length) := by unfold World.shape?; rw [hb]; simp
    obtain ⟨j, hj, hjs⟩ : ∃ j, P.info? t = some j ∧ j.size ≠ 0 := by
      cases hi : P.info? t with
      | none => rw [hi] at ht; exact absurd ht (by simp)
      | some j => rw [hi] at ht; exact ⟨j, rfl, by simpa using ht⟩
    rw [h x (by simp [Op.operands]) _ hx, Sem.run_bind, show bp b 0 = .pointer (some ⟨b, 0, none⟩) from rfl, Lib.run_to_unsafe w ⟨b, 0, none⟩ hs hd hj hjs hsh h0]; rfl⟩
theorem q_fromU {src dst u : TypeId} {b : Nat} {T0 : TypeId} {vs : List Value} {k : Nat} (hs : P.underlying src = some .unsafePointer) (hd : P.underlying dst = some (.pointer u)) (hu : (P.info? u).isSome = true) (hk : vs.length = k) (hl : liesAt P P.depth T0 (k / P.cellsOf T0) 0 u 1 = true) (hx : ev n al x = some (bp b 0)) (hp : Pick L (blk b T0 vs) L') :
    PureOp P n al L R ⟨some d, .convert src dst x, ty, pos, aft, none⟩ (bp b 0) :=
  ⟨rfl, fun ρ w h hst => by
    show (convert src dst (ρ x) >>= fun v => Pure.pure (Next.value v)).run P w = _
    have hb : w.heap[b]? = some (.cells vs.toArray T0 (0, 0)) := (hst.pick hp).blk_get
    have hsh : w.shape? b = some (T0, vs.length) := by unfold World.shape?; rw [hb]; simp
    obtain ⟨j, hj⟩ := Option.isSome_iff_exists.1 hu
    rw [h x (by simp [Op.operands]) _ hx, Sem.run_bind, show bp b 0 = .pointer (some ⟨b, 0, none⟩) from rfl, Lib.run_from_unsafe w ⟨b, 0, none⟩ hs hd hj hsh (by rw [hk]; exact hl)]; rfl⟩
/-- A call of what the model itself answers. -/
theorem r_ext {f : FuncId} {fn : Func} {e : Array Value → Sem Value} {args : List Operand} {ts : Array TypeId} {vs : List Value} {v : Value} (hf : P.funcs[f]? = some fn) (hname : (fn.name == "runtime.NumGoroutine") = false) (hb : fn.body.isNone = true) (hn : Extern.findNext fn = none) (he : Extern.find fn = some e)
    (ha : evL n al args = some vs) (hv : ∀ w, (e vs.toArray).run P w = .ok v w) (k : J P n ops Q rest L R ((d, v) :: al)) : J P n ops Q (⟨some d, .call { callee := .value (.func f), args := args.toArray, argTypes := ts }, ty, pos, aft, none⟩ :: rest) L R al :=
  J.pure rfl rfl (fun B w hs => by
    have hcf : ∀ zs w', (callFunc f zs).run P w' = ((e zs).run P w').andThen fun v w' => .ok (.value v) w' := fun zs w' => run_callFunc_extern hf hname hb hn he zs w'
    have hρ : (mkA n al B).eval (.func f) = .func (.func f) #[] #[] := rfl
    simp only [execOp, resolve, hρ, Deferred.ofValue, invoke]
    simp [hcf, List.map_toArray, evL_map ha, hv, Result.andThen]) k
theorem guard_ptr {op : BinOp} {a b : Option Addr} (w : World) : (eqGuard op T x y (.pointer a) (.pointer b)).run P w = .ok () w := by unfold eqGuard; cases op <;> rfl
theorem b_nilnil {tp te : TypeId} (hp : P.underlying tp = some (.pointer te)) (w : World) : (binOp .eql tp (.pointer none) (.pointer none)).run P w = .ok (.bool true) w := by
  have h : ∀ d : Nat, (Op.equalIn (d + 1) tp (.pointer none) (.pointer none)).run P w = .ok true w := fun d => by
    simp [Op.equalIn, run_underlying hp]
  simp only [binOp]
  simp [Op.equal, Op.maxDepth, h 9999]
theorem b_ptrnil {tp te : TypeId} {a : Addr} (hp : P.underlying tp = some (.pointer te)) (w : World) : (binOp .eql tp (.pointer (some a)) (.pointer none)).run P w = .ok (.bool false) w := by
  have h : ∀ d : Nat, (Op.equalIn (d + 1) tp (.pointer (some a)) (.pointer none)).run P w = .ok false w := fun d => by
    simp [Op.equalIn, run_underlying hp]
  simp only [binOp]
  simp [Op.equal, Op.maxDepth, h 9999]
theorem b_ptrsame {tp te : TypeId} {a : Addr} (hp : P.underlying tp = some (.pointer te)) (hte : (P.info? te).isSome = true) (w : World) : (binOp .neq tp (.pointer (some a)) (.pointer (some a))).run P w = .ok (.bool false) w := by
  obtain ⟨j, hj⟩ := Option.isSome_iff_exists.1 hte
  exact Lib.run_neq_ptr_same w a hp hj
/-! ### The bytes that were gathered, as a string -/
theorem q_usd {v : Value} {bs : List UInt8} {ts : Array TypeId} {T0 : TypeId} (hx : ev n al x = some v) (hp : Pick L (row T0 v bs) L') (h0 : bs ≠ []) :
    PureOp P n al L R ⟨some d, .call { callee := .builtin .unsafeSliceData, args := #[x], argTypes := ts }, ty, pos, aft, none⟩ (ep v 1 0 0) :=
  ⟨rfl, fun ρ w h hst => by
    have hx' := h x (by simp [Op.operands, Call.operands]) _ hx
    obtain ⟨m, j, _, _, _, hr, _⟩ := (hst.pick hp).head
    obtain ⟨_, ⟨_, hb⟩ | ⟨g, cap, cur, cs, hv, _, hcap, _⟩⟩ := hr
    · exact absurd hb h0
    · have hc : cap ≠ 0 := by
        have : 0 < bs.length := List.length_pos_iff.2 h0
        omega
      have e := Lib.run_unsafeSliceData_row (P := P) w ts ty ⟨g, 0, none⟩ bs.length cap hc
      rw [hv] at hx' ⊢
      simp [execOp, resolve, invoke, builtin, hx', e, ep, Addr.add]⟩
theorem r_ustr {v : Value} {bs : List UInt8} {pt it T0 : TypeId} (hpt : P.underlying pt = some (.pointer T0)) (hc : P.cellsOf T0 = 1) (hx : ev n al x = some (ep v 1 0 0)) (hy : ev n al y = some (vi (bs.length : Int))) (hp : Pick L (row T0 v bs) L') (h0 : bs ≠ [])
    (k : J P n ops Q rest L' R ((d, .string (bstr bs)) :: al)) : J P n ops Q (⟨some d, .call { callee := .builtin .unsafeString, args := #[x, y], argTypes := #[pt, it] }, ty, pos, aft, none⟩ :: rest) L R al :=
  J.yieldEx (γ := Unit) (v := fun _ => .string (bstr bs)) (L' := fun _ => L') (R' := fun _ => R) rfl rfl (fun B w hs => by
    obtain ⟨m, i, hd, hm, hi, ⟨m1, m2, hd', h1, h2, hr, hst⟩, hR⟩ := hs.pick hp
    obtain ⟨hml, ⟨_, hb⟩ | ⟨g, cap, cur, cs, hv, hg, hcap, hmx, hsz, htk, hrd⟩⟩ := hr
    · exact absurd hb h0
    have hbw : w.heap[g]? = some (.cells cur T0 (0, 0)) := mem_ob (hm _ _ (h1 _ _ hg))
    have hsz1 : cur.size = cap := by rw [hsz]; show cap * 1 = cap; omega
    have hcells : ∀ (j : Nat) (u : UInt8), bs[j]? = some u → w.cell? ((⟨g, 0, none⟩ : Addr).add j) = some (.int .u8 u.toNat) := by
      intro j u hu
      obtain ⟨p, c, q, e1, e2, e3, _⟩ := hrd.get hu
      have hc' : c = [vb u] := e3
      have hp1 : p.length = j := by rw [e2]; show j * 1 = j; omega
      have hj : j < cs.length := by rw [e1, hc']; simp; omega
      have hcs : cs[j]? = some (vb u) := by rw [e1, hc', List.append_assoc, List.getElem?_append_right (by omega), show j - p.length = 0 by omega]; rfl
      rw [← htk, List.getElem?_take] at hcs
      split at hcs
      · rw [add_mk, Nat.zero_add]
        rw [cell_of hbw, ← Array.getElem?_toList]; exact hcs
      · cases hcs
    have h63 : bs.length ≤ 9223372036854775807 := by have : maxN = 16777216 := rfl; omega
    have e := Lib.run_unsafeString_row (P := P) w pt it ty T0 hpt hc g cap (by unfold World.shape?; rw [hbw, ← hsz1]) bs h0 hcap h63 hcells
    refine ⟨(), w.freeze ⟨g, 0, none⟩ bs.length, ?_, ?_⟩
    · have ex := ev_eval (B := B) hx
      have ey := ev_eval (B := B) hy
      rw [hv] at ex
      have ex' : (mkA n al B).eval x = .pointer (some ⟨g, 0, none⟩) := by rw [ex]; simp [ep, Addr.add]
      simp [execOp, resolve, invoke, builtin, ex', ey, e, bstr]
    · have hl : bs.length ≠ 0 := by simpa using h0
      have hput := St.put (c' := ⟨fun _ _ => True, fun _ _ _ _ _ => trivial⟩) (w' := w.freeze ⟨g, 0, none⟩ bs.length) (o' := .cells cur T0 (0, 0 + bs.length)) hd hm hi hd' h1 h2 hst hR hg (by
        unfold World.freeze; rw [if_neg hl]; simp only [Array.getElem?_modify, if_pos]; rw [hbw]; rfl) (fun x hx => by unfold World.freeze; rw [if_neg hl]; simp only [Array.getElem?_modify]; rw [if_neg (fun e => hx e.symm)]) (by unfold World.freeze; rw [if_neg hl]) (by unfold World.freeze; rw [if_neg hl]) trivial
      exact hput.sub (.drop .refl) (fun f h => h)) (fun _ => k)
end
end Go.Proofs.YtiofgjolhbgkiaaDoor
end
section
/- This file proves what a strings.Builder gathers. No conditions. -/
set_option maxHeartbeats 1000000
set_option maxRecDepth 8000
namespace Go.Proofs.YtiofgjolhbgkiaaDoor
open Go
theorem bldCopy {L : List Chunk} {R : List Fact} {w : World} {b : Nat} {u : Bool} {v : Value} (hs : St (blk b 45 [pv b u, v] :: L) R w) (hv : v.oneCell' = true) : Calls Tryd.prog 29 [bp b 0].toArray w (Post (fun _ : Unit => .tuple #[]) (fun _ => blk b 45 [pv b true, v] :: L) (fun _ => R)) := by
  refine calls_args Tryd.func29 rfl Tryd.ntmps29 rfl hs ?_
  clear hs
  refine Gl ?_
  rcases (show (u = true) ∨ (u = false) from by cases u <;> simp) with hc | hc
  ·
   subst hc
   refine jc_region ?_
   refine rn4 ?_
   refine ob (p_binG rfl rfl guard_ptr (b_ptrnil Tryd.underlying42)) ?_
   refine Gmc ?_
   refine rn5 ?_
   refine ob (p_binG rfl rfl guard_ptr (b_ptrsame Tryd.underlying42 (by kernel_rfl))) ?_
   refine Glc ?_
   refine jx_body (.inl rfl) (fun B w hs => res0 rfl _ w) (fun w hs => ⟨(), rfl, st_cut hs⟩)
  ·
   subst hc
   refine jc_region ?_
   refine rn4 ?_
   refine ob (p_binG rfl rfl guard_ptr (b_nilnil Tryd.underlying42)) ?_
   refine Gmc ?_
   refine rn2 ?_
   refine ob (q_toU Tryd.underlying42 Tryd.underlying66 (by kernel_rfl) rfl pkk (by exact Nat.zero_lt_succ _)) ?_
   refine r_ext Tryd.func40 (by kernel_rfl) (by kernel_rfl) (by kernel_rfl) (e := Extern.AbiNoEscape.same) (by kernel_rfl) rfl (fun w => rfl) ?_
   refine ob (q_fromU Tryd.underlying66 Tryd.underlying42 (by kernel_rfl) (k := 2) rfl (by kernel_rfl) rfl pkk) ?_
   refine rn2 ?_
   refine sc ?_
   refine Gl ?_
   refine jx_body (.inl rfl) (fun B w hs => res0 rfl _ w) (fun w hs => ⟨(), rfl, st_cut hs⟩)
theorem bldWStr {L : List Chunk} {R : List Fact} {w : World} {b : Nat} {u : Bool} {v : Value} {bs ys : List UInt8} (hs : St (blk b 45 [pv b u, v] :: row 5 v bs :: L) R w) (hn : bs.length + ys.length ≤ 16777216) : Calls Tryd.prog 21 [bp b 0, .string (bstr ys)].toArray w (Post (fun g : Value => .tuple #[vi (ys.length : Int), .nilIface]) (fun g => blk b 45 [pv b true, g] :: row 5 g (bs ++ ys) :: L) (fun g => R)) := by
  refine calls_args Tryd.func21 rfl Tryd.ntmps21 rfl hs ?_
  clear hs
  refine Gm ?_
  refine Ga2 ?_
  refine JC.know (p := v.oneCell' = true) (fun w hs => row_one pkk hs) (fun honev => ?_)
  refine jc_region ?_
  refine rn1 ?_
  refine r_call Tryd.call29 rfl (fun w hs => bldCopy (b := b) (u := u) (v := v) (st_cut hs) honev) ?_; intro _
  refine Gm ?_
  refine rn6 ?_
  refine r_appendS (xs := bs) (ys := ys) eo_43 Tryd.underlying9 rfl rfl pkk (by have : maxN = 16777216 := rfl; omega) ?_; intro v14
  refine rn2 ?_
  refine J.know (p := v14.oneCell' = true) (fun w hs => row_one pkk hs) (fun hone30 => ?_)
  refine s_b Tryd.sizeOf43 ?_
  intro cs_ hcs_; simp only [Nat.zero_add, Nat.add_zero, Nat.reduceAdd, List.set_cons_zero, List.set_cons_succ] at hcs_; subst hcs_
  refine Gm ?_
  refine rn1 ?_
  refine ob (q_slen (l := ys) Tryd.underlying9) ?_
  refine Ga2 ?_
  exact rete2 v14
theorem bldWByte {L : List Chunk} {R : List Fact} {w : World} {b : Nat} {u : Bool} {v : Value} {bs : List UInt8} {c : UInt8} (hs : St (blk b 45 [pv b u, v] :: row 5 v bs :: L) R w) (hn : bs.length + 1 ≤ 16777216) : Calls Tryd.prog 22 [bp b 0, vb c].toArray w (Post (fun g : Value => .nilIface) (fun g => blk b 45 [pv b true, g] :: row 5 g (bs ++ [c]) :: L) (fun g => R)) := by
  refine calls_args Tryd.func22 rfl Tryd.ntmps22 rfl hs ?_
  clear hs
  refine Gm ?_
  refine Ga1 ?_
  refine JC.know (p := v.oneCell' = true) (fun w hs => row_one pkk hs) (fun honev => ?_)
  refine jc_region ?_
  refine rn1 ?_
  refine r_call Tryd.call29 rfl (fun w hs => bldCopy (b := b) (u := u) (v := v) (st_cut hs) honev) ?_; intro _
  refine Gm ?_
  refine rn6 ?_
  refine li (α := UInt8) [c] eo_43 rfl (fun j hj => ⟨⟨_, rfl, rfl⟩, trivial⟩) ?_; intro v13
  refine ap eo_43 (hb := fun w hs => by have : maxN = 16777216 := rfl; simp only [List.length_cons, List.length_nil]; omega) (k := ?_); intro v14
  refine rn2 ?_
  refine J.know (p := v14.oneCell' = true) (fun w hs => row_one pkk hs) (fun hone30 => ?_)
  refine s_b Tryd.sizeOf43 ?_
  intro cs_ hcs_; simp only [Nat.zero_add, Nat.add_zero, Nat.reduceAdd, List.set_cons_zero, List.set_cons_succ] at hcs_; subst hcs_
  refine Gm ?_
  refine Ga1 ?_
  exact rete1 v14
theorem bldString {L : List Chunk} {R : List Fact} {w : World} {b : Nat} {u : Bool} {v : Value} {bs : List UInt8} (hs : St (blk b 45 [pv b u, v] :: row 5 v bs :: L) R w) (h0 : bs ≠ []) : Calls Tryd.prog 23 [bp b 0].toArray w (Post (fun _ : Unit => .string (bstr bs)) (fun _ => L) (fun _ => R)) := by
  refine calls_args Tryd.func23 rfl Tryd.ntmps23 rfl hs ?_
  clear hs
  refine Gm ?_
  refine Ga1 ?_
  refine jdc_ ?_
  refine dn4 ?_
  refine djc (fun _ _ => q_usd rfl pkk h0) ?_
  refine dn5 ?_
  refine dtl ?_; intro ρ
  refine r_ustr Tryd.underlying56 (by kernel_rfl) rfl rfl pkk h0 ?_
  refine Ga1 ?_
  exact rete1 ()
section
variable {P : Program} {n : Nat} {ops : Array Oper} {L : List Chunk} {R : List Fact} {al : List (Nat × Value)} {d : Nat} {x y : Operand} {ty : TypeId} {pos : String} {aft : Array Edge}
theorem q_usd0 {ts : Array TypeId} (hx : ev n al x = some (.slice none 0 0)) :
    PureOp P n al L R ⟨some d, .call { callee := .builtin .unsafeSliceData, args := #[x], argTypes := ts }, ty, pos, aft, none⟩ (.pointer none) :=
  ⟨rfl, fun ρ w h hst => by
    have hx' := h x (by simp [Op.operands, Call.operands]) _ hx
    have e := Lib.run_unsafeSliceData_nil (P := P) (w := w) ts ty 0 0
    simp [execOp, resolve, invoke, builtin, hx', e]⟩
theorem q_ustr0 {pt it : TypeId} (hx : ev n al x = some (.pointer none)) (hy : ev n al y = some (vi 0)) :
    PureOp P n al L R ⟨some d, .call { callee := .builtin .unsafeString, args := #[x, y], argTypes := #[pt, it] }, ty, pos, aft, none⟩ (.string (bstr [])) :=
  ⟨rfl, fun ρ w h hst => by
    have hx' := h x (by simp [Op.operands, Call.operands]) _ hx
    have hy' := h y (by simp [Op.operands, Call.operands]) _ hy
    have e := Lib.run_unsafeString_none (P := P) (w := w) pt it ty none
    simp [execOp, resolve, invoke, builtin, hx', hy', e, show ByteArray.empty = bstr [] from rfl]⟩
end
theorem bldString0 {L : List Chunk} {R : List Fact} {w : World} {b : Nat} {u : Bool} (hs : St (blk b 45 [pv b u, (.slice none 0 0)] :: L) R w) : Calls Tryd.prog 23 [bp b 0].toArray w (Post (fun _ : Unit => .string (bstr [])) (fun _ => L) (fun _ => R)) := by
  refine calls_args Tryd.func23 rfl Tryd.ntmps23 rfl hs ?_
  clear hs
  refine Gm ?_
  refine Ga1 ?_
  refine jdc_ ?_
  refine dn4 ?_
  refine djc (fun _ _ => q_usd0 rfl) ?_
  refine dn4 ?_
  refine djc (fun _ _ => q_len (len := 0) Tryd.underlying43 (hl := fun w hs => ⟨none, 0, rfl, fun h => absurd h (Nat.lt_irrefl 0)⟩)) ?_
  refine dtl ?_; intro ρ
  refine ob (q_ustr0 rfl rfl) ?_
  refine Ga1 ?_
  exact rete1 ()
end Go.Proofs.YtiofgjolhbgkiaaDoor
end
section
/- This file proves what the writer of a text computes. No conditions. -/
set_option maxHeartbeats 1000000
set_option maxRecDepth 8000
namespace Go.Proofs.YtiofgjolhbgkiaaDoor
open Go
theorem scPrintB {L : List Chunk} {R : List Fact} {w : World} {s : Step} (hs : St L R w) (hl : lbF ∈ R) (hsw : s.wf) (h : badStep s) : Calls Tryd.prog 6 [Value.agg s.cells.toArray].toArray w (Post (fun _ : Unit => .tuple #[.string (bstr []), vi 1]) (fun _ => L) (fun _ => R)) := by
  have := scPrint hs hl hsw
  rw [print_bad h] at this; exact this
theorem scPrintG {L : List Chunk} {R : List Fact} {w : World} {s : Step} (hs : St L R w) (hl : lbF ∈ R) (hsw : s.wf) (h : ¬ badStep s) : Calls Tryd.prog 6 [Value.agg s.cells.toArray].toArray w (Post (fun _ : Unit => .tuple #[.string (bstr (lineT s)), vi 0]) (fun _ => L) (fun _ => R)) := by
  have := scPrint hs hl hsw
  rw [print_ok h] at this; exact this
theorem sl_wfS {L : List Chunk} {R : List Fact} {w : World} {v : Value} {l : List Step} (hm : sl v l ∈ R) (hs : St L R w) : ∀ s ∈ l, s.wf := by
  intro s h
  obtain ⟨k, hk, e⟩ := List.mem_iff_getElem.1 h
  have := (St.open0 (xs := l) k hm hk hs).1
  rw [List.getD_eq_getElem?_getD, List.getElem?_eq_getElem hk] at this
  rw [← e]; exact this
theorem scText {L : List Chunk} {R : List Fact} {w : World} {v0 : Value} {l : List Step} (hs : St (L) R w) (hl : lbF ∈ R) (h0 : sl v0 l ∈ R) (hT : (textB l).length ≤ 16777000) : Calls Tryd.prog 8 [v0].toArray w (Post (fun _ : Unit => .tuple #[.string (bstr (textS l).1), vi (textS l).2]) (fun _ => L) (fun _ => R)) := by
  have hll := sl_len h0 hs
  refine calls_args Tryd.func8 rfl Tryd.ntmps8 rfl hs ?_
  clear hs
  refine Gm ?_
  refine Gb2 ?_
  refine al_ (cs := [.pointer none, .slice none 0 0]) Tryd.zeroValue45 ?_; intro b4
  refine Gm ?_
  refine Ga3 ?_
  refine jc_loop (γ := Nat × Bool × Value) (fun g => g.1 ≤ l.length ∧ (∀ s ∈ l.take g.1, ¬ badStep s) ∧ (g.1 = 0 → g.2.2 = .slice none 0 0)) (fun g => blk b4 45 [pv b4 g.2.1, g.2.2] :: row 5 g.2.2 (textB (l.take g.1)) :: L) (fun _ => R) (fun g => [(4, bp b4 0), (9, v0), (10, vi (l.length : Int)), (11, vi (g.1 : Int))]) (fun g => l.length - g.1) (0, false, .slice none 0 0) ⟨Nat.zero_le _, by simp, fun _ => rfl⟩ alT (fun w hs => st_cut (hs.rowNil 5 UInt8)) ?_
  rintro ⟨k, u, v⟩ ⟨hk, hg, hz⟩
  try simp only at hk hg hz ⊢
  have hT9 := textB_take l (k + 1)
  refine Gm ?_
  refine Ga1 ?_
  refine cdx (p := ?p1) (hd := ?d1) ?e1 ?_ ?_; case e1 => exact rfl
  ·
   intro ht12
   refine Gl ?_
   refine JC.open0 (xs := l) (v := v0) k mm (by omega) (fun hwk => ?_)
   refine jc_region ?_
   refine rn2 ?_
   refine al_ (cs := zStep.cells) Tryd.zeroValue27 ?_; intro b6
   refine s_B Tryd.sizeOf27 ?_
   refine Gl ?_
   rcases (show (badStep (l.getD k zStep)) ∨ (¬ badStep (l.getD k zStep)) from by exact Decidable.em _) with hc | hc
   ·
    skip
    refine jc_region ?_
    refine rn1 ?_
    refine r_call Tryd.call6 rfl (fun w hs => scPrintB hs mm hwk hc) ?_; intro _
    refine Gb5 ?_
    refine rn1 ?_
    refine ob (p_int rfl rfl (b_neq_T (by omega))) ?_
    refine Gmc ?_
    refine Ga3 ?_
    rw [text_bad (by omega) hc]
    exact rete2 ()
   ·
    have hx9 := congrArg List.length (textB_next (l := l) (k := k) (by omega))
    rw [List.length_append, List.length_append] at hx9
    refine jc_region ?_
    refine rn1 ?_
    refine r_call Tryd.call6 rfl (fun w hs => scPrintG hs mm hwk hc) ?_; intro _
    refine Gb5 ?_
    refine rn1 ?_
    refine ob (p_int rfl rfl (b_neq_F rfl)) ?_
    refine Gmc ?_
    refine rn1 ?_
    refine r_call Tryd.call21 rfl (fun w hs => bldWStr (b := b4) (u := u) (v := v) (bs := textB (l.take k)) (ys := lineT (l.getD k zStep)) (st_cut hs) (by simp only [List.length_cons, List.length_nil] at hx9; omega)) ?_; intro v24
    refine Gm ?_
    refine r_call Tryd.call22 rfl (fun w hs => bldWByte (b := b4) (u := true) (v := v24) (bs := textB (l.take k) ++ lineT (l.getD k zStep)) (c := 10) (st_cut hs) (by rw [List.length_append]; simp only [List.length_cons, List.length_nil] at hx9; omega)) ?_; intro v25
    refine Gm ?_
    refine Ga2 ?_
    refine jx_head (k + 1, true, v25) ⟨by show k + 1 ≤ l.length; omega, good_next hg (by omega) hc, fun h => absurd h (Nat.succ_ne_zero k)⟩ (by show l.length - (k + 1) < l.length - k; omega) alT (fun w hs => ?_)
    try simp only
    rw [textB_next (by omega)]; exact st_cut hs
  ·
   intro ht12
   refine Gl ?_
   rcases (show (l = []) ∨ (l ≠ []) from by exact Decidable.em _) with hc | hc
   ·
    have hk0 : k = 0 := by rw [hc] at hk; exact Nat.le_zero.1 hk
    obtain rfl := hz hk0
    refine jc_region ?_
    refine r_call Tryd.call23 rfl (fun w hs => bldString0 (b := b4) (u := u) (st_cut hs)) ?_; intro _
    refine Ga2 ?_
    rw [hc]
    exact rete2 ()
   ·
    have hkl : k = l.length := by omega
    subst hkl
    rw [List.take_length] at hg ⊢
    refine jc_region ?_
    refine r_call Tryd.call23 rfl (fun w hs => bldString (b := b4) (u := u) (v := v) (bs := textB l) (st_cut hs) (textB_ne hc)) ?_; intro _
    refine Ga2 ?_
    rw [textS_ok hg]
    exact rete2 ()
end Go.Proofs.YtiofgjolhbgkiaaDoor
end
section
/- This file proves what is alive, and walks the laws ScriptTurns and ScriptJoined. No conditions. -/
set_option maxHeartbeats 1000000
set_option maxRecDepth 8000
namespace Go.Proofs.YtiofgjolhbgkiaaDoor
open Go
theorem sameSteps {L : List Chunk} {R : List Fact} {w : World} {v0 v1 : Value} {a b : List Step} (hs : St (L) R w) (h0 : sl v0 a ∈ R) (h1 : sl v1 b ∈ R) : Calls Tryd.prog 11 [v0, v1].toArray w (Post (fun _ : Unit => .bool (decide (a = b))) (fun _ => L) (fun _ => R)) := by
  have hla := sl_len h0 hs
  have hlb := sl_len h1 hs
  refine calls_args Tryd.func11 rfl Tryd.ntmps11 rfl hs ?_
  clear hs
  refine Gm ?_
  refine Gb1 ?_
  refine Ga5 ?_
  refine cdx (p := ?p1) (hd := ?d1) ?e1 ?_ ?_; case e1 => exact rfl
  ·
   intro ht10
   refine Gm ?_
   refine Ga1 ?_
   have e : a ≠ b := by intro h; apply ht10; rw [h]
   refine rete1 () (hv := ?_)
   simp [e]
  ·
   intro ht10
   refine Gm ?_
   refine Ga3 ?_
   refine jc_loop (γ := Nat) (fun k => k ≤ a.length ∧ a.take k = b.take k) (fun _ => L) (fun _ => R) (fun k => [(0, v0), (1, v1), (12, vi (a.length : Int)), (13, vi (k : Int))]) (fun k => a.length - k) 0 ⟨Nat.zero_le _, rfl⟩ alT (fun w hs => hs) ?_
   rintro k ⟨hk, hab⟩
   refine Gm ?_
   refine Ga1 ?_
   refine cdx (p := ?p2) (hd := ?d2) ?e2 ?_ ?_; case e2 => exact rfl
   ·
    intro ht14
    refine Gm ?_
    refine Ga2 ?_
    refine JC.open0 (xs := a) (v := v0) k h0 (by omega) (fun _ => ?_)
    refine JC.open0 (xs := b) (v := v1) k (.tail _ h1) (by omega) (fun _ => ?_)
    refine jdc_ ?_
    refine dn8 ?_
    refine djc (fun _ _ => p_binG rfl rfl (ag_Step _ _ _) (bnD_Step _ _)) ?_
    refine dnl ?_; intro ρ
    refine Gl ?_
    refine cdx (p := ?p3) (hd := ?d3) ?e3 ?_ ?_; case e3 => exact rfl
    ·
     intro ht24
     refine Gm ?_
     refine Ga1 ?_
     have e : a ≠ b := by intro h; apply ht24; rw [h]
     refine rete1 () (hv := ?_)
     simp [e]
    ·
     intro ht24
     refine Gm ?_
     refine Ga2 ?_
     refine jx_head (k + 1) ⟨by omega, ?_⟩ (by omega) alT (fun w hs => st_cut hs)
     rw [takeS (El0.df : Step) (by omega), takeS (El0.df : Step) (by omega), hab]
     exact congrArg (fun z => b.take k ++ [z]) (Classical.byContradiction ht24)
   ·
    intro ht14
    refine Gm ?_
    refine Ga1 ?_
    have e : a = b := by
     have hkl : k = a.length := by omega
     rw [hkl, List.take_length, show a.length = b.length by omega, List.take_length] at hab
     exact hab
    refine rete1 () (hv := ?_)
    simp [e]
theorem sameStepsT {L : List Chunk} {R : List Fact} {w : World} {v0 v1 : Value} {a b : List Step} (e : a = b) (hs : St L R w) (h0 : sl v0 a ∈ R) (h1 : sl v1 b ∈ R) : Calls Tryd.prog 11 [v0, v1].toArray w (Post (fun _ : Unit => .bool true) (fun _ => L) (fun _ => R)) := by
  have h := sameSteps hs h0 h1; rw [decide_eq_true e] at h; exact h
theorem parseT {L : List Chunk} {R : List Fact} {w : World} {t : Bs} {m : List Step} {e : Int} (h : parseS t = (m, e)) (hs : St L R w) (hl : lbF ∈ R) (ht : t.length ≤ 16777215) : Calls Tryd.prog 9 [.string (bstr t)].toArray w (Post (fun v : Value => .tuple #[v, vi e]) (fun _ => L) (fun v => sl v m :: R)) := by
  have := scParse hs hl ht
  rw [h] at this; exact this
theorem textT {L : List Chunk} {R : List Fact} {w : World} {v0 : Value} {l : List Step} {t : Bs} {e : Int} (h : textS l = (t, e)) (hs : St L R w) (hl : lbF ∈ R) (h0 : sl v0 l ∈ R) (hT : (textB l).length ≤ 16777000) : Calls Tryd.prog 8 [v0].toArray w (Post (fun _ : Unit => .tuple #[.string (bstr t), vi e]) (fun _ => L) (fun _ => R)) := by
  have := scText hs hl h0 hT
  rw [h] at this; exact this
theorem printT {L : List Chunk} {R : List Fact} {w : World} {s : Step} {t : Bs} {e : Int} (h : printS s = (t, e)) (hs : St L R w) (hl : lbF ∈ R) (hsw : s.wf) : Calls Tryd.prog 6 [Value.agg s.cells.toArray].toArray w (Post (fun _ : Unit => .tuple #[.string (bstr t), vi e]) (fun _ => L) (fun _ => R)) := by
  have := scPrint hs hl hsw
  rw [h] at this; exact this
theorem scAlive {L : List Chunk} {R : List Fact} {w : World}  (hs : St (L) R w) (hl : lbF ∈ R) : Calls Tryd.prog 12 [].toArray w (Post (fun _ : Unit => .bool true) (fun _ => L) (fun _ => R)) := by
  refine calls_args Tryd.func12 rfl Tryd.ntmps12 rfl hs ?_
  clear hs
  refine Gm ?_
  refine Gb1 ?_
  refine r_call Tryd.call9 rfl (fun w hs => parseT (t := alTx) al_parse hs mm (by decide)) ?_; intro v8
  refine Gb5 ?_
  refine rn1 ?_
  refine r_call Tryd.call8 rfl (fun w hs => textT al_back hs mm mm (by rw [al_text]; decide)) ?_; intro _
  refine Gb5 ?_
  refine rn1 ?_
  refine r_call Tryd.call6 rfl (fun w hs => printT (s := alGo) al_go hs mm (by unfold Step.wf In64; decide)) ?_; intro _
  refine Gb5 ?_
  refine rn1 ?_
  refine ob (p_int rfl rfl (b_eql_T rfl)) ?_
  refine rn2 ?_
  refine gy ?_
  refine ob (p_int rfl rfl (b_eql_T rfl)) ?_
  refine rn3 ?_
  refine gy ?_
  refine ob (p_int rfl rfl (b_eql_T rfl)) ?_
  refine rn4 ?_
  refine gy ?_
  refine ob (p_int rfl rfl (b_eql_T rfl)) ?_
  refine rn3 ?_
  refine gy ?_
  refine ob (p_str rfl rfl (b_streq_T rfl)) ?_
  refine rn3 ?_
  refine gy ?_
  refine ob (p_str rfl rfl (b_streq_T rfl)) ?_
  refine Ga2 ?_
  exact rete1 ()
theorem text_two (l : List Step) : (∀ s ∈ l, ¬ badStep s) ∨ ∃ s ∈ l, badStep s := (textS_cases l).imp (fun h => h.1) fun h => h.1
theorem scriptTurns_walk {L : List Chunk} {R : List Fact} {w : World} {v0 : Value} {l : List Step} {t : Bs} (hs : St (L) R w) (h0 : sl v0 l ∈ R) (hl : lbF ∈ R) (hn : l.length ≤ 174763) (ht : t.length ≤ 1048576) : Calls Tryd.prog 4 [v0, .string (bstr t)].toArray w (Post (fun _ : Unit => .bool true) (fun _ => L) (fun _ => R)) := by
  have hwl := sl_wfS h0 hs
  have hT9 := textB_len hwl
  refine calls_args Tryd.func4 rfl Tryd.ntmps4 rfl hs ?_
  clear hs
  refine Gm ?_
  refine Gb1 ?_
  refine r_call Tryd.call12 rfl (fun w hs => scAlive hs mm) ?_; intro _
  refine Gc1 ?_
  rcases (show (∀ s ∈ l, ¬ badStep s) ∨ (∃ s ∈ l, badStep s) from by exact text_two l) with hc | hc
  ·
   have hnb := norm_back hwl hc
   have hn9 := textB_norm l
   refine jc_region ?_
   refine rn1 ?_
   refine r_call Tryd.call8 rfl (fun w hs => textT (textS_ok hc) hs mm mm (by omega)) ?_; intro _
   refine Gb5 ?_
   refine rn1 ?_
   refine ob (p_int rfl rfl (b_eql_T rfl)) ?_
   refine Gmc ?_
   refine rn1 ?_
   refine r_call Tryd.call9 rfl (fun w hs => parseT hnb.1 hs mm (by omega)) ?_; intro v24
   refine Gb5 ?_
   refine rn1 ?_
   refine ob (p_int rfl rfl (b_neq_F rfl)) ?_
   refine rn5 ?_
   refine gy ?_
   refine ob (p_int rfl rfl (b_neq_F (by rw [List.length_map]))) ?_
   refine Gd1 ?_
   refine rn1 ?_
   refine r_call Tryd.call8 rfl (fun w hs => textT hnb.2 hs mm mm (by rw [hn9]; omega)) ?_; intro _
   refine Ga5 ?_
   refine kp [1, 4, 5, 8, 9, 41, 42, 43, 44, 45, 46, 47] ?_
   refine jc_region ?_
   refine rn1 ?_
   refine ob (p_int rfl rfl (b_neq_F rfl)) ?_
   refine rn3 ?_
   refine gy ?_
   refine ob (p_str rfl rfl (b_strne_F rfl)) ?_
   refine Gc1 ?_
   rcases (show ((parseS t).2 = 0) ∨ ((parseS t).2 ≠ 0) from by exact Decidable.em _) with hc | hc
   ·
    have hd := hc
    have hpl := parse_len hd
    refine jc_region ?_
    refine rn1 ?_
    refine r_call Tryd.call9 rfl (fun w hs => parseT (parse_yes hd) hs mm (by omega)) ?_; intro v50
    refine Gb5 ?_
    refine rn1 ?_
    refine ob (p_int rfl rfl (b_neq_F rfl)) ?_
    refine Gmc ?_
    refine rn1 ?_
    refine r_call Tryd.call8 rfl (fun w hs => textT (text_again hd) hs mm mm (by rw [hpl.2]; omega)) ?_; intro _
    refine Gb5 ?_
    refine rn1 ?_
    refine ob (p_int rfl rfl (b_eql_T rfl)) ?_
    refine rn3 ?_
    refine gy ?_
    refine ob (p_str rfl rfl (b_streq_T rfl)) ?_
    refine Ga2 ?_
    exact rete1 ()
   ·
    have hd := hc
    refine jc_region ?_
    refine rn1 ?_
    refine r_call Tryd.call9 rfl (fun w hs => parseT (parse_no hd) hs mm (by omega)) ?_; intro v50
    refine Gb5 ?_
    refine rn1 ?_
    refine ob (p_int rfl rfl (b_neq_T hd)) ?_
    refine Gmc ?_
    refine rn2 ?_
    refine ob (p_int rfl rfl (b_eql_T rfl)) ?_
    refine Ga1 ?_
    exact rete1 ()
  ·
   skip
   refine jc_region ?_
   refine rn1 ?_
   refine r_call Tryd.call8 rfl (fun w hs => textT (textS_bad hc) hs mm mm (by omega)) ?_; intro _
   refine Gb5 ?_
   refine rn1 ?_
   refine ob (p_int rfl rfl (b_eql_F (by decide))) ?_
   refine Glc ?_
   rcases (show ((parseS t).2 = 0) ∨ ((parseS t).2 ≠ 0) from by exact Decidable.em _) with hc | hc
   ·
    have hd := hc
    have hpl := parse_len hd
    refine jc_region ?_
    refine rn1 ?_
    refine r_call Tryd.call9 rfl (fun w hs => parseT (parse_yes hd) hs mm (by omega)) ?_; intro v50
    refine Gb5 ?_
    refine rn1 ?_
    refine ob (p_int rfl rfl (b_neq_F rfl)) ?_
    refine Gmc ?_
    refine rn1 ?_
    refine r_call Tryd.call8 rfl (fun w hs => textT (text_again hd) hs mm mm (by rw [hpl.2]; omega)) ?_; intro _
    refine Gb5 ?_
    refine rn1 ?_
    refine ob (p_int rfl rfl (b_eql_T rfl)) ?_
    refine rn3 ?_
    refine gy ?_
    refine ob (p_str rfl rfl (b_streq_T rfl)) ?_
    refine Ga2 ?_
    exact rete1 ()
   ·
    have hd := hc
    refine jc_region ?_
    refine rn1 ?_
    refine r_call Tryd.call9 rfl (fun w hs => parseT (parse_no hd) hs mm (by omega)) ?_; intro v50
    refine Gb5 ?_
    refine rn1 ?_
    refine ob (p_int rfl rfl (b_neq_T hd)) ?_
    refine Gmc ?_
    refine rn2 ?_
    refine ob (p_int rfl rfl (b_eql_T rfl)) ?_
    refine Ga1 ?_
    exact rete1 ()
theorem scriptJoined_walk {L : List Chunk} {R : List Fact} {w : World} {s t : Bs} (hs : St (L) R w) (hl : lbF ∈ R) (hsn : s.length ≤ 1048576) (ht : t.length ≤ 1048576) : Calls Tryd.prog 5 [.string (bstr s), .string (bstr t)].toArray w (Post (fun _ : Unit => .bool true) (fun _ => L) (fun _ => R)) := by
  refine calls_args Tryd.func5 rfl Tryd.ntmps5 rfl hs ?_
  clear hs
  refine Gm ?_
  refine Gb1 ?_
  refine r_call Tryd.call12 rfl (fun w hs => scAlive hs mm) ?_; intro _
  refine Gc1 ?_
  rcases (show ((parseS s).2 ≠ 0) ∨ ((parseS s).2 = 0 ∧ (parseS t).2 ≠ 0) ∨ ((parseS s).2 = 0 ∧ (parseS t).2 = 0) from by omega) with hc | hc | hc
  ·
   have e1 := parse_no hc
   have e2 : parseS t = ((parseS t).1, (parseS t).2) := rfl
   have e3 : parseS (s ++ t) = ((parseS (s ++ t)).1, (parseS (s ++ t)).2) := rfl
   refine jc_region ?_
   refine rn1 ?_
   refine r_call Tryd.call9 rfl (fun w hs => parseT e1 hs mm (by omega)) ?_; intro v15
   refine Gb5 ?_
   refine rn1 ?_
   refine r_call Tryd.call9 rfl (fun w hs => parseT e2 hs mm (by omega)) ?_; intro v20
   refine Gb5 ?_
   refine rn2 ?_
   refine ob q_sadd ?_
   refine r_call Tryd.call9 rfl (fun w hs => parseT e3 hs mm (by rw [List.length_append]; omega)) ?_; intro v27
   refine Gb5 ?_
   refine rn1 ?_
   refine ob (p_int rfl rfl (b_neq_T hc)) ?_
   refine Gmc ?_
   refine Ga1 ?_
   exact rete1 ()
  ·
   have e1 := parse_yes hc.1
   have e2 := parse_no hc.2
   have e3 : parseS (s ++ t) = ((parseS (s ++ t)).1, (parseS (s ++ t)).2) := rfl
   refine jc_region ?_
   refine rn1 ?_
   refine r_call Tryd.call9 rfl (fun w hs => parseT e1 hs mm (by omega)) ?_; intro v15
   refine Gb5 ?_
   refine rn1 ?_
   refine r_call Tryd.call9 rfl (fun w hs => parseT e2 hs mm (by omega)) ?_; intro v20
   refine Gb5 ?_
   refine rn2 ?_
   refine ob q_sadd ?_
   refine r_call Tryd.call9 rfl (fun w hs => parseT e3 hs mm (by rw [List.length_append]; omega)) ?_; intro v27
   refine Gb5 ?_
   refine rn1 ?_
   refine ob (p_int rfl rfl (b_neq_F rfl)) ?_
   refine Gmc ?_
   refine rn1 ?_
   refine ob (p_int rfl rfl (b_neq_T hc.2)) ?_
   refine Gmc ?_
   refine rn2 ?_
   refine ob (p_int rfl rfl (b_eql_T (join_no hc.1 hc.2))) ?_
   refine Ga1 ?_
   exact rete1 ()
  ·
   have e1 := parse_yes hc.1
   have e2 := parse_yes hc.2
   have e3 := join_yes hc.1 hc.2
   have la := (parse_len hc.1).1
   have lb := (parse_len hc.2).1
   refine jc_region ?_
   refine rn1 ?_
   refine r_call Tryd.call9 rfl (fun w hs => parseT e1 hs mm (by omega)) ?_; intro v15
   refine Gb5 ?_
   refine rn1 ?_
   refine r_call Tryd.call9 rfl (fun w hs => parseT e2 hs mm (by omega)) ?_; intro v20
   refine Gb5 ?_
   refine rn2 ?_
   refine ob q_sadd ?_
   refine r_call Tryd.call9 rfl (fun w hs => parseT e3 hs mm (by rw [List.length_append]; omega)) ?_; intro v27
   refine Gb5 ?_
   refine rn1 ?_
   refine ob (p_int rfl rfl (b_neq_F rfl)) ?_
   refine Gmc ?_
   refine rn1 ?_
   refine ob (p_int rfl rfl (b_neq_F rfl)) ?_
   refine Gmc ?_
   refine rn1 ?_
   refine ob (p_int rfl rfl (b_eql_T rfl)) ?_
   refine rn2 ?_
   refine gy ?_
   refine liO ([] : List Step) eo_22 rfl (fun j h => rd_nil) ?_; intro v41
   refine rn1 ?_
   refine gy ?_
   refine ap eo_22 (hb := fun w hs => by have : maxN = 16777216 := rfl; simp only [List.length_append, List.length_nil]; omega) (k := ?_); intro v43
   refine rn1 ?_
   refine gy ?_
   refine ap eo_22 (hb := fun w hs => by have : maxN = 16777216 := rfl; simp only [List.length_append, List.length_nil]; omega) (k := ?_); intro v45
   refine gy ?_
   refine J.conseq (fun w hs => (hs.pick (c := row 27 v45 ([] ++ (parseS s).1 ++ (parseS t).1)) pkk).shut) ?_
   refine r_call Tryd.call11 rfl (fun w hs => sameStepsT (a := (parseS s).1 ++ (parseS t).1) (b := [] ++ (parseS s).1 ++ (parseS t).1) rfl hs mm mm) ?_; intro _
   refine Ga2 ?_
   exact rete1 ()
end Go.Proofs.YtiofgjolhbgkiaaDoor
end
section
/- This file proves what the document's reader of a text computes, and walks the law ScriptTells. No conditions. -/
set_option maxHeartbeats 1000000
set_option maxRecDepth 8000
namespace Go.Proofs.YtiofgjolhbgkiaaDoor
open Go
theorem piece_le {t ln : Bs} {D : List Step} {k : Nat} (h : D.length + ln.length ≤ k) (hk : k ≤ t.length) (ht : t.length ≤ 16777000) : ln.length + ((t.drop k).take (k + 1 - k)).length ≤ 9223372036854775807 := by
  rw [List.length_take]; omega
theorem last_three (t : Bs) : t.length = 0 ∨ (0 < t.length ∧ t.getD (t.length - 1) 0 ≠ 10) ∨ (0 < t.length ∧ t.getD (t.length - 1) 0 = 10) := by
  rcases Nat.eq_zero_or_pos t.length with h | h
  · exact .inl h
  · by_cases e : t.getD (t.length - 1) 0 = 10
    · exact .inr (.inr ⟨h, e⟩)
    · exact .inr (.inl ⟨h, e⟩)
theorem rfScript {L : List Chunk} {R : List Fact} {w : World} {t : Bs} (hs : St (L) R w) (hl : lbF ∈ R) (ht : t.length ≤ 16777000) : Calls Tryd.prog 10 [.string (bstr t)].toArray w (Post (fun v : Value => .tuple #[v, vi (parseS t).2]) (fun v => L) (fun v => sl v (parseS t).1 :: R)) := by
  refine calls_args Tryd.func10 rfl Tryd.ntmps10 rfl hs ?_
  clear hs
  refine Gm ?_
  refine Gb2 ?_
  refine Gb1 ?_
  refine Gb1 ?_
  refine rn1 ?_
  refine ob (q_slen Tryd.underlying9) ?_
  refine Ga1 ?_
  refine jc_loop (γ := Nat × Value × List Step × Bs) (fun g => ScI t g.1 g.2.2.1 g.2.2.2) (fun g => row 27 g.2.1 g.2.2.1 :: L) (fun _ => R) (fun g => [(0, .string (bstr t)), (4, g.2.1), (5, .string (bstr g.2.2.2)), (10, vi (t.length : Int)), (11, vi (g.1 : Int))]) (fun g => t.length - g.1) (0, .slice none 0 0, [], []) (ScI.zero t) alT (fun w hs => hs.rowNil 27 Step) ?_
  rintro ⟨k, v, D, ln⟩ hI
  try simp only at hI ⊢
  have hk := hI.le
  have hln := hI.len
  refine Gm ?_
  refine Ga1 ?_
  refine cdx (p := ?p1) (hd := ?d1) ?e1 ?_ ?_; case e1 => exact rfl
  ·
   intro ht12
   refine Gl ?_
   have hkt : k < t.length := by omega
   refine jc_region ?_
   refine Gb2 ?_
   refine rn2 ?_
   refine ob (q_sidx Tryd.underlying9) ?_
   refine Ga1 ?_
   refine cdx (p := ?p2) (hd := ?d2) ?e2 ?_ ?_; case e2 => exact rfl
   ·
    intro ht17
    refine Gm ?_
    refine rn5 ?_
    refine ob (q_scut (lo := k) (hi := k + 1) Tryd.underlying9) ?_
    refine ob (q_sadd (a := ln) (b := ((t.drop k).take (k + 1 - k))) (h := piece_le hln hk ht)) ?_
    refine Gb1 ?_
    refine Ga2 ?_
    refine jx_head (k + 1, v, D, ln ++ ((t.drop k).take (k + 1 - k))) (hI.more hkt (fun h => ht17 (b10_eq h))) (by show t.length - (k + 1) < t.length - k; omega) alT (fun w hs => st_cut hs)
   ·
    intro ht17
    refine Gm ?_
    refine rn1 ?_
    refine r_call Tryd.call26 rfl (fun w hs => rfLine (bs := ln) hs mm (by omega)) ?_; intro _
    refine rn3 ?_
    refine al_ (cs := zStep.cells) Tryd.zeroValue27 ?_; intro b7
    refine s_B Tryd.sizeOf27 ?_
    refine Ga1 ?_
    rcases (show ((lineS ln).2 = 0) ∨ ((lineS ln).2 ≠ 0) from by exact Decidable.em _) with hc | hc
    ·
     have hxw := line_wf hc
     refine jc_region ?_
     refine rn1 ?_
     refine ob (p_int rfl rfl (b_neq_F hc)) ?_
     refine Gmc ?_
     refine rn2 ?_
     refine li (α := Step) [(lineS ln).1] eo_22 rfl (fun j hj => ⟨⟨_, rfl, rfl, hxw⟩, trivial⟩) ?_; intro v35
     refine ap eo_22 (hb := fun w hs => by have : maxN = 16777216 := rfl; simp only [List.length_cons, List.length_nil]; omega) (k := ?_); intro v36
     refine Gb1 ?_
     refine Gb1 ?_
     refine Ga2 ?_
     refine jx_head (k + 1, v36, D ++ [(lineS ln).1], []) (hI.next hkt (b10_of ht17) hc) (by show t.length - (k + 1) < t.length - k; omega) alT (fun w hs => st_cut hs)
    ·
     have e9 := hI.er hkt (b10_of ht17) hc
     refine jc_region ?_
     refine rn1 ?_
     refine ob (p_int rfl rfl (b_neq_T hc)) ?_
     refine Gmc ?_
     refine Ga3 ?_
     rw [e9]
     refine jx_body (.inr rfl) (fun B w hs => res2 rfl rfl rfl B w) (fun w hs => ⟨.slice none 0 0, rfl, st_cut (sl_nilF (α := Step) hs)⟩)
  ·
   intro ht12
   refine Gl ?_
   rcases (show (t.length = 0) ∨ (0 < t.length ∧ t.getD (t.length - 1) 0 ≠ 10) ∨ (0 < t.length ∧ t.getD (t.length - 1) 0 = 10) from by exact last_three t) with hc | hc | hc
   ·
    have e9 := hI.good (by omega) (.inl hc)
    refine jc_region ?_
    refine rn1 ?_
    refine ob (q_slen Tryd.underlying9) ?_
    refine ob (p_int rfl rfl (b_gtr_F (by omega))) ?_
    refine Gd8 ?_
    refine Ga3 ?_
    rw [e9]
    refine jx_body (.inr rfl) (fun B w hs => res2 rfl rfl rfl B w) (fun w hs => ⟨v, rfl, st_cut hs.shut⟩)
   ·
    have e9 := hI.open (by omega) hc.1 hc.2
    refine jc_region ?_
    refine rn1 ?_
    refine ob (q_slen Tryd.underlying9) ?_
    refine ob (p_int rfl rfl (b_gtr_T (by omega))) ?_
    refine rn3 ?_
    refine gy ?_
    refine ob (q_slen Tryd.underlying9) ?_
    refine rn1 ?_
    refine gy ?_
    refine ob (q_sidx (i := t.length - 1) Tryd.underlying9 (hy := congrArg (fun z => some (vi z)) (show ((t.length : Nat) : Int) - 1 = ((t.length - 1 : Nat) : Int) by omega))) ?_
    refine gy ?_
    refine ob (p_int rfl rfl (b_neq_T (b10_ne hc.2))) ?_
    refine Gd1 ?_
    refine Ga2 ?_
    rw [e9]
    refine jx_body (.inr rfl) (fun B w hs => res2 rfl rfl rfl B w) (fun w hs => ⟨.slice none 0 0, rfl, st_cut (sl_nilF (α := Step) hs)⟩)
   ·
    have e9 := hI.good (by omega) (.inr hc.2)
    refine jc_region ?_
    refine rn1 ?_
    refine ob (q_slen Tryd.underlying9) ?_
    refine ob (p_int rfl rfl (b_gtr_T (by omega))) ?_
    refine rn3 ?_
    refine gy ?_
    refine ob (q_slen Tryd.underlying9) ?_
    refine rn1 ?_
    refine gy ?_
    refine ob (q_sidx (i := t.length - 1) Tryd.underlying9 (hy := congrArg (fun z => some (vi z)) (show ((t.length : Nat) : Int) - 1 = ((t.length - 1 : Nat) : Int) by omega))) ?_
    refine gy ?_
    refine ob (p_int rfl rfl (b_neq_F (b10_eq hc.2))) ?_
    refine Gd1 ?_
    refine Ga3 ?_
    rw [e9]
    refine jx_body (.inr rfl) (fun B w hs => res2 rfl rfl rfl B w) (fun w hs => ⟨v, rfl, st_cut hs.shut⟩)
theorem bad_three (l : List Step) (k : Nat) : ¬ badStep (l.getD k zStep) ∨ (badStep (l.getD k zStep) ∧ (textS (l.take k)).2 = 0) ∨ (badStep (l.getD k zStep) ∧ (textS (l.take k)).2 ≠ 0) := by
  by_cases h : badStep (l.getD k zStep)
  · by_cases h2 : (textS (l.take k)).2 = 0
    · exact .inr (.inl ⟨h, h2⟩)
    · exact .inr (.inr ⟨h, h2⟩)
  · exact .inl h
theorem scriptTells_walk {L : List Chunk} {R : List Fact} {w : World} {v0 : Value} {l : List Step} {t : Bs} (hs : St (L) R w) (h0 : sl v0 l ∈ R) (hl : lbF ∈ R) (hn : l.length ≤ 174763) (ht : t.length ≤ 1048576) : Calls Tryd.prog 3 [v0, .string (bstr t)].toArray w (Post (fun _ : Unit => .bool true) (fun _ => L) (fun _ => R)) := by
  have hwl := sl_wfS h0 hs
  have hT9 := textB_len hwl
  refine calls_args Tryd.func3 rfl Tryd.ntmps3 rfl hs ?_
  clear hs
  refine Gm ?_
  refine Gb1 ?_
  refine Gb2 ?_
  refine Ga3 ?_
  refine jc_loop (γ := Nat) (fun k => k ≤ l.length) (fun _ => L) (fun _ => R) (fun k => [(0, v0), (1, .string (bstr t)), (5, .string (bstr (wantT (l.take k)))), (6, vi (textS (l.take k)).2), (18, v0), (19, vi (l.length : Int)), (20, vi (k : Int))]) (fun k => l.length - k) 0 (Nat.zero_le _) alT (fun w hs => st_cut hs) ?_
  intro k hk
  have hwt := wantT_len (l := l.take k) (fun x hx => hwl x (List.mem_of_mem_take hx))
  rw [List.length_take] at hwt
  refine Gm ?_
  refine Ga1 ?_
  refine cdx (p := ?p1) (hd := ?d1) ?e1 ?_ ?_; case e1 => exact rfl
  ·
   intro ht21
   refine Gl ?_
   refine JC.open0 (xs := l) (v := v0) k mm (by omega) (fun hwk => ?_)
   have hpl : (printS (l.getD k zStep)).1.length ≤ 79 := print_len hwk
   refine jc_region ?_
   refine rn2 ?_
   refine al_ (cs := zStep.cells) Tryd.zeroValue27 ?_; intro b8
   refine s_B Tryd.sizeOf27 ?_
   refine Gm ?_
   refine rn1 ?_
   refine r_call Tryd.call6 rfl (fun w hs => scPrint (s := (l.getD k zStep)) hs mm hwk) ?_; intro _
   refine Gb5 ?_
   refine rn1 ?_
   refine r_call Tryd.call7 rfl (fun w hs => rfPrint (s := (l.getD k zStep)) hs mm hwk) ?_; intro _
   refine Gb5 ?_
   refine rn2 ?_
   refine ob (p_str rfl rfl (b_strne_F rfl)) ?_
   refine rn3 ?_
   refine gy ?_
   refine ob (p_int rfl rfl (b_neq_F rfl)) ?_
   refine Gc1 ?_
   rcases (show (¬ badStep (l.getD k zStep)) ∨ (badStep (l.getD k zStep) ∧ (textS (l.take k)).2 = 0) ∨ (badStep (l.getD k zStep) ∧ (textS (l.take k)).2 ≠ 0) from by exact bad_three l k) with hc | hc | hc
   ·
    skip
    refine kp [0, 1, 4, 5, 6, 8, 9, 10, 11, 12, 18, 19, 20, 21, 22, 23, 24, 25, 26, 27, 28, 29, 30, 31, 32, 33, 34, 35, 36, 37, 38, 39, 40, 41, 42, 43, 44, 45, 46, 47] ?_
    refine jc_region ?_
    refine rn1 ?_
    refine ob (p_int rfl rfl (b_neq_F (print_fst hc))) ?_
    refine Gd4 ?_
    refine rn2 ?_
    refine ob (q_sadd (a := wantT (l.take k)) (b := (printS (l.getD k zStep)).1)) ?_
    refine ob (q_sadd (a := wantT (l.take k) ++ (printS (l.getD k zStep)).1) (b := [10])) ?_
    refine Gb1 ?_
    refine Ga2 ?_
    refine jx_head (k + 1) (by show k + 1 ≤ l.length; omega) (by show l.length - (k + 1) < l.length - k; omega) ⟨rfl, rfl, congrArg (fun z => some (Value.string (bstr z))) (wantT_next (by omega)).symm, congrArg (fun z => some (vi z)) (by rw [tsn_good (by omega) hc]), rfl, rfl, rfl, trivial⟩ (fun w hs => st_cut hs)
   ·
    refine kp [0, 1, 4, 5, 6, 8, 9, 10, 11, 12, 18, 19, 20, 21, 22, 23, 24, 25, 26, 27, 28, 29, 30, 31, 32, 33, 34, 35, 36, 37, 38, 39, 40, 41, 42, 43, 44, 45, 46, 47] ?_
    refine jc_region ?_
    refine rn1 ?_
    refine ob (p_int rfl rfl (b_neq_T (by rw [print_snd hc.1]; decide))) ?_
    refine rn2 ?_
    refine gy ?_
    refine ob (p_int rfl rfl (b_eql_T hc.2)) ?_
    refine Gd1 ?_
    refine Gb2 ?_
    refine rn2 ?_
    refine ob (q_sadd (a := wantT (l.take k)) (b := (printS (l.getD k zStep)).1)) ?_
    refine ob (q_sadd (a := wantT (l.take k) ++ (printS (l.getD k zStep)).1) (b := [10])) ?_
    refine Gb1 ?_
    refine Ga2 ?_
    refine jx_head (k + 1) (by show k + 1 ≤ l.length; omega) (by show l.length - (k + 1) < l.length - k; omega) ⟨rfl, rfl, congrArg (fun z => some (Value.string (bstr z))) (wantT_next (by omega)).symm, congrArg (fun z => some (vi z)) (by rw [tsn_bad (by omega) hc.1, print_snd hc.1]), rfl, rfl, rfl, trivial⟩ (fun w hs => st_cut hs)
   ·
    refine kp [0, 1, 4, 5, 6, 8, 9, 10, 11, 12, 18, 19, 20, 21, 22, 23, 24, 25, 26, 27, 28, 29, 30, 31, 32, 33, 34, 35, 36, 37, 38, 39, 40, 41, 42, 43, 44, 45, 46, 47] ?_
    refine jc_region ?_
    refine rn1 ?_
    refine ob (p_int rfl rfl (b_neq_T (by rw [print_snd hc.1]; decide))) ?_
    refine rn2 ?_
    refine gy ?_
    refine ob (p_int rfl rfl (b_eql_F hc.2)) ?_
    refine Gd1 ?_
    refine rn2 ?_
    refine ob (q_sadd (a := wantT (l.take k)) (b := (printS (l.getD k zStep)).1)) ?_
    refine ob (q_sadd (a := wantT (l.take k) ++ (printS (l.getD k zStep)).1) (b := [10])) ?_
    refine Gb1 ?_
    refine Ga2 ?_
    refine jx_head (k + 1) (by show k + 1 ≤ l.length; omega) (by show l.length - (k + 1) < l.length - k; omega) ⟨rfl, rfl, congrArg (fun z => some (Value.string (bstr z))) (wantT_next (by omega)).symm, congrArg (fun z => some (vi z)) (by rw [tsn_bad (by omega) hc.1]; exact tsn_one hc.2), rfl, rfl, rfl, trivial⟩ (fun w hs => st_cut hs)
  ·
   intro ht21
   refine Gl ?_
   have hkl : k = l.length := by omega
   subst hkl
   rw [List.take_length]
   rcases (show (∀ s ∈ l, ¬ badStep s) ∨ (∃ s ∈ l, badStep s) from by exact text_two l) with hc | hc
   ·
    have e1 := textS_ok hc
    rw [e1]
    refine jc_region ?_
    refine rn1 ?_
    refine r_call Tryd.call8 rfl (fun w hs => textT e1 hs mm mm (by omega)) ?_; intro _
    refine Gb5 ?_
    refine rn2 ?_
    refine ob (p_int rfl rfl (b_neq_F rfl)) ?_
    refine rn2 ?_
    refine gy ?_
    refine ob (p_int rfl rfl (b_eql_T rfl)) ?_
    refine rn3 ?_
    refine gy ?_
    refine ob (p_str rfl rfl (b_strne_F (wantT_good hc).symm)) ?_
    refine rn4 ?_
    refine gy ?_
    refine ob (p_int rfl rfl (b_neq_F rfl)) ?_
    refine Gc5 ?_
    refine kp [1, 4, 14, 15, 79, 80, 81, 82, 83] ?_
    refine jc_region ?_
    refine rn1 ?_
    refine r_call Tryd.call9 rfl (fun w hs => scParse hs mm (by omega)) ?_; intro v81
    refine Gb5 ?_
    refine rn1 ?_
    refine r_call Tryd.call10 rfl (fun w hs => rfScript hs mm (by omega)) ?_; intro v86
    refine Gb5 ?_
    refine rn2 ?_
    refine ob (p_int rfl rfl (b_eql_T rfl)) ?_
    refine rn3 ?_
    refine gy ?_
    refine r_call Tryd.call11 rfl (fun w hs => sameStepsT rfl hs mm mm) ?_; intro _
    refine Ga2 ?_
    exact rete1 ()
   ·
    have e1 := textS_bad hc
    rw [e1]
    refine jc_region ?_
    refine rn1 ?_
    refine r_call Tryd.call8 rfl (fun w hs => textT e1 hs mm mm (by omega)) ?_; intro _
    refine Gb5 ?_
    refine rn2 ?_
    refine ob (p_int rfl rfl (b_neq_F rfl)) ?_
    refine rn2 ?_
    refine gy ?_
    refine ob (p_int rfl rfl (b_eql_F (by decide))) ?_
    refine rn8 ?_
    refine gy ?_
    refine ob (p_int rfl rfl (b_neq_T (by decide))) ?_
    refine rn2 ?_
    refine gy ?_
    refine ob (p_str rfl rfl (b_strne_F rfl)) ?_
    refine Gc2 ?_
    refine kp [1, 4, 14, 15, 79, 80, 81, 82, 83] ?_
    refine jc_region ?_
    refine rn1 ?_
    refine r_call Tryd.call9 rfl (fun w hs => scParse hs mm (by omega)) ?_; intro v81
    refine Gb5 ?_
    refine rn1 ?_
    refine r_call Tryd.call10 rfl (fun w hs => rfScript hs mm (by omega)) ?_; intro v86
    refine Gb5 ?_
    refine rn2 ?_
    refine ob (p_int rfl rfl (b_eql_T rfl)) ?_
    refine rn3 ?_
    refine gy ?_
    refine r_call Tryd.call11 rfl (fun w hs => sameStepsT rfl hs mm mm) ?_; intro _
    refine Ga2 ?_
    exact rete1 ()
end Go.Proofs.YtiofgjolhbgkiaaDoor
end
