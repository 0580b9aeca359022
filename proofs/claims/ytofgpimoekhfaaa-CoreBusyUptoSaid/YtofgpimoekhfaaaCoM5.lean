/- This file proves parts of what its law needs: each part is told ahead of it. No conditions. -/
import Derived.Test.YtofgpimoekhfaaaCoM3
import Derived.Test.YtofgpimoekhfaaaCoM4
import Derived.Test.YtofgpimoekhfaaaCoM2
/- This file proves what a core hears, by the document's answer: some kinds of messages. No conditions. -/
set_option linter.unusedVariables false
set_option linter.unusedSimpArgs false
set_option maxHeartbeats 1000000
set_option maxRecDepth 8000
namespace Go.Proofs.Ytofgpimoekhfaaa
open Go
theorem S1 {L : List Chunk} {R : List Fact} {w : World} {u : Value} {c : Core} {id home : Int} {m : Msg} (hs : St (L) R w) (hu : sl u c.lines ∈ R) (hk : KB c) (hid : Am id) (hhome : Am home) (hm : m.wf) (hg : 0 ≤ m.line ∧ m.line < (c.lines.length : Int) ∧ m.kind = 5) : Calls Try.prog 47 [.agg (c.cells u).toArray, vi id, vi home, .agg m.cells.toArray].toArray w (Ch (fun v : Value × Value × Value => .tuple #[.agg (Core.cells v.1 (Ad c id home m).1).toArray, v.2.1, v.2.2]) (fun v => L) (fun v => sl v.1 (Ad c id home m).1.lines :: sl v.2.1 (Ad c id home m).2.1 :: sl v.2.2 (Ad c id home m).2.2 :: R)) := by
  have hlen := Bk hu hs
  have hone0 : u.oneCell' = true := isSlice.one (hs.fact hu)
  have hn4 := hk.n
  have hm0 := hm
  unfold Msg.wf Am at hm0
  refine Aj Try.func47 rfl Try.ntmps47 rfl hs ?_
  clear hs
  refine Gm ?_
  refine bx ?_; intro b4
  refine bx ?_; intro b5
  refine bx ?_; intro b6
  refine bx ?_; intro b7
  refine al_ (cs := [.slice none 0 0, vi 0, vi 0, vi 0]) Try.zeroValue69 ?_; intro b8
  refine Gb2 ?_
  refine rn2 ?_
  refine ob (Af rfl rfl (An (by omega))) ?_
  refine rn6 ?_
  refine gy ?_
  refine ob (Af rfl rfl (A4 (by omega))) ?_
  refine Gc1 ?_
  refine Fl (c := c) (v := u) m.line mm (by omega) (by omega) (fun hlw => ?_)
  refine Aa ?_
  refine rn6 ?_
  refine al_ (cs := zLine.cells) Try.zeroValue82 ?_; intro b11
  refine s_B (cs := (Ac c m.line).cells) Try.sizeOf82 ?_
  refine Gm ?_
  refine C1 (vs := [bp b5 0, bp b6 0, bp b7 0]) rfl ?_
  refine Gb1 ?_
  refine C1 (vs := [bp b5 0, bp b4 0]) rfl ?_
  refine Gb1 ?_
  refine Ga2 ?_
  refine kp [4, 5, 7, 8, 9, 10, 11, 12, 13, 43, 44, 45] ?_
  refine Aa ?_
  refine ob (Af rfl rfl (Ak (by omega))) ?_
  refine Gd1 ?_
  refine ob (Af rfl rfl (As (by omega))) ?_
  refine Gc1 ?_
  refine kp [4, 5, 7, 8, 9, 10, 11, 12, 13, 43, 71, 72, 73, 74, 75, 76, 77, 78, 79, 80] ?_
  refine Di 80 (.bool (decide (0 < m.turn ∧ m.turn = (Ac c m.line).gave))) ?_ ?_
  ·
   rcases (show (¬ 0 < m.turn) ∨ (0 < m.turn ∧ ¬ m.turn = (Ac c m.line).gave) ∨ (0 < m.turn ∧ m.turn = (Ac c m.line).gave) from by omega) with hm | hm | hm
   ·
    refine Aa ?_
    refine rn2 ?_
    refine ob (Af rfl rfl (Cp (by omega))) ?_
    refine Ga7 ?_
    refine Aw ?_ (fun w hs => hs)
    refine ⟨by first | exact congrArg (fun b => some (Value.bool b)) (decide_eq_false (by omega)).symm | exact congrArg (fun b => some (Value.bool b)) (by simp; omega), alT⟩
   ·
    refine Aa ?_
    refine rn2 ?_
    refine ob (Af rfl rfl (C0 (by omega))) ?_
    refine rn5 ?_
    refine gy ?_
    refine ob (Af rfl rfl (Ak (by omega))) ?_
    refine Ga1 ?_
    refine Aw ?_ (fun w hs => hs)
    refine ⟨by first | exact congrArg (fun b => some (Value.bool b)) (decide_eq_false (by omega)).symm | exact congrArg (fun b => some (Value.bool b)) (by simp; omega), alT⟩
   ·
    refine Aa ?_
    refine rn2 ?_
    refine ob (Af rfl rfl (C0 (by omega))) ?_
    refine rn5 ?_
    refine gy ?_
    refine ob (Af rfl rfl (As (by omega))) ?_
    refine Ga1 ?_
    refine Aw ?_ (fun w hs => hs)
    refine ⟨by first | exact congrArg (fun b => some (Value.bool b)) (decide_eq_true (by omega)).symm | exact congrArg (fun b => some (Value.bool b)) (by simp; omega), alT⟩
  ·
   refine A3 ?_
   refine Gl ?_
   first | (refine cdx (p := ?p1) (hd := ?d1) ?e1 ?_ ?_; case e1 => exact rfl) | (refine Bp (b := ?b1) ?e1 ?_ ?_; case e1 => exact rfl)
   ·
    intro ht80
    refine Gl ?_
    refine JC.slNil Done ?_
    refine cq_ (blk b8 69 [.slice none 0 0, vi 0, vi 0, vi 0] :: blk b4 69 (c.cells u) :: blk b11 82 (Ac c m.line).cells :: blk b5 3 [vi id] :: blk b6 3 [vi home] :: blk b7 42 m.cells :: L) ?_
    refine jd_ (fun ρ S => blk b8 69 (bif S 7 then (c.cells u) else [.slice none 0 0, vi 0, vi 0, vi 0]) :: blk b4 69 (c.cells u) :: blk b11 82 (Ac c m.line).cells :: blk b5 3 [vi id] :: blk b6 3 [vi home] :: blk b7 42 m.cells :: L) ?_
    refine dn6 ?_
    refine Gz (γ := Value) (val := fun v => v) (F := fun v => [sl v [A5 9 id home m.line (Ac c m.line).gave (Ac c m.line).given]]) (caps := [bp b5 0, bp b6 0, bp b7 0]) (vs := [vi 9, vi (Ac c m.line).gave, vi (Ac c m.line).given]) (fun _ => rfl) Try.call85 (fun _ => rfl) (fun ρ S L R w hs hd => M8 hs (A2 pkk rfl) (A2 pkk rfl) (A2 pkk rfl) (by unfold Am; omega) hlw.2.2.2.2.2.1 hlw.2.2.2.2.2.2 hid hhome hm.2.2.2.1) (fun _ _ _ _ _ => rfl) ?_
    refine es_ 69 0 [] [] (fun ρ => b8) (fun ρ => [.slice none 0 0, vi 0, vi 0, vi 0]) (fun ρ => (c.cells u)) Try.sizeOf69 ?_
    refine e_p (v := fun ρ => (Gh.dec (γ := Value) (ρ 6))) (fun _ _ => Db) (Ind.gh (h := fun g => ((Gh.dec (γ := Value) g) : Value)) 6 0 rfl) (fun _ _ _ _ _ => rfl) ?_
    refine dn1 ?_
    refine dnl ?_; intro ρ
    refine xq_ (blk b8 69 (c.cells u) :: blk b4 69 (c.cells u) :: blk b11 82 (Ac c m.line).cells :: blk b5 3 [vi id] :: blk b6 3 [vi home] :: blk b7 42 m.cells :: L) ?_
    generalize (Gh.dec (γ := Value) (ρ 6)) = v87
    refine Gl ?_
    have er : Ad c id home m = (c, [A5 9 id home m.line (Ac c m.line).gave (Ac c m.line).given], []) := by unfold Ad; rw [if_neg (by omega)]; rw [if_neg (by omega), if_pos (by omega)]; rw [if_neg (by unfold Cq; omega), if_pos (by omega)]
    rw [er]
    exact Cg (u, v87, .slice none 0 0) Try.isAgg69 Try.sizeOf69
   ·
    intro ht80
    refine Gl ?_
    refine kp [4, 5, 7, 8, 9, 10, 11, 12, 13, 43, 88, 89, 90, 91, 92, 93, 94, 95, 96, 97, 98, 99, 100, 101, 102] ?_
    refine Di 102 (.bool (decide (m.turn ≤ (Ac c m.line).seen ∨ ((Ac c m.line).state ≠ 2 ∧ (Ac c m.line).state ≠ 3)))) ?_ ?_
    ·
     rcases (show (m.turn ≤ (Ac c m.line).seen) ∨ ((Ac c m.line).seen < m.turn ∧ (Ac c m.line).state = 2) ∨ ((Ac c m.line).seen < m.turn ∧ (Ac c m.line).state = 3) ∨ ((Ac c m.line).seen < m.turn ∧ (Ac c m.line).state ≠ 2 ∧ (Ac c m.line).state ≠ 3) from by omega) with hm | hm | hm | hm
     ·
      refine Aa ?_
      refine rn4 ?_
      refine ob (Af rfl rfl (Ma (by omega))) ?_
      refine Ga10 ?_
      refine Aw ?_ (fun w hs => hs)
      refine ⟨by first | exact congrArg (fun b => some (Value.bool b)) (decide_eq_true (by omega)).symm | exact congrArg (fun b => some (Value.bool b)) (by simp; omega), alT⟩
     ·
      refine Aa ?_
      refine rn4 ?_
      refine ob (Af rfl rfl (Fr (by omega))) ?_
      refine rn3 ?_
      refine gy ?_
      refine ob (Af rfl rfl (Bv (by omega))) ?_
      refine Ga6 ?_
      refine Aw ?_ (fun w hs => hs)
      refine ⟨by first | exact congrArg (fun b => some (Value.bool b)) (decide_eq_false (by omega)).symm | exact congrArg (fun b => some (Value.bool b)) (by simp; omega), alT⟩
     ·
      refine Aa ?_
      refine rn4 ?_
      refine ob (Af rfl rfl (Fr (by omega))) ?_
      refine rn3 ?_
      refine gy ?_
      refine ob (Af rfl rfl (Cz (by omega))) ?_
      refine rn3 ?_
      refine gy ?_
      refine ob (Af rfl rfl (Bv (by omega))) ?_
      refine Ga2 ?_
      refine Aw ?_ (fun w hs => hs)
      refine ⟨by first | exact congrArg (fun b => some (Value.bool b)) (decide_eq_false (by omega)).symm | exact congrArg (fun b => some (Value.bool b)) (by simp; omega), alT⟩
     ·
      refine kp [4, 5, 7, 8, 9, 10, 11, 12, 13, 43, 88, 89, 90, 91, 92, 93, 94, 95, 96, 97, 98, 99, 100, 101, 102] ?_
      refine Aa ?_
      refine rn4 ?_
      refine ob (Af rfl rfl (Fr (by omega))) ?_
      refine rn3 ?_
      refine gy ?_
      refine ob (Af rfl rfl (Cz (by omega))) ?_
      refine rn3 ?_
      refine gy ?_
      refine ob (Af rfl rfl (Cz (by omega))) ?_
      refine Ga2 ?_
      refine Aw ?_ (fun w hs => hs)
      refine ⟨by first | exact congrArg (fun b => some (Value.bool b)) (decide_eq_true (by omega)).symm | exact congrArg (fun b => some (Value.bool b)) (by simp; omega), alT⟩
    ·
     refine A3 ?_
     refine Gl ?_
     first | (refine cdx (p := ?p2) (hd := ?d2) ?e2 ?_ ?_; case e2 => exact rfl) | (refine Bp (b := ?b2) ?e2 ?_ ?_; case e2 => exact rfl)
     ·
      intro ht102
      refine Gl ?_
      refine JC.slNil Msg ?_
      refine JC.slNil Done ?_
      refine Aa ?_
      refine rn1 ?_
      refine s_B Try.sizeOf69 ?_
      refine Ga2 ?_
      have er : Ad c id home m = (c, [], []) := by unfold Ad; rw [if_neg (by omega)]; rw [if_neg (by omega), if_pos (by omega)]; rw [if_neg (by unfold Cq; omega), if_neg (by omega)]
      rw [er]
      exact Cg (u, .slice none 0 0, .slice none 0 0) Try.isAgg69 Try.sizeOf69
     ·
      intro ht102
      refine Gl ?_
      refine cq_ (blk b11 82 [vi (Ac c m.line).state, vi (Ac c m.line).value, vi (Ac c m.line).want, vi (Ac c m.line).serial, vi (Ac c m.line).seen, vi (Ac c m.line).gave, vi (Ac c m.line).given] :: blk b8 69 [.slice none 0 0, vi 0, vi 0, vi 0] :: blk b4 69 (c.cells u) :: blk b5 3 [vi id] :: blk b6 3 [vi home] :: blk b7 42 m.cells :: L) ?_
      refine jd_ (fun ρ S => blk b11 82 (bif S 11 then [vi (Ac c m.line).state, vi (Ac c m.line).value, vi (Ac c m.line).want, vi (Ac c m.line).serial, vi m.turn, vi m.turn, vi (Ac c m.line).value] else (bif S 9 then [vi (Ac c m.line).state, vi (Ac c m.line).value, vi (Ac c m.line).want, vi (Ac c m.line).serial, vi m.turn, vi m.turn, vi (Ac c m.line).given] else (bif S 7 then [vi (Ac c m.line).state, vi (Ac c m.line).value, vi (Ac c m.line).want, vi (Ac c m.line).serial, vi (Ac c m.line).seen, vi m.turn, vi (Ac c m.line).given] else [vi (Ac c m.line).state, vi (Ac c m.line).value, vi (Ac c m.line).want, vi (Ac c m.line).serial, vi (Ac c m.line).seen, vi (Ac c m.line).gave, vi (Ac c m.line).given]))) :: blk b8 69 [.slice none 0 0, vi 0, vi 0, vi 0] :: blk b4 69 (c.cells u) :: blk b5 3 [vi id] :: blk b6 3 [vi home] :: blk b7 42 m.cells :: L) ?_
      refine dn5 ?_
      refine Ko (v := vi (Ac c m.line).value) (fun ρ S hS hB hA => by have h11 : S 11 = false := hA 11 ⟨0, rfl⟩; simp only [h11, cond_false]; exact Dn (hc := A2 pkk (by repeat (first | exact rfl | refine Eh rfl ?_))) Try.isAgg3) (fun _ _ _ _ _ => rfl) ?_
      refine dn1 ?_
      refine es_ 82 5 [] [9, 11] (fun ρ => b11) (fun ρ => [vi (Ac c m.line).state, vi (Ac c m.line).value, vi (Ac c m.line).want, vi (Ac c m.line).serial, vi (Ac c m.line).seen, vi (Ac c m.line).gave, vi (Ac c m.line).given]) (fun ρ => [vi m.turn]) Try.sizeOf3 ?_
      refine dn1 ?_
      refine es_ 82 4 [7] [11] (fun ρ => b11) (fun ρ => [vi (Ac c m.line).state, vi (Ac c m.line).value, vi (Ac c m.line).want, vi (Ac c m.line).serial, vi (Ac c m.line).seen, vi m.turn, vi (Ac c m.line).given]) (fun ρ => [vi m.turn]) Try.sizeOf3 ?_
      refine dn1 ?_
      refine es_ 82 6 [7, 9] [] (fun ρ => b11) (fun ρ => [vi (Ac c m.line).state, vi (Ac c m.line).value, vi (Ac c m.line).want, vi (Ac c m.line).serial, vi m.turn, vi m.turn, vi (Ac c m.line).given]) (fun ρ => [vi (Ac c m.line).value]) Try.sizeOf3 ?_
      refine dnl ?_; intro ρ
      refine xq_ (blk b11 82 [vi (Ac c m.line).state, vi (Ac c m.line).value, vi (Ac c m.line).want, vi (Ac c m.line).serial, vi m.turn, vi m.turn, vi (Ac c m.line).value] :: blk b8 69 [.slice none 0 0, vi 0, vi 0, vi 0] :: blk b4 69 (c.cells u) :: blk b5 3 [vi id] :: blk b6 3 [vi home] :: blk b7 42 m.cells :: L) ?_
      refine Gm ?_
      refine rn5 ?_
      refine Dx (caps := [bp b5 0, bp b6 0, bp b7 0]) (vs := [vi 9, vi m.turn, vi (Ac c m.line).value]) rfl Try.call85 rfl (fun w hs => M8 hs (A2 pkk rfl) (A2 pkk rfl) (A2 pkk rfl) (by unfold Am; omega) hm.2.2.2.2.2.1 hlw.2.1 hid hhome hm.2.2.2.1) ?_; intro v118
      refine Ga1 ?_
      rcases (show ((Ac c m.line).want = 3) ∨ ((Ac c m.line).want ≠ 3) from by omega) with hc | hc
      ·
       refine kp [4, 5, 7, 8, 9, 10, 11, 12, 13, 14, 43, 119, 120, 121, 122, 123, 124, 125, 126] ?_
       refine Aa ?_
       refine rn2 ?_
       refine ob (Af rfl rfl (As (by omega))) ?_
       refine Gd5 ?_
       refine rn1 ?_
       refine sc ?_
       refine rn1 ?_
       refine sc ?_
       refine Gm ?_
       refine rn2 ?_
       refine ob (Af rfl rfl (As (by omega))) ?_
       refine Gmc ?_
       refine rn1 ?_
       refine sc ?_
       refine Gm ?_
       refine rn4 ?_
       have hXw : ({ (Ac c m.line) with seen := m.turn, gave := m.turn, given := (Ac c m.line).value, state := 0, value := 0, want := 0 } : Line).wf := by first | exact hlw | (unfold Line.wf Am at hlw ⊢; simp only; omega)
       refine Aq Try.call77 rfl (fun w hs => Bb (l := { (Ac c m.line) with seen := m.turn, gave := m.turn, given := (Ac c m.line).value, state := 0, value := 0, want := 0 }) hs mm hXw (by omega)) ?_; intro v138
       refine J.know (p := v138.oneCell' = true) (fun w hs => isSlice.one (hs.fact (List.Mem.head _))) (fun hone138 => ?_)
       refine al_ (cs := [.slice none 0 0, vi 0, vi 0, vi 0]) Try.zeroValue69 ?_; intro b15
       refine s_B (cs := [v138, vi c.wait.kind, vi c.wait.line, vi c.wait.value]) Try.sizeOf69 ?_
       refine Gm ?_
       refine ob (E2 (cs := zOp.cells) Kl) ?_
       refine rn1 ?_
       refine s_N [v138, vi 0, vi 0, vi 0] Try.sizeOf66 ?_
       refine Gl ?_
       refine cq_ (blk b8 69 [.slice none 0 0, vi 0, vi 0, vi 0] :: blk b15 69 [v138, vi 0, vi 0, vi 0] :: blk b4 69 (c.cells u) :: blk b5 3 [vi id] :: L) ?_
       refine jd_ (fun ρ S => blk b8 69 (bif S 4 then [v138, vi 0, vi 0, vi 0] else [.slice none 0 0, vi 0, vi 0, vi 0]) :: blk b15 69 [v138, vi 0, vi 0, vi 0] :: blk b4 69 (c.cells u) :: blk b5 3 [vi id] :: L) ?_
       refine dn3 ?_
       refine Gz (γ := Value) (val := fun v => v) (F := fun v => [sl v [(⟨id, c.wait, 0⟩ : Done)]]) (caps := [bp b5 0, bp b4 0]) (vs := []) (fun _ => rfl) Try.call86 (fun _ => rfl) (fun ρ S L R w hs hd => Vv hs (A2 pkk rfl) (Mc (f := 1) (sz := 3) (vs := c.cells u) pkk) hid hk.wwf) (fun _ _ _ _ _ => rfl) ?_
       refine es_ 69 0 [] [] (fun ρ => b8) (fun ρ => [.slice none 0 0, vi 0, vi 0, vi 0]) (fun ρ => [v138, vi 0, vi 0, vi 0]) Try.sizeOf69 ?_
       refine dn1 ?_
       refine e_p (v := fun ρ => (Gh.dec (γ := Value) (ρ 3))) (fun _ _ => Db) (Ind.gh (h := fun g => ((Gh.dec (γ := Value) g) : Value)) 3 0 rfl) (fun _ _ _ _ _ => rfl) ?_
       refine dnl ?_; intro ρ
       refine xq_ (blk b8 69 [v138, vi 0, vi 0, vi 0] :: blk b15 69 [v138, vi 0, vi 0, vi 0] :: blk b4 69 (c.cells u) :: blk b5 3 [vi id] :: L) ?_
       generalize (Gh.dec (γ := Value) (ρ 3)) = v144
       refine Gl ?_
       have ef : Bq (Ac c m.line) m.kind m.turn = { (Ac c m.line) with seen := m.turn, gave := m.turn, given := (Ac c m.line).value, state := 0, value := 0, want := 0 } := by unfold Bq; rw [if_pos (by omega)]
       have er : Ad c id home m = (Ap c m.line ({ (Ac c m.line) with seen := m.turn, gave := m.turn, given := (Ac c m.line).value, state := 0, value := 0, want := 0 }) zOp, [A5 9 id home m.line m.turn (Ac c m.line).value], [⟨id, c.wait, 0⟩]) := by unfold Ad; rw [if_neg (by omega)]; rw [if_neg (by omega), if_pos (by omega)]; rw [if_pos (by unfold Cq; omega), ef, if_pos (by omega), if_pos (by omega)]
       rw [er]
       exact Cg (v138, v118, v144) Try.isAgg69 Try.sizeOf69
      ·
       refine kp [4, 5, 7, 8, 9, 10, 11, 12, 13, 14, 43, 119, 120, 121, 122, 123, 124, 125, 126] ?_
       refine Aa ?_
       refine rn2 ?_
       refine ob (Af rfl rfl (Ak (by omega))) ?_
       refine rn3 ?_
       refine gy ?_
       refine ob (Af rfl rfl (Ak (by omega))) ?_
       refine Gd1 ?_
       refine rn1 ?_
       refine sc ?_
       refine Gm ?_
       refine rn2 ?_
       refine ob (Af rfl rfl (Ak (by omega))) ?_
       refine Glc ?_
       refine JC.slNil Done ?_
       refine Aa ?_
       refine rn4 ?_
       have hXw : ({ (Ac c m.line) with seen := m.turn, gave := m.turn, given := (Ac c m.line).value, state := 1 } : Line).wf := by first | exact hlw | (unfold Line.wf Am at hlw ⊢; simp only; omega)
       refine Aq Try.call77 rfl (fun w hs => Bb (l := { (Ac c m.line) with seen := m.turn, gave := m.turn, given := (Ac c m.line).value, state := 1 }) hs mm hXw (by omega)) ?_; intro v149
       refine J.know (p := v149.oneCell' = true) (fun w hs => isSlice.one (hs.fact (List.Mem.head _))) (fun hone149 => ?_)
       refine rn1 ?_
       refine s_B (cs := [v149, vi c.wait.kind, vi c.wait.line, vi c.wait.value]) Try.sizeOf69 ?_
       refine Ga2 ?_
       have ef : Bq (Ac c m.line) m.kind m.turn = { (Ac c m.line) with seen := m.turn, gave := m.turn, given := (Ac c m.line).value, state := 1 } := by unfold Bq; rw [if_neg (by omega), if_neg (by omega)]
       have er : Ad c id home m = (Ap c m.line ({ (Ac c m.line) with seen := m.turn, gave := m.turn, given := (Ac c m.line).value, state := 1 }) c.wait, [A5 9 id home m.line m.turn (Ac c m.line).value], []) := by unfold Ad; rw [if_neg (by omega)]; rw [if_neg (by omega), if_pos (by omega)]; rw [if_pos (by unfold Cq; omega), ef, if_neg (by omega), if_neg (by omega)]
       rw [er]
       exact Cg (v149, v118, .slice none 0 0) Try.isAgg69 Try.sizeOf69
end Go.Proofs.Ytofgpimoekhfaaa

/- This file proves what a core hears, by the document's answer: some kinds of messages. No conditions. -/
set_option linter.unusedVariables false
set_option linter.unusedSimpArgs false
set_option maxHeartbeats 1000000
set_option maxRecDepth 8000
namespace Go.Proofs.Ytofgpimoekhfaaa
open Go
theorem S0 {L : List Chunk} {R : List Fact} {w : World} {u : Value} {c : Core} {id home : Int} {m : Msg} (hs : St (L) R w) (hu : sl u c.lines ∈ R) (hk : KB c) (hid : Am id) (hhome : Am home) (hm : m.wf) (hg : 0 ≤ m.line ∧ m.line < (c.lines.length : Int) ∧ m.kind = 6) : Calls Try.prog 47 [.agg (c.cells u).toArray, vi id, vi home, .agg m.cells.toArray].toArray w (Ch (fun v : Value × Value × Value => .tuple #[.agg (Core.cells v.1 (Ad c id home m).1).toArray, v.2.1, v.2.2]) (fun v => L) (fun v => sl v.1 (Ad c id home m).1.lines :: sl v.2.1 (Ad c id home m).2.1 :: sl v.2.2 (Ad c id home m).2.2 :: R)) := by
  have hlen := Bk hu hs
  have hone0 : u.oneCell' = true := isSlice.one (hs.fact hu)
  have hn4 := hk.n
  have hm0 := hm
  unfold Msg.wf Am at hm0
  refine Aj Try.func47 rfl Try.ntmps47 rfl hs ?_
  clear hs
  refine Gm ?_
  refine bx ?_; intro b4
  refine bx ?_; intro b5
  refine bx ?_; intro b6
  refine bx ?_; intro b7
  refine al_ (cs := [.slice none 0 0, vi 0, vi 0, vi 0]) Try.zeroValue69 ?_; intro b8
  refine Gb2 ?_
  refine rn2 ?_
  refine ob (Af rfl rfl (An (by omega))) ?_
  refine rn6 ?_
  refine gy ?_
  refine ob (Af rfl rfl (A4 (by omega))) ?_
  refine Gc1 ?_
  refine Fl (c := c) (v := u) m.line mm (by omega) (by omega) (fun hlw => ?_)
  refine Aa ?_
  refine rn6 ?_
  refine al_ (cs := zLine.cells) Try.zeroValue82 ?_; intro b11
  refine s_B (cs := (Ac c m.line).cells) Try.sizeOf82 ?_
  refine Gm ?_
  refine C1 (vs := [bp b5 0, bp b6 0, bp b7 0]) rfl ?_
  refine Gb1 ?_
  refine C1 (vs := [bp b5 0, bp b4 0]) rfl ?_
  refine Gb1 ?_
  refine Ga2 ?_
  refine kp [4, 5, 7, 8, 9, 10, 11, 12, 13, 43, 44, 45] ?_
  refine Aa ?_
  refine ob (Af rfl rfl (Ak (by omega))) ?_
  refine Gd1 ?_
  refine ob (Af rfl rfl (Ak (by omega))) ?_
  refine Gd1 ?_
  refine ob (Af rfl rfl (As (by omega))) ?_
  refine Gc1 ?_
  refine kp [4, 5, 7, 8, 9, 10, 11, 12, 13, 43, 71, 72, 73, 74, 75, 76, 77, 78, 79, 80] ?_
  refine Di 80 (.bool (decide (0 < m.turn ∧ m.turn = (Ac c m.line).gave))) ?_ ?_
  ·
   rcases (show (¬ 0 < m.turn) ∨ (0 < m.turn ∧ ¬ m.turn = (Ac c m.line).gave) ∨ (0 < m.turn ∧ m.turn = (Ac c m.line).gave) from by omega) with hm | hm | hm
   ·
    refine Aa ?_
    refine rn2 ?_
    refine ob (Af rfl rfl (Cp (by omega))) ?_
    refine Ga7 ?_
    refine Aw ?_ (fun w hs => hs)
    refine ⟨by first | exact congrArg (fun b => some (Value.bool b)) (decide_eq_false (by omega)).symm | exact congrArg (fun b => some (Value.bool b)) (by simp; omega), alT⟩
   ·
    refine Aa ?_
    refine rn2 ?_
    refine ob (Af rfl rfl (C0 (by omega))) ?_
    refine rn5 ?_
    refine gy ?_
    refine ob (Af rfl rfl (Ak (by omega))) ?_
    refine Ga1 ?_
    refine Aw ?_ (fun w hs => hs)
    refine ⟨by first | exact congrArg (fun b => some (Value.bool b)) (decide_eq_false (by omega)).symm | exact congrArg (fun b => some (Value.bool b)) (by simp; omega), alT⟩
   ·
    refine Aa ?_
    refine rn2 ?_
    refine ob (Af rfl rfl (C0 (by omega))) ?_
    refine rn5 ?_
    refine gy ?_
    refine ob (Af rfl rfl (As (by omega))) ?_
    refine Ga1 ?_
    refine Aw ?_ (fun w hs => hs)
    refine ⟨by first | exact congrArg (fun b => some (Value.bool b)) (decide_eq_true (by omega)).symm | exact congrArg (fun b => some (Value.bool b)) (by simp; omega), alT⟩
  ·
   refine A3 ?_
   refine Gl ?_
   first | (refine cdx (p := ?p1) (hd := ?d1) ?e1 ?_ ?_; case e1 => exact rfl) | (refine Bp (b := ?b1) ?e1 ?_ ?_; case e1 => exact rfl)
   ·
    intro ht80
    refine Gl ?_
    refine JC.slNil Done ?_
    refine cq_ (blk b8 69 [.slice none 0 0, vi 0, vi 0, vi 0] :: blk b4 69 (c.cells u) :: blk b11 82 (Ac c m.line).cells :: blk b5 3 [vi id] :: blk b6 3 [vi home] :: blk b7 42 m.cells :: L) ?_
    refine jd_ (fun ρ S => blk b8 69 (bif S 7 then (c.cells u) else [.slice none 0 0, vi 0, vi 0, vi 0]) :: blk b4 69 (c.cells u) :: blk b11 82 (Ac c m.line).cells :: blk b5 3 [vi id] :: blk b6 3 [vi home] :: blk b7 42 m.cells :: L) ?_
    refine dn6 ?_
    refine Gz (γ := Value) (val := fun v => v) (F := fun v => [sl v [A5 9 id home m.line (Ac c m.line).gave (Ac c m.line).given]]) (caps := [bp b5 0, bp b6 0, bp b7 0]) (vs := [vi 9, vi (Ac c m.line).gave, vi (Ac c m.line).given]) (fun _ => rfl) Try.call85 (fun _ => rfl) (fun ρ S L R w hs hd => M8 hs (A2 pkk rfl) (A2 pkk rfl) (A2 pkk rfl) (by unfold Am; omega) hlw.2.2.2.2.2.1 hlw.2.2.2.2.2.2 hid hhome hm.2.2.2.1) (fun _ _ _ _ _ => rfl) ?_
    refine es_ 69 0 [] [] (fun ρ => b8) (fun ρ => [.slice none 0 0, vi 0, vi 0, vi 0]) (fun ρ => (c.cells u)) Try.sizeOf69 ?_
    refine e_p (v := fun ρ => (Gh.dec (γ := Value) (ρ 6))) (fun _ _ => Db) (Ind.gh (h := fun g => ((Gh.dec (γ := Value) g) : Value)) 6 0 rfl) (fun _ _ _ _ _ => rfl) ?_
    refine dn1 ?_
    refine dnl ?_; intro ρ
    refine xq_ (blk b8 69 (c.cells u) :: blk b4 69 (c.cells u) :: blk b11 82 (Ac c m.line).cells :: blk b5 3 [vi id] :: blk b6 3 [vi home] :: blk b7 42 m.cells :: L) ?_
    generalize (Gh.dec (γ := Value) (ρ 6)) = v87
    refine Gl ?_
    have er : Ad c id home m = (c, [A5 9 id home m.line (Ac c m.line).gave (Ac c m.line).given], []) := by unfold Ad; rw [if_neg (by omega)]; rw [if_neg (by omega), if_pos (by omega)]; rw [if_neg (by unfold Cq; omega), if_pos (by omega)]
    rw [er]
    exact Cg (u, v87, .slice none 0 0) Try.isAgg69 Try.sizeOf69
   ·
    intro ht80
    refine Gl ?_
    refine kp [4, 5, 7, 8, 9, 10, 11, 12, 13, 43, 88, 89, 90, 91, 92, 93, 94, 95, 96, 97, 98, 99, 100, 101, 102] ?_
    refine Di 102 (.bool (decide (m.turn ≤ (Ac c m.line).seen ∨ ((Ac c m.line).state ≠ 2 ∧ (Ac c m.line).state ≠ 3)))) ?_ ?_
    ·
     rcases (show (m.turn ≤ (Ac c m.line).seen) ∨ ((Ac c m.line).seen < m.turn ∧ (Ac c m.line).state = 2) ∨ ((Ac c m.line).seen < m.turn ∧ (Ac c m.line).state = 3) ∨ ((Ac c m.line).seen < m.turn ∧ (Ac c m.line).state ≠ 2 ∧ (Ac c m.line).state ≠ 3) from by omega) with hm | hm | hm | hm
     ·
      refine Aa ?_
      refine rn4 ?_
      refine ob (Af rfl rfl (Ma (by omega))) ?_
      refine Ga10 ?_
      refine Aw ?_ (fun w hs => hs)
      refine ⟨by first | exact congrArg (fun b => some (Value.bool b)) (decide_eq_true (by omega)).symm | exact congrArg (fun b => some (Value.bool b)) (by simp; omega), alT⟩
     ·
      refine Aa ?_
      refine rn4 ?_
      refine ob (Af rfl rfl (Fr (by omega))) ?_
      refine rn3 ?_
      refine gy ?_
      refine ob (Af rfl rfl (Bv (by omega))) ?_
      refine Ga6 ?_
      refine Aw ?_ (fun w hs => hs)
      refine ⟨by first | exact congrArg (fun b => some (Value.bool b)) (decide_eq_false (by omega)).symm | exact congrArg (fun b => some (Value.bool b)) (by simp; omega), alT⟩
     ·
      refine Aa ?_
      refine rn4 ?_
      refine ob (Af rfl rfl (Fr (by omega))) ?_
      refine rn3 ?_
      refine gy ?_
      refine ob (Af rfl rfl (Cz (by omega))) ?_
      refine rn3 ?_
      refine gy ?_
      refine ob (Af rfl rfl (Bv (by omega))) ?_
      refine Ga2 ?_
      refine Aw ?_ (fun w hs => hs)
      refine ⟨by first | exact congrArg (fun b => some (Value.bool b)) (decide_eq_false (by omega)).symm | exact congrArg (fun b => some (Value.bool b)) (by simp; omega), alT⟩
     ·
      refine kp [4, 5, 7, 8, 9, 10, 11, 12, 13, 43, 88, 89, 90, 91, 92, 93, 94, 95, 96, 97, 98, 99, 100, 101, 102] ?_
      refine Aa ?_
      refine rn4 ?_
      refine ob (Af rfl rfl (Fr (by omega))) ?_
      refine rn3 ?_
      refine gy ?_
      refine ob (Af rfl rfl (Cz (by omega))) ?_
      refine rn3 ?_
      refine gy ?_
      refine ob (Af rfl rfl (Cz (by omega))) ?_
      refine Ga2 ?_
      refine Aw ?_ (fun w hs => hs)
      refine ⟨by first | exact congrArg (fun b => some (Value.bool b)) (decide_eq_true (by omega)).symm | exact congrArg (fun b => some (Value.bool b)) (by simp; omega), alT⟩
    ·
     refine A3 ?_
     refine Gl ?_
     first | (refine cdx (p := ?p2) (hd := ?d2) ?e2 ?_ ?_; case e2 => exact rfl) | (refine Bp (b := ?b2) ?e2 ?_ ?_; case e2 => exact rfl)
     ·
      intro ht102
      refine Gl ?_
      refine JC.slNil Msg ?_
      refine JC.slNil Done ?_
      refine Aa ?_
      refine rn1 ?_
      refine s_B Try.sizeOf69 ?_
      refine Ga2 ?_
      have er : Ad c id home m = (c, [], []) := by unfold Ad; rw [if_neg (by omega)]; rw [if_neg (by omega), if_pos (by omega)]; rw [if_neg (by unfold Cq; omega), if_neg (by omega)]
      rw [er]
      exact Cg (u, .slice none 0 0, .slice none 0 0) Try.isAgg69 Try.sizeOf69
     ·
      intro ht102
      refine Gl ?_
      refine cq_ (blk b11 82 [vi (Ac c m.line).state, vi (Ac c m.line).value, vi (Ac c m.line).want, vi (Ac c m.line).serial, vi (Ac c m.line).seen, vi (Ac c m.line).gave, vi (Ac c m.line).given] :: blk b8 69 [.slice none 0 0, vi 0, vi 0, vi 0] :: blk b4 69 (c.cells u) :: blk b5 3 [vi id] :: blk b6 3 [vi home] :: blk b7 42 m.cells :: L) ?_
      refine jd_ (fun ρ S => blk b11 82 (bif S 11 then [vi (Ac c m.line).state, vi (Ac c m.line).value, vi (Ac c m.line).want, vi (Ac c m.line).serial, vi m.turn, vi m.turn, vi (Ac c m.line).value] else (bif S 9 then [vi (Ac c m.line).state, vi (Ac c m.line).value, vi (Ac c m.line).want, vi (Ac c m.line).serial, vi m.turn, vi m.turn, vi (Ac c m.line).given] else (bif S 7 then [vi (Ac c m.line).state, vi (Ac c m.line).value, vi (Ac c m.line).want, vi (Ac c m.line).serial, vi (Ac c m.line).seen, vi m.turn, vi (Ac c m.line).given] else [vi (Ac c m.line).state, vi (Ac c m.line).value, vi (Ac c m.line).want, vi (Ac c m.line).serial, vi (Ac c m.line).seen, vi (Ac c m.line).gave, vi (Ac c m.line).given]))) :: blk b8 69 [.slice none 0 0, vi 0, vi 0, vi 0] :: blk b4 69 (c.cells u) :: blk b5 3 [vi id] :: blk b6 3 [vi home] :: blk b7 42 m.cells :: L) ?_
      refine dn5 ?_
      refine Ko (v := vi (Ac c m.line).value) (fun ρ S hS hB hA => by have h11 : S 11 = false := hA 11 ⟨0, rfl⟩; simp only [h11, cond_false]; exact Dn (hc := A2 pkk (by repeat (first | exact rfl | refine Eh rfl ?_))) Try.isAgg3) (fun _ _ _ _ _ => rfl) ?_
      refine dn1 ?_
      refine es_ 82 5 [] [9, 11] (fun ρ => b11) (fun ρ => [vi (Ac c m.line).state, vi (Ac c m.line).value, vi (Ac c m.line).want, vi (Ac c m.line).serial, vi (Ac c m.line).seen, vi (Ac c m.line).gave, vi (Ac c m.line).given]) (fun ρ => [vi m.turn]) Try.sizeOf3 ?_
      refine dn1 ?_
      refine es_ 82 4 [7] [11] (fun ρ => b11) (fun ρ => [vi (Ac c m.line).state, vi (Ac c m.line).value, vi (Ac c m.line).want, vi (Ac c m.line).serial, vi (Ac c m.line).seen, vi m.turn, vi (Ac c m.line).given]) (fun ρ => [vi m.turn]) Try.sizeOf3 ?_
      refine dn1 ?_
      refine es_ 82 6 [7, 9] [] (fun ρ => b11) (fun ρ => [vi (Ac c m.line).state, vi (Ac c m.line).value, vi (Ac c m.line).want, vi (Ac c m.line).serial, vi m.turn, vi m.turn, vi (Ac c m.line).given]) (fun ρ => [vi (Ac c m.line).value]) Try.sizeOf3 ?_
      refine dnl ?_; intro ρ
      refine xq_ (blk b11 82 [vi (Ac c m.line).state, vi (Ac c m.line).value, vi (Ac c m.line).want, vi (Ac c m.line).serial, vi m.turn, vi m.turn, vi (Ac c m.line).value] :: blk b8 69 [.slice none 0 0, vi 0, vi 0, vi 0] :: blk b4 69 (c.cells u) :: blk b5 3 [vi id] :: blk b6 3 [vi home] :: blk b7 42 m.cells :: L) ?_
      refine Gm ?_
      refine rn5 ?_
      refine Dx (caps := [bp b5 0, bp b6 0, bp b7 0]) (vs := [vi 9, vi m.turn, vi (Ac c m.line).value]) rfl Try.call85 rfl (fun w hs => M8 hs (A2 pkk rfl) (A2 pkk rfl) (A2 pkk rfl) (by unfold Am; omega) hm.2.2.2.2.2.1 hlw.2.1 hid hhome hm.2.2.2.1) ?_; intro v118
      refine Ga1 ?_
      rcases (show ((Ac c m.line).want = 3) ∨ ((Ac c m.line).want ≠ 3) from by omega) with hc | hc
      ·
       refine kp [4, 5, 7, 8, 9, 10, 11, 12, 13, 14, 43, 119, 120, 121, 122, 123, 124, 125, 126] ?_
       refine Aa ?_
       refine rn2 ?_
       refine ob (Af rfl rfl (As (by omega))) ?_
       refine Gd5 ?_
       refine rn1 ?_
       refine sc ?_
       refine rn1 ?_
       refine sc ?_
       refine Gm ?_
       refine rn2 ?_
       refine ob (Af rfl rfl (As (by omega))) ?_
       refine Gmc ?_
       refine rn1 ?_
       refine sc ?_
       refine Gm ?_
       refine rn4 ?_
       have hXw : ({ (Ac c m.line) with seen := m.turn, gave := m.turn, given := (Ac c m.line).value, state := 0, value := 0, want := 0 } : Line).wf := by first | exact hlw | (unfold Line.wf Am at hlw ⊢; simp only; omega)
       refine Aq Try.call77 rfl (fun w hs => Bb (l := { (Ac c m.line) with seen := m.turn, gave := m.turn, given := (Ac c m.line).value, state := 0, value := 0, want := 0 }) hs mm hXw (by omega)) ?_; intro v138
       refine J.know (p := v138.oneCell' = true) (fun w hs => isSlice.one (hs.fact (List.Mem.head _))) (fun hone138 => ?_)
       refine al_ (cs := [.slice none 0 0, vi 0, vi 0, vi 0]) Try.zeroValue69 ?_; intro b15
       refine s_B (cs := [v138, vi c.wait.kind, vi c.wait.line, vi c.wait.value]) Try.sizeOf69 ?_
       refine Gm ?_
       refine ob (E2 (cs := zOp.cells) Kl) ?_
       refine rn1 ?_
       refine s_N [v138, vi 0, vi 0, vi 0] Try.sizeOf66 ?_
       refine Gl ?_
       refine cq_ (blk b8 69 [.slice none 0 0, vi 0, vi 0, vi 0] :: blk b15 69 [v138, vi 0, vi 0, vi 0] :: blk b4 69 (c.cells u) :: blk b5 3 [vi id] :: L) ?_
       refine jd_ (fun ρ S => blk b8 69 (bif S 4 then [v138, vi 0, vi 0, vi 0] else [.slice none 0 0, vi 0, vi 0, vi 0]) :: blk b15 69 [v138, vi 0, vi 0, vi 0] :: blk b4 69 (c.cells u) :: blk b5 3 [vi id] :: L) ?_
       refine dn3 ?_
       refine Gz (γ := Value) (val := fun v => v) (F := fun v => [sl v [(⟨id, c.wait, 0⟩ : Done)]]) (caps := [bp b5 0, bp b4 0]) (vs := []) (fun _ => rfl) Try.call86 (fun _ => rfl) (fun ρ S L R w hs hd => Vv hs (A2 pkk rfl) (Mc (f := 1) (sz := 3) (vs := c.cells u) pkk) hid hk.wwf) (fun _ _ _ _ _ => rfl) ?_
       refine es_ 69 0 [] [] (fun ρ => b8) (fun ρ => [.slice none 0 0, vi 0, vi 0, vi 0]) (fun ρ => [v138, vi 0, vi 0, vi 0]) Try.sizeOf69 ?_
       refine dn1 ?_
       refine e_p (v := fun ρ => (Gh.dec (γ := Value) (ρ 3))) (fun _ _ => Db) (Ind.gh (h := fun g => ((Gh.dec (γ := Value) g) : Value)) 3 0 rfl) (fun _ _ _ _ _ => rfl) ?_
       refine dnl ?_; intro ρ
       refine xq_ (blk b8 69 [v138, vi 0, vi 0, vi 0] :: blk b15 69 [v138, vi 0, vi 0, vi 0] :: blk b4 69 (c.cells u) :: blk b5 3 [vi id] :: L) ?_
       generalize (Gh.dec (γ := Value) (ρ 3)) = v144
       refine Gl ?_
       have ef : Bq (Ac c m.line) m.kind m.turn = { (Ac c m.line) with seen := m.turn, gave := m.turn, given := (Ac c m.line).value, state := 0, value := 0, want := 0 } := by unfold Bq; rw [if_pos (by omega)]
       have er : Ad c id home m = (Ap c m.line ({ (Ac c m.line) with seen := m.turn, gave := m.turn, given := (Ac c m.line).value, state := 0, value := 0, want := 0 }) zOp, [A5 9 id home m.line m.turn (Ac c m.line).value], [⟨id, c.wait, 0⟩]) := by unfold Ad; rw [if_neg (by omega)]; rw [if_neg (by omega), if_pos (by omega)]; rw [if_pos (by unfold Cq; omega), ef, if_pos (by omega), if_pos (by omega)]
       rw [er]
       exact Cg (v138, v118, v144) Try.isAgg69 Try.sizeOf69
      ·
       refine kp [4, 5, 7, 8, 9, 10, 11, 12, 13, 14, 43, 119, 120, 121, 122, 123, 124, 125, 126] ?_
       refine Aa ?_
       refine rn2 ?_
       refine ob (Af rfl rfl (Ak (by omega))) ?_
       refine rn3 ?_
       refine gy ?_
       refine ob (Af rfl rfl (As (by omega))) ?_
       refine Gd1 ?_
       refine rn1 ?_
       refine sc ?_
       refine rn1 ?_
       refine sc ?_
       refine Gm ?_
       refine rn2 ?_
       refine ob (Af rfl rfl (Ak (by omega))) ?_
       refine Glc ?_
       refine JC.slNil Done ?_
       refine Aa ?_
       refine rn4 ?_
       have hXw : ({ (Ac c m.line) with seen := m.turn, gave := m.turn, given := (Ac c m.line).value, state := 0, value := 0 } : Line).wf := by first | exact hlw | (unfold Line.wf Am at hlw ⊢; simp only; omega)
       refine Aq Try.call77 rfl (fun w hs => Bb (l := { (Ac c m.line) with seen := m.turn, gave := m.turn, given := (Ac c m.line).value, state := 0, value := 0 }) hs mm hXw (by omega)) ?_; intro v149
       refine J.know (p := v149.oneCell' = true) (fun w hs => isSlice.one (hs.fact (List.Mem.head _))) (fun hone149 => ?_)
       refine rn1 ?_
       refine s_B (cs := [v149, vi c.wait.kind, vi c.wait.line, vi c.wait.value]) Try.sizeOf69 ?_
       refine Ga2 ?_
       have ef : Bq (Ac c m.line) m.kind m.turn = { (Ac c m.line) with seen := m.turn, gave := m.turn, given := (Ac c m.line).value, state := 0, value := 0 } := by unfold Bq; rw [if_neg (by omega), if_pos (by omega)]
       have er : Ad c id home m = (Ap c m.line ({ (Ac c m.line) with seen := m.turn, gave := m.turn, given := (Ac c m.line).value, state := 0, value := 0 }) c.wait, [A5 9 id home m.line m.turn (Ac c m.line).value], []) := by unfold Ad; rw [if_neg (by omega)]; rw [if_neg (by omega), if_pos (by omega)]; rw [if_pos (by unfold Cq; omega), ef, if_neg (by omega), if_neg (by omega)]
       rw [er]
       exact Cg (v149, v118, .slice none 0 0) Try.isAgg69 Try.sizeOf69
end Go.Proofs.Ytofgpimoekhfaaa

/- This file proves what a core hears, by the document's answer: some kinds of messages. No conditions. -/
set_option linter.unusedVariables false
set_option linter.unusedSimpArgs false
set_option maxHeartbeats 1000000
set_option maxRecDepth 8000
namespace Go.Proofs.Ytofgpimoekhfaaa
open Go
theorem Sz {L : List Chunk} {R : List Fact} {w : World} {u : Value} {c : Core} {id home : Int} {m : Msg} (hs : St (L) R w) (hu : sl u c.lines ∈ R) (hk : KB c) (hid : Am id) (hhome : Am home) (hm : m.wf) (hg : 0 ≤ m.line ∧ m.line < (c.lines.length : Int) ∧ m.kind = 7) : Calls Try.prog 47 [.agg (c.cells u).toArray, vi id, vi home, .agg m.cells.toArray].toArray w (Ch (fun v : Value × Value × Value => .tuple #[.agg (Core.cells v.1 (Ad c id home m).1).toArray, v.2.1, v.2.2]) (fun v => L) (fun v => sl v.1 (Ad c id home m).1.lines :: sl v.2.1 (Ad c id home m).2.1 :: sl v.2.2 (Ad c id home m).2.2 :: R)) := by
  have hlen := Bk hu hs
  have hone0 : u.oneCell' = true := isSlice.one (hs.fact hu)
  have hn4 := hk.n
  have hm0 := hm
  unfold Msg.wf Am at hm0
  refine Aj Try.func47 rfl Try.ntmps47 rfl hs ?_
  clear hs
  refine Gm ?_
  refine bx ?_; intro b4
  refine bx ?_; intro b5
  refine bx ?_; intro b6
  refine bx ?_; intro b7
  refine al_ (cs := [.slice none 0 0, vi 0, vi 0, vi 0]) Try.zeroValue69 ?_; intro b8
  refine Gb2 ?_
  refine rn2 ?_
  refine ob (Af rfl rfl (An (by omega))) ?_
  refine rn6 ?_
  refine gy ?_
  refine ob (Af rfl rfl (A4 (by omega))) ?_
  refine Gc1 ?_
  refine Fl (c := c) (v := u) m.line mm (by omega) (by omega) (fun hlw => ?_)
  refine Aa ?_
  refine rn6 ?_
  refine al_ (cs := zLine.cells) Try.zeroValue82 ?_; intro b11
  refine s_B (cs := (Ac c m.line).cells) Try.sizeOf82 ?_
  refine Gm ?_
  refine C1 (vs := [bp b5 0, bp b6 0, bp b7 0]) rfl ?_
  refine Gb1 ?_
  refine C1 (vs := [bp b5 0, bp b4 0]) rfl ?_
  refine Gb1 ?_
  refine Ga2 ?_
  refine kp [4, 5, 7, 8, 9, 10, 11, 12, 13, 43, 44, 45] ?_
  refine Aa ?_
  refine ob (Af rfl rfl (Ak (by omega))) ?_
  refine Gd1 ?_
  refine ob (Af rfl rfl (Ak (by omega))) ?_
  refine Gd1 ?_
  refine ob (Af rfl rfl (Ak (by omega))) ?_
  refine Gd1 ?_
  refine ob (Af rfl rfl (As (by omega))) ?_
  refine Gd1 ?_
  refine Ga5 ?_
  refine cdx (p := ?p1) (hd := ?d1) ?e1 ?_ ?_; case e1 => exact rfl
  ·
   intro ht157
   refine Gl ?_
   refine JC.slNil Msg ?_
   refine JC.slNil Done ?_
   refine Aa ?_
   refine rn1 ?_
   refine s_B Try.sizeOf69 ?_
   refine Ga2 ?_
   have er : Ad c id home m = (c, [], []) := by unfold Ad; rw [if_neg (by omega)]; rw [if_neg (by omega), if_neg (by omega), if_pos (by omega)]; rw [if_pos (by omega)]
   rw [er]
   exact Cg (u, .slice none 0 0, .slice none 0 0) Try.isAgg69 Try.sizeOf69
  ·
   intro ht157
   refine Gm ?_
   refine rn3 ?_
   refine Dx (caps := [bp b5 0, bp b6 0, bp b7 0]) (vs := [vi 10, vi m.turn, vi 0]) rfl Try.call85 rfl (fun w hs => M8 hs (A2 pkk rfl) (A2 pkk rfl) (A2 pkk rfl) (by unfold Am; omega) hm.2.2.2.2.2.1 (by unfold Am; omega) hid hhome hm.2.2.2.1) ?_; intro v162
   refine Ga1 ?_
   refine kp [4, 5, 7, 8, 9, 10, 11, 13, 16, 43, 163, 164, 165, 166, 167, 168, 169, 170, 171, 172, 173, 174, 175, 176, 177, 178, 179, 180, 181, 182, 183, 184, 185, 186] ?_
   refine Di 186 (.bool (decide (¬ Er (Ac c m.line) m))) ?_ ?_
   ·
    rcases (show (m.serial < (Ac c m.line).serial) ∨ (m.serial = (Ac c m.line).serial ∧ m.alone = true ∧ (Ac c m.line).want ≠ 2) ∨ (m.serial = (Ac c m.line).serial ∧ m.alone = true ∧ (Ac c m.line).want = 2) ∨ (m.serial = (Ac c m.line).serial ∧ m.alone = false ∧ (Ac c m.line).want ≠ 1) ∨ (m.serial = (Ac c m.line).serial ∧ m.alone = false ∧ (Ac c m.line).want = 1) from by rcases Bool.eq_false_or_eq_true m.alone with h1 | h1 <;> simp only [h1, true_and, false_and, and_false, or_false, false_or, reduceCtorEq] <;> omega) with hm | hm | hm | hm | hm
    ·
     have hna : ¬ Er (Ac c m.line) m := by unfold Er; omega
     refine Aa ?_
     refine rn4 ?_
     refine ob (Af rfl rfl (Bt (by omega))) ?_
     refine Ga19 ?_
     refine Aw ?_ (fun w hs => hs)
     refine ⟨by first | exact congrArg (fun b => some (Value.bool b)) (decide_eq_true (by first | exact hna | exact fun h => h hna)).symm | exact congrArg (fun b => some (Value.bool b)) (by simp; omega), alT⟩
    ·
     obtain ⟨hc1, hal, hc2⟩ := hm
     have hna : ¬ Er (Ac c m.line) m := by unfold Er; rw [hal]; simp; omega
     refine Aa ?_
     refine rn4 ?_
     refine ob (Af rfl rfl (An (by omega))) ?_
     refine rn2 ?_
     refine gy ?_
     refine ob (Dn (c := .bool true) Try.isAgg4 (hc := A2 pkk (by show some (Value.bool m.alone) = _; rw [hal]))) ?_
     refine rn3 ?_
     refine gy ?_
     refine ob (Af rfl rfl (Cz (by omega))) ?_
     refine Ga12 ?_
     refine Aw ?_ (fun w hs => hs)
     refine ⟨by first | exact congrArg (fun b => some (Value.bool b)) (decide_eq_true (by first | exact hna | exact fun h => h hna)).symm | exact congrArg (fun b => some (Value.bool b)) (by simp; omega), alT⟩
    ·
     obtain ⟨hc1, hal, hc2⟩ := hm
     have hna : Er (Ac c m.line) m := by unfold Er; rw [hal]; simp; omega
     refine kp [4, 5, 7, 8, 9, 10, 11, 13, 16, 43, 163, 164, 165, 166, 167, 168, 169, 170, 171, 172, 173, 174, 175, 176, 177, 178, 179, 180, 181, 182, 183, 184, 185, 186] ?_
     refine Aa ?_
     refine rn4 ?_
     refine ob (Af rfl rfl (An (by omega))) ?_
     refine rn2 ?_
     refine gy ?_
     refine ob (Dn (c := .bool true) Try.isAgg4 (hc := A2 pkk (by show some (Value.bool m.alone) = _; rw [hal]))) ?_
     refine rn3 ?_
     refine gy ?_
     refine ob (Af rfl rfl (Bv (by omega))) ?_
     refine rn4 ?_
     refine gy ?_
     refine ob (Dn (c := .bool true) Try.isAgg4 (hc := A2 pkk (by show some (Value.bool m.alone) = _; rw [hal]))) ?_
     refine Ga7 ?_
     refine Aw ?_ (fun w hs => hs)
     refine ⟨by first | exact congrArg (fun b => some (Value.bool b)) (decide_eq_false (by first | exact hna | exact fun h => h hna)).symm | exact congrArg (fun b => some (Value.bool b)) (by simp; omega), alT⟩
    ·
     obtain ⟨hc1, hal, hc2⟩ := hm
     have hna : ¬ Er (Ac c m.line) m := by unfold Er; rw [hal]; simp; omega
     refine Aa ?_
     refine rn4 ?_
     refine ob (Af rfl rfl (An (by omega))) ?_
     refine rn2 ?_
     refine gy ?_
     refine ob (Dn (c := .bool false) Try.isAgg4 (hc := A2 pkk (by show some (Value.bool m.alone) = _; rw [hal]))) ?_
     refine rn8 ?_
     refine gy ?_
     refine ob (Dn (c := .bool false) Try.isAgg4 (hc := A2 pkk (by show some (Value.bool m.alone) = _; rw [hal]))) ?_
     refine rn4 ?_
     refine gy ?_
     refine ob (Af rfl rfl (Cz (by omega))) ?_
     refine Ga2 ?_
     refine Aw ?_ (fun w hs => hs)
     refine ⟨by first | exact congrArg (fun b => some (Value.bool b)) (decide_eq_true (by first | exact hna | exact fun h => h hna)).symm | exact congrArg (fun b => some (Value.bool b)) (by simp; omega), alT⟩
    ·
     obtain ⟨hc1, hal, hc2⟩ := hm
     have hna : Er (Ac c m.line) m := by unfold Er; rw [hal]; simp; omega
     refine kp [4, 5, 7, 8, 9, 10, 11, 13, 16, 43, 163, 164, 165, 166, 167, 168, 169, 170, 171, 172, 173, 174, 175, 176, 177, 178, 179, 180, 181, 182, 183, 184, 185, 186] ?_
     refine Aa ?_
     refine rn4 ?_
     refine ob (Af rfl rfl (An (by omega))) ?_
     refine rn2 ?_
     refine gy ?_
     refine ob (Dn (c := .bool false) Try.isAgg4 (hc := A2 pkk (by show some (Value.bool m.alone) = _; rw [hal]))) ?_
     refine rn8 ?_
     refine gy ?_
     refine ob (Dn (c := .bool false) Try.isAgg4 (hc := A2 pkk (by show some (Value.bool m.alone) = _; rw [hal]))) ?_
     refine rn4 ?_
     refine gy ?_
     refine ob (Af rfl rfl (Bv (by omega))) ?_
     refine Ga2 ?_
     refine Aw ?_ (fun w hs => hs)
     refine ⟨by first | exact congrArg (fun b => some (Value.bool b)) (decide_eq_false (by first | exact hna | exact fun h => h hna)).symm | exact congrArg (fun b => some (Value.bool b)) (by simp; omega), alT⟩
   ·
    refine A3 ?_
    refine Gl ?_
    first | (refine cdx (p := ?p2) (hd := ?d2) ?e2 ?_ ?_; case e2 => exact rfl) | (refine Bp (b := ?b2) ?e2 ?_ ?_; case e2 => exact rfl)
    ·
     intro ht186
     refine Gl ?_
     refine JC.slNil Done ?_
     refine Aa ?_
     refine rn2 ?_
     refine s_B Try.sizeOf69 ?_
     refine Ga2 ?_
     have er : Ad c id home m = (c, [A5 10 id home m.line m.turn 0], []) := by unfold Ad; rw [if_neg (by omega)]; rw [if_neg (by omega), if_neg (by omega), if_pos (by omega)]; rw [if_neg (by omega), if_neg ht186]
     rw [er]
     exact Cg (u, v162, .slice none 0 0) Try.isAgg69 Try.sizeOf69
    ·
     intro ht186
     refine Gm ?_
     refine rn2 ?_
     refine al_ (cs := zOp.cells) Try.zeroValue66 ?_; intro b17
     refine s_B Try.sizeOf66 ?_
     refine Gm ?_
     refine rn3 ?_
     obtain ⟨hwk, hwl, hwv⟩ := hk.wait m.line (by omega) (by have h9 := Decidable.not_not.1 ht186; unfold Er at h9; omega)
     refine Aq Try.call79 rfl (fun w hs => Jz (v := m.value) (o := c.wait) hs hm.2.2.2.2.2.2 hwk (by omega) hwv) ?_; intro _
     refine Ga5 ?_
     refine kp [4, 5, 7, 8, 9, 10, 11, 13, 16, 17, 18, 19, 43, 198, 199, 200, 201, 202, 203, 204] ?_
     refine cq_ (blk b11 82 [vi (Ac c m.line).state, vi (Ac c m.line).value, vi (Ac c m.line).want, vi (Ac c m.line).serial, vi (Ac c m.line).seen, vi (Ac c m.line).gave, vi (Ac c m.line).given] :: blk b17 66 c.wait.cells :: blk b8 69 [.slice none 0 0, vi 0, vi 0, vi 0] :: blk b4 69 (c.cells u) :: blk b5 3 [vi id] :: blk b6 3 [vi home] :: blk b7 42 m.cells :: L) ?_
     refine jd_ (fun ρ S => blk b11 82 (bif S 10 then [vi 1, vi (Au m.value c.wait).1, vi 0, vi (Ac c m.line).serial, vi m.turn, vi (Ac c m.line).gave, vi (Ac c m.line).given] else (bif S 8 then [vi (Ac c m.line).state, vi (Au m.value c.wait).1, vi 0, vi (Ac c m.line).serial, vi m.turn, vi (Ac c m.line).gave, vi (Ac c m.line).given] else (bif S 6 then [vi (Ac c m.line).state, vi (Au m.value c.wait).1, vi 0, vi (Ac c m.line).serial, vi (Ac c m.line).seen, vi (Ac c m.line).gave, vi (Ac c m.line).given] else (bif S 4 then [vi (Ac c m.line).state, vi (Au m.value c.wait).1, vi (Ac c m.line).want, vi (Ac c m.line).serial, vi (Ac c m.line).seen, vi (Ac c m.line).gave, vi (Ac c m.line).given] else [vi (Ac c m.line).state, vi (Ac c m.line).value, vi (Ac c m.line).want, vi (Ac c m.line).serial, vi (Ac c m.line).seen, vi (Ac c m.line).gave, vi (Ac c m.line).given])))) :: blk b17 66 c.wait.cells :: blk b8 69 [.slice none 0 0, vi 0, vi 0, vi 0] :: blk b4 69 (c.cells u) :: blk b5 3 [vi id] :: blk b6 3 [vi home] :: blk b7 42 m.cells :: L) ?_
     refine dn4 ?_
     refine es_ 82 1 [] [6, 8, 10] (fun ρ => b11) (fun ρ => [vi (Ac c m.line).state, vi (Ac c m.line).value, vi (Ac c m.line).want, vi (Ac c m.line).serial, vi (Ac c m.line).seen, vi (Ac c m.line).gave, vi (Ac c m.line).given]) (fun ρ => [vi (Au m.value c.wait).1]) Try.sizeOf3 ?_
     refine dn1 ?_
     refine es_ 82 2 [4] [8, 10] (fun ρ => b11) (fun ρ => [vi (Ac c m.line).state, vi (Au m.value c.wait).1, vi (Ac c m.line).want, vi (Ac c m.line).serial, vi (Ac c m.line).seen, vi (Ac c m.line).gave, vi (Ac c m.line).given]) (fun ρ => [vi 0]) Try.sizeOf3 ?_
     refine dn1 ?_
     refine es_ 82 4 [4, 6] [10] (fun ρ => b11) (fun ρ => [vi (Ac c m.line).state, vi (Au m.value c.wait).1, vi 0, vi (Ac c m.line).serial, vi (Ac c m.line).seen, vi (Ac c m.line).gave, vi (Ac c m.line).given]) (fun ρ => [vi m.turn]) Try.sizeOf3 ?_
     refine dn1 ?_
     refine es_ 82 0 [4, 6, 8] [] (fun ρ => b11) (fun ρ => [vi (Ac c m.line).state, vi (Au m.value c.wait).1, vi 0, vi (Ac c m.line).serial, vi m.turn, vi (Ac c m.line).gave, vi (Ac c m.line).given]) (fun ρ => [vi 1]) Try.sizeOf3 ?_
     refine dnl ?_; intro ρ
     refine xq_ (blk b11 82 [vi 1, vi (Au m.value c.wait).1, vi 0, vi (Ac c m.line).serial, vi m.turn, vi (Ac c m.line).gave, vi (Ac c m.line).given] :: blk b17 66 c.wait.cells :: blk b8 69 [.slice none 0 0, vi 0, vi 0, vi 0] :: blk b4 69 (c.cells u) :: blk b5 3 [vi id] :: blk b6 3 [vi home] :: blk b7 42 m.cells :: L) ?_
     refine Gm ?_
     refine Ga2 ?_
     refine Bp (b := ?b3) ?e3 ?_ ?_; case e3 => exact rfl
     ·
      intro ht206
      refine Aa ?_
      refine rn1 ?_
      refine sc ?_
      refine Gl ?_
      have hvo : Am (Au m.value c.wait).1 := Ln hm.2.2.2.2.2.2 hwv.1 hwv.2
      refine Aa ?_
      refine rn4 ?_
      have hXw : ({ (Ac c m.line) with value := (Au m.value c.wait).1, want := 0, seen := m.turn, state := 2 } : Line).wf := by unfold Line.wf at hlw ⊢; exact ⟨by unfold Am; simp only; omega, hvo, by unfold Am; simp only; omega, hlw.2.2.2.1, hm.2.2.2.2.2.1, hlw.2.2.2.2.2.1, hlw.2.2.2.2.2.2⟩
      refine Aq Try.call77 rfl (fun w hs => Bb (l := { (Ac c m.line) with value := (Au m.value c.wait).1, want := 0, seen := m.turn, state := 2 }) hs mm hXw (by omega)) ?_; intro v212
      refine J.know (p := v212.oneCell' = true) (fun w hs => isSlice.one (hs.fact (List.Mem.head _))) (fun hone212 => ?_)
      refine al_ (cs := [.slice none 0 0, vi 0, vi 0, vi 0]) Try.zeroValue69 ?_; intro b20
      refine s_B (cs := [v212, vi c.wait.kind, vi c.wait.line, vi c.wait.value]) Try.sizeOf69 ?_
      refine Gm ?_
      refine ob (E2 (cs := zOp.cells) Kl) ?_
      refine rn1 ?_
      refine s_N [v212, vi 0, vi 0, vi 0] Try.sizeOf66 ?_
      refine Gl ?_
      have hto : Am (Au m.value c.wait).2 := J5 hm.2.2.2.2.2.2
      refine cq_ (blk b8 69 [.slice none 0 0, vi 0, vi 0, vi 0] :: blk b20 69 [v212, vi 0, vi 0, vi 0] :: blk b17 66 c.wait.cells :: blk b5 3 [vi id] :: L) ?_
      refine jd_ (fun ρ S => blk b8 69 (bif S 7 then [v212, vi 0, vi 0, vi 0] else [.slice none 0 0, vi 0, vi 0, vi 0]) :: blk b20 69 [v212, vi 0, vi 0, vi 0] :: blk b17 66 c.wait.cells :: blk b5 3 [vi id] :: L) ?_
      refine dn6 ?_
      refine E7 ([⟨id, c.wait, (Au m.value c.wait).2⟩] : List Done) Fj rfl (fun _ => rfl) rfl (fun _ => rfl) rfl rfl (fun ρ R hd => E5 ⟨hid, hk.wwf.1, hk.wwf.2.1, hk.wwf.2.2, hto⟩) (fun _ _ _ _ _ => rfl) ?_
      refine es_ 69 0 [] [] (fun ρ => b8) (fun ρ => [.slice none 0 0, vi 0, vi 0, vi 0]) (fun ρ => [v212, vi 0, vi 0, vi 0]) Try.sizeOf69 ?_
      refine dn1 ?_
      refine e_p (v := fun ρ => (Gh.dec (γ := Value) (ρ 6))) (fun _ _ => Db) (Ind.gh (h := fun g => ((Gh.dec (γ := Value) g) : Value)) 6 0 rfl) (fun _ _ _ _ _ => rfl) ?_
      refine dnl ?_; intro ρ
      refine xq_ (blk b8 69 [v212, vi 0, vi 0, vi 0] :: blk b20 69 [v212, vi 0, vi 0, vi 0] :: blk b17 66 c.wait.cells :: blk b5 3 [vi id] :: L) ?_
      generalize (Gh.dec (γ := Value) (ρ 6)) = v221
      refine Gl ?_
      have eg : Ed (Ac c m.line) m c.wait = { (Ac c m.line) with value := (Au m.value c.wait).1, want := 0, seen := m.turn, state := 2 } := by unfold Ed; rw [ht206, if_pos rfl]
      have er : Ad c id home m = (Ap c m.line ({ (Ac c m.line) with value := (Au m.value c.wait).1, want := 0, seen := m.turn, state := 2 }) zOp, [A5 10 id home m.line m.turn 0], [⟨id, c.wait, (Au m.value c.wait).2⟩]) := by unfold Ad; rw [if_neg (by omega)]; rw [if_neg (by omega), if_neg (by omega), if_pos (by omega)]; rw [if_neg (by omega), if_pos (Decidable.not_not.1 ht186), eg]
      rw [er]
      exact Cg (v212, v162, v221) Try.isAgg69 Try.sizeOf69
     ·
      intro ht206
      refine Gl ?_
      have hvo : Am (Au m.value c.wait).1 := Ln hm.2.2.2.2.2.2 hwv.1 hwv.2
      refine Aa ?_
      refine rn4 ?_
      have hXw : ({ (Ac c m.line) with value := (Au m.value c.wait).1, want := 0, seen := m.turn, state := 1 } : Line).wf := by unfold Line.wf at hlw ⊢; exact ⟨by unfold Am; simp only; omega, hvo, by unfold Am; simp only; omega, hlw.2.2.2.1, hm.2.2.2.2.2.1, hlw.2.2.2.2.2.1, hlw.2.2.2.2.2.2⟩
      refine Aq Try.call77 rfl (fun w hs => Bb (l := { (Ac c m.line) with value := (Au m.value c.wait).1, want := 0, seen := m.turn, state := 1 }) hs mm hXw (by omega)) ?_; intro v212
      refine J.know (p := v212.oneCell' = true) (fun w hs => isSlice.one (hs.fact (List.Mem.head _))) (fun hone212 => ?_)
      refine al_ (cs := [.slice none 0 0, vi 0, vi 0, vi 0]) Try.zeroValue69 ?_; intro b20
      refine s_B (cs := [v212, vi c.wait.kind, vi c.wait.line, vi c.wait.value]) Try.sizeOf69 ?_
      refine Gm ?_
      refine ob (E2 (cs := zOp.cells) Kl) ?_
      refine rn1 ?_
      refine s_N [v212, vi 0, vi 0, vi 0] Try.sizeOf66 ?_
      refine Gl ?_
      have hto : Am (Au m.value c.wait).2 := J5 hm.2.2.2.2.2.2
      refine cq_ (blk b8 69 [.slice none 0 0, vi 0, vi 0, vi 0] :: blk b20 69 [v212, vi 0, vi 0, vi 0] :: blk b17 66 c.wait.cells :: blk b5 3 [vi id] :: L) ?_
      refine jd_ (fun ρ S => blk b8 69 (bif S 7 then [v212, vi 0, vi 0, vi 0] else [.slice none 0 0, vi 0, vi 0, vi 0]) :: blk b20 69 [v212, vi 0, vi 0, vi 0] :: blk b17 66 c.wait.cells :: blk b5 3 [vi id] :: L) ?_
      refine dn6 ?_
      refine E7 ([⟨id, c.wait, (Au m.value c.wait).2⟩] : List Done) Fj rfl (fun _ => rfl) rfl (fun _ => rfl) rfl rfl (fun ρ R hd => E5 ⟨hid, hk.wwf.1, hk.wwf.2.1, hk.wwf.2.2, hto⟩) (fun _ _ _ _ _ => rfl) ?_
      refine es_ 69 0 [] [] (fun ρ => b8) (fun ρ => [.slice none 0 0, vi 0, vi 0, vi 0]) (fun ρ => [v212, vi 0, vi 0, vi 0]) Try.sizeOf69 ?_
      refine dn1 ?_
      refine e_p (v := fun ρ => (Gh.dec (γ := Value) (ρ 6))) (fun _ _ => Db) (Ind.gh (h := fun g => ((Gh.dec (γ := Value) g) : Value)) 6 0 rfl) (fun _ _ _ _ _ => rfl) ?_
      refine dnl ?_; intro ρ
      refine xq_ (blk b8 69 [v212, vi 0, vi 0, vi 0] :: blk b20 69 [v212, vi 0, vi 0, vi 0] :: blk b17 66 c.wait.cells :: blk b5 3 [vi id] :: L) ?_
      generalize (Gh.dec (γ := Value) (ρ 6)) = v221
      refine Gl ?_
      have eg : Ed (Ac c m.line) m c.wait = { (Ac c m.line) with value := (Au m.value c.wait).1, want := 0, seen := m.turn, state := 1 } := by unfold Ed; rw [ht206, if_neg (by decide)]
      have er : Ad c id home m = (Ap c m.line ({ (Ac c m.line) with value := (Au m.value c.wait).1, want := 0, seen := m.turn, state := 1 }) zOp, [A5 10 id home m.line m.turn 0], [⟨id, c.wait, (Au m.value c.wait).2⟩]) := by unfold Ad; rw [if_neg (by omega)]; rw [if_neg (by omega), if_neg (by omega), if_pos (by omega)]; rw [if_neg (by omega), if_pos (Decidable.not_not.1 ht186), eg]
      rw [er]
      exact Cg (v212, v162, v221) Try.isAgg69 Try.sizeOf69
end Go.Proofs.Ytofgpimoekhfaaa

/- This file proves what a core hears, by the document's answer. No conditions. -/
set_option linter.unusedVariables false
set_option linter.unusedSimpArgs false
set_option maxHeartbeats 1000000
set_option maxRecDepth 8000
namespace Go.Proofs.Ytofgpimoekhfaaa
open Go
theorem Q1 {L : List Chunk} {R : List Fact} {w : World} {u : Value} {c : Core} {id home : Int} {m : Msg} (hs : St (L) R w) (hu : sl u c.lines ∈ R) (hk : KB c) (hid : Am id) (hhome : Am home) (hm : m.wf) : Calls Try.prog 47 [.agg (c.cells u).toArray, vi id, vi home, .agg m.cells.toArray].toArray w (Ch (fun v : Value × Value × Value => .tuple #[.agg (Core.cells v.1 (Ad c id home m).1).toArray, v.2.1, v.2.2]) (fun v => L) (fun v => sl v.1 (Ad c id home m).1.lines :: sl v.2.1 (Ad c id home m).2.1 :: sl v.2.2 (Ad c id home m).2.2 :: R)) := by
  by_cases h : 0 ≤ m.line ∧ m.line < (c.lines.length : Int)
  · by_cases h4 : m.kind = 4
    · exact S2 hs hu hk hid hhome hm (by omega)
    by_cases h5 : m.kind = 5
    · exact S1 hs hu hk hid hhome hm (by omega)
    by_cases h6 : m.kind = 6
    · exact S0 hs hu hk hid hhome hm (by omega)
    by_cases h7 : m.kind = 7
    · exact Sz hs hu hk hid hhome hm (by omega)
    by_cases h11 : m.kind = 11
    · exact Q0 hs hu hk hid hhome hm (by omega)
    exact Sy hs hu hk hid hhome hm (by omega)
  · exact S3 hs hu hk hid hhome hm h
end Go.Proofs.Ytofgpimoekhfaaa

/- This file proves what net.Take, Twice, Spoil and their twins compute. No conditions. -/
set_option linter.unusedVariables false
set_option linter.unusedSimpArgs false
set_option maxHeartbeats 1000000
set_option maxRecDepth 8000
namespace Go.Proofs.Ytofgpimoekhfaaa
open Go
def Q7 (l : Frames) (n : Nat) (k : Nat) : Frames := (l.take k).eraseIdx n
theorem Th {l : Frames} {n k : Nat} (h : k = l.length) : Q7 l n k = l.eraseIdx n := by unfold Q7; rw [h, List.take_length]
theorem Vj {l : Frames} {n k : Nat} (h : k < l.length) (hn : k ≠ n) : Q7 l n (k + 1) = Q7 l n k ++ [l.getD k []] := by
  unfold Q7
  rw [Ft [] h]
  by_cases h' : n < k
  · rw [List.eraseIdx_append_of_lt_length (by rw [List.length_take]; omega)]
  · rw [List.eraseIdx_of_length_le (by simp; omega), List.eraseIdx_of_length_le (by simp; omega)]
theorem Tg (l : Frames) (n k : Nat) : (Q7 l n k).length ≤ k := by
 unfold Q7; rw [List.length_eraseIdx]
 split <;> rw [List.length_take] <;> omega
theorem Vk {l : Frames} {n k : Nat} (h : k < l.length) (hn : k = n) : Q7 l n (k + 1) = Q7 l n k := by
 unfold Q7
 subst hn
 rw [Ft [] h, List.eraseIdx_append_of_length_le (by rw [List.length_take]; omega), List.length_take, Nat.min_eq_left (by omega), Nat.sub_self, List.eraseIdx_of_length_le (l := l.take k) (by rw [List.length_take]; omega)]
 simp
theorem Gn {L : List Chunk} {R : List Fact} {w : World} {v0 : Value} {l : Frames} {n : Int} (hs : St (L) R w) (h0 : sl v0 l ∈ R) (hn : Am n) : Calls Try.prog 23 [v0, vi n].toArray w (Ch (fun v : Value × Value => .tuple #[v.1, v.2, vi (Cn l n).2.2]) (fun v => L) (fun v => sl v.1 (Cn l n).1 :: sl v.2 (Cn l n).2.1 :: R)) := by
  have hlen := Bk h0 hs
  unfold Am at hn
  refine Aj Try.func23 rfl Try.ntmps23 rfl hs ?_
  clear hs
  refine Gm ?_
  refine Ga3 ?_
  rcases (show (n < 0) ∨ (¬ n < 0 ∧ (l.length : Int) ≤ n) ∨ (0 ≤ n ∧ n < (l.length : Int)) from by omega) with hc | hc | hc
  ·
   refine Aa ?_
   refine rn1 ?_
   refine ob (Af rfl rfl (Bt (by omega))) ?_
   refine Gd6 ?_
   refine Ga3 ?_
   have er : Cn l n = ([], [], 5) := by unfold Cn; rw [if_pos (by omega)]
   rw [er]
   exact Fv (.slice none 0 0, .slice none 0 0) (hs := fun w hs => Al (St.shut (St.rowNil 23 (List UInt8) (St.shut (hs.rowNil 5 UInt8)))))
  ·
   refine Aa ?_
   refine rn1 ?_
   refine ob (Af rfl rfl (An (by omega))) ?_
   refine rn4 ?_
   refine gy ?_
   refine ob (Af rfl rfl (Cv (by omega))) ?_
   refine Gd1 ?_
   refine Ga3 ?_
   have er : Cn l n = ([], [], 5) := by unfold Cn; rw [if_pos (by omega)]
   rw [er]
   exact Fv (.slice none 0 0, .slice none 0 0) (hs := fun w hs => Al (St.shut (St.rowNil 23 (List UInt8) (St.shut (hs.rowNil 5 UInt8)))))
  ·
   refine Aa ?_
   refine rn1 ?_
   refine ob (Af rfl rfl (An (by omega))) ?_
   refine rn4 ?_
   refine gy ?_
   refine ob (Af rfl rfl (A4 (by omega))) ?_
   refine Gd1 ?_
   refine Gb1 ?_
   refine Ga3 ?_
   refine JC.rowNil 23 (List UInt8) ?_
   refine Cu (γ := Nat × Value) (fun g => g.1 ≤ l.length) (fun g => row 23 g.2 (Q7 l n.toNat g.1) :: L) (fun _ => R) (fun g => [(0, v0), (1, vi n), (7, g.2), (18, v0), (19, vi (l.length : Int)), (20, vi (g.1 : Int))]) (fun g => l.length - g.1) (0, .slice none 0 0) (Nat.zero_le _) alT (fun w hs => hs) ?_
   rintro ⟨k, vs⟩ hk
   try simp only at hk ⊢
   refine Gm ?_
   refine Ga1 ?_
   refine cdx (p := ?p1) (hd := ?d1) ?e1 ?_ ?_; case e1 => exact rfl
   ·
    intro ht21
    refine Gl ?_
    refine JC.open1 (xs := l) k mm (by omega) (fun _ u => ?_)
    refine Aa ?_
    refine Gb5 ?_
    refine Ga3 ?_
    refine cdx (p := ?p2) (hd := ?d2) ?e2 ?_ ?_; case e2 => exact rfl
    ·
     intro ht27
     refine Aa ?_
     refine rn2 ?_
     refine li [_] Nc rfl rd_sl ?_; intro v30
     refine ap Nc (hb := fun w hs => by have : maxN = 16777216 := rfl; have h9 := Tg l n.toNat k; simp only [List.length_cons, List.length_nil]; omega) (k := ?_); intro v31
     refine Gb1 ?_
     refine Ga2 ?_
     refine Be (k + 1, v31) (by show k + 1 ≤ l.length; omega) (by show l.length - (k + 1) < l.length - k; omega) alT (fun w hs => ?_)
     try simp only
     rw [Vj (by omega) (by omega)]; exact Al hs
    ·
     intro ht27
     refine Gm ?_
     refine Ga2 ?_
     refine Be (k + 1, vs) (by show k + 1 ≤ l.length; omega) (by show l.length - (k + 1) < l.length - k; omega) alT (fun w hs => ?_)
     try simp only
     rw [Vk (by omega) (by omega)]; exact Al hs
   ·
    intro ht21
    refine Gl ?_
    refine JC.open1 (xs := l) n.toNat mm (by omega) (fun _ u => ?_)
    refine Dv ?_
    refine dn8 ?_
    refine dnl ?_; intro ρ
    refine Gl ?_
    have er : Cn l n = (l.eraseIdx n.toNat, Ay l n, 0) := by unfold Cn; rw [if_neg (by omega)]
    rw [er]
    exact Fv (vs, u) (hs := fun w hs => by rw [Th (show k = l.length by omega)] at hs; exact Al (St.shut hs))
end Go.Proofs.Ytofgpimoekhfaaa

/- This file proves plain facts of a chip's step. No conditions. -/
set_option linter.unusedVariables false
set_option linter.unusedSimpArgs false
set_option maxHeartbeats 1000000
set_option maxRecDepth 8000
namespace Go.Proofs.Ytofgpimoekhfaaa
open Go
theorem F6 {P : Program} {n : Nat} {Q : Exit → Act → World → Prop} {L : List Chunk} {R : List Fact} {al : List (Nat × Value)} {c : Code} {v : Value} {x : Chip} (i : Int) (hm : sl v x.cores ∈ R) (h0 : 0 ≤ i) (hi : i < x.cores.length) (k : (Ah x i).wait.wf → ∀ u, JC P n c Q L (cF v 4 i.toNat (Core.cells u (Ah x i)) :: sl u (Ah x i).lines :: R) al) : JC P n c Q L R al := JC.open1 i.toNat hm (by omega) k
theorem Qf {c : Core} {id home : Int} {o : Op} (ho : o.wf) : (Ag c id home o).1.wait.wf := by
  have hz : zOp.wf := by unfold zOp Op.wf Am; simp only; omega
  unfold Ag
  split
  · exact hz
  split
  · exact hz
  split
  · exact hz
  split
  · exact hz
  · exact ho
theorem Rj {c : Core} {id home : Int} {m : Msg} (ho : c.wait.wf) : (Ad c id home m).1.wait.wf := by
  have hz : zOp.wf := by unfold zOp Op.wf Am; simp only; omega
  unfold Ad
  split
  · exact ho
  split
  · exact ho
  split
  · split
    · show (if _ then zOp else c.wait).wf
      split
      · exact hz
      · exact ho
    split
    · exact ho
    · exact ho
  split
  · split
    · exact ho
    split
    · exact hz
    · exact ho
  split
  · exact hz
  · exact ho
theorem Ua {x : Chip} {s : Step} (hk : s.kind = 2 ∨ s.kind = 3 ∨ s.kind = 4 ∨ s.kind = 5) (h : Cs x s.n) : Ar x s = (Dw, [], 5) := by
  unfold Ar
  rw [if_neg (by omega)]
  by_cases h2 : s.kind = 2
  · rw [if_pos h2, if_pos h]
  rw [if_neg h2]
  by_cases h3 : s.kind = 3
  · rw [if_pos h3, if_pos h]
  rw [if_neg h3]
  by_cases h4 : s.kind = 4
  · rw [if_pos h4, if_pos h]
  · rw [if_neg h4, if_pos (by omega), if_pos h]
section
variable {n nl : Nat} {x : Chip} {M : List Int}
theorem Inv.lbs (h : Inv n nl x M) {p : Int} (hp : 0 ≤ p ∧ p < x.cores.length) : ∀ i, i < (Ah x p).lines.length → LB ((Ah x p).lines.getD i zLine) := fun i hi => by
 have hnc := h.nc
 have h1 : (Ah x p).lines.length = nl := h.ncl p.toNat (by omega)
 exact h.lb (i := i) (p := p.toNat) (by omega) (by omega)
theorem Inv.ebs (h : Inv n nl x M) : ∀ i, i < x.home.length → EB (x.home.getD i Bc) ∧ (x.home.getD i Bc).turn ≤ 65535 ∧ (0 ≤ (x.home.getD i Bc).serial ∧ (x.home.getD i Bc).serial ≤ 65535) ∧ (0 ≤ (x.home.getD i Bc).value ∧ (x.home.getD i Bc).value ≤ 255) ∧ (x.home.getD i Bc).last.length ≤ 4 := fun i hi => by
 have hnh := h.nh
 have hn := h.n1
 have := h.nla i (by omega)
 exact ⟨h.eb (i := i) (by omega), (h.ebd (i := i) (by omega)).1, (h.ebd (i := i) (by omega)).2.1, (h.ebd (i := i) (by omega)).2.2, by show (ent x i).last.length ≤ 4; omega⟩
theorem Inv.says_in (h : Inv n nl x M) (i : Nat) (hi : i < x.home.length) : ∀ a ∈ says (x.home.getD i Bc) i n, MsgIn a := fun a ha => by
 have hnh := h.nh; have hn := h.n1; have hl := h.l1
 exact Tl (N1 h (i := i) (by omega) a ha).1 (by simp only [Fz]; omega) (by simp only [Fz]; omega)
end
end Go.Proofs.Ytofgpimoekhfaaa

/- This file proves what a step does to a chip, by the document's answer: some kinds of steps. No conditions. -/
set_option linter.unusedVariables false
set_option linter.unusedSimpArgs false
set_option maxHeartbeats 1000000
set_option maxRecDepth 8000
namespace Go.Proofs.Ytofgpimoekhfaaa
open Go
theorem S9 {L : List Chunk} {R : List Fact} {w : World} {n nl : Nat} {M : List Int} {cv hv fv : Value} {x : Chip} {s : Step} (hs : St (L) R w) (hc : sl cv x.cores ∈ R) (hh : sl hv x.home ∈ R) (hf : sl fv x.frames ∈ R) (h : Inv n nl x M) (hsw : s.wf) (hk : s.kind = 1) : Calls Try.prog 64 [.agg #[cv, hv, fv], .agg s.cells.toArray].toArray w (Ch (fun v : Value × Value × Value × Value => .tuple #[.agg #[v.1, v.2.1, v.2.2.1], v.2.2.2, vi (Ar x s).2.2]) (fun v => L) (fun v => sl v.1 (Ar x s).1.cores :: sl v.2.1 (Ar x s).1.home :: sl v.2.2.1 (Ar x s).1.frames :: sl v.2.2.2 (Ar x s).2.1 :: R)) := by
  have hn := h.n1
  have hnl := h.l1
  have hnc := h.nc
  have hnh := h.nh
  have hfr := h.fr
  have honec : cv.oneCell' = true := isSlice.one (hs.fact hc)
  have honeh : hv.oneCell' = true := isSlice.one (hs.fact hh)
  have honef : fv.oneCell' = true := isSlice.one (hs.fact hf)
  have hsw0 := hsw
  unfold Step.wf Am at hsw0
  have hop : s.op.wf := by unfold Op.wf Am; omega
  have hsn : Am s.node := by unfold Am; omega
  have hsN : Am s.n := by unfold Am; omega
  have hsb : Am s.bit := by unfold Am; omega
  have hn64 : Am (x.cores.length : Int) := by unfold Am; omega
  have hcw : (Az x).wf := by unfold Az Ca Config.wf Am; simp only; omega
  refine Aj Try.func64 rfl Try.ntmps64 rfl hs ?_
  clear hs
  refine Gm ?_
  refine bx ?_; intro b2
  refine bx ?_; intro b3
  refine al_ (cs := [.slice none 0 0, .slice none 0 0, .slice none 0 0]) Try.zeroValue46 ?_; intro b4
  refine Gb2 ?_
  refine Gb1 ?_
  refine Gb4 ?_
  refine Gb2 ?_
  refine ob (Af rfl rfl (As (by omega))) ?_
  refine Gc1 ?_
  rcases (show (s.node < 0) ∨ (0 ≤ s.node ∧ (x.cores.length : Int) ≤ s.node) ∨ (0 ≤ s.node ∧ s.node < (x.cores.length : Int)) from by omega) with hc | hc | hc
  ·
   refine Aa ?_
   refine rn2 ?_
   refine ob (Af rfl rfl (Bt (by omega))) ?_
   refine Gc6 ?_
   refine JC.slNil Core ?_
   refine JC.slNil Entry ?_
   refine JC.slNil (List UInt8) ?_
   refine JC.slNil Done ?_
   refine Aa ?_
   refine rn1 ?_
   refine Dx (caps := []) (vs := [vi 5]) rfl Try.call95 rfl (fun w hs => Im hs) ?_; intro _
   refine rn3 ?_
   refine s_B (cs := [.slice none 0 0, .slice none 0 0, .slice none 0 0]) Try.sizeOf46 ?_
   refine Ga2 ?_
   have er : Ar x s = (Dw, [], 5) := by unfold Ar Ca; rw [if_pos (by omega), if_pos (by omega)]
   rw [er]
   exact Cg (.slice none 0 0, .slice none 0 0, .slice none 0 0, .slice none 0 0) Try.isAgg46 Try.sizeOf46
  ·
   refine Aa ?_
   refine rn2 ?_
   refine ob (Af rfl rfl (An (by omega))) ?_
   refine rn4 ?_
   refine gy ?_
   refine ob (Af rfl rfl (Cv (by omega))) ?_
   refine Gc1 ?_
   refine JC.slNil Core ?_
   refine JC.slNil Entry ?_
   refine JC.slNil (List UInt8) ?_
   refine JC.slNil Done ?_
   refine Aa ?_
   refine rn1 ?_
   refine Dx (caps := []) (vs := [vi 5]) rfl Try.call95 rfl (fun w hs => Im hs) ?_; intro _
   refine rn3 ?_
   refine s_B (cs := [.slice none 0 0, .slice none 0 0, .slice none 0 0]) Try.sizeOf46 ?_
   refine Ga2 ?_
   have er : Ar x s = (Dw, [], 5) := by unfold Ar Ca; rw [if_pos (by omega), if_pos (by omega)]
   rw [er]
   exact Cg (.slice none 0 0, .slice none 0 0, .slice none 0 0, .slice none 0 0) Try.isAgg46 Try.sizeOf46
  ·
   refine Aa ?_
   refine rn2 ?_
   refine ob (Af rfl rfl (An (by omega))) ?_
   refine rn4 ?_
   refine gy ?_
   refine ob (Af rfl rfl (A4 (by omega))) ?_
   refine Gc1 ?_
   refine F6 (x := x) (v := cv) s.node mm (by omega) (by omega) (fun hwt u => ?_)
   have hkb : KB (Ah x s.node) := h.kb (p := s.node.toNat) (by omega)
   have hlb := h.lbs (p := s.node) (by omega)
   have hk4 := hkb.n
   refine cq_ (blk b2 46 [cv, hv, fv] :: blk b3 98 s.cells :: blk b4 46 [.slice none 0 0, .slice none 0 0, .slice none 0 0] :: L) ?_
   refine jd_ (fun ρ S => blk b2 46 [cv, hv, fv] :: blk b3 98 s.cells :: blk b4 46 [.slice none 0 0, .slice none 0 0, .slice none 0 0] :: ((bif S 17 then [blk (Gh.dec (γ := Nat) (ρ 17)) 69 (bif S 18 then [(Gh.dec (γ := Value × Value × Value) (ρ 11)).1, vi (Ag (Ah x s.node) s.node (x.cores.length : Int) s.op).1.wait.kind, vi (Ag (Ah x s.node) s.node (x.cores.length : Int) s.op).1.wait.line, vi (Ag (Ah x s.node) s.node (x.cores.length : Int) s.op).1.wait.value] else [.slice none 0 0, vi 0, vi 0, vi 0])] else []) ++ (L))) ?_
   refine dn11 ?_
   refine Bn (γ := Value × Value × Value) (val := fun v => .tuple #[.agg (Core.cells v.1 (Ag (Ah x s.node) s.node (x.cores.length : Int) s.op).1).toArray, v.2.1, v.2.2, vi (Ag (Ah x s.node) s.node (x.cores.length : Int) s.op).2.2.2]) (F := fun v => [sl v.1 (Ag (Ah x s.node) s.node (x.cores.length : Int) s.op).1.lines, sl v.2.1 (Ag (Ah x s.node) s.node (x.cores.length : Int) s.op).2.1, sl v.2.2 (Ag (Ah x s.node) s.node (x.cores.length : Int) s.op).2.2.1]) Try.call40 (fun _ => rfl) (fun ρ L R w hd hs => Oz (c := (Ah x s.node)) (id := s.node) (home := (x.cores.length : Int)) (q := s.op) (u := u) hs (hd.base mm) hkb hsn hn64 hop) (fun ρ g S hS hA => by have u17 : upS S 11 17 = S 17 := rfl; have u18 : upS S 11 18 = S 18 := rfl; have r17 : Rho.set ρ 11 g 17 = ρ 17 := rfl; have h18 : S 18 = false := hA 18 ⟨0, rfl⟩; simp only [u17, u18, r17, h18, cond_false]) ?_
   refine e_p (v := fun ρ => .tuple #[.agg (Core.cells (Gh.dec (γ := Value × Value × Value) (ρ 11)).1 (Ag (Ah x s.node) s.node (x.cores.length : Int) s.op).1).toArray, (Gh.dec (γ := Value × Value × Value) (ρ 11)).2.1, (Gh.dec (γ := Value × Value × Value) (ρ 11)).2.2, vi (Ag (Ah x s.node) s.node (x.cores.length : Int) s.op).2.2.2]) (fun _ _ => Cx) (Ind.gh (h := fun g => (.tuple #[.agg (Core.cells (Gh.dec (γ := Value × Value × Value) g).1 (Ag (Ah x s.node) s.node (x.cores.length : Int) s.op).1).toArray, (Gh.dec (γ := Value × Value × Value) g).2.1, (Gh.dec (γ := Value × Value × Value) g).2.2, vi (Ag (Ah x s.node) s.node (x.cores.length : Int) s.op).2.2.2] : Value)) 11 0 rfl) (fun _ _ _ _ _ => rfl) ?_
   refine e_p (v := fun ρ => .agg (Core.cells (Gh.dec (γ := Value × Value × Value) (ρ 11)).1 (Ag (Ah x s.node) s.node (x.cores.length : Int) s.op).1).toArray) (fun _ _ => q_x) (Ind.gh (h := fun g => (.agg (Core.cells (Gh.dec (γ := Value × Value × Value) g).1 (Ag (Ah x s.node) s.node (x.cores.length : Int) s.op).1).toArray : Value)) 11 1 rfl) (fun _ _ _ _ _ => rfl) ?_
   refine e_p (v := fun ρ => (Gh.dec (γ := Value × Value × Value) (ρ 11)).2.1) (fun _ _ => q_x) (Ind.gh (h := fun g => ((Gh.dec (γ := Value × Value × Value) g).2.1 : Value)) 11 1 rfl) (fun _ _ _ _ _ => rfl) ?_
   refine e_p (v := fun ρ => (Gh.dec (γ := Value × Value × Value) (ρ 11)).2.2) (fun _ _ => q_x) (Ind.gh (h := fun g => ((Gh.dec (γ := Value × Value × Value) g).2.2 : Value)) 11 1 rfl) (fun _ _ _ _ _ => rfl) ?_
   refine Jn (v := vi (Ag (Ah x s.node) s.node (x.cores.length : Int) s.op).2.2.2) (fun _ _ => q_x) (fun _ _ _ _ _ => rfl) ?_
   refine Gc (cs := [.slice none 0 0, vi 0, vi 0, vi 0]) Try.zeroValue69 rfl (fun ρ b S hS hA => ?_) ?_
   ·
    have ui : upS S 17 17 = true := rfl; have u18 : upS S 17 18 = S 18 := rfl; have r11 : Rho.set ρ 17 (Gh.enc b) 11 = ρ 11 := rfl; have h18 : S 18 = false := hA 18 ⟨0, rfl⟩; have rs : (Gh.dec (γ := Nat) (Rho.set ρ 17 (Gh.enc b) 17)) = b := rfl
    simp only [ui, hS, u18, r11, h18, rs, cond_true, cond_false, List.nil_append]
    exact Ins.perm (by repeat (first | exact .hd | exact .hc | refine .tl ?_ | refine .ap ?_))
   refine es_ 69 0 [17] [] (fun ρ => (Gh.dec (γ := Nat) (ρ 17))) (fun ρ => [.slice none 0 0, vi 0, vi 0, vi 0]) (fun ρ => [(Gh.dec (γ := Value × Value × Value) (ρ 11)).1, vi (Ag (Ah x s.node) s.node (x.cores.length : Int) s.op).1.wait.kind, vi (Ag (Ah x s.node) s.node (x.cores.length : Int) s.op).1.wait.line, vi (Ag (Ah x s.node) s.node (x.cores.length : Int) s.op).1.wait.value]) Try.sizeOf69 (h1 := (fun ρ R w L' hd hs => A6 (isSlice.one (hs.fact (hd.dep (it := ⟨11, _, _, _, _⟩) (by repeat (first | exact List.Mem.head _ | refine List.Mem.tail _ ?_)) ⟨9, rfl⟩ (List.Mem.head _)))) (by repeat (first | exact C3 | refine A6 rfl ?_)))) ?_
   refine e_p (v := fun ρ => (Gh.dec (γ := Value × Value × Value) (ρ 11)).2.1) (fun _ _ => Db) (Ind.gh (h := fun g => ((Gh.dec (γ := Value × Value × Value) g).2.1 : Value)) 11 0 rfl) (fun _ _ _ _ _ => rfl) ?_
   refine e_p (v := fun ρ => (Gh.dec (γ := Value × Value × Value) (ρ 11)).2.2) (fun _ _ => Db) (Ind.gh (h := fun g => ((Gh.dec (γ := Value × Value × Value) g).2.2 : Value)) 11 0 rfl) (fun _ _ _ _ _ => rfl) ?_
   refine Jn (v := vi (Ag (Ah x s.node) s.node (x.cores.length : Int) s.op).2.2.2) (fun _ _ => Db) (fun _ _ _ _ _ => rfl) ?_
   refine dnl ?_; intro ρ
   refine xq_ (blk b2 46 [cv, hv, fv] :: blk b3 98 s.cells :: blk b4 46 [.slice none 0 0, .slice none 0 0, .slice none 0 0] :: (blk (Gh.dec (γ := Nat) (ρ 17)) 69 [(Gh.dec (γ := Value × Value × Value) (ρ 11)).1, vi (Ag (Ah x s.node) s.node (x.cores.length : Int) s.op).1.wait.kind, vi (Ag (Ah x s.node) s.node (x.cores.length : Int) s.op).1.wait.line, vi (Ag (Ah x s.node) s.node (x.cores.length : Int) s.op).1.wait.value] :: L)) ?_
   generalize (Gh.dec (γ := Value × Value × Value) (ρ 11)) = v65
   generalize (Gh.dec (γ := Nat) (ρ 17)) = b9
   refine Gl ?_
   refine kp [2, 3, 4, 5, 6, 7, 8, 9, 10, 11, 12, 31, 70, 71] ?_
   refine Aa ?_
   refine Ga2 ?_
   refine cdx (p := ?p1) (hd := ?d1) ?e1 ?_ ?_; case e1 => exact rfl
   ·
    intro ht71
    refine Gl ?_
    refine JC.slNil Core ?_
    refine JC.slNil Entry ?_
    refine JC.slNil (List UInt8) ?_
    refine JC.slNil Done ?_
    refine Aa ?_
    refine rn2 ?_
    refine Dx (caps := []) (vs := [vi (Ag (Ah x s.node) s.node (x.cores.length : Int) s.op).2.2.2]) rfl Try.call95 rfl (fun w hs => Im hs) ?_; intro _
    refine rn3 ?_
    refine s_B (cs := [.slice none 0 0, .slice none 0 0, .slice none 0 0]) Try.sizeOf46 ?_
    refine Ga2 ?_
    have er : Ar x s = (Dw, [], (Ag (Ah x s.node) s.node (x.cores.length : Int) s.op).2.2.2) := by unfold Ar Ca; rw [if_pos (by omega), if_neg (by omega), if_pos ht71]
    rw [er]
    exact Cg (.slice none 0 0, .slice none 0 0, .slice none 0 0, .slice none 0 0) Try.isAgg46 Try.sizeOf46
   ·
    intro ht71
    refine Gm ?_
    refine rn4 ?_
    refine Aq Try.call96 rfl (fun w hs => Jx (x := x) (i := s.node) (k := (Ag (Ah x s.node) s.node (x.cores.length : Int) s.op).1) (u := v65.1) hs mm honeh honef mm (Qf hop) (by omega)) ?_; intro v82
    refine J.know (p := v82.oneCell' = true) (fun w hs => isSlice.one (hs.fact (List.Mem.head _))) (fun honev82 => ?_)
    refine s_B (cs := [v82, hv, fv]) Try.sizeOf46 ?_
    refine Gm ?_
    refine rn3 ?_
    refine Aq Try.call97 rfl (fun w hs => Mm (fs := x.frames) (ms := (Ag (Ah x s.node) s.node (x.cores.length : Int) s.op).2.1) hs mm mm (Uk (by omega) (by omega) hk4 hlb)) ?_; intro v86
    refine J.know (p := v86.oneCell' = true) (fun w hs => isSlice.one (hs.fact (List.Mem.head _))) (fun honev86 => ?_)
    refine rn1 ?_
    refine sc ?_
    refine Gm ?_
    refine rn2 ?_
    refine s_B (cs := [v82, hv, v86]) Try.sizeOf46 ?_
    refine Ga2 ?_
    have er : Ar x s = (C4 x s.node (Ag (Ah x s.node) s.node (x.cores.length : Int) s.op).1 (Ag (Ah x s.node) s.node (x.cores.length : Int) s.op).2.1, (Ag (Ah x s.node) s.node (x.cores.length : Int) s.op).2.2.1, 0) := by unfold Ar Ca; rw [if_pos (by omega), if_neg (by omega), if_neg ht71]
    rw [er]
    exact Cg (v82, hv, v86, v65.2.2) Try.isAgg46 Try.sizeOf46
theorem Ta {L : List Chunk} {R : List Fact} {w : World} {n nl : Nat} {M : List Int} {cv hv fv : Value} {x : Chip} {s : Step} (hs : St (L) R w) (hc : sl cv x.cores ∈ R) (hh : sl hv x.home ∈ R) (hf : sl fv x.frames ∈ R) (h : Inv n nl x M) (hsw : s.wf) (hk : s.kind ≠ 1 ∧ s.kind ≠ 2 ∧ s.kind ≠ 3 ∧ s.kind ≠ 4 ∧ s.kind ≠ 5 ∧ s.kind ≠ 6) : Calls Try.prog 64 [.agg #[cv, hv, fv], .agg s.cells.toArray].toArray w (Ch (fun v : Value × Value × Value × Value => .tuple #[.agg #[v.1, v.2.1, v.2.2.1], v.2.2.2, vi (Ar x s).2.2]) (fun v => L) (fun v => sl v.1 (Ar x s).1.cores :: sl v.2.1 (Ar x s).1.home :: sl v.2.2.1 (Ar x s).1.frames :: sl v.2.2.2 (Ar x s).2.1 :: R)) := by
 have hn := h.n1
 have hnl := h.l1
 have hnc := h.nc
 have hnh := h.nh
 have hfr := h.fr
 have honec : cv.oneCell' = true := isSlice.one (hs.fact hc)
 have honeh : hv.oneCell' = true := isSlice.one (hs.fact hh)
 have honef : fv.oneCell' = true := isSlice.one (hs.fact hf)
 have hsw0 := hsw
 unfold Step.wf Am at hsw0
 have hop : s.op.wf := by unfold Op.wf Am; omega
 have hsn : Am s.node := by unfold Am; omega
 have hsN : Am s.n := by unfold Am; omega
 have hsb : Am s.bit := by unfold Am; omega
 have hn64 : Am (x.cores.length : Int) := by unfold Am; omega
 have hcw : (Az x).wf := by unfold Az Ca Config.wf Am; simp only; omega
 refine Aj Try.func64 rfl Try.ntmps64 rfl hs ?_
 clear hs
 refine Gm ?_
 refine bx ?_; intro b2
 refine bx ?_; intro b3
 refine al_ (cs := [.slice none 0 0, .slice none 0 0, .slice none 0 0]) Try.zeroValue46 ?_; intro b4
 refine Gb2 ?_
 refine Gb1 ?_
 refine Gb4 ?_
 refine Gb2 ?_
 refine ob (Af rfl rfl (Ak (by omega))) ?_
 refine Gd1 ?_
 refine ob (Af rfl rfl (Ak (by omega))) ?_
 refine Gd1 ?_
 refine ob (Af rfl rfl (Ak (by omega))) ?_
 refine Gd1 ?_
 refine ob (Af rfl rfl (Ak (by omega))) ?_
 refine Gd1 ?_
 refine ob (Af rfl rfl (Ak (by omega))) ?_
 refine Gd1 ?_
 refine ob (Af rfl rfl (Ak (by omega))) ?_
 refine Gc1 ?_
 refine JC.slNil Core ?_
 refine JC.slNil Entry ?_
 refine JC.slNil (List UInt8) ?_
 refine JC.slNil Done ?_
 refine Aa ?_
 refine rn1 ?_
 refine Dx (caps := []) (vs := [vi 1]) rfl Try.call95 rfl (fun w hs => Im hs) ?_; intro _
 refine rn3 ?_
 refine s_B (cs := [.slice none 0 0, .slice none 0 0, .slice none 0 0]) Try.sizeOf46 ?_
 refine Ga2 ?_
 have er : Ar x s = (Dw, [], 1) := by unfold Ar; rw [if_neg (by omega), if_neg (by omega), if_neg (by omega), if_neg (by omega), if_neg (by omega), if_neg (by omega)]
 rw [er]
 exact Cg (.slice none 0 0, .slice none 0 0, .slice none 0 0, .slice none 0 0) Try.isAgg46 Try.sizeOf46
end Go.Proofs.Ytofgpimoekhfaaa

/- This file proves what a step does to a chip, by the document's answer: some kinds of steps. No conditions. -/
set_option linter.unusedVariables false
set_option linter.unusedSimpArgs false
set_option maxHeartbeats 1000000
set_option maxRecDepth 8000
namespace Go.Proofs.Ytofgpimoekhfaaa
open Go
theorem S4 {L : List Chunk} {R : List Fact} {w : World} {n nl : Nat} {M : List Int} {cv hv fv : Value} {x : Chip} {s : Step} (hs : St (L) R w) (hc : sl cv x.cores ∈ R) (hh : sl hv x.home ∈ R) (hf : sl fv x.frames ∈ R) (h : Inv n nl x M) (hsw : s.wf) (hk : s.kind = 6) : Calls Try.prog 64 [.agg #[cv, hv, fv], .agg s.cells.toArray].toArray w (Ch (fun v : Value × Value × Value × Value => .tuple #[.agg #[v.1, v.2.1, v.2.2.1], v.2.2.2, vi (Ar x s).2.2]) (fun v => L) (fun v => sl v.1 (Ar x s).1.cores :: sl v.2.1 (Ar x s).1.home :: sl v.2.2.1 (Ar x s).1.frames :: sl v.2.2.2 (Ar x s).2.1 :: R)) := by
  have hn := h.n1
  have hnl := h.l1
  have hnc := h.nc
  have hnh := h.nh
  have hfr := h.fr
  have honec : cv.oneCell' = true := isSlice.one (hs.fact hc)
  have honeh : hv.oneCell' = true := isSlice.one (hs.fact hh)
  have honef : fv.oneCell' = true := isSlice.one (hs.fact hf)
  have hsw0 := hsw
  unfold Step.wf Am at hsw0
  have hop : s.op.wf := by unfold Op.wf Am; omega
  have hsn : Am s.node := by unfold Am; omega
  have hsN : Am s.n := by unfold Am; omega
  have hsb : Am s.bit := by unfold Am; omega
  have hn64 : Am (x.cores.length : Int) := by unfold Am; omega
  have hcw : (Az x).wf := by unfold Az Ca Config.wf Am; simp only; omega
  refine Aj Try.func64 rfl Try.ntmps64 rfl hs ?_
  clear hs
  refine Gm ?_
  refine bx ?_; intro b2
  refine bx ?_; intro b3
  refine al_ (cs := [.slice none 0 0, .slice none 0 0, .slice none 0 0]) Try.zeroValue46 ?_; intro b4
  refine Gb2 ?_
  refine Gb1 ?_
  refine Gb4 ?_
  refine Gb2 ?_
  refine ob (Af rfl rfl (Ak (by omega))) ?_
  refine Gd1 ?_
  refine ob (Af rfl rfl (As (by omega))) ?_
  refine Gc1 ?_
  rcases (show (s.node < 0) ∨ (0 ≤ s.node ∧ (x.cores.length : Int) < s.node) ∨ (0 ≤ s.node ∧ s.node < (x.cores.length : Int)) ∨ (s.node = (x.cores.length : Int)) from by omega) with hc | hc | hc | hc
  ·
   refine Aa ?_
   refine rn2 ?_
   refine ob (Af rfl rfl (Bt (by omega))) ?_
   refine Gc6 ?_
   refine JC.slNil Core ?_
   refine JC.slNil Entry ?_
   refine JC.slNil (List UInt8) ?_
   refine JC.slNil Done ?_
   refine Aa ?_
   refine rn1 ?_
   refine Dx (caps := []) (vs := [vi 5]) rfl Try.call95 rfl (fun w hs => Im hs) ?_; intro _
   refine rn3 ?_
   refine s_B (cs := [.slice none 0 0, .slice none 0 0, .slice none 0 0]) Try.sizeOf46 ?_
   refine Ga2 ?_
   have er : Ar x s = (Dw, [], 5) := by unfold Ar Ca; rw [if_neg (by omega), if_neg (by omega), if_neg (by omega), if_neg (by omega), if_neg (by omega), if_pos (by omega)]; rw [if_pos (by omega)]
   rw [er]
   exact Cg (.slice none 0 0, .slice none 0 0, .slice none 0 0, .slice none 0 0) Try.isAgg46 Try.sizeOf46
  ·
   refine Aa ?_
   refine rn2 ?_
   refine ob (Af rfl rfl (An (by omega))) ?_
   refine rn4 ?_
   refine gy ?_
   refine ob (Af rfl rfl (C0 (by omega))) ?_
   refine Gc1 ?_
   refine JC.slNil Core ?_
   refine JC.slNil Entry ?_
   refine JC.slNil (List UInt8) ?_
   refine JC.slNil Done ?_
   refine Aa ?_
   refine rn1 ?_
   refine Dx (caps := []) (vs := [vi 5]) rfl Try.call95 rfl (fun w hs => Im hs) ?_; intro _
   refine rn3 ?_
   refine s_B (cs := [.slice none 0 0, .slice none 0 0, .slice none 0 0]) Try.sizeOf46 ?_
   refine Ga2 ?_
   have er : Ar x s = (Dw, [], 5) := by unfold Ar Ca; rw [if_neg (by omega), if_neg (by omega), if_neg (by omega), if_neg (by omega), if_neg (by omega), if_pos (by omega)]; rw [if_pos (by omega)]
   rw [er]
   exact Cg (.slice none 0 0, .slice none 0 0, .slice none 0 0, .slice none 0 0) Try.isAgg46 Try.sizeOf46
  ·
   refine Aa ?_
   refine rn2 ?_
   refine ob (Af rfl rfl (An (by omega))) ?_
   refine rn4 ?_
   refine gy ?_
   refine ob (Af rfl rfl (Cp (by omega))) ?_
   refine Gd1 ?_
   refine rn3 ?_
   refine ob (Af rfl rfl (Bt (by omega))) ?_
   refine Glc ?_
   refine F6 (x := x) (v := cv) s.node mm (by omega) (by omega) (fun hwt u => ?_)
   have hkb : KB (Ah x s.node) := h.kb (p := s.node.toNat) (by omega)
   have hlb := h.lbs (p := s.node) (by omega)
   have hk4 := hkb.n
   refine cq_ (blk b2 46 [cv, hv, fv] :: blk b3 98 s.cells :: blk b4 46 [.slice none 0 0, .slice none 0 0, .slice none 0 0] :: L) ?_
   refine jd_ (fun ρ S => blk b2 46 (bif S 14 then [cv, hv, (Gh.dec (γ := Value) (ρ 12))] else [cv, hv, fv]) :: blk b3 98 s.cells :: blk b4 46 [.slice none 0 0, .slice none 0 0, .slice none 0 0] :: L) ?_
   refine dn1 ?_
   refine Ko (v := fv) (fun ρ S hS hB hA => by have h14 : S 14 = false := hA 14 ⟨0, rfl⟩; simp only [h14, cond_false]; exact Dn (hc := A2 pkk (by repeat (first | exact rfl | refine Eh rfl ?_))) Try.isAgg22) (fun _ _ _ _ _ => rfl) ?_
   refine dn1 ?_
   refine Ko (v := cv) (fun ρ S hS hB hA => by have h14 : S 14 = false := hA 14 ⟨0, rfl⟩; simp only [h14, cond_false]; exact Dn (hc := A2 pkk (by repeat (first | exact rfl | refine Eh rfl ?_))) Try.isAgg43) (fun _ _ _ _ _ => rfl) ?_
   refine dn2 ?_
   first | refine epc (fun _ _ => Gi Pp) ?_ | refine epc (fun _ _ => J1 Pp) ?_ | refine epp (fun _ _ => Gi Pp) ?_ | refine epp (fun _ _ => J1 Pp) ?_
   first | refine epc (fun _ _ => Se Try.isAgg69 Try.sizeOf69) ?_ | refine epc (fun _ _ => Dy 4 Try.isAgg69 Try.sizeOf69) ?_ | refine epc (fun _ _ => N7 4 Try.isAgg69 Try.sizeOf69) ?_ | refine epc (fun _ _ => q_lNf 4 Try.isAgg69 Try.sizeOf69) ?_ | refine epp (fun _ _ => Se Try.isAgg69 Try.sizeOf69) ?_ | refine epp (fun _ _ => Dy 4 Try.isAgg69 Try.sizeOf69) ?_ | refine epp (fun _ _ => N7 4 Try.isAgg69 Try.sizeOf69) ?_ | refine epp (fun _ _ => q_lNf 4 Try.isAgg69 Try.sizeOf69) ?_
   refine dn3 ?_
   refine Bn (γ := Value) (val := fun v => v) (F := fun v => [sl v (C7 (Ah x s.node) s.node (x.cores.length : Int))]) Try.call45 (fun _ => rfl) (fun ρ L R w hd hs => I0 (c := (Ah x s.node)) (id := s.node) (home := (x.cores.length : Int)) (u := u) hs (hd.base mm) hsn hn64) (fun _ _ _ _ _ => rfl) ?_
   refine Bn (γ := Value) (val := fun v => v) (F := fun v => [sl v (way x.frames (C7 (Ah x s.node) s.node (x.cores.length : Int)))]) Try.call97 (fun _ => rfl) (fun ρ L R w hd hs => Mm (fs := x.frames) (ms := (C7 (Ah x s.node) s.node (x.cores.length : Int))) hs (hd.base mm) (hd.dep (it := ⟨11, _, _, _, _⟩) (by repeat (first | exact List.Mem.head _ | refine List.Mem.tail _ ?_)) ⟨9, rfl⟩ (List.Mem.head _)) (Ou (by omega) (by omega) _ 0 (by omega) (by omega) (Tx (d := zLine) hlb))) (fun ρ g S hS hA => by have u14 : upS S 12 14 = S 14 := rfl; have h14 : S 14 = false := hA 14 ⟨0, rfl⟩; simp only [u14, h14, cond_false]) ?_
   refine dn1 ?_
   refine Fm (T0 := 46) (f := 2) (vs := fun ρ => [cv, hv, fv]) (v := fun ρ => (Gh.dec (γ := Value) (ρ 12))) (fun ρ => b2) Try.sizeOf22 (fun _ => rfl) (fun _ => rfl) (fun ρ S R w L9 hB hd hs => isSlice.one (hs.fact (hd.dep (it := ⟨12, _, _, _, _⟩) (by repeat (first | exact List.Mem.head _ | refine List.Mem.tail _ ?_)) ⟨9, rfl⟩ (List.Mem.head _)))) (fun _ => rfl) (fun ρ g S hS hB hA => ?_) ?_
   ·
    have ui : upS S 14 14 = true := rfl; have r12 : Rho.set ρ 14 g 12 = ρ 12 := rfl
    simp only [ui, hS, r12, cond_true, cond_false]
    exact Pos.ex (by repeat (first | exact .hd | exact .hc | apply Pos.tl | apply Pos.ap))
   refine dnl ?_; intro ρ
   refine xq_ (blk b2 46 [cv, hv, (Gh.dec (γ := Value) (ρ 12))] :: blk b3 98 s.cells :: blk b4 46 [.slice none 0 0, .slice none 0 0, .slice none 0 0] :: L) ?_
   generalize (Gh.dec (γ := Value) (ρ 11)) = v121
   generalize (Gh.dec (γ := Value) (ρ 12)) = v122
   refine Gl ?_
   refine JC.slNil Done ?_
   refine JC.know (p := v122.oneCell' = true) (fun w hs => isSlice.one (hs.fact (mm (f := sl v122 (way x.frames (C7 (Ah x s.node) s.node (x.cores.length : Int))))))) (fun honev122 => ?_)
   refine kp [2, 3, 4, 5, 6, 7, 8, 31, 124] ?_
   refine Aa ?_
   refine rn1 ?_
   refine s_B (cs := [cv, hv, v122]) Try.sizeOf46 ?_
   refine Ga2 ?_
   have er : Ar x s = (⟨x.cores, x.home, way x.frames (C7 (Ah x s.node) s.node (x.cores.length : Int))⟩, [], 0) := by unfold Ar Ca; rw [if_neg (by omega), if_neg (by omega), if_neg (by omega), if_neg (by omega), if_neg (by omega), if_pos (by omega)]; rw [if_neg (by omega), if_neg (by omega)]
   rw [er]
   exact Cg (cv, hv, v122, .slice none 0 0) Try.isAgg46 Try.sizeOf46
  ·
   refine Aa ?_
   refine rn2 ?_
   refine ob (Af rfl rfl (An (by omega))) ?_
   refine rn4 ?_
   refine gy ?_
   refine ob (Af rfl rfl (Cp (by omega))) ?_
   refine Gd1 ?_
   refine rn3 ?_
   refine ob (Af rfl rfl (An (by omega))) ?_
   refine Glc ?_
   have hnode : s.node = (x.cores.length : Int) := by omega
   refine Aa ?_
   refine Ga4 ?_
   refine Cu (γ := Nat × Value) (fun g => g.1 ≤ x.home.length) (fun g => blk b2 46 [cv, hv, g.2] :: blk b3 98 s.cells :: blk b4 46 [.slice none 0 0, .slice none 0 0, .slice none 0 0] :: L) (fun g => sl g.2 (way x.frames (Dq (x.cores.length : Int) 0 (x.home.take g.1))) :: R) (fun g => [(2, bp b2 0), (3, bp b3 0), (4, bp b4 0), (8, vi (x.cores.length : Int)), (126, hv), (127, vi (x.home.length : Int)), (128, vi (g.1 : Int))]) (fun g => x.home.length - g.1) (0, fv) (Nat.zero_le _) alT (fun w hs => Al (Ut hs hf)) ?_
   rintro ⟨k, vf⟩ hk
   try simp only at hk ⊢
   refine Gl ?_
   refine kp [2, 3, 4, 5, 6, 7, 8, 31, 126, 127, 128, 129] ?_
   refine Aa ?_
   refine Ga1 ?_
   refine cdx (p := ?p1) (hd := ?d1) ?e1 ?_ ?_; case e1 => exact rfl
   ·
    intro ht129
    refine Gl ?_
    refine Ti (l := x.home) (v := hv) k mm (by omega) (fun _ ue => ?_)
    refine JC.know (p := ue.oneCell' = true) (fun w hs => isSlice.one (hs.fact (.tail _ (.head _)))) (fun honeu => ?_)
    refine Aa ?_
    refine rn3 ?_
    refine al_ (cs := zEC) Try.zeroValue58 ?_; intro b14
    refine rn1 ?_
    refine s_B (cs := Entry.cells ue (x.home.getD k Bc)) Try.sizeOf58 ?_
    refine Gl ?_
    refine cq_ (blk b2 46 [cv, hv, vf] :: blk b14 58 (Entry.cells ue (x.home.getD k Bc)) :: blk b3 98 s.cells :: blk b4 46 [.slice none 0 0, .slice none 0 0, .slice none 0 0] :: L) ?_
    refine jd_ (fun ρ S => blk b2 46 (bif S 8 then [cv, hv, (Gh.dec (γ := Value) (ρ 6))] else [cv, hv, vf]) :: blk b14 58 (Entry.cells ue (x.home.getD k Bc)) :: blk b3 98 s.cells :: blk b4 46 [.slice none 0 0, .slice none 0 0, .slice none 0 0] :: L) ?_
    refine dn1 ?_
    refine Ko (v := vf) (fun ρ S hS hB hA => by have h8 : S 8 = false := hA 8 ⟨0, rfl⟩; simp only [h8, cond_false]; exact Dn (hc := A2 pkk (by repeat (first | exact rfl | refine Eh rfl ?_))) Try.isAgg22) (fun _ _ _ _ _ => rfl) ?_
    refine dn3 ?_
    refine Bn (γ := Value) (val := fun v => v) (F := fun v => [sl v (says (x.home.getD k Bc) (k : Int) (x.cores.length : Int))]) Try.call34 (fun _ => rfl) (fun ρ L R w hd hs => Gq (e := (x.home.getD k Bc)) (line := (k : Int)) (id := (x.cores.length : Int)) (u := ue) hs (h.ebs k (by omega)).1 honeu (by unfold Am; omega) hn64) (fun _ _ _ _ _ => rfl) ?_
    refine Bn (γ := Value) (val := fun v => v) (F := fun v => [sl v (way (way x.frames (Dq (x.cores.length : Int) 0 (x.home.take k))) (says (x.home.getD k Bc) (k : Int) (x.cores.length : Int)))]) Try.call97 (fun _ => rfl) (fun ρ L R w hd hs => Mm (fs := way x.frames (Dq (x.cores.length : Int) 0 (x.home.take k))) (ms := says (x.home.getD k Bc) (k : Int) (x.cores.length : Int)) hs (hd.base mm) (hd.dep (it := ⟨5, _, _, _, _⟩) (by repeat (first | exact List.Mem.head _ | refine List.Mem.tail _ ?_)) ⟨9, rfl⟩ (List.Mem.head _)) (by rw [hnc]; exact h.says_in k (by omega))) (fun ρ g S hS hA => by have u8 : upS S 6 8 = S 8 := rfl; have h8 : S 8 = false := hA 8 ⟨0, rfl⟩; simp only [u8, h8, cond_false]) ?_
    refine dn1 ?_
    refine Fm (T0 := 46) (f := 2) (vs := fun ρ => [cv, hv, vf]) (v := fun ρ => (Gh.dec (γ := Value) (ρ 6))) (fun ρ => b2) Try.sizeOf22 (fun _ => rfl) (fun _ => rfl) (fun ρ S R w L9 hB hd hs => isSlice.one (hs.fact (hd.dep (it := ⟨6, _, _, _, _⟩) (by repeat (first | exact List.Mem.head _ | refine List.Mem.tail _ ?_)) ⟨9, rfl⟩ (List.Mem.head _)))) (fun _ => rfl) (fun ρ g S hS hB hA => ?_) ?_
    ·
     have ui : upS S 8 8 = true := rfl; have r6 : Rho.set ρ 8 g 6 = ρ 6 := rfl
     simp only [ui, hS, r6, cond_true, cond_false]
     exact Pos.ex (by repeat (first | exact .hd | exact .hc | apply Pos.tl | apply Pos.ap))
    refine dnl ?_; intro ρ
    refine xq_ (blk b2 46 [cv, hv, (Gh.dec (γ := Value) (ρ 6))] :: blk b14 58 (Entry.cells ue (x.home.getD k Bc)) :: blk b3 98 s.cells :: blk b4 46 [.slice none 0 0, .slice none 0 0, .slice none 0 0] :: L) ?_
    generalize (Gh.dec (γ := Value) (ρ 5)) = v138
    generalize (Gh.dec (γ := Value) (ρ 6)) = v139
    refine Gm ?_
    refine Ga2 ?_
    refine Be (k + 1, v139) (by show k + 1 ≤ x.home.length; omega) (by show x.home.length - (k + 1) < x.home.length - k; omega) alT (fun w hs => ?_)
    try simp only
    rw [Ft Bc (by omega), Hu, Ij, List.length_take, Nat.min_eq_left (by omega), Int.zero_add]; exact Al hs
   ·
    intro ht129
    refine Gl ?_
    refine JC.slNil Done ?_
    refine JC.know (p := vf.oneCell' = true) (fun w hs => isSlice.one (hs.fact (mm (f := sl vf (way x.frames (Dq (x.cores.length : Int) 0 (x.home.take k))))))) (fun honevf => ?_)
    refine Aa ?_
    refine rn1 ?_
    refine s_B (cs := [cv, hv, vf]) Try.sizeOf46 ?_
    refine Ga2 ?_
    have er : Ar x s = (⟨x.cores, x.home, way x.frames (Dq (x.cores.length : Int) 0 (x.home.take k))⟩, [], 0) := by unfold Ar Ca; rw [if_neg (by omega), if_neg (by omega), if_neg (by omega), if_neg (by omega), if_neg (by omega), if_pos (by omega)]; rw [if_neg (by omega), if_pos (by omega), List.take_of_length_le (by omega), hnode]; rfl
    rw [er]
    exact Cg (cv, hv, vf, .slice none 0 0) Try.isAgg46 Try.sizeOf46
end Go.Proofs.Ytofgpimoekhfaaa

/- This file proves what a step does to a chip, by the document's answer: some kinds of steps. No conditions. -/
set_option linter.unusedVariables false
set_option linter.unusedSimpArgs false
set_option maxHeartbeats 1000000
set_option maxRecDepth 8000
namespace Go.Proofs.Ytofgpimoekhfaaa
open Go
theorem S6 {L : List Chunk} {R : List Fact} {w : World} {n nl : Nat} {M : List Int} {cv hv fv : Value} {x : Chip} {s : Step} (hs : St (L) R w) (hc : sl cv x.cores ∈ R) (hh : sl hv x.home ∈ R) (hf : sl fv x.frames ∈ R) (h : Inv n nl x M) (hsw : s.wf) (hk : s.kind = 4) : Calls Try.prog 64 [.agg #[cv, hv, fv], .agg s.cells.toArray].toArray w (Ch (fun v : Value × Value × Value × Value => .tuple #[.agg #[v.1, v.2.1, v.2.2.1], v.2.2.2, vi (Ar x s).2.2]) (fun v => L) (fun v => sl v.1 (Ar x s).1.cores :: sl v.2.1 (Ar x s).1.home :: sl v.2.2.1 (Ar x s).1.frames :: sl v.2.2.2 (Ar x s).2.1 :: R)) := by
  have hn := h.n1
  have hnl := h.l1
  have hnc := h.nc
  have hnh := h.nh
  have hfr := h.fr
  have honec : cv.oneCell' = true := isSlice.one (hs.fact hc)
  have honeh : hv.oneCell' = true := isSlice.one (hs.fact hh)
  have honef : fv.oneCell' = true := isSlice.one (hs.fact hf)
  have hsw0 := hsw
  unfold Step.wf Am at hsw0
  have hop : s.op.wf := by unfold Op.wf Am; omega
  have hsn : Am s.node := by unfold Am; omega
  have hsN : Am s.n := by unfold Am; omega
  have hsb : Am s.bit := by unfold Am; omega
  have hn64 : Am (x.cores.length : Int) := by unfold Am; omega
  have hcw : (Az x).wf := by unfold Az Ca Config.wf Am; simp only; omega
  refine Aj Try.func64 rfl Try.ntmps64 rfl hs ?_
  clear hs
  refine Gm ?_
  refine bx ?_; intro b2
  refine bx ?_; intro b3
  refine al_ (cs := [.slice none 0 0, .slice none 0 0, .slice none 0 0]) Try.zeroValue46 ?_; intro b4
  refine Gb2 ?_
  refine Gb1 ?_
  refine Gb4 ?_
  refine Gb2 ?_
  refine ob (Af rfl rfl (Ak (by omega))) ?_
  refine Gd1 ?_
  refine ob (Af rfl rfl (Ak (by omega))) ?_
  refine Gd1 ?_
  refine ob (Af rfl rfl (Ak (by omega))) ?_
  refine Gd1 ?_
  refine ob (Af rfl rfl (Ak (by omega))) ?_
  refine Gd1 ?_
  refine ob (Af rfl rfl (As (by omega))) ?_
  refine Gc1 ?_
  rcases (show (Cs x s.n) ∨ (¬ Cs x s.n) from by exact Classical.em _) with hc | hc
  ·
   have et : Cn x.frames s.n = ([], [], 5) := by unfold Cn; rw [if_pos (by unfold Cs at hc; exact hc)]
   refine Aa ?_
   refine rn4 ?_
   refine Aq (γ := Value × Value) (val := fun v => .tuple #[v.1, v.2, vi 5]) (Rf := fun v => sl v.1 ([] : Frames) :: sl v.2 ([] : List UInt8) :: R) Try.call23 rfl (fun w hs => by have h9 := Gn (l := x.frames) (n := s.n) hs mm hsN; rw [et] at h9; exact h9) ?_; intro ⟨va, vb⟩
   refine Ga7 ?_
   refine kp [2, 3, 4, 5, 6, 7, 8, 15, 16, 17, 157, 158] ?_
   refine Aa ?_
   refine rn1 ?_
   refine ob (Af rfl rfl (Cz (by decide))) ?_
   refine Glc ?_
   refine JC.slNil Core ?_
   refine JC.slNil Entry ?_
   refine JC.slNil (List UInt8) ?_
   refine JC.slNil Done ?_
   refine Aa ?_
   refine rn2 ?_
   refine Dx (caps := []) (vs := [vi 5]) rfl Try.call95 rfl (fun w hs => Im hs) ?_; intro _
   refine rn3 ?_
   refine s_B (cs := [.slice none 0 0, .slice none 0 0, .slice none 0 0]) Try.sizeOf46 ?_
   refine Ga2 ?_
   have er : Ar x s = (Dw, [], 5) := Ua (by omega) hc
   rw [er]
   exact Cg (.slice none 0 0, .slice none 0 0, .slice none 0 0, .slice none 0 0) Try.isAgg46 Try.sizeOf46
  ·
   have hnf := hc
   unfold Cs at hc
   have et : Cn x.frames s.n = ((x.frames.eraseIdx s.n.toNat), (Ay x.frames s.n), 0) := by unfold Cn; rw [if_neg hc]
   refine Aa ?_
   refine rn4 ?_
   refine Aq (γ := Value × Value) (val := fun v => .tuple #[v.1, v.2, vi 0]) (Rf := fun v => sl v.1 (x.frames.eraseIdx s.n.toNat) :: sl v.2 (Ay x.frames s.n) :: R) Try.call23 rfl (fun w hs => by have h9 := Gn (l := x.frames) (n := s.n) hs mm hsN; rw [et] at h9; exact h9) ?_; intro ⟨va, vb⟩
   refine Ga7 ?_
   refine kp [2, 3, 4, 5, 6, 7, 8, 15, 16, 17, 157, 158] ?_
   refine Aa ?_
   refine rn1 ?_
   refine ob (Af rfl rfl (Bv (by decide))) ?_
   refine Gmc ?_
   refine Gb2 ?_
   refine ob (Af rfl rfl (As (by omega))) ?_
   refine Gd1 ?_
   refine rn3 ?_
   refine Aq Try.call21 rfl (fun w hs => Qz (l := x.frames) (b := (Ay x.frames s.n)) hs mm mm) ?_; intro v172
   refine J.know (p := v172.oneCell' = true) (fun w hs => isSlice.one (hs.fact (List.Mem.head _))) (fun honev172 => ?_)
   refine rn1 ?_
   refine sc ?_
   refine Gl ?_
   refine JC.slNil Done ?_
   refine Aa ?_
   refine rn1 ?_
   refine s_B (cs := [cv, hv, v172]) Try.sizeOf46 ?_
   refine Ga2 ?_
   have er : Ar x s = (⟨x.cores, x.home, Fn x.frames (Ay x.frames s.n)⟩, [], 0) := by unfold Ar; rw [if_neg (by omega), if_neg (by omega), if_neg (by omega), if_pos (by omega), if_neg hnf]
   rw [er]
   exact Cg (cv, hv, v172, .slice none 0 0) Try.isAgg46 Try.sizeOf46
theorem S5 {L : List Chunk} {R : List Fact} {w : World} {n nl : Nat} {M : List Int} {cv hv fv : Value} {x : Chip} {s : Step} (hs : St (L) R w) (hc : sl cv x.cores ∈ R) (hh : sl hv x.home ∈ R) (hf : sl fv x.frames ∈ R) (h : Inv n nl x M) (hsw : s.wf) (hk : s.kind = 5) : Calls Try.prog 64 [.agg #[cv, hv, fv], .agg s.cells.toArray].toArray w (Ch (fun v : Value × Value × Value × Value => .tuple #[.agg #[v.1, v.2.1, v.2.2.1], v.2.2.2, vi (Ar x s).2.2]) (fun v => L) (fun v => sl v.1 (Ar x s).1.cores :: sl v.2.1 (Ar x s).1.home :: sl v.2.2.1 (Ar x s).1.frames :: sl v.2.2.2 (Ar x s).2.1 :: R)) := by
  have hn := h.n1
  have hnl := h.l1
  have hnc := h.nc
  have hnh := h.nh
  have hfr := h.fr
  have honec : cv.oneCell' = true := isSlice.one (hs.fact hc)
  have honeh : hv.oneCell' = true := isSlice.one (hs.fact hh)
  have honef : fv.oneCell' = true := isSlice.one (hs.fact hf)
  have hsw0 := hsw
  unfold Step.wf Am at hsw0
  have hop : s.op.wf := by unfold Op.wf Am; omega
  have hsn : Am s.node := by unfold Am; omega
  have hsN : Am s.n := by unfold Am; omega
  have hsb : Am s.bit := by unfold Am; omega
  have hn64 : Am (x.cores.length : Int) := by unfold Am; omega
  have hcw : (Az x).wf := by unfold Az Ca Config.wf Am; simp only; omega
  refine Aj Try.func64 rfl Try.ntmps64 rfl hs ?_
  clear hs
  refine Gm ?_
  refine bx ?_; intro b2
  refine bx ?_; intro b3
  refine al_ (cs := [.slice none 0 0, .slice none 0 0, .slice none 0 0]) Try.zeroValue46 ?_; intro b4
  refine Gb2 ?_
  refine Gb1 ?_
  refine Gb4 ?_
  refine Gb2 ?_
  refine ob (Af rfl rfl (Ak (by omega))) ?_
  refine Gd1 ?_
  refine ob (Af rfl rfl (Ak (by omega))) ?_
  refine Gd1 ?_
  refine ob (Af rfl rfl (Ak (by omega))) ?_
  refine Gd1 ?_
  refine ob (Af rfl rfl (Ak (by omega))) ?_
  refine Gd1 ?_
  refine ob (Af rfl rfl (Ak (by omega))) ?_
  refine Gd1 ?_
  refine ob (Af rfl rfl (As (by omega))) ?_
  refine Gc1 ?_
  rcases (show (Cs x s.n) ∨ (¬ Cs x s.n) from by exact Classical.em _) with hc | hc
  ·
   have et : Cn x.frames s.n = ([], [], 5) := by unfold Cn; rw [if_pos (by unfold Cs at hc; exact hc)]
   refine Aa ?_
   refine rn4 ?_
   refine Aq (γ := Value × Value) (val := fun v => .tuple #[v.1, v.2, vi 5]) (Rf := fun v => sl v.1 ([] : Frames) :: sl v.2 ([] : List UInt8) :: R) Try.call23 rfl (fun w hs => by have h9 := Gn (l := x.frames) (n := s.n) hs mm hsN; rw [et] at h9; exact h9) ?_; intro ⟨va, vb⟩
   refine Ga7 ?_
   refine kp [2, 3, 4, 5, 6, 7, 8, 15, 16, 17, 157, 158] ?_
   refine Aa ?_
   refine rn1 ?_
   refine ob (Af rfl rfl (Cz (by decide))) ?_
   refine Glc ?_
   refine JC.slNil Core ?_
   refine JC.slNil Entry ?_
   refine JC.slNil (List UInt8) ?_
   refine JC.slNil Done ?_
   refine Aa ?_
   refine rn2 ?_
   refine Dx (caps := []) (vs := [vi 5]) rfl Try.call95 rfl (fun w hs => Im hs) ?_; intro _
   refine rn3 ?_
   refine s_B (cs := [.slice none 0 0, .slice none 0 0, .slice none 0 0]) Try.sizeOf46 ?_
   refine Ga2 ?_
   have er : Ar x s = (Dw, [], 5) := Ua (by omega) hc
   rw [er]
   exact Cg (.slice none 0 0, .slice none 0 0, .slice none 0 0, .slice none 0 0) Try.isAgg46 Try.sizeOf46
  ·
   have hnf := hc
   unfold Cs at hc
   have et : Cn x.frames s.n = ((x.frames.eraseIdx s.n.toNat), (Ay x.frames s.n), 0) := by unfold Cn; rw [if_neg hc]
   refine Aa ?_
   refine rn4 ?_
   refine Aq (γ := Value × Value) (val := fun v => .tuple #[v.1, v.2, vi 0]) (Rf := fun v => sl v.1 (x.frames.eraseIdx s.n.toNat) :: sl v.2 (Ay x.frames s.n) :: R) Try.call23 rfl (fun w hs => by have h9 := Gn (l := x.frames) (n := s.n) hs mm hsN; rw [et] at h9; exact h9) ?_; intro ⟨va, vb⟩
   refine Ga7 ?_
   refine kp [2, 3, 4, 5, 6, 7, 8, 15, 16, 17, 157, 158] ?_
   refine Aa ?_
   refine rn1 ?_
   refine ob (Af rfl rfl (Bv (by decide))) ?_
   refine Gmc ?_
   refine Gb2 ?_
   refine ob (Af rfl rfl (Ak (by omega))) ?_
   refine Gd1 ?_
   refine ob (Af rfl rfl (As (by omega))) ?_
   refine Gd1 ?_
   refine rn6 ?_
   refine Aq Try.call57 rfl (fun w hs => Oy (c := (Az x)) (b := (Ay x.frames s.n)) hs mm hcw) ?_; intro _
   refine rn3 ?_
   refine al_ (cs := zMsg.cells) Try.zeroValue42 ?_; intro b18
   refine s_B (cs := (Ai (Az x) (Ay x.frames s.n)).1.cells) Try.sizeOf42 ?_
   refine Gb1 ?_
   refine Ga2 ?_
   refine cdx (p := ?p1) (hd := ?d1) ?e1 ?_ ?_; case e1 => exact rfl
   ·
    intro ht188
    refine Gl ?_
    refine JC.slNil Core ?_
    refine JC.slNil Entry ?_
    refine JC.slNil (List UInt8) ?_
    refine JC.slNil Done ?_
    refine Aa ?_
    refine rn1 ?_
    refine Dx (caps := []) (vs := [vi 6]) rfl Try.call95 rfl (fun w hs => Im hs) ?_; intro _
    refine rn3 ?_
    refine s_B (cs := [.slice none 0 0, .slice none 0 0, .slice none 0 0]) Try.sizeOf46 ?_
    refine Ga2 ?_
    have er : Ar x s = (Dw, [], 6) := by unfold Ar; rw [if_neg (by omega), if_neg (by omega), if_neg (by omega), if_neg (by omega), if_pos (by omega), if_neg hnf]; rw [if_pos ht188]
    rw [er]
    exact Cg (.slice none 0 0, .slice none 0 0, .slice none 0 0, .slice none 0 0) Try.isAgg46 Try.sizeOf46
   ·
    intro ht188
    refine Gl ?_
    have hb12 : (Ay x.frames s.n).length = 12 := (h.mi _ (Hz hc)).1
    rcases (show (s.bit < 0) ∨ (0 ≤ s.bit ∧ 8 * ((Ay x.frames s.n).length : Int) ≤ s.bit) ∨ (0 ≤ s.bit ∧ s.bit < 8 * ((Ay x.frames s.n).length : Int)) from by omega) with hc | hc | hc
    ·
     have esp : Ev x.frames s.n s.bit = ([], 3) := by unfold Ev; rw [if_neg (by omega), if_pos (by omega)]
     refine Aa ?_
     refine rn2 ?_
     refine ob (Af rfl rfl (Bt (by omega))) ?_
     refine Gc8 ?_
     refine JC.slNil Core ?_
     refine JC.slNil Entry ?_
     refine JC.slNil (List UInt8) ?_
     refine JC.slNil Done ?_
     refine kp [2, 3, 4, 5, 6, 7, 8, 15, 16, 17, 205, 206, 207, 208, 209] ?_
     refine Aa ?_
     refine rn1 ?_
     refine Dx (caps := []) (vs := [vi 3]) rfl Try.call95 rfl (fun w hs => Im hs) ?_; intro _
     refine rn3 ?_
     refine s_B (cs := [.slice none 0 0, .slice none 0 0, .slice none 0 0]) Try.sizeOf46 ?_
     refine Ga2 ?_
     have er : Ar x s = (Dw, [], 3) := by unfold Ar; rw [if_neg (by omega), if_neg (by omega), if_neg (by omega), if_neg (by omega), if_pos (by omega), if_neg hnf]; rw [if_neg ht188, esp, if_pos (by decide)]
     rw [er]
     exact Cg (.slice none 0 0, .slice none 0 0, .slice none 0 0, .slice none 0 0) Try.isAgg46 Try.sizeOf46
    ·
     have esp : Ev x.frames s.n s.bit = ([], 3) := by unfold Ev; rw [if_neg (by omega), if_pos (by omega)]
     refine Aa ?_
     refine rn2 ?_
     refine ob (Af rfl rfl (An (by omega))) ?_
     refine rn5 ?_
     refine gy ?_
     refine ob (Af (a := 8) (b := ((Ay x.frames s.n).length : Int)) rfl rfl (Ns (by omega) (by omega))) ?_
     refine gy ?_
     refine ob (Af rfl rfl (Cv (by omega))) ?_
     refine Gc1 ?_
     refine JC.slNil Core ?_
     refine JC.slNil Entry ?_
     refine JC.slNil (List UInt8) ?_
     refine JC.slNil Done ?_
     refine kp [2, 3, 4, 5, 6, 7, 8, 15, 16, 17, 205, 206, 207, 208, 209] ?_
     refine Aa ?_
     refine rn1 ?_
     refine Dx (caps := []) (vs := [vi 3]) rfl Try.call95 rfl (fun w hs => Im hs) ?_; intro _
     refine rn3 ?_
     refine s_B (cs := [.slice none 0 0, .slice none 0 0, .slice none 0 0]) Try.sizeOf46 ?_
     refine Ga2 ?_
     have er : Ar x s = (Dw, [], 3) := by unfold Ar; rw [if_neg (by omega), if_neg (by omega), if_neg (by omega), if_neg (by omega), if_pos (by omega), if_neg hnf]; rw [if_neg ht188, esp, if_pos (by decide)]
     rw [er]
     exact Cg (.slice none 0 0, .slice none 0 0, .slice none 0 0, .slice none 0 0) Try.isAgg46 Try.sizeOf46
    ·
     have esp : Ev x.frames s.n s.bit = (x.frames.set s.n.toNat (Bj (Ay x.frames s.n) s.bit), 0) := by unfold Ev; rw [if_neg (by omega), if_neg (by omega)]
     refine Aa ?_
     refine rn2 ?_
     refine ob (Af rfl rfl (An (by omega))) ?_
     refine rn5 ?_
     refine gy ?_
     refine ob (Af (a := 8) (b := ((Ay x.frames s.n).length : Int)) rfl rfl (Ns (by omega) (by omega))) ?_
     refine gy ?_
     refine ob (Af rfl rfl (A4 (by omega))) ?_
     refine Gc1 ?_
     refine kp [2, 3, 4, 5, 6, 8, 15, 16, 17, 20, 210, 211, 212, 213] ?_
     refine Aa ?_
     refine liO ([] : Frames) Nc rfl (fun j h => Fw) ?_; intro v210
     refine rn2 ?_
     refine ap Nc (hb := fun w hs => by have : maxN = 16777216 := rfl; simp only [List.length_nil]; omega) (k := ?_); intro v213
     refine Ga1 ?_
     refine cq_ (row 23 v213 x.frames :: blk b2 46 [cv, hv, fv] :: blk b3 98 s.cells :: blk b4 46 [.slice none 0 0, .slice none 0 0, .slice none 0 0] :: L) ?_
     refine jd_ (fun ρ S => row 23 v213 (bif S 8 then (x.frames.set s.n.toNat (Bj (Ay x.frames s.n) s.bit)) else x.frames) :: blk b2 46 [cv, hv, fv] :: blk b3 98 s.cells :: blk b4 46 [.slice none 0 0, .slice none 0 0, .slice none 0 0] :: L) ?_
     refine dn6 ?_
     refine Bn (γ := Value) (val := fun v => v) (F := fun v => [sl v (Bj (Ay x.frames s.n) s.bit)]) Try.call26 (fun _ => rfl) (fun ρ L R w hd hs => Jy (b := (Ay x.frames s.n)) (bit := s.bit) hs (hd.base mm) hsb) (fun _ _ _ _ _ => rfl) ?_
     refine Jn (v := ep v213 1 s.n.toNat 0) (fun ρ S => J1 (v := v213) (len := (bif S 8 then (x.frames.set s.n.toNat (Bj (Ay x.frames s.n) s.bit)) else x.frames).length) (i := s.n) so_22 (hl := Eb .hd) (h0 := by omega) (h1 := by cases S 8 <;> simp <;> omega)) (fun _ _ _ _ _ => rfl) ?_
     refine T8 (T0 := 23) (v := v213) (xs := x.frames) (k := s.n.toNat) (e' := (Bj (Ay x.frames s.n) s.bit)) (c := fun ρ => (Gh.dec (γ := Value) (ρ 6))) (cs := fun ρ => [(Gh.dec (γ := Value) (ρ 6))]) Try.sizeOf23 rfl (by omega) (fun _ => rfl) (fun _ => rfl) (fun _ h => F0 h) (fun ρ R w L' hd hs => isSlice.one (hs.fact (hd.dep (it := ⟨6, _, _, _, _⟩) (by repeat (first | exact List.Mem.head _ | refine List.Mem.tail _ ?_)) ⟨9, rfl⟩ (List.Mem.head _)))) (fun ρ R hd j hj => ⟨_, rfl, hj _ (hd.dep (it := ⟨6, _, _, _, _⟩) (by repeat (first | exact List.Mem.head _ | refine List.Mem.tail _ ?_)) ⟨9, rfl⟩ (List.Mem.head _))⟩) (fun ρ g S hS hB hA => ?_) ?_
     ·
      have ui : upS S 8 8 = true := rfl
      simp only [ui, hS, cond_true, cond_false]
      exact Pos.ex (by repeat (first | exact .hd | exact .hc | apply Pos.tl | apply Pos.ap))
     refine dnl ?_; intro ρ
     refine xq_ (row 23 v213 (x.frames.set s.n.toNat (Bj (Ay x.frames s.n) s.bit)) :: blk b2 46 [cv, hv, fv] :: blk b3 98 s.cells :: blk b4 46 [.slice none 0 0, .slice none 0 0, .slice none 0 0] :: L) ?_
     generalize (Gh.dec (γ := Value) (ρ 6)) = v220
     refine Gl ?_
     refine JC.shut (v := v213) pkk ?_
     refine JC.know (p := v213.oneCell' = true) (fun w hs => isSlice.one (hs.fact (List.Mem.head _))) (fun honev213 => ?_)
     refine Aa ?_
     refine rn2 ?_
     refine sc ?_
     refine Gl ?_
     refine JC.slNil Done ?_
     refine Aa ?_
     refine rn1 ?_
     refine s_B (cs := [cv, hv, v213]) Try.sizeOf46 ?_
     refine Ga2 ?_
     have er : Ar x s = (⟨x.cores, x.home, x.frames.set s.n.toNat (Bj (Ay x.frames s.n) s.bit)⟩, [], 0) := by unfold Ar; rw [if_neg (by omega), if_neg (by omega), if_neg (by omega), if_neg (by omega), if_pos (by omega), if_neg hnf]; rw [if_neg ht188, esp, if_neg (fun h => h rfl)]
     rw [er]
     exact Cg (cv, hv, v213, .slice none 0 0) Try.isAgg46 Try.sizeOf46
end Go.Proofs.Ytofgpimoekhfaaa

/- This file proves what a step does to a chip, by the document's answer: some kinds of steps. No conditions. -/
set_option linter.unusedVariables false
set_option linter.unusedSimpArgs false
set_option maxHeartbeats 1000000
set_option maxRecDepth 8000
namespace Go.Proofs.Ytofgpimoekhfaaa
open Go
theorem S7 {L : List Chunk} {R : List Fact} {w : World} {n nl : Nat} {M : List Int} {cv hv fv : Value} {x : Chip} {s : Step} (hs : St (L) R w) (hc : sl cv x.cores ∈ R) (hh : sl hv x.home ∈ R) (hf : sl fv x.frames ∈ R) (h : Inv n nl x M) (hsw : s.wf) (hk : s.kind = 3) : Calls Try.prog 64 [.agg #[cv, hv, fv], .agg s.cells.toArray].toArray w (Ch (fun v : Value × Value × Value × Value => .tuple #[.agg #[v.1, v.2.1, v.2.2.1], v.2.2.2, vi (Ar x s).2.2]) (fun v => L) (fun v => sl v.1 (Ar x s).1.cores :: sl v.2.1 (Ar x s).1.home :: sl v.2.2.1 (Ar x s).1.frames :: sl v.2.2.2 (Ar x s).2.1 :: R)) := by
  have hn := h.n1
  have hnl := h.l1
  have hnc := h.nc
  have hnh := h.nh
  have hfr := h.fr
  have honec : cv.oneCell' = true := isSlice.one (hs.fact hc)
  have honeh : hv.oneCell' = true := isSlice.one (hs.fact hh)
  have honef : fv.oneCell' = true := isSlice.one (hs.fact hf)
  have hsw0 := hsw
  unfold Step.wf Am at hsw0
  have hop : s.op.wf := by unfold Op.wf Am; omega
  have hsn : Am s.node := by unfold Am; omega
  have hsN : Am s.n := by unfold Am; omega
  have hsb : Am s.bit := by unfold Am; omega
  have hn64 : Am (x.cores.length : Int) := by unfold Am; omega
  have hcw : (Az x).wf := by unfold Az Ca Config.wf Am; simp only; omega
  refine Aj Try.func64 rfl Try.ntmps64 rfl hs ?_
  clear hs
  refine Gm ?_
  refine bx ?_; intro b2
  refine bx ?_; intro b3
  refine al_ (cs := [.slice none 0 0, .slice none 0 0, .slice none 0 0]) Try.zeroValue46 ?_; intro b4
  refine Gb2 ?_
  refine Gb1 ?_
  refine Gb4 ?_
  refine Gb2 ?_
  refine ob (Af rfl rfl (Ak (by omega))) ?_
  refine Gd1 ?_
  refine ob (Af rfl rfl (Ak (by omega))) ?_
  refine Gd1 ?_
  refine ob (Af rfl rfl (Ak (by omega))) ?_
  refine Gd1 ?_
  refine ob (Af rfl rfl (As (by omega))) ?_
  refine Gc1 ?_
  rcases (show (Cs x s.n) ∨ (¬ Cs x s.n) from by exact Classical.em _) with hc | hc
  ·
   have et : Cn x.frames s.n = ([], [], 5) := by unfold Cn; rw [if_pos (by unfold Cs at hc; exact hc)]
   refine Aa ?_
   refine rn4 ?_
   refine Aq (γ := Value × Value) (val := fun v => .tuple #[v.1, v.2, vi 5]) (Rf := fun v => sl v.1 ([] : Frames) :: sl v.2 ([] : List UInt8) :: R) Try.call23 rfl (fun w hs => by have h9 := Gn (l := x.frames) (n := s.n) hs mm hsN; rw [et] at h9; exact h9) ?_; intro ⟨va, vb⟩
   refine Ga7 ?_
   refine kp [2, 3, 4, 5, 6, 7, 8, 15, 16, 17, 157, 158] ?_
   refine Aa ?_
   refine rn1 ?_
   refine ob (Af rfl rfl (Cz (by decide))) ?_
   refine Glc ?_
   refine JC.slNil Core ?_
   refine JC.slNil Entry ?_
   refine JC.slNil (List UInt8) ?_
   refine JC.slNil Done ?_
   refine Aa ?_
   refine rn2 ?_
   refine Dx (caps := []) (vs := [vi 5]) rfl Try.call95 rfl (fun w hs => Im hs) ?_; intro _
   refine rn3 ?_
   refine s_B (cs := [.slice none 0 0, .slice none 0 0, .slice none 0 0]) Try.sizeOf46 ?_
   refine Ga2 ?_
   have er : Ar x s = (Dw, [], 5) := Ua (by omega) hc
   rw [er]
   exact Cg (.slice none 0 0, .slice none 0 0, .slice none 0 0, .slice none 0 0) Try.isAgg46 Try.sizeOf46
  ·
   have hnf := hc
   unfold Cs at hc
   have et : Cn x.frames s.n = ((x.frames.eraseIdx s.n.toNat), (Ay x.frames s.n), 0) := by unfold Cn; rw [if_neg hc]
   refine Aa ?_
   refine rn4 ?_
   refine Aq (γ := Value × Value) (val := fun v => .tuple #[v.1, v.2, vi 0]) (Rf := fun v => sl v.1 (x.frames.eraseIdx s.n.toNat) :: sl v.2 (Ay x.frames s.n) :: R) Try.call23 rfl (fun w hs => by have h9 := Gn (l := x.frames) (n := s.n) hs mm hsN; rw [et] at h9; exact h9) ?_; intro ⟨va, vb⟩
   refine Ga7 ?_
   refine kp [2, 3, 4, 5, 6, 7, 8, 15, 16, 17, 157, 158] ?_
   refine Aa ?_
   refine rn1 ?_
   refine ob (Af rfl rfl (Bv (by decide))) ?_
   refine Gmc ?_
   refine Gb2 ?_
   refine ob (Af rfl rfl (Ak (by omega))) ?_
   refine Gd1 ?_
   refine ob (Af rfl rfl (Ak (by omega))) ?_
   refine Gc1 ?_
   refine JC.know (p := va.oneCell' = true) (fun w hs => isSlice.one (hs.fact (mm (f := sl va (x.frames.eraseIdx s.n.toNat))))) (fun honea => ?_)
   refine Aa ?_
   refine rn2 ?_
   refine sc ?_
   refine Gm ?_
   refine rn2 ?_
   refine ob (Af rfl rfl (As (by omega))) ?_
   refine Glc ?_
   refine JC.slNil Done ?_
   refine Aa ?_
   refine rn1 ?_
   refine s_B (cs := [cv, hv, va]) Try.sizeOf46 ?_
   refine Ga2 ?_
   have er : Ar x s = (⟨x.cores, x.home, (x.frames.eraseIdx s.n.toNat)⟩, [], 0) := by unfold Ar; rw [if_neg (by omega), if_neg (by omega), if_pos (by omega), if_neg hnf]
   rw [er]
   exact Cg (cv, hv, va, .slice none 0 0) Try.isAgg46 Try.sizeOf46
theorem S8 {L : List Chunk} {R : List Fact} {w : World} {n nl : Nat} {M : List Int} {cv hv fv : Value} {x : Chip} {s : Step} (hs : St (L) R w) (hc : sl cv x.cores ∈ R) (hh : sl hv x.home ∈ R) (hf : sl fv x.frames ∈ R) (h : Inv n nl x M) (hsw : s.wf) (hk : s.kind = 2) : Calls Try.prog 64 [.agg #[cv, hv, fv], .agg s.cells.toArray].toArray w (Ch (fun v : Value × Value × Value × Value => .tuple #[.agg #[v.1, v.2.1, v.2.2.1], v.2.2.2, vi (Ar x s).2.2]) (fun v => L) (fun v => sl v.1 (Ar x s).1.cores :: sl v.2.1 (Ar x s).1.home :: sl v.2.2.1 (Ar x s).1.frames :: sl v.2.2.2 (Ar x s).2.1 :: R)) := by
  have hn := h.n1
  have hnl := h.l1
  have hnc := h.nc
  have hnh := h.nh
  have hfr := h.fr
  have honec : cv.oneCell' = true := isSlice.one (hs.fact hc)
  have honeh : hv.oneCell' = true := isSlice.one (hs.fact hh)
  have honef : fv.oneCell' = true := isSlice.one (hs.fact hf)
  have hsw0 := hsw
  unfold Step.wf Am at hsw0
  have hop : s.op.wf := by unfold Op.wf Am; omega
  have hsn : Am s.node := by unfold Am; omega
  have hsN : Am s.n := by unfold Am; omega
  have hsb : Am s.bit := by unfold Am; omega
  have hn64 : Am (x.cores.length : Int) := by unfold Am; omega
  have hcw : (Az x).wf := by unfold Az Ca Config.wf Am; simp only; omega
  refine Aj Try.func64 rfl Try.ntmps64 rfl hs ?_
  clear hs
  refine Gm ?_
  refine bx ?_; intro b2
  refine bx ?_; intro b3
  refine al_ (cs := [.slice none 0 0, .slice none 0 0, .slice none 0 0]) Try.zeroValue46 ?_; intro b4
  refine Gb2 ?_
  refine Gb1 ?_
  refine Gb4 ?_
  refine Gb2 ?_
  refine ob (Af rfl rfl (Ak (by omega))) ?_
  refine Gd1 ?_
  refine ob (Af rfl rfl (Ak (by omega))) ?_
  refine Gd1 ?_
  refine ob (Af rfl rfl (As (by omega))) ?_
  refine Gc1 ?_
  rcases (show (Cs x s.n) ∨ (¬ Cs x s.n) from by exact Classical.em _) with hc | hc
  ·
   have et : Cn x.frames s.n = ([], [], 5) := by unfold Cn; rw [if_pos (by unfold Cs at hc; exact hc)]
   refine Aa ?_
   refine rn4 ?_
   refine Aq (γ := Value × Value) (val := fun v => .tuple #[v.1, v.2, vi 5]) (Rf := fun v => sl v.1 ([] : Frames) :: sl v.2 ([] : List UInt8) :: R) Try.call23 rfl (fun w hs => by have h9 := Gn (l := x.frames) (n := s.n) hs mm hsN; rw [et] at h9; exact h9) ?_; intro ⟨va, vb⟩
   refine Gb7 ?_
   refine rn1 ?_
   refine ob (Af rfl rfl (Cz (by decide))) ?_
   refine Glc ?_
   refine JC.slNil Core ?_
   refine JC.slNil Entry ?_
   refine JC.slNil (List UInt8) ?_
   refine JC.slNil Done ?_
   refine kp [2, 3, 4, 5, 6, 7, 8, 15, 16, 17, 159, 160, 161, 162, 163, 164] ?_
   refine Aa ?_
   refine rn2 ?_
   refine Dx (caps := []) (vs := [vi 5]) rfl Try.call95 rfl (fun w hs => Im hs) ?_; intro _
   refine rn3 ?_
   refine s_B (cs := [.slice none 0 0, .slice none 0 0, .slice none 0 0]) Try.sizeOf46 ?_
   refine Ga2 ?_
   have er : Ar x s = (Dw, [], 5) := Ua (by omega) hc
   rw [er]
   exact Cg (.slice none 0 0, .slice none 0 0, .slice none 0 0, .slice none 0 0) Try.isAgg46 Try.sizeOf46
  ·
   have hnf := hc
   unfold Cs at hc
   have et : Cn x.frames s.n = ((x.frames.eraseIdx s.n.toNat), (Ay x.frames s.n), 0) := by unfold Cn; rw [if_neg hc]
   refine Aa ?_
   refine rn4 ?_
   refine Aq (γ := Value × Value) (val := fun v => .tuple #[v.1, v.2, vi 0]) (Rf := fun v => sl v.1 (x.frames.eraseIdx s.n.toNat) :: sl v.2 (Ay x.frames s.n) :: R) Try.call23 rfl (fun w hs => by have h9 := Gn (l := x.frames) (n := s.n) hs mm hsN; rw [et] at h9; exact h9) ?_; intro ⟨va, vb⟩
   refine Gb7 ?_
   refine rn1 ?_
   refine ob (Af rfl rfl (Bv (by decide))) ?_
   refine Glc ?_
   refine kp [2, 3, 4, 5, 6, 7, 8, 15, 16, 17, 165, 166] ?_
   refine Aa ?_
   refine Gb2 ?_
   refine ob (Af rfl rfl (Ak (by omega))) ?_
   refine Gd1 ?_
   refine ob (Af rfl rfl (Ak (by omega))) ?_
   refine Gc1 ?_
   refine JC.know (p := va.oneCell' = true) (fun w hs => isSlice.one (hs.fact (mm (f := sl va (x.frames.eraseIdx s.n.toNat))))) (fun honea => ?_)
   refine Aa ?_
   refine rn2 ?_
   refine sc ?_
   refine Gm ?_
   refine rn2 ?_
   refine ob (Af rfl rfl (Ak (by omega))) ?_
   refine Gmc ?_
   refine rn6 ?_
   refine Aq Try.call57 rfl (fun w hs => Oy (c := (Az x)) (b := (Ay x.frames s.n)) hs mm hcw) ?_; intro _
   refine rn3 ?_
   refine al_ (cs := zMsg.cells) Try.zeroValue42 ?_; intro b21
   refine s_B (cs := (Ai (Az x) (Ay x.frames s.n)).1.cells) Try.sizeOf42 ?_
   refine Gb1 ?_
   refine Ga2 ?_
   refine cdx (p := ?p1) (hd := ?d1) ?e1 ?_ ?_; case e1 => exact rfl
   ·
    intro ht242
    refine Gl ?_
    refine JC.slNil Done ?_
    refine Aa ?_
    refine rn1 ?_
    refine s_B (cs := [cv, hv, va]) Try.sizeOf46 ?_
    refine Ga2 ?_
    have er : Ar x s = (⟨x.cores, x.home, (x.frames.eraseIdx s.n.toNat)⟩, [], 0) := by unfold Ar; rw [if_neg (by omega), if_pos (by omega), if_neg hnf]; unfold Eg; rw [show Az ⟨x.cores, x.home, (x.frames.eraseIdx s.n.toNat)⟩ = Az x from rfl]; rw [if_pos ht242]
    rw [er]
    exact Cg (cv, hv, va, .slice none 0 0) Try.isAgg46 Try.sizeOf46
   ·
    intro ht242
    refine Gl ?_
    have hp0 : (Ai (Az x) (Ay x.frames s.n)).2 = 0 := Decidable.not_not.1 ht242
    have hpk := Jj (c := (Az x)) (b := (Ay x.frames s.n)) (m := (Ai (Az x) (Ay x.frames s.n)).1) (by rw [← hp0])
    have hwk := Hq hpk.2.2.2.2.1
    have hpw : (Ai (Az x) (Ay x.frames s.n)).1.wf := by rw [hpk.2.2.2.2.2]; exact O2 _
    have ecn : (Az x).cores = (x.cores.length : Int) := rfl
    rw [ecn] at hwk
    refine JC.slNil Done ?_
    refine Aa ?_
    refine Ga4 ?_
    refine cdx (p := ?p2) (hd := ?d2) ?e2 ?_ ?_; case e2 => exact rfl
    ·
     intro ht247
     refine Gl ?_
     refine kp [2, 4, 5, 6, 8, 21, 22, 23, 248, 249, 250, 251, 252, 253, 254, 255] ?_
     refine Aa ?_
     refine rn4 ?_
     refine Aq Try.call30 rfl (fun w hs => N5 (l := x.home) (id := (x.cores.length : Int)) (m := (Ai (Az x) (Ay x.frames s.n)).1) hs mm (fun i hi => (h.ebs i hi).1) (fun i hi => (h.ebs i hi).2.2.2.2) hpw hn64) ?_; intro ⟨v253a, v253b⟩
     refine Ga5 ?_
     refine JC.know (p := v253a.oneCell' = true) (fun w hs => isSlice.one (hs.fact (mm (f := sl v253a (Ao x.home (x.cores.length : Int) (Ai (Az x) (Ay x.frames s.n)).1).1)))) (fun honeva => ?_)
     refine Aa ?_
     refine rn2 ?_
     refine sc ?_
     refine Gm ?_
     refine rn3 ?_
     refine Aq Try.call97 rfl (fun w hs => Mm (fs := (x.frames.eraseIdx s.n.toNat)) (ms := (Ao x.home (x.cores.length : Int) (Ai (Az x) (Ay x.frames s.n)).1).2) hs mm mm (Og (by omega) (by omega) h.ebs hwk.2.2.2.1 hwk.2.2.2.2.2.1)) ?_; intro v261
     refine J.know (p := v261.oneCell' = true) (fun w hs => isSlice.one (hs.fact (List.Mem.head _))) (fun honev261 => ?_)
     refine rn1 ?_
     refine sc ?_
     refine Gm ?_
     refine rn1 ?_
     refine s_B (cs := [cv, v253a, v261]) Try.sizeOf46 ?_
     refine Ga2 ?_
     have er : Ar x s = (⟨x.cores, (Ao x.home (x.cores.length : Int) (Ai (Az x) (Ay x.frames s.n)).1).1, way (x.frames.eraseIdx s.n.toNat) (Ao x.home (x.cores.length : Int) (Ai (Az x) (Ay x.frames s.n)).1).2⟩, [], 0) := by unfold Ar; rw [if_neg (by omega), if_pos (by omega), if_neg hnf]; unfold Eg; rw [show Az ⟨x.cores, x.home, (x.frames.eraseIdx s.n.toNat)⟩ = Az x from rfl]; rw [if_neg ht242, if_pos (show (Ai (Az x) (Ay x.frames s.n)).1.dst = Ca ⟨x.cores, x.home, (x.frames.eraseIdx s.n.toNat)⟩ from ht247)]; rfl
     rw [er]
     exact Cg (cv, v253a, v261, .slice none 0 0) Try.isAgg46 Try.sizeOf46
    ·
     intro ht247
     refine Gl ?_
     refine F6 (x := x) (v := cv) (Ai (Az x) (Ay x.frames s.n)).1.dst mm (by omega) (by omega) (fun hwt u => ?_)
     have hkb : KB (Ah x (Ai (Az x) (Ay x.frames s.n)).1.dst) := h.kb (p := (Ai (Az x) (Ay x.frames s.n)).1.dst.toNat) (by omega)
     have hlb := h.lbs (p := (Ai (Az x) (Ay x.frames s.n)).1.dst) (by omega)
     have hk4 := hkb.n
     have hpd64 : Am (Ai (Az x) (Ay x.frames s.n)).1.dst := by unfold Am; omega
     refine kp [2, 4, 5, 6, 8, 21, 24, 25, 26, 264, 265, 266, 267, 268, 269, 270, 271, 272, 273, 274, 275, 276, 277, 278] ?_
     refine cq_ (blk b2 46 [cv, hv, va] :: blk b21 42 (Ai (Az x) (Ay x.frames s.n)).1.cells :: blk b3 98 s.cells :: blk b4 46 [.slice none 0 0, .slice none 0 0, .slice none 0 0] :: L) ?_
     refine jd_ (fun ρ S => blk b2 46 [cv, hv, va] :: blk b21 42 (Ai (Az x) (Ay x.frames s.n)).1.cells :: blk b3 98 s.cells :: blk b4 46 [.slice none 0 0, .slice none 0 0, .slice none 0 0] :: ((bif S 15 then [blk (Gh.dec (γ := Nat) (ρ 15)) 69 (bif S 16 then [(Gh.dec (γ := Value × Value × Value) (ρ 10)).1, vi (Ad (Ah x (Ai (Az x) (Ay x.frames s.n)).1.dst) (Ai (Az x) (Ay x.frames s.n)).1.dst (x.cores.length : Int) (Ai (Az x) (Ay x.frames s.n)).1).1.wait.kind, vi (Ad (Ah x (Ai (Az x) (Ay x.frames s.n)).1.dst) (Ai (Az x) (Ay x.frames s.n)).1.dst (x.cores.length : Int) (Ai (Az x) (Ay x.frames s.n)).1).1.wait.line, vi (Ad (Ah x (Ai (Az x) (Ay x.frames s.n)).1.dst) (Ai (Az x) (Ay x.frames s.n)).1.dst (x.cores.length : Int) (Ai (Az x) (Ay x.frames s.n)).1).1.wait.value] else [.slice none 0 0, vi 0, vi 0, vi 0])] else []) ++ (L))) ?_
     refine Si ?_
     refine Bn (γ := Value × Value × Value) (val := fun v => .tuple #[.agg (Core.cells v.1 (Ad (Ah x (Ai (Az x) (Ay x.frames s.n)).1.dst) (Ai (Az x) (Ay x.frames s.n)).1.dst (x.cores.length : Int) (Ai (Az x) (Ay x.frames s.n)).1).1).toArray, v.2.1, v.2.2]) (F := fun v => [sl v.1 (Ad (Ah x (Ai (Az x) (Ay x.frames s.n)).1.dst) (Ai (Az x) (Ay x.frames s.n)).1.dst (x.cores.length : Int) (Ai (Az x) (Ay x.frames s.n)).1).1.lines, sl v.2.1 (Ad (Ah x (Ai (Az x) (Ay x.frames s.n)).1.dst) (Ai (Az x) (Ay x.frames s.n)).1.dst (x.cores.length : Int) (Ai (Az x) (Ay x.frames s.n)).1).2.1, sl v.2.2 (Ad (Ah x (Ai (Az x) (Ay x.frames s.n)).1.dst) (Ai (Az x) (Ay x.frames s.n)).1.dst (x.cores.length : Int) (Ai (Az x) (Ay x.frames s.n)).1).2.2]) Try.call47 (fun _ => rfl) (fun ρ L R w hd hs => Q1 (c := (Ah x (Ai (Az x) (Ay x.frames s.n)).1.dst)) (id := (Ai (Az x) (Ay x.frames s.n)).1.dst) (home := (x.cores.length : Int)) (m := (Ai (Az x) (Ay x.frames s.n)).1) (u := u) hs (hd.base mm) hkb hpd64 hn64 hpw) (fun ρ g S hS hA => by have u15 : upS S 10 15 = S 15 := rfl; have u16 : upS S 10 16 = S 16 := rfl; have r15 : Rho.set ρ 10 g 15 = ρ 15 := rfl; have h16 : S 16 = false := hA 16 ⟨0, rfl⟩; simp only [u15, u16, r15, h16, cond_false]) ?_
     refine e_p (v := fun ρ => .tuple #[.agg (Core.cells (Gh.dec (γ := Value × Value × Value) (ρ 10)).1 (Ad (Ah x (Ai (Az x) (Ay x.frames s.n)).1.dst) (Ai (Az x) (Ay x.frames s.n)).1.dst (x.cores.length : Int) (Ai (Az x) (Ay x.frames s.n)).1).1).toArray, (Gh.dec (γ := Value × Value × Value) (ρ 10)).2.1, (Gh.dec (γ := Value × Value × Value) (ρ 10)).2.2]) (fun _ _ => Cx) (Ind.gh (h := fun g => (.tuple #[.agg (Core.cells (Gh.dec (γ := Value × Value × Value) g).1 (Ad (Ah x (Ai (Az x) (Ay x.frames s.n)).1.dst) (Ai (Az x) (Ay x.frames s.n)).1.dst (x.cores.length : Int) (Ai (Az x) (Ay x.frames s.n)).1).1).toArray, (Gh.dec (γ := Value × Value × Value) g).2.1, (Gh.dec (γ := Value × Value × Value) g).2.2] : Value)) 10 0 rfl) (fun _ _ _ _ _ => rfl) ?_
     refine e_p (v := fun ρ => .agg (Core.cells (Gh.dec (γ := Value × Value × Value) (ρ 10)).1 (Ad (Ah x (Ai (Az x) (Ay x.frames s.n)).1.dst) (Ai (Az x) (Ay x.frames s.n)).1.dst (x.cores.length : Int) (Ai (Az x) (Ay x.frames s.n)).1).1).toArray) (fun _ _ => q_x) (Ind.gh (h := fun g => (.agg (Core.cells (Gh.dec (γ := Value × Value × Value) g).1 (Ad (Ah x (Ai (Az x) (Ay x.frames s.n)).1.dst) (Ai (Az x) (Ay x.frames s.n)).1.dst (x.cores.length : Int) (Ai (Az x) (Ay x.frames s.n)).1).1).toArray : Value)) 10 1 rfl) (fun _ _ _ _ _ => rfl) ?_
     refine e_p (v := fun ρ => (Gh.dec (γ := Value × Value × Value) (ρ 10)).2.1) (fun _ _ => q_x) (Ind.gh (h := fun g => ((Gh.dec (γ := Value × Value × Value) g).2.1 : Value)) 10 1 rfl) (fun _ _ _ _ _ => rfl) ?_
     refine e_p (v := fun ρ => (Gh.dec (γ := Value × Value × Value) (ρ 10)).2.2) (fun _ _ => q_x) (Ind.gh (h := fun g => ((Gh.dec (γ := Value × Value × Value) g).2.2 : Value)) 10 1 rfl) (fun _ _ _ _ _ => rfl) ?_
     refine Gc (cs := [.slice none 0 0, vi 0, vi 0, vi 0]) Try.zeroValue69 rfl (fun ρ b S hS hA => ?_) ?_
     ·
      have ui : upS S 15 15 = true := rfl; have u16 : upS S 15 16 = S 16 := rfl; have r10 : Rho.set ρ 15 (Gh.enc b) 10 = ρ 10 := rfl; have h16 : S 16 = false := hA 16 ⟨0, rfl⟩; have rs : (Gh.dec (γ := Nat) (Rho.set ρ 15 (Gh.enc b) 15)) = b := rfl
      simp only [ui, hS, u16, r10, h16, rs, cond_true, cond_false, List.nil_append]
      exact Ins.perm (by repeat (first | exact .hd | exact .hc | refine .tl ?_ | refine .ap ?_))
     refine es_ 69 0 [15] [] (fun ρ => (Gh.dec (γ := Nat) (ρ 15))) (fun ρ => [.slice none 0 0, vi 0, vi 0, vi 0]) (fun ρ => [(Gh.dec (γ := Value × Value × Value) (ρ 10)).1, vi (Ad (Ah x (Ai (Az x) (Ay x.frames s.n)).1.dst) (Ai (Az x) (Ay x.frames s.n)).1.dst (x.cores.length : Int) (Ai (Az x) (Ay x.frames s.n)).1).1.wait.kind, vi (Ad (Ah x (Ai (Az x) (Ay x.frames s.n)).1.dst) (Ai (Az x) (Ay x.frames s.n)).1.dst (x.cores.length : Int) (Ai (Az x) (Ay x.frames s.n)).1).1.wait.line, vi (Ad (Ah x (Ai (Az x) (Ay x.frames s.n)).1.dst) (Ai (Az x) (Ay x.frames s.n)).1.dst (x.cores.length : Int) (Ai (Az x) (Ay x.frames s.n)).1).1.wait.value]) Try.sizeOf69 (h1 := (fun ρ R w L' hd hs => A6 (isSlice.one (hs.fact (hd.dep (it := ⟨10, _, _, _, _⟩) (by repeat (first | exact List.Mem.head _ | refine List.Mem.tail _ ?_)) ⟨9, rfl⟩ (List.Mem.head _)))) (by repeat (first | exact C3 | refine A6 rfl ?_)))) ?_
     refine e_p (v := fun ρ => (Gh.dec (γ := Value × Value × Value) (ρ 10)).2.1) (fun _ _ => Db) (Ind.gh (h := fun g => ((Gh.dec (γ := Value × Value × Value) g).2.1 : Value)) 10 0 rfl) (fun _ _ _ _ _ => rfl) ?_
     refine e_p (v := fun ρ => (Gh.dec (γ := Value × Value × Value) (ρ 10)).2.2) (fun _ _ => Db) (Ind.gh (h := fun g => ((Gh.dec (γ := Value × Value × Value) g).2.2 : Value)) 10 0 rfl) (fun _ _ _ _ _ => rfl) ?_
     refine dnl ?_; intro ρ
     refine xq_ (blk b2 46 [cv, hv, va] :: blk b21 42 (Ai (Az x) (Ay x.frames s.n)).1.cells :: blk b3 98 s.cells :: blk b4 46 [.slice none 0 0, .slice none 0 0, .slice none 0 0] :: (blk (Gh.dec (γ := Nat) (ρ 15)) 69 [(Gh.dec (γ := Value × Value × Value) (ρ 10)).1, vi (Ad (Ah x (Ai (Az x) (Ay x.frames s.n)).1.dst) (Ai (Az x) (Ay x.frames s.n)).1.dst (x.cores.length : Int) (Ai (Az x) (Ay x.frames s.n)).1).1.wait.kind, vi (Ad (Ah x (Ai (Az x) (Ay x.frames s.n)).1.dst) (Ai (Az x) (Ay x.frames s.n)).1.dst (x.cores.length : Int) (Ai (Az x) (Ay x.frames s.n)).1).1.wait.line, vi (Ad (Ah x (Ai (Az x) (Ay x.frames s.n)).1.dst) (Ai (Az x) (Ay x.frames s.n)).1.dst (x.cores.length : Int) (Ai (Az x) (Ay x.frames s.n)).1).1.wait.value] :: L)) ?_
     generalize (Gh.dec (γ := Value × Value × Value) (ρ 10)) = v275
     generalize (Gh.dec (γ := Nat) (ρ 15)) = b24
     refine Gm ?_
     refine rn4 ?_
     refine Aq Try.call96 rfl (fun w hs => Jx (x := x) (i := (Ai (Az x) (Ay x.frames s.n)).1.dst) (k := (Ad (Ah x (Ai (Az x) (Ay x.frames s.n)).1.dst) (Ai (Az x) (Ay x.frames s.n)).1.dst (x.cores.length : Int) (Ai (Az x) (Ay x.frames s.n)).1).1) (u := v275.1) hs mm honeh honea mm (Rj hkb.wwf) (by omega)) ?_; intro v283
     refine J.know (p := v283.oneCell' = true) (fun w hs => isSlice.one (hs.fact (List.Mem.head _))) (fun honev283 => ?_)
     refine s_B (cs := [v283, hv, va]) Try.sizeOf46 ?_
     refine Gm ?_
     refine rn3 ?_
     refine Aq Try.call97 rfl (fun w hs => Mm (fs := (x.frames.eraseIdx s.n.toNat)) (ms := (Ad (Ah x (Ai (Az x) (Ay x.frames s.n)).1.dst) (Ai (Az x) (Ay x.frames s.n)).1.dst (x.cores.length : Int) (Ai (Az x) (Ay x.frames s.n)).1).2.1) hs mm mm (Vu (by omega) (by omega) hk4 hlb hwk.2.2.2.2.1)) ?_; intro v287
     refine J.know (p := v287.oneCell' = true) (fun w hs => isSlice.one (hs.fact (List.Mem.head _))) (fun honev287 => ?_)
     refine rn1 ?_
     refine sc ?_
     refine Gl ?_
     refine kp [2, 4, 5, 6, 26, 289, 290] ?_
     refine Aa ?_
     refine rn2 ?_
     refine s_B (cs := [v283, hv, v287]) Try.sizeOf46 ?_
     refine Ga2 ?_
     have er : Ar x s = (⟨x.cores.set (Ai (Az x) (Ay x.frames s.n)).1.dst.toNat (Ad (Ah x (Ai (Az x) (Ay x.frames s.n)).1.dst) (Ai (Az x) (Ay x.frames s.n)).1.dst (x.cores.length : Int) (Ai (Az x) (Ay x.frames s.n)).1).1, x.home, way (x.frames.eraseIdx s.n.toNat) (Ad (Ah x (Ai (Az x) (Ay x.frames s.n)).1.dst) (Ai (Az x) (Ay x.frames s.n)).1.dst (x.cores.length : Int) (Ai (Az x) (Ay x.frames s.n)).1).2.1⟩, (Ad (Ah x (Ai (Az x) (Ay x.frames s.n)).1.dst) (Ai (Az x) (Ay x.frames s.n)).1.dst (x.cores.length : Int) (Ai (Az x) (Ay x.frames s.n)).1).2.2, 0) := by unfold Ar; rw [if_neg (by omega), if_pos (by omega), if_neg hnf]; unfold Eg; rw [show Az ⟨x.cores, x.home, (x.frames.eraseIdx s.n.toNat)⟩ = Az x from rfl]; rw [if_neg ht242, if_neg (show ¬ (Ai (Az x) (Ay x.frames s.n)).1.dst = Ca ⟨x.cores, x.home, (x.frames.eraseIdx s.n.toNat)⟩ from ht247)]; rfl
     rw [er]
     exact Cg (v283, hv, v287, v275.2.2) Try.isAgg46 Try.sizeOf46
end Go.Proofs.Ytofgpimoekhfaaa

/- This file proves what a step does to a chip, by the document's answer. No conditions. -/
set_option linter.unusedVariables false
set_option linter.unusedSimpArgs false
set_option maxHeartbeats 1000000
set_option maxRecDepth 8000
namespace Go.Proofs.Ytofgpimoekhfaaa
open Go
theorem refDo4 {L : List Chunk} {R : List Fact} {w : World} {n nl : Nat} {M : List Int} {cv hv fv : Value} {x : Chip} {s : Step} (hs : St (L) R w) (hc : sl cv x.cores ∈ R) (hh : sl hv x.home ∈ R) (hf : sl fv x.frames ∈ R) (h : Inv n nl x M) (hsw : s.wf) : Calls Try.prog 64 [.agg #[cv, hv, fv], .agg s.cells.toArray].toArray w (Ch (fun v : Value × Value × Value × Value => .tuple #[.agg #[v.1, v.2.1, v.2.2.1], v.2.2.2, vi (Ar x s).2.2]) (fun v => L) (fun v => sl v.1 (Ar x s).1.cores :: sl v.2.1 (Ar x s).1.home :: sl v.2.2.1 (Ar x s).1.frames :: sl v.2.2.2 (Ar x s).2.1 :: R)) := by
  by_cases h1 : s.kind = 1
  · exact S9 hs hc hh hf h hsw h1
  by_cases h2 : s.kind = 2
  · exact S8 hs hc hh hf h hsw h2
  by_cases h3 : s.kind = 3
  · exact S7 hs hc hh hf h hsw h3
  by_cases h4 : s.kind = 4
  · exact S6 hs hc hh hf h hsw h4
  by_cases h5 : s.kind = 5
  · exact S5 hs hc hh hf h hsw h5
  by_cases h6 : s.kind = 6
  · exact S4 hs hc hh hf h hsw h6
  exact Ta hs hc hh hf h hsw ⟨h1, h2, h3, h4, h5, h6⟩
end Go.Proofs.Ytofgpimoekhfaaa

/- This file proves what a chip is that steps build, by the document's answer. No conditions. -/
set_option linter.unusedVariables false
set_option linter.unusedSimpArgs false
set_option maxHeartbeats 1000000
set_option maxRecDepth 8000
namespace Go.Proofs.Ytofgpimoekhfaaa
open Go
def bAt (c : Config) (l : List Step) (k : Nat) : Chip × List Done := Ej (Br c).1 (l.take k)
theorem H8 {x : Chip} {a : Step} {l : List Step} (h : (Ar x a).2.2 = 0) : Ej x (a :: l) = ((Ej (Ar x a).1 l).1, (Ar x a).2.1 ++ (Ej (Ar x a).1 l).2) := by simp only [Ej]; rw [if_pos h]
theorem H9 {x : Chip} {a : Step} {l : List Step} (h : ¬ (Ar x a).2.2 = 0) : Ej x (a :: l) = Ej x l := by simp only [Ej]; rw [if_neg h]
theorem Kg (s : Step) : ∀ (l : List Step) (x : Chip), (Ar (Ej x l).1 s).2.2 = 0 → Ej x (l ++ [s]) = ((Ar (Ej x l).1 s).1, (Ej x l).2 ++ (Ar (Ej x l).1 s).2.1)
  | [], x, h => by
    have h' : (Ar x s).2.2 = 0 := h
    rw [List.nil_append, H8 h']; simp [Ej]
  | a :: l, x, h => by
    by_cases h1 : (Ar x a).2.2 = 0
    · rw [H8 h1] at h ⊢
      rw [List.cons_append, H8 h1, Kg s l _ h]; simp
    · rw [H9 h1] at h ⊢
      rw [List.cons_append, H9 h1]; exact Kg s l x h
theorem Ly (s : Step) : ∀ (l : List Step) (x : Chip), ¬ (Ar (Ej x l).1 s).2.2 = 0 → Ej x (l ++ [s]) = Ej x l
  | [], x, h => by
    have h' : ¬ (Ar x s).2.2 = 0 := h
    rw [List.nil_append, H9 h']
  | a :: l, x, h => by
    by_cases h1 : (Ar x a).2.2 = 0
    · rw [H8 h1] at h ⊢
      rw [List.cons_append, H8 h1, Ly s l _ h]
    · rw [H9 h1] at h ⊢
      rw [List.cons_append, H9 h1]; exact Ly s l x h
theorem Sb {c : Config} {l : List Step} {k : Nat} (h : k < l.length) (h0 : (Ar (bAt c l k).1 (l.getD k zStep)).2.2 = 0) : bAt c l (k + 1) = ((Ar (bAt c l k).1 (l.getD k zStep)).1, (bAt c l k).2 ++ (Ar (bAt c l k).1 (l.getD k zStep)).2.1) := by
 unfold bAt at h0 ⊢; rw [Ft zStep h]; exact Kg _ _ _ h0
theorem U3 {c : Config} {l : List Step} {k : Nat} (h : k < l.length) (h0 : ¬ (Ar (bAt c l k).1 (l.getD k zStep)).2.2 = 0) : bAt c l (k + 1) = bAt c l k := by
 unfold bAt at h0 ⊢; rw [Ft zStep h]; exact Ly _ _ _ h0
theorem R9 (c : Core) (id home : Int) (o : Op) : (Ag c id home o).2.2.1.length ≤ 1 := by
  unfold Ag
  split
  · simp
  split
  · simp
  split
  · simp
  split <;> simp
theorem Tu (c : Core) (id home : Int) (m : Msg) : (Ad c id home m).2.2.length ≤ 1 := by
  unfold Ad
  split
  · simp
  split
  · simp
  split
  · split
    · simp only; split <;> simp
    split <;> simp
  split
  · split
    · simp
    split <;> simp
  split <;> simp
theorem Uy (x : Chip) (s : Step) : (Ar x s).2.1.length ≤ 1 := by
  unfold Ar
  split
  · split
    · simp
    split
    · simp
    · exact R9 ..
  split
  · split
    · simp
    · simp only
      unfold Eg
      split
      · simp
      split
      · simp
      · exact Tu ..
  split
  · split <;> simp
  split
  · split <;> simp
  split
  · split
    · simp
    split
    · simp
    split <;> simp
  split
  · split
    · simp
    split <;> simp
  · simp
theorem Sc (c : Config) (l : List Step) : ∀ k, (bAt c l k).2.length ≤ k
  | 0 => by unfold bAt; simp [Ej]
  | k + 1 => by
    have ih := Sc c l k
    by_cases h : k < l.length
    · by_cases h0 : (Ar (bAt c l k).1 (l.getD k zStep)).2.2 = 0
      · have := Uy (bAt c l k).1 (l.getD k zStep)
        rw [Sb h h0]
        simp only [List.length_append]; omega
      · rw [U3 h h0]; omega
    · unfold bAt at ih ⊢
      rw [List.take_of_length_le (by omega)]
      rw [List.take_of_length_le (by omega)] at ih
      omega
theorem Xt {c : Config} (l : List Step) (h : (Br c).2 = 0) (k : Nat) : ∃ n nl M, Inv n nl (bAt c l k).1 M := by
 obtain ⟨n, nl, h1, h2, _, h4⟩ := K8 h
 obtain ⟨M, h5, _⟩ := H2 (l.take k) (Re h1 h2)
 exact ⟨n, nl, M, by unfold bAt; rw [h4]; exact h5⟩
theorem Nl {c : Config} (h : (Br c).2 ≠ 0) : Br c = (Dw, 3) := by
  unfold Br at h ⊢
  split
  · rfl
  · rename_i h1; rw [if_neg h1] at h; exact absurd rfl h
theorem Pg {c : Config} {l : List Step} {k : Nat} (h : (Br c).2 = 0) (hk : l.take k = l.take 300) : build c l = bAt c l k := by
 unfold build bAt; rw [if_neg (by rw [h]; decide), hk]
theorem Uf {c : Config} {l : List Step} (h : (Br c).2 ≠ 0) : build c l = ((Br c).1, []) := by
 unfold build; rw [if_pos h, Nl h]
theorem Jf {L : List Chunk} {R : List Fact} {w : World} {vl : Value} {c : Config} {l : List Step} (hs : St (L) R w) (hl : sl vl l ∈ R) (hcw : c.wf) : Calls Try.prog 28 [.agg c.cells.toArray, vl].toArray w (Ch (fun v : Value × Value × Value × Value => .tuple #[.agg #[v.1, v.2.1, v.2.2.1], v.2.2.2]) (fun v => L) (fun v => sl v.1 (build c l).1.cores :: sl v.2.1 (build c l).1.home :: sl v.2.2.1 (build c l).1.frames :: sl v.2.2.2 (build c l).2 :: R)) := by
  have hlen := Bk hl hs
  refine Aj Try.func28 rfl Try.ntmps28 rfl hs ?_
  clear hs
  refine Gm ?_
  refine bx ?_; intro b2
  refine al_ (cs := [.slice none 0 0, .slice none 0 0, .slice none 0 0]) Try.zeroValue46 ?_; intro b4
  refine Gb1 ?_
  refine rn1 ?_
  refine Aq Try.call35 rfl (fun w hs => refNew (c := c) hs hcw) ?_; intro v16
  refine J.know (p := v16.1.oneCell' = true ∧ v16.2.oneCell' = true) (fun w hs => ⟨isSlice.one (hs.fact (.head _)), isSlice.one (hs.fact (.tail _ (.head _)))⟩) (fun h12 => ?_)
  obtain ⟨hone1, hone2⟩ := h12
  refine rn3 ?_
  refine al_ (cs := [.slice none 0 0, .slice none 0 0, .slice none 0 0]) Try.zeroValue46 ?_; intro b6
  refine s_B (cs := [v16.1, v16.2, .slice none 0 0]) Try.sizeOf46 ?_
  refine Gb1 ?_
  refine Ga2 ?_
  refine cdx (p := ?p1) (hd := ?d1) ?e1 ?_ ?_; case e1 => exact rfl
  ·
   intro ht20
   refine Gl ?_
   refine JC.slNil Done ?_
   refine Aa ?_
   refine rn1 ?_
   refine s_B (cs := [v16.1, v16.2, .slice none 0 0]) Try.sizeOf46 ?_
   refine Ga1 ?_
   rw [Uf ht20]
   exact Hv (v16.1, v16.2, .slice none 0 0, .slice none 0 0) Try.isAgg46 Try.sizeOf46
  ·
   intro ht20
   refine Gm ?_
   refine Gb1 ?_
   refine Ga3 ?_
   have hok : (Br c).2 = 0 := Decidable.not_not.1 ht20
   have e0 : bAt c l 0 = ((Br c).1, []) := by unfold bAt; simp [Ej]
   refine JC.rowNil 84 Done ?_
   refine Cu (γ := Nat × Value × Value × Value × Value) (fun g => g.1 ≤ l.length ∧ g.1 ≤ 300) (fun g => row 84 g.2.2.2.2 (bAt c l g.1).2 :: blk b6 46 [g.2.1, g.2.2.1, g.2.2.2.1] :: blk b4 46 [.slice none 0 0, .slice none 0 0, .slice none 0 0] :: L) (fun g => sl g.2.1 (bAt c l g.1).1.cores :: sl g.2.2.1 (bAt c l g.1).1.home :: sl g.2.2.2.1 (bAt c l g.1).1.frames :: R) (fun g => [(4, bp b4 0), (6, bp b6 0), (8, g.2.2.2.2), (22, vl), (23, vi (l.length : Int)), (24, vi (g.1 : Int))]) (fun g => l.length - g.1) (0, v16.1, v16.2, .slice none 0 0, .slice none 0 0) ⟨Nat.zero_le _, by show 0 ≤ 300; omega⟩ alT (fun w hs => by rw [e0]; exact Al hs) ?_
   rintro ⟨k, cv, hv, fv, dv⟩ ⟨hk, hk3⟩
   try simp only at hk hk3 ⊢
   refine Gm ?_
   refine Ga1 ?_
   refine cdx (p := ?p2) (hd := ?d2) ?e2 ?_ ?_; case e2 => exact rfl
   ·
    intro ht25
    refine Gl ?_
    refine JC.open0 (xs := l) (v := vl) k mm (by omega) (fun hsw => ?_)
    refine Aa ?_
    refine rn3 ?_
    refine al_ (cs := zStep.cells) Try.zeroValue98 ?_; intro b10
    refine rn1 ?_
    refine s_B (cs := (l.getD k zStep).cells) Try.sizeOf98 ?_
    refine Gm ?_
    refine Ga2 ?_
    refine cdx (p := ?p3) (hd := ?d3) ?e3 ?_ ?_; case e3 => exact rfl
    ·
     intro ht30
     refine Gl ?_
     refine JC.shut (v := dv) pkk ?_
     refine JC.know (p := cv.oneCell' = true ∧ hv.oneCell' = true ∧ fv.oneCell' = true) (fun w hs => ⟨isSlice.one (hs.fact (mm (f := sl cv (bAt c l k).1.cores))), isSlice.one (hs.fact (mm (f := sl hv (bAt c l k).1.home))), isSlice.one (hs.fact (mm (f := sl fv (bAt c l k).1.frames)))⟩) (fun h12 => ?_)
     obtain ⟨hone1, hone2, hone3⟩ := h12
     refine Aa ?_
     refine rn2 ?_
     refine s_B (cs := [cv, hv, fv]) Try.sizeOf46 ?_
     refine Ga1 ?_
     have ek : l.take k = l.take 300 := by
      first
       | rw [show k = 300 by omega]
       | rw [List.take_of_length_le (by omega), List.take_of_length_le (by omega)]
     rw [Pg hok ek]
     exact Hv (cv, hv, fv, dv) Try.isAgg46 Try.sizeOf46
    ·
     intro ht30
     refine Gm ?_
     refine rn2 ?_
     obtain ⟨n, nl, M, hI⟩ := Xt l hok k
     refine Aq Try.call64 rfl (fun w hs => refDo4 (x := (bAt c l k).1) (s := (l.getD k zStep)) hs mm mm mm hI hsw) ?_; intro v34
     refine J.know (p := v34.1.oneCell' = true ∧ v34.2.1.oneCell' = true ∧ v34.2.2.1.oneCell' = true) (fun w hs => ⟨isSlice.one (hs.fact (.head _)), isSlice.one (hs.fact (.tail _ (.head _))), isSlice.one (hs.fact (.tail _ (.tail _ (.head _))))⟩) (fun h12 => ?_)
     obtain ⟨hone1, hone2, hone3⟩ := h12
     refine rn4 ?_
     refine al_ (cs := [.slice none 0 0, .slice none 0 0, .slice none 0 0]) Try.zeroValue46 ?_; intro b11
     refine s_B (cs := [v34.1, v34.2.1, v34.2.2.1]) Try.sizeOf46 ?_
     refine Ga2 ?_
     refine kp [4, 5, 6, 8, 9, 10, 11, 12, 13, 22, 23, 24, 25, 26, 27, 28, 29, 30, 31, 32, 33, 34, 35, 36, 37, 38, 39] ?_
     refine Aa ?_
     refine Ga2 ?_
     refine cdx (p := ?p4) (hd := ?d4) ?e4 ?_ ?_; case e4 => exact rfl
     ·
      intro ht39
      refine Gm ?_
      refine rn1 ?_
      refine s_B (cs := [v34.1, v34.2.1, v34.2.2.1]) Try.sizeOf46 ?_
      refine Gm ?_
      refine rn2 ?_
      refine ap Fj (hb := fun w hs => by have : maxN = 16777216 := rfl; have h8 := Sc c l k; have h9 := Uy (bAt c l k).1 (l.getD k zStep); omega) (k := ?_); intro v43
      refine Gb1 ?_
      refine Ga2 ?_
      have e1 := Sb (c := c) (l := l) (k := k) (by omega) ht39
      refine Be (k + 1, v34.1, v34.2.1, v34.2.2.1, v43) ⟨by show k + 1 ≤ l.length; omega, by show k + 1 ≤ 300; omega⟩ (by show l.length - (k + 1) < l.length - k; omega) alT (fun w hs => ?_)
      try simp only
      rw [e1]; exact Al hs
     ·
      intro ht39
      refine Gm ?_
      refine Ga2 ?_
      have e1 := U3 (c := c) (l := l) (k := k) (by omega) ht39
      refine Be (k + 1, cv, hv, fv, dv) ⟨by show k + 1 ≤ l.length; omega, by show k + 1 ≤ 300; omega⟩ (by show l.length - (k + 1) < l.length - k; omega) alT (fun w hs => ?_)
      try simp only
      rw [e1]; exact Al hs
   ·
    intro ht25
    refine Gl ?_
    refine JC.shut (v := dv) pkk ?_
    refine JC.know (p := cv.oneCell' = true ∧ hv.oneCell' = true ∧ fv.oneCell' = true) (fun w hs => ⟨isSlice.one (hs.fact (mm (f := sl cv (bAt c l k).1.cores))), isSlice.one (hs.fact (mm (f := sl hv (bAt c l k).1.home))), isSlice.one (hs.fact (mm (f := sl fv (bAt c l k).1.frames)))⟩) (fun h12 => ?_)
    obtain ⟨hone1, hone2, hone3⟩ := h12
    refine Aa ?_
    refine rn2 ?_
    refine s_B (cs := [cv, hv, fv]) Try.sizeOf46 ?_
    refine Ga1 ?_
    have ek : l.take k = l.take 300 := by
     first
      | rw [show k = 300 by omega]
      | rw [List.take_of_length_le (by omega), List.take_of_length_le (by omega)]
    rw [Pg hok ek]
    exact Hv (cv, hv, fv, dv) Try.isAgg46 Try.sizeOf46
end Go.Proofs.Ytofgpimoekhfaaa

/- This file proves what a keeper of the program's home says, and does. No conditions. -/
set_option linter.unusedVariables false
set_option linter.unusedSimpArgs false
set_option maxHeartbeats 1000000
set_option maxRecDepth 8000
namespace Go.Proofs.Ytofgpimoekhfaaa
open Go
section
variable {P : Program} {T : TypeId} {s k : Int}
end
end Go.Proofs.Ytofgpimoekhfaaa

/- This file proves what a keeper of the program's home does with a turn: next, get, put. No conditions. -/
set_option linter.unusedVariables false
set_option linter.unusedSimpArgs false
set_option maxHeartbeats 1000000
set_option maxRecDepth 8000
namespace Go.Proofs.Ytofgpimoekhfaaa
open Go
end Go.Proofs.Ytofgpimoekhfaaa

/- This file proves plain facts for what the program's home hears. No conditions. -/
set_option linter.unusedVariables false
set_option linter.unusedSimpArgs false
set_option maxHeartbeats 1000000
set_option maxRecDepth 8000
namespace Go.Proofs.Ytofgpimoekhfaaa
open Go
end Go.Proofs.Ytofgpimoekhfaaa

/- This file proves what the program's home hears: some kinds of messages. No conditions. -/
set_option linter.unusedVariables false
set_option linter.unusedSimpArgs false
set_option maxHeartbeats 1000000
set_option maxRecDepth 8000
namespace Go.Proofs.Ytofgpimoekhfaaa
open Go
end Go.Proofs.Ytofgpimoekhfaaa

/- This file proves what the program's home hears: some kinds of messages. No conditions. -/
set_option linter.unusedVariables false
set_option linter.unusedSimpArgs false
set_option maxHeartbeats 1000000
set_option maxRecDepth 8000
namespace Go.Proofs.Ytofgpimoekhfaaa
open Go
end Go.Proofs.Ytofgpimoekhfaaa

/- This file proves what the program's home hears. No conditions. -/
set_option linter.unusedVariables false
set_option linter.unusedSimpArgs false
set_option maxHeartbeats 1000000
set_option maxRecDepth 8000
namespace Go.Proofs.Ytofgpimoekhfaaa
open Go
end Go.Proofs.Ytofgpimoekhfaaa

/- This file proves what the program's home says by its timer, and what a new home is. No conditions. -/
set_option linter.unusedVariables false
set_option linter.unusedSimpArgs false
set_option maxHeartbeats 1000000
set_option maxRecDepth 8000
namespace Go.Proofs.Ytofgpimoekhfaaa
open Go
end Go.Proofs.Ytofgpimoekhfaaa

/- This file proves that the closed fact of the program's home holds, and what the laws of it compute. No conditions. -/
set_option linter.unusedVariables false
set_option linter.unusedSimpArgs false
set_option maxHeartbeats 1000000
set_option maxRecDepth 8000
namespace Go.Proofs.Ytofgpimoekhfaaa
open Go
theorem Jt {L : List Chunk} {R : List Fact} {w : World} {v0 v1 : Value} {a b : List Msg} (e : a = b) (hs : St L R w) (h0 : sl v0 a ∈ R) (h1 : sl v1 b ∈ R) : Calls Try.prog 32 [v0, v1].toArray w (Ch (fun _ : Unit => .bool true) (fun _ => L) (fun _ => R)) := by
 have h := Ss hs h0 h1; rw [decide_eq_true e] at h; exact h
def hE0 : List Entry := [⟨0, -1, 0, 0, 0, 0, false, 0, 0, [0, 0]⟩]
theorem Ie {c : Config} {l : List Step} (h : ¬ ((build c l).1.cores.length : Int) = 0) : (Br c).2 = 0 ∧ ∃ n nl : Nat, c = Fz n nl ∧ ∃ M, Inv n nl (build c l).1 M := by
  by_cases h0 : (Br c).2 = 0
  · obtain ⟨n, nl, h1, M, h2, _⟩ := Rg (l := l) h0
    exact ⟨h0, n, nl, h1, M, h2⟩
  · exfalso; apply h
    unfold build; rw [if_pos h0]; rfl
end Go.Proofs.Ytofgpimoekhfaaa

/- This file proves that the closed fact of the program's core holds, and what the laws of it compute. No conditions. -/
set_option linter.unusedVariables false
set_option linter.unusedSimpArgs false
set_option maxHeartbeats 1000000
set_option maxRecDepth 8000
namespace Go.Proofs.Ytofgpimoekhfaaa
open Go
theorem q_fld {P : Program} {n : Nat} {L : List Chunk} {R : List Fact} {al : List (Nat × Value)} {d : Nat} {x : Operand} {T ty : TypeId} {pos : String} {aft : Array Edge} {fld off : Nat} {cs : List Value} {v : Value} {fs : Array Field} {fl : Field} (ht : P.underlying T = some (.struct fs)) (hf : fs[fld]? = some fl) (ho : fl.offset = off) (hg : ∀ w, (isAgg fl.type).run P w = .ok false w) (hc : cs[off]? = some v) (hx : ev n al x = some (.agg cs.toArray)) : Ax P n al L R ⟨some d, .field T x fld, ty, pos, aft, none⟩ v :=
 ⟨rfl, fun ρ w h _ => by
  have e : (Instr.field T (.agg cs.toArray) fld).run P w = .ok v w := by
   simp [Instr.field, C9 ht, hf, ho, part, hg, hc, asAgg]
  show (Instr.field T (ρ x) fld >>= fun v => Pure.pure (Next.value v)).run P w = _
  rw [h x (by simp [Op.operands]) _ hx, Sem.run_bind, e]; rfl⟩
theorem Vq {α : Type} [Enc α] {L : List Chunk} {R R' : List Fact} {v : Value} {xs : List α} {w : World} {L2 : List Chunk} (hm : sl v xs ∈ R') (hs : St L2 R' w) (k : ∀ base cap, v = .slice base xs.length cap → (0 < xs.length → ∃ a, base = some a) → Da L R v xs.length) : Da L R v xs.length := by
 obtain ⟨b, c, h1, h2⟩ := Fd (L := L2) hm w hs
 exact k b c h1 h2
theorem d_pd {P : Program} {n : Nat} {Q : Exit → Act → World → Prop} {Sh : Rho → (Nat → Bool) → List Chunk} {R0 : List Fact} {al0 : List (Nat × Value)} {ops : Array Oper} {i : Nat} {rest : List Oper} {its : List Item} {op : Oper} {d : Nat} {v : Rho → Value} (hp : ∀ ρ S R' L' w, Deps ops R0 its i ρ R' → St (Sh ρ S ++ L') R' w → Ax P n (Dt its al0 ρ) (Sh ρ S) R0 op (v ρ)) (hi : Ind ops i v) (hSh : Ii ops Sh i)
  (k : DJ P n ops Q Sh R0 al0 (i + 1) rest (⟨i, some d, v, fun _ => [], fun _ => []⟩ :: its)) (hg : op.guard = none := by exact rfl) (hd : op.dst = some d := by exact rfl) : DN P n ops Q Sh R0 al0 i op rest its := by
 refine ⟨⟨i, some d, v, fun _ => [], fun _ => []⟩, rfl, hd.symm, hi, Ind.const _, Ind.const _, ?_, k⟩
 intro ρ S a L' R' w K hS hbef haft hag hdep hbase hst hK
 have hp0 := hp ρ S R' L' w ⟨hbase, hdep⟩ hst
 rw [if_pos (by simp [Region.wanted, hg])]
 left
 unfold Oper.wp
 have h : Now ops n Sh R0 al0 i its op ρ S a L' R' w := ⟨hS, hag, hdep, hbase, hst⟩
 rw [hp0.2 _ w (fun x hx u hu => Cd h.agree hx hu) (h.st.fewer h.base), Oper.upon_value]
 have hsh := hSh ρ (ρ i) S hS haft
 rw [Rho.set_same] at hsh
 have := hK (ρ i) w
 rw [Rho.set_same] at this
 exact this (by rw [hsh]; exact hst)
theorem Fu {L : List Chunk} {R : List Fact} {w : World} {u0 u1 : Value} {a b : Core} (e : a = b) (hs : St L R w) (h0 : sl u0 a.lines ∈ R) (h1 : sl u1 b.lines ∈ R) : Calls Try.prog 41 [.agg (a.cells u0).toArray, .agg (b.cells u1).toArray].toArray w (Ch (fun _ : Unit => .bool true) (fun _ => L) (fun _ => R)) := by
 have h := Sv hs h0 h1; rw [decide_eq_true e] at h; exact h
theorem Mh {L : List Chunk} {R : List Fact} {w : World} {v0 v1 : Value} {a b : List Done} (e : a = b) (hs : St L R w) (h0 : sl v0 a ∈ R) (h1 : sl v1 b ∈ R) : Calls Try.prog 42 [v0, v1].toArray w (Ch (fun _ : Unit => .bool true) (fun _ => L) (fun _ => R)) := by
 have h := Su hs h0 h1; rw [decide_eq_true e] at h; exact h
def cQ : Op := ⟨2, 1, 5⟩
def cB1 : Core := ⟨[⟨0, 0, 0, 0, 0, 0, 0⟩, ⟨0, 0, 2, 1, 0, 0, 0⟩], cQ⟩
def cA1 : List Msg := [⟨2, 0, 1, 1, 1, 0, 0, false⟩]
def cM : Msg := ⟨7, 1, 0, 1, 1, 1, 0, true⟩
def cB2 : Core := ⟨[⟨0, 0, 0, 0, 0, 0, 0⟩, ⟨2, 5, 0, 1, 1, 0, 0⟩], ⟨0, 0, 0⟩⟩
def cA2 : List Msg := [⟨10, 0, 1, 1, 0, 1, 0, false⟩]
def cD2 : List Done := [⟨0, cQ, 0⟩]
theorem Xk : Ag (Fh 2) 0 1 cQ = (cB1, cA1, [], 0) := by decide
theorem c_hear : Ad cB1 0 1 cM = (cB2, cA2, cD2) := by decide
theorem c_kb : KB (Fh 2) := by
  refine ⟨by decide, fun i hi => ?_, ⟨fun _ => ⟨rfl, fun i hi => ?_⟩, fun h => absurd rfl h⟩⟩
  · rw [show (Fh 2).lines.getD i zLine = zLine from Eu _ _ _]; decide
  · rw [show (Fh 2).lines.getD i zLine = zLine from Eu _ _ _]; rfl
theorem c_kh : KH cB1 := by
 refine ⟨by decide, ⟨fun h => absurd h (by decide), fun _ => ⟨by decide, by decide, by decide, fun i hi => ?_⟩⟩⟩
 have hi : i < 2 := hi
 have : i = 0 ∨ i = 1 := by omega
 rcases this with e | e <;> subst e <;> decide
theorem beginE {L : List Chunk} {R : List Fact} {w : World} {u : Value} {c c' : Core} {id home e : Int} {q : Op} {ms : List Msg} {ds : List Done} (he : Ag c id home q = (c', ms, ds, e)) (hs : St L R w) (hu : sl u c.lines ∈ R) (hk : KB c) (hid : Am id) (hhome : Am home) (hq : q.wf) : Calls Try.prog 39 [.agg (c.cells u).toArray, vi id, vi home, .agg q.cells.toArray].toArray w (Ch (fun v : Value × Value × Value => .tuple #[.agg (Core.cells v.1 c').toArray, v.2.1, v.2.2, vi e]) (fun _ => L) (fun v => sl v.1 c'.lines :: sl v.2.1 ms :: sl v.2.2 ds :: R)) := by
 have h := Ix hs hu hk hid hhome hq; rw [he] at h; exact h
theorem hearCE {L : List Chunk} {R : List Fact} {w : World} {u : Value} {c c' : Core} {id home : Int} {m : Msg} {ms : List Msg} {ds : List Done} (he : Ad c id home m = (c', ms, ds)) (hs : St L R w) (hu : sl u c.lines ∈ R) (hk : KH c) (hid : Am id) (hhome : Am home) (hm : m.wf) : Calls Try.prog 46 [.agg (c.cells u).toArray, vi id, vi home, .agg m.cells.toArray].toArray w (Ch (fun v : Value × Value × Value => .tuple #[.agg (Core.cells v.1 c').toArray, v.2.1, v.2.2]) (fun _ => L) (fun v => sl v.1 c'.lines :: sl v.2.1 ms :: sl v.2.2 ds :: R)) := by
 have h := Fy hs hu hk hid hhome hm; rw [he] at h; exact h
theorem Qe {c : Core} {id home : Int} {o : Op} (hn : (Ac c o.line).serial < 65535) (hw : c.wait.kind = 0) (h0 : (Ag c id home o).2.2.2 = 0) :
    ((Ag c id home o).1.wait = o ∧ (Ag c id home o).2.1.length = 1 ∧ (Ag c id home o).2.2.1.length = 0) ∨
    ((Ag c id home o).1.wait ≠ o ∧ (Ag c id home o).1.wait.kind = 0 ∧ (Ag c id home o).2.1.length = 0 ∧ ∃ v, (Ag c id home o).2.2.1 = [⟨id, o, v⟩]) := by
  have hk : ¬ (o.kind < 1 ∨ 4 < o.kind) := fun h => by
    have : (Ag c id home o).2.2.2 = 1 := by unfold Ag; rw [if_pos h]
    omega
  rcases ((Nh (id := id) (home := home) hn).2 hw).2 h0 with ⟨a, h1, h2, h3⟩ | ⟨v, h1, h2, h3⟩
  · exact .inl ⟨h1, by rw [h2]; rfl, by rw [h3]; rfl⟩
  · exact .inr ⟨fun e => by rw [e] at h1; omega, h1, by rw [h2]; rfl, v, h3⟩
theorem Kk {L : List Chunk} {R : List Fact} {w : World}  (hs : St (L) R w) : Calls Try.prog 49 [].toArray w (Ch (fun _ : Unit => .bool true) (fun _ => L) (fun _ => R)) := by
 refine Aj Try.func49 rfl Try.ntmps49 rfl hs ?_
 clear hs
 refine Gm ?_
 refine Gb1 ?_
 refine Aq Try.call48 rfl (fun w hs => Pd (lines := 2) hs ⟨by decide, by decide⟩) ?_; intro v9
 refine rn1 ?_
 refine Aq Try.call39 rfl (fun w hs => beginE (u := v9) (c := Fh 2) (id := 0) (home := 1) (q := cQ) Xk hs mm c_kb (by unfold Am; decide) (by unfold Am; decide) (by unfold Op.wf Am; decide)) ?_; intro v11
 refine J.know (p := v11.1.oneCell' = true) (fun w hs => isSlice.one (hs.fact (.head _))) (fun honev11 => ?_)
 refine rn5 ?_
 refine al_ (cs := [.slice none 0 0, vi 0, vi 0, vi 0]) Try.zeroValue69 ?_; intro b1
 refine s_B (cs := Core.cells v11.1 cB1) Try.sizeOf69 ?_
 refine Ga3 ?_
 refine JC.open0 (xs := cA1) (v := v11.2.1) 0 mm (by decide) (fun _ => ?_)
 refine Aa ?_
 refine rn1 ?_
 refine ob (Af rfl rfl (Bv (by decide))) ?_
 refine rn3 ?_
 refine gy ?_
 refine ob (Af rfl rfl (Bv (by decide))) ?_
 refine rn4 ?_
 refine gy ?_
 refine ob (Af rfl rfl (Bv (by decide))) ?_
 refine rn5 ?_
 refine gy ?_
 refine ob (Af rfl rfl (Bv (by decide))) ?_
 refine rn3 ?_
 refine gy ?_
 refine ob (Gi (i := 0) U5) ?_
 refine rn2 ?_
 refine gy ?_
 refine ob (Af rfl rfl (Bv (by decide))) ?_
 refine Gc1 ?_
 refine kp [0, 1, 5, 6, 7, 41, 42, 43, 44, 45, 46, 47] ?_
 refine Aa ?_
 refine rn2 ?_
 refine Aq Try.call46 rfl (fun w hs => hearCE (u := v11.1) (c := cB1) (id := 0) (home := 1) (m := cM) c_hear hs mm c_kh (by unfold Am; decide) (by unfold Am; decide) (by unfold Msg.wf Am; decide)) ?_; intro v44
 refine J.know (p := v44.1.oneCell' = true) (fun w hs => isSlice.one (hs.fact (.head _))) (fun honev44 => ?_)
 refine rn4 ?_
 refine al_ (cs := [.slice none 0 0, vi 0, vi 0, vi 0]) Try.zeroValue69 ?_; intro b5
 refine s_B (cs := Core.cells v44.1 cB2) Try.sizeOf69 ?_
 refine Ga2 ?_
 refine JC.open0 (xs := cA2) (v := v44.2.1) 0 mm (by decide) (fun _ => ?_)
 refine JC.open0 (xs := cB2.lines) (v := v44.1) 1 mm (by decide) (fun _ => ?_)
 refine Aa ?_
 refine rn2 ?_
 refine ob (Af rfl rfl (As (by decide))) ?_
 refine rn2 ?_
 refine gy ?_
 refine ob (Gi (i := 0) U5) ?_
 refine rn2 ?_
 refine gy ?_
 refine ob (Af rfl rfl (As (by decide))) ?_
 refine rn4 ?_
 refine gy ?_
 refine ob (Af rfl rfl (As (by decide))) ?_
 refine rn5 ?_
 refine gy ?_
 refine ob (Af rfl rfl (As (by decide))) ?_
 refine rn4 ?_
 refine gy ?_
 refine ob (Gi (i := 1) Ja) ?_
 refine rn2 ?_
 refine gy ?_
 refine ob (Af rfl rfl (As (by decide))) ?_
 refine rn3 ?_
 refine gy ?_
 refine Aq Try.call44 rfl (fun w hs => K6 (c := cB1) hs mm (by decide) (by unfold Am; decide) (by unfold Am; decide)) ?_; intro v79
 refine rn1 ?_
 refine gy ?_
 refine ob (Af rfl rfl (As (by decide))) ?_
 refine rn3 ?_
 refine gy ?_
 refine Aq Try.call43 rfl (fun w hs => Pc (c := cB1) (u := v11.1) hs mm) ?_; intro v85
 refine gy ?_
 refine ob (q_fld (fs := _) (fl := _) (off := 0) Try.underlying69 rfl rfl Try.isAgg67 rfl rfl) ?_
 refine rn1 ?_
 refine gy ?_
 refine ob (Af rfl rfl (As (by decide))) ?_
 refine Ga2 ?_
 exact Cb ()
theorem Kr {L : List Chunk} {R : List Fact} {w : World} {vl : Value} {c : Config} {l : List Step} {p : Int} {o : Op} {m : Msg} (hs : St (L) R w) (hl : sl vl l ∈ R) (hcw : c.wf) (how : o.wf) (hmw : m.wf) : Calls Try.prog 9 [.agg c.cells.toArray, vl, vi p, .agg o.cells.toArray, .agg m.cells.toArray].toArray w (Ch (fun _ : Unit => .bool true) (fun _ => L) (fun _ => R)) := by
  refine Aj Try.func9 rfl Try.ntmps9 rfl hs ?_
  clear hs
  refine Gm ?_
  refine bx ?_; intro b5
  refine bx ?_; intro b8
  refine bx ?_; intro b9
  refine Gb1 ?_
  refine rn2 ?_
  refine Aq Try.call28 rfl (fun w hs => Jf (c := c) (l := l) hs mm hcw) ?_; intro v26
  refine J.know (p := v26.1.oneCell' = true ∧ v26.2.1.oneCell' = true ∧ v26.2.2.1.oneCell' = true) (fun w hs => ⟨isSlice.one (hs.fact (.head _)), isSlice.one (hs.fact (.tail _ (.head _))), isSlice.one (hs.fact (.tail _ (.tail _ (.head _))))⟩) (fun h12 => ?_)
  obtain ⟨hone1, hone2, hone3⟩ := h12
  refine rn3 ?_
  refine al_ (cs := [.slice none 0 0, .slice none 0 0, .slice none 0 0]) Try.zeroValue46 ?_; intro b11
  refine s_B (cs := [v26.1, v26.2.1, v26.2.2.1]) Try.sizeOf46 ?_
  refine Ga1 ?_
  rcases (show (p < 0) ∨ (0 ≤ p ∧ ((build c l).1.cores.length : Int) ≤ p) ∨ (0 ≤ p ∧ p < ((build c l).1.cores.length : Int)) from by omega) with hc | hc | hc
  ·
   refine Aa ?_
   refine rn1 ?_
   refine ob (Af rfl rfl (Bt (by omega))) ?_
   refine Gd7 ?_
   refine Ga1 ?_
   exact Cb ()
  ·
   refine Aa ?_
   refine rn1 ?_
   refine ob (Af rfl rfl (An (by omega))) ?_
   refine rn5 ?_
   refine gy ?_
   refine ob (Af rfl rfl (Cv (by omega))) ?_
   refine Gd1 ?_
   refine Ga1 ?_
   exact Cb ()
  ·
   refine Aa ?_
   refine rn1 ?_
   refine ob (Af rfl rfl (An (by omega))) ?_
   refine rn5 ?_
   refine gy ?_
   refine ob (Af rfl rfl (A4 (by omega))) ?_
   refine Gc1 ?_
   obtain ⟨hok, n, nl, hcc, M, hI⟩ := Ie (c := c) (l := l) (by omega)
   have hnc := hI.nc
   have hnh := hI.nh
   have hn1 := hI.n1
   have hn2 := hI.l1
   have hn64 : Am ((build c l).1.cores.length : Int) := by unfold Am; omega
   have hp64 : Am p := by unfold Am; omega
   have hkb : KB (Ah (build c l).1 p) := hI.kb (p := p.toNat) (by omega)
   have hkl : (Ah (build c l).1 p).lines.length = nl := hI.ncl p.toNat (by omega)
   have hcl : c.lines = (nl : Int) := by rw [hcc]; rfl
   refine F6 (x := (build c l).1) (v := v26.1) p mm (by omega) (by omega) (fun hwt u => ?_)
   refine JC.know (p := u.oneCell' = true) (fun w hs => isSlice.one (hs.fact (.tail _ (.head _)))) (fun honeu => ?_)
   refine cq_ (blk b11 46 [v26.1, v26.2.1, v26.2.2.1] :: blk b9 42 m.cells :: blk b8 66 o.cells :: blk b5 39 c.cells :: L) ?_
   refine jd_ (fun ρ S => blk b11 46 [v26.1, v26.2.1, v26.2.2.1] :: blk b9 42 m.cells :: blk b8 66 o.cells :: blk b5 39 c.cells :: ((bif S 8 then [blk (Gh.dec (γ := Nat) (ρ 8)) 69 (bif S 9 then (Core.cells u (Ah (build c l).1 p)) else [.slice none 0 0, vi 0, vi 0, vi 0])] else []) ++ (L))) ?_
   refine dn8 ?_
   refine Gc (cs := [.slice none 0 0, vi 0, vi 0, vi 0]) Try.zeroValue69 rfl (fun ρ b S hS hA => ?_) ?_
   ·
    have ui : upS S 8 8 = true := rfl; have u9 : upS S 8 9 = S 9 := rfl; have h9 : S 9 = false := hA 9 ⟨0, rfl⟩; have rs : (Gh.dec (γ := Nat) (Rho.set ρ 8 (Gh.enc b) 8)) = b := rfl
    simp only [ui, hS, u9, h9, rs, cond_true, cond_false, List.nil_append]
    exact Ins.perm (by repeat (first | exact .hd | exact .hc | refine .tl ?_ | refine .ap ?_))
   refine es_ 69 0 [8] [] (fun ρ => (Gh.dec (γ := Nat) (ρ 8))) (fun ρ => [.slice none 0 0, vi 0, vi 0, vi 0]) (fun ρ => (Core.cells u (Ah (build c l).1 p))) Try.sizeOf69 ?_
   refine dn1 ?_
   refine dnl ?_; intro ρ
   refine xq_ (blk b11 46 [v26.1, v26.2.1, v26.2.2.1] :: blk b9 42 m.cells :: blk b8 66 o.cells :: blk b5 39 c.cells :: (blk (Gh.dec (γ := Nat) (ρ 8)) 69 (Core.cells u (Ah (build c l).1 p)) :: L)) ?_
   generalize (Gh.dec (γ := Nat) (ρ 8)) = b13
   refine Gl ?_
   refine kp [2, 5, 8, 9, 10, 13, 14, 15, 16, 17, 18, 46, 47, 48, 49, 50, 51, 52, 53, 54, 55] ?_
   refine Aa ?_
   refine rn4 ?_
   refine Aq Try.call39 rfl (fun w hs => Ix (c := (Ah (build c l).1 p)) (id := p) (home := ((build c l).1.cores.length : Int)) (q := o) (u := u) hs mm hkb hp64 hn64 how) ?_; intro v51
   refine J.know (p := v51.1.oneCell' = true) (fun w hs => isSlice.one (hs.fact (.head _))) (fun honev51 => ?_)
   refine rn5 ?_
   refine al_ (cs := [.slice none 0 0, vi 0, vi 0, vi 0]) Try.zeroValue69 ?_; intro b15
   refine s_B (cs := Core.cells v51.1 (Ag (Ah (build c l).1 p) p ((build c l).1.cores.length : Int) o).1) Try.sizeOf69 ?_
   refine Gb3 ?_
   refine rn4 ?_
   refine Aq Try.call40 rfl (fun w hs => Oz (c := (Ah (build c l).1 p)) (id := p) (home := ((build c l).1.cores.length : Int)) (q := o) (u := u) hs mm hkb hp64 hn64 how) ?_; intro v61
   refine J.know (p := v61.1.oneCell' = true) (fun w hs => isSlice.one (hs.fact (.head _))) (fun honev61 => ?_)
   refine rn5 ?_
   refine al_ (cs := [.slice none 0 0, vi 0, vi 0, vi 0]) Try.zeroValue69 ?_; intro b19
   refine s_B (cs := Core.cells v61.1 (Ag (Ah (build c l).1 p) p ((build c l).1.cores.length : Int) o).1) Try.sizeOf69 ?_
   refine Ga3 ?_
   refine Dv ?_
   refine dn2 ?_
   refine djc (fun _ _ => Af rfl rfl (Bv (by omega))) ?_
   refine djc (fun _ _ => Cx) ?_
   refine dn2 ?_
   refine dj (dgy ?_)
   refine Ff (γ := Unit) (val := fun _ => .bool true) (F := fun _ => []) (C := fun _ => []) Try.call41 (fun _ => rfl) (fun _ _ _ _ => rfl) (fun ρ L R w hd hs => Fu (a := (Ag (Ah (build c l).1 p) p ((build c l).1.cores.length : Int) o).1) rfl hs (hd.base mm) (hd.base mm)) ?_
   refine dj (dgy ?_)
   first | refine dc (fun _ _ => q_notD) ?_ | refine dc (fun _ _ => Ll) ?_
   refine djc (fun _ _ => Em) ?_
   refine djc (fun _ _ => Cx) ?_
   refine dn2 ?_
   refine dj (dgy ?_)
   refine Ff (γ := Unit) (val := fun _ => .bool true) (F := fun _ => []) (C := fun _ => []) Try.call32 (fun _ => rfl) (fun _ _ _ _ => rfl) (fun ρ L R w hd hs => Jt (a := (Ag (Ah (build c l).1 p) p ((build c l).1.cores.length : Int) o).2.1) rfl hs (hd.base mm) (hd.base mm)) ?_
   refine dj (dgy ?_)
   first | refine dc (fun _ _ => q_notD) ?_ | refine dc (fun _ _ => Ll) ?_
   refine djc (fun _ _ => Em) ?_
   refine djc (fun _ _ => Cx) ?_
   refine dn2 ?_
   refine dj (dgy ?_)
   refine Ff (γ := Unit) (val := fun _ => .bool true) (F := fun _ => []) (C := fun _ => []) Try.call42 (fun _ => rfl) (fun _ _ _ _ => rfl) (fun ρ L R w hd hs => Mh (a := (Ag (Ah (build c l).1 p) p ((build c l).1.cores.length : Int) o).2.2.1) rfl hs (hd.base mm) (hd.base mm)) ?_
   refine dj (dgy ?_)
   first | refine dc (fun _ _ => q_notD) ?_ | refine dc (fun _ _ => Ll) ?_
   refine djc (fun _ _ => Em) ?_
   refine djc (fun _ _ => Cx) ?_
   refine dn1 ?_
   refine dj (dgy ?_)
   refine Ff (γ := Value) (val := fun v => .agg (Core.cells v (Ah (build c l).1 p)).toArray) (F := fun v => [sl v (Ah (build c l).1 p).lines]) (C := fun _ => []) Try.call43 (fun _ => rfl) (fun _ _ _ _ => rfl) (fun ρ L R w hd hs => Pc (u := u) (c := (Ah (build c l).1 p)) hs (hd.base mm)) ?_
   refine dn1 ?_
   refine dj (dgy ?_)
   refine Ff (γ := Unit) (val := fun _ => .bool true) (F := fun _ => []) (C := fun _ => []) Try.call41 (fun _ => rfl) (fun _ _ _ _ => rfl) (fun ρ L R w hd hs => Fu (a := (Ah (build c l).1 p)) (b := (Ah (build c l).1 p)) rfl hs (hd.dep (it := ⟨23, _, _, _, _⟩) (by repeat (first | exact List.Mem.head _ | refine List.Mem.tail _ ?_)) ⟨9, rfl⟩ (List.Mem.head _)) (hd.base mm)) ?_
   refine dj (dgy ?_)
   first | refine dc (fun _ _ => q_notD) ?_ | refine dc (fun _ _ => Ll) ?_
   refine djc (fun _ _ => Em) ?_
   refine djc (fun _ _ => Cx) ?_
   refine dn3 ?_
   refine dj (dgy ?_)
   refine Ff (γ := Value) (val := fun v => v) (F := fun v => [sl v (C7 (Ah (build c l).1 p) p ((build c l).1.cores.length : Int))]) (C := fun _ => []) Try.call44 (fun _ => rfl) (fun _ _ _ _ => rfl) (fun ρ L R w hd hs => K6 (c := (Ah (build c l).1 p)) (id := p) (home := ((build c l).1.cores.length : Int)) (u := u) hs (hd.base mm) (by omega) hp64 hn64) ?_
   refine dn3 ?_
   refine dj (dgy ?_)
   refine Ff (γ := Value) (val := fun v => v) (F := fun v => [sl v (C7 (Ah (build c l).1 p) p ((build c l).1.cores.length : Int))]) (C := fun _ => []) Try.call45 (fun _ => rfl) (fun _ _ _ _ => rfl) (fun ρ L R w hd hs => I0 (c := (Ah (build c l).1 p)) (id := p) (home := ((build c l).1.cores.length : Int)) (u := u) hs (hd.base mm) hp64 hn64) ?_
   refine dj (dgy ?_)
   refine Ff (γ := Unit) (val := fun _ => .bool true) (F := fun _ => []) (C := fun _ => []) Try.call32 (fun _ => rfl) (fun _ _ _ _ => rfl) (fun ρ L R w hd hs => Jt (a := C7 (Ah (build c l).1 p) p ((build c l).1.cores.length : Int)) rfl hs (hd.dep (it := ⟨32, _, _, _, _⟩) (by repeat (first | exact List.Mem.head _ | refine List.Mem.tail _ ?_)) ⟨9, rfl⟩ (List.Mem.head _)) (hd.dep (it := ⟨36, _, _, _, _⟩) (by repeat (first | exact List.Mem.head _ | refine List.Mem.tail _ ?_)) ⟨9, rfl⟩ (List.Mem.head _))) ?_
   refine dj (dgy ?_)
   first | refine dc (fun _ _ => q_notD) ?_ | refine dc (fun _ _ => Ll) ?_
   refine djc (fun _ _ => Em) ?_
   refine dnl ?_; intro ρ
   refine Glc ?_
   refine kp [2, 5, 9, 10, 13, 14, 15, 16, 17, 19, 20, 21, 106, 107, 108, 109, 110, 111, 112, 113, 114] ?_
   refine Aa ?_
   refine rn4 ?_
   refine Aq Try.call46 rfl (fun w hs => Fy (c := (Ah (build c l).1 p)) (id := p) (home := ((build c l).1.cores.length : Int)) (m := m) (u := u) hs mm hkb.kh hp64 hn64 hmw) ?_; intro v111
   refine J.know (p := v111.1.oneCell' = true) (fun w hs => isSlice.one (hs.fact (.head _))) (fun honev111 => ?_)
   refine rn4 ?_
   refine s_B (cs := Core.cells v111.1 (Ad (Ah (build c l).1 p) p ((build c l).1.cores.length : Int) m).1) Try.sizeOf69 ?_
   refine Gb2 ?_
   refine rn4 ?_
   refine Aq Try.call47 rfl (fun w hs => Q1 (c := (Ah (build c l).1 p)) (id := p) (home := ((build c l).1.cores.length : Int)) (m := m) (u := u) hs mm hkb hp64 hn64 hmw) ?_; intro v120
   refine J.know (p := v120.1.oneCell' = true) (fun w hs => isSlice.one (hs.fact (.head _))) (fun honev120 => ?_)
   refine rn4 ?_
   refine s_B (cs := Core.cells v120.1 (Ad (Ah (build c l).1 p) p ((build c l).1.cores.length : Int) m).1) Try.sizeOf69 ?_
   refine Ga2 ?_
   refine Dv ?_
   refine dn2 ?_
   refine dj ?_
   refine Ff (γ := Unit) (val := fun _ => .bool true) (F := fun _ => []) (C := fun _ => []) Try.call41 (fun _ => rfl) (fun _ _ _ _ => rfl) (fun ρ L R w hd hs => Fu (a := (Ad (Ah (build c l).1 p) p ((build c l).1.cores.length : Int) m).1) rfl hs (hd.base mm) (hd.base mm)) ?_
   refine djc (fun _ _ => Cx) ?_
   refine dn2 ?_
   refine dj (dgy ?_)
   refine Ff (γ := Unit) (val := fun _ => .bool true) (F := fun _ => []) (C := fun _ => []) Try.call32 (fun _ => rfl) (fun _ _ _ _ => rfl) (fun ρ L R w hd hs => Jt (a := (Ad (Ah (build c l).1 p) p ((build c l).1.cores.length : Int) m).2.1) rfl hs (hd.base mm) (hd.base mm)) ?_
   refine djc (fun _ _ => Gg) ?_
   refine djc (fun _ _ => Cx) ?_
   refine dn2 ?_
   refine dj (dgy ?_)
   refine Ff (γ := Unit) (val := fun _ => .bool true) (F := fun _ => []) (C := fun _ => []) Try.call42 (fun _ => rfl) (fun _ _ _ _ => rfl) (fun ρ L R w hd hs => Mh (a := (Ad (Ah (build c l).1 p) p ((build c l).1.cores.length : Int) m).2.2) rfl hs (hd.base mm) (hd.base mm)) ?_
   refine djc (fun _ _ => Gg) ?_
   refine djc (fun _ _ => Cx) ?_
   refine dn2 ?_
   refine dj (dgy ?_)
   refine Ff (γ := Value) (val := fun v => .agg (Core.cells v (Fh c.lines)).toArray) (F := fun v => [sl v (Fh c.lines).lines]) (C := fun _ => []) Try.call48 (fun _ => rfl) (fun _ _ _ _ => rfl) (fun ρ L R w hd hs => Pd (lines := c.lines) hs (by omega)) ?_
   refine dj (dgy ?_)
   refine dp (v := fun ρ => (Gh.dec (γ := Value) (ρ 16))) (fun _ _ => q_fld (fs := _) (fl := _) (off := 0) Try.underlying69 rfl rfl Try.isAgg67 rfl rfl) ?_
   refine dj (dgy ?_)
   refine d_pd (v := fun _ => vi ((Fh c.lines).lines.length : Int)) (fun ρ S R' L' w hd hs => Q5 Try.underlying67 rfl (Vq (hd.dep (it := ⟨16, _, _, _, _⟩) (by repeat (first | exact List.Mem.head _ | refine List.Mem.tail _ ?_)) ⟨9, rfl⟩ (List.Mem.head _)) hs (fun b cc e1 e2 w' hs' => ⟨b, cc, e1, e2⟩))) (Ind.const _) (fun _ _ _ _ _ => rfl) ?_
   refine dn2 ?_
   refine dj (dgy ?_)
   refine dc (fun _ _ => Af rfl rfl (As (by show ((List.replicate c.lines.toNat zLine).length : Int) = c.lines; rw [List.length_replicate]; omega))) ?_
   refine djc (fun _ _ => Gg) ?_
   refine djc (fun _ _ => Db) ?_
   refine dnl ?_; intro ρ
   refine Gl ?_
   exact Cb ()
theorem Kq {L : List Chunk} {R : List Fact} {w : World} {vl : Value} {c : Config} {l : List Step} {p : Int} {m : Msg} (hs : St (L) R w) (hl : sl vl l ∈ R) (hcw : c.wf) (hmw : m.wf) : Calls Try.prog 10 [.agg c.cells.toArray, vl, vi p, .agg m.cells.toArray].toArray w (Ch (fun _ : Unit => .bool true) (fun _ => L) (fun _ => R)) := by
  refine Aj Try.func10 rfl Try.ntmps10 rfl hs ?_
  clear hs
  refine Gm ?_
  refine bx ?_; intro b4
  refine bx ?_; intro b7
  refine Gb1 ?_
  refine Aq Try.call49 rfl (fun w hs => Kk hs) ?_; intro _
  refine Gd1 ?_
  refine rn2 ?_
  refine Aq Try.call28 rfl (fun w hs => Jf (c := c) (l := l) hs mm hcw) ?_; intro v23
  refine J.know (p := v23.1.oneCell' = true ∧ v23.2.1.oneCell' = true ∧ v23.2.2.1.oneCell' = true) (fun w hs => ⟨isSlice.one (hs.fact (.head _)), isSlice.one (hs.fact (.tail _ (.head _))), isSlice.one (hs.fact (.tail _ (.tail _ (.head _))))⟩) (fun h12 => ?_)
  obtain ⟨hone1, hone2, hone3⟩ := h12
  refine rn3 ?_
  refine al_ (cs := [.slice none 0 0, .slice none 0 0, .slice none 0 0]) Try.zeroValue46 ?_; intro b9
  refine s_B (cs := [v23.1, v23.2.1, v23.2.2.1]) Try.sizeOf46 ?_
  refine Ga1 ?_
  rcases (show (p < 0) ∨ (0 ≤ p ∧ ((build c l).1.cores.length : Int) ≤ p) ∨ (0 ≤ p ∧ p < ((build c l).1.cores.length : Int)) from by omega) with hc | hc | hc
  ·
   refine Aa ?_
   refine rn1 ?_
   refine ob (Af rfl rfl (Bt (by omega))) ?_
   refine Gd7 ?_
   refine Ga1 ?_
   exact Cb ()
  ·
   refine Aa ?_
   refine rn1 ?_
   refine ob (Af rfl rfl (An (by omega))) ?_
   refine rn5 ?_
   refine gy ?_
   refine ob (Af rfl rfl (Cv (by omega))) ?_
   refine Gd1 ?_
   refine Ga1 ?_
   exact Cb ()
  ·
   refine Aa ?_
   refine rn1 ?_
   refine ob (Af rfl rfl (An (by omega))) ?_
   refine rn5 ?_
   refine gy ?_
   refine ob (Af rfl rfl (A4 (by omega))) ?_
   refine Gc1 ?_
   obtain ⟨hok, n, nl, hcc, M, hI⟩ := Ie (c := c) (l := l) (by omega)
   have hnc := hI.nc
   have hnh := hI.nh
   have hn1 := hI.n1
   have hn2 := hI.l1
   have hn64 : Am ((build c l).1.cores.length : Int) := by unfold Am; omega
   have hp64 : Am p := by unfold Am; omega
   have hkb : KB (Ah (build c l).1 p) := hI.kb (p := p.toNat) (by omega)
   have hkl : (Ah (build c l).1 p).lines.length = nl := hI.ncl p.toNat (by omega)
   have hcl : c.lines = (nl : Int) := by rw [hcc]; rfl
   refine F6 (x := (build c l).1) (v := v23.1) p mm (by omega) (by omega) (fun hwt u => ?_)
   refine JC.know (p := u.oneCell' = true) (fun w hs => isSlice.one (hs.fact (.tail _ (.head _)))) (fun honeu => ?_)
   refine Aa ?_
   refine Ga4 ?_
   refine cq_ (blk b9 46 [v23.1, v23.2.1, v23.2.2.1] :: blk b7 42 m.cells :: blk b4 39 c.cells :: L) ?_
   refine jd_ (fun ρ S => blk b9 46 [v23.1, v23.2.1, v23.2.2.1] :: blk b7 42 m.cells :: blk b4 39 c.cells :: ((bif S 13 then [blk (Gh.dec (γ := Nat) (ρ 13)) 69 (bif S 14 then [(Gh.dec (γ := Value × Value × Value) (ρ 8)).1, vi (Ad (Ah (build c l).1 p) p ((build c l).1.cores.length : Int) m).1.wait.kind, vi (Ad (Ah (build c l).1 p) p ((build c l).1.cores.length : Int) m).1.wait.line, vi (Ad (Ah (build c l).1 p) p ((build c l).1.cores.length : Int) m).1.wait.value] else [.slice none 0 0, vi 0, vi 0, vi 0])] else []) ++ (L))) ?_
   refine dn8 ?_
   refine Bn (γ := Value × Value × Value) (val := fun v => .tuple #[.agg (Core.cells v.1 (Ad (Ah (build c l).1 p) p ((build c l).1.cores.length : Int) m).1).toArray, v.2.1, v.2.2]) (F := fun v => [sl v.1 (Ad (Ah (build c l).1 p) p ((build c l).1.cores.length : Int) m).1.lines, sl v.2.1 (Ad (Ah (build c l).1 p) p ((build c l).1.cores.length : Int) m).2.1, sl v.2.2 (Ad (Ah (build c l).1 p) p ((build c l).1.cores.length : Int) m).2.2]) Try.call46 (fun _ => rfl) (fun ρ L R w hd hs => Fy (c := (Ah (build c l).1 p)) (id := p) (home := ((build c l).1.cores.length : Int)) (m := m) (u := u) hs (hd.base mm) hkb.kh hp64 hn64 hmw) (fun ρ g S hS hA => by have u13 : upS S 8 13 = S 13 := rfl; have u14 : upS S 8 14 = S 14 := rfl; have r13 : Rho.set ρ 8 g 13 = ρ 13 := rfl; have h14 : S 14 = false := hA 14 ⟨0, rfl⟩; simp only [u13, u14, r13, h14, cond_false]) ?_
   refine e_p (v := fun ρ => .tuple #[.agg (Core.cells (Gh.dec (γ := Value × Value × Value) (ρ 8)).1 (Ad (Ah (build c l).1 p) p ((build c l).1.cores.length : Int) m).1).toArray, (Gh.dec (γ := Value × Value × Value) (ρ 8)).2.1, (Gh.dec (γ := Value × Value × Value) (ρ 8)).2.2]) (fun _ _ => Cx) (Ind.gh (h := fun g => (.tuple #[.agg (Core.cells (Gh.dec (γ := Value × Value × Value) g).1 (Ad (Ah (build c l).1 p) p ((build c l).1.cores.length : Int) m).1).toArray, (Gh.dec (γ := Value × Value × Value) g).2.1, (Gh.dec (γ := Value × Value × Value) g).2.2] : Value)) 8 0 rfl) (fun _ _ _ _ _ => rfl) ?_
   refine e_p (v := fun ρ => .agg (Core.cells (Gh.dec (γ := Value × Value × Value) (ρ 8)).1 (Ad (Ah (build c l).1 p) p ((build c l).1.cores.length : Int) m).1).toArray) (fun _ _ => q_x) (Ind.gh (h := fun g => (.agg (Core.cells (Gh.dec (γ := Value × Value × Value) g).1 (Ad (Ah (build c l).1 p) p ((build c l).1.cores.length : Int) m).1).toArray : Value)) 8 1 rfl) (fun _ _ _ _ _ => rfl) ?_
   refine e_p (v := fun ρ => (Gh.dec (γ := Value × Value × Value) (ρ 8)).2.1) (fun _ _ => q_x) (Ind.gh (h := fun g => ((Gh.dec (γ := Value × Value × Value) g).2.1 : Value)) 8 1 rfl) (fun _ _ _ _ _ => rfl) ?_
   refine e_p (v := fun ρ => (Gh.dec (γ := Value × Value × Value) (ρ 8)).2.2) (fun _ _ => q_x) (Ind.gh (h := fun g => ((Gh.dec (γ := Value × Value × Value) g).2.2 : Value)) 8 1 rfl) (fun _ _ _ _ _ => rfl) ?_
   refine Gc (cs := [.slice none 0 0, vi 0, vi 0, vi 0]) Try.zeroValue69 rfl (fun ρ b S hS hA => ?_) ?_
   ·
    have ui : upS S 13 13 = true := rfl; have u14 : upS S 13 14 = S 14 := rfl; have r8 : Rho.set ρ 13 (Gh.enc b) 8 = ρ 8 := rfl; have h14 : S 14 = false := hA 14 ⟨0, rfl⟩; have rs : (Gh.dec (γ := Nat) (Rho.set ρ 13 (Gh.enc b) 13)) = b := rfl
    simp only [ui, hS, u14, r8, h14, rs, cond_true, cond_false, List.nil_append]
    exact Ins.perm (by repeat (first | exact .hd | exact .hc | refine .tl ?_ | refine .ap ?_))
   refine es_ 69 0 [13] [] (fun ρ => (Gh.dec (γ := Nat) (ρ 13))) (fun ρ => [.slice none 0 0, vi 0, vi 0, vi 0]) (fun ρ => [(Gh.dec (γ := Value × Value × Value) (ρ 8)).1, vi (Ad (Ah (build c l).1 p) p ((build c l).1.cores.length : Int) m).1.wait.kind, vi (Ad (Ah (build c l).1 p) p ((build c l).1.cores.length : Int) m).1.wait.line, vi (Ad (Ah (build c l).1 p) p ((build c l).1.cores.length : Int) m).1.wait.value]) Try.sizeOf69 (h1 := (fun ρ R w L' hd hs => A6 (isSlice.one (hs.fact (hd.dep (it := ⟨8, _, _, _, _⟩) (by repeat (first | exact List.Mem.head _ | refine List.Mem.tail _ ?_)) ⟨9, rfl⟩ (List.Mem.head _)))) (by repeat (first | exact C3 | refine A6 rfl ?_)))) ?_
   refine e_p (v := fun ρ => (Gh.dec (γ := Value × Value × Value) (ρ 8)).2.1) (fun _ _ => Db) (Ind.gh (h := fun g => ((Gh.dec (γ := Value × Value × Value) g).2.1 : Value)) 8 0 rfl) (fun _ _ _ _ _ => rfl) ?_
   refine e_p (v := fun ρ => (Gh.dec (γ := Value × Value × Value) (ρ 8)).2.2) (fun _ _ => Db) (Ind.gh (h := fun g => ((Gh.dec (γ := Value × Value × Value) g).2.2 : Value)) 8 0 rfl) (fun _ _ _ _ _ => rfl) ?_
   refine dnl ?_; intro ρ
   refine xq_ (blk b9 46 [v23.1, v23.2.1, v23.2.2.1] :: blk b7 42 m.cells :: blk b4 39 c.cells :: (blk (Gh.dec (γ := Nat) (ρ 13)) 69 [(Gh.dec (γ := Value × Value × Value) (ρ 8)).1, vi (Ad (Ah (build c l).1 p) p ((build c l).1.cores.length : Int) m).1.wait.kind, vi (Ad (Ah (build c l).1 p) p ((build c l).1.cores.length : Int) m).1.wait.line, vi (Ad (Ah (build c l).1 p) p ((build c l).1.cores.length : Int) m).1.wait.value] :: L)) ?_
   generalize (Gh.dec (γ := Value × Value × Value) (ρ 8)) = v47
   generalize (Gh.dec (γ := Nat) (ρ 13)) = b12
   refine Gl ?_
   refine kp [2, 7, 8, 11, 12, 15, 17, 51, 52, 53, 54, 55, 56, 57, 58, 59] ?_
   refine Aa ?_
   refine rn4 ?_
   refine Aq Try.call46 rfl (fun w hs => Fy (c := (Ad (Ah (build c l).1 p) p ((build c l).1.cores.length : Int) m).1) (id := p) (home := ((build c l).1.cores.length : Int)) (m := m) (u := v47.1) hs mm (hkb.kh.hear p ((build c l).1.cores.length : Int) m) hp64 hn64 hmw) ?_; intro v56
   refine J.know (p := v56.1.oneCell' = true) (fun w hs => isSlice.one (hs.fact (.head _))) (fun honev56 => ?_)
   refine rn4 ?_
   refine al_ (cs := [.slice none 0 0, vi 0, vi 0, vi 0]) Try.zeroValue69 ?_; intro b15
   refine s_B (cs := Core.cells v56.1 (Ad (Ad (Ah (build c l).1 p) p ((build c l).1.cores.length : Int) m).1 p ((build c l).1.cores.length : Int) m).1) Try.sizeOf69 ?_
   refine Gb2 ?_
   refine rn2 ?_
   refine Aq Try.call41 rfl (fun w hs => Fu (a := (Ad (Ah (build c l).1 p) p ((build c l).1.cores.length : Int) m).1) (b := (Ad (Ad (Ah (build c l).1 p) p ((build c l).1.cores.length : Int) m).1 p ((build c l).1.cores.length : Int) m).1) core_twice.1.symm hs mm mm) ?_; intro _
   refine rn3 ?_
   refine gy ?_
   refine ob (Af rfl rfl (As (by rw [core_twice.2]; rfl))) ?_
   refine Ga2 ?_
   exact Cb ()
theorem Ni {L : List Chunk} {R : List Fact} {w : World} {vl : Value} {c : Config} {l : List Step} {p : Int} {m : Msg} (hs : St (L) R w) (hl : sl vl l ∈ R) (hcw : c.wf) (hmw : m.wf) : Calls Try.prog 11 [.agg c.cells.toArray, vl, vi p, .agg m.cells.toArray].toArray w (Ch (fun _ : Unit => .bool true) (fun _ => L) (fun _ => R)) := by
  refine Aj Try.func11 rfl Try.ntmps11 rfl hs ?_
  clear hs
  refine Gm ?_
  refine bx ?_; intro b4
  refine bx ?_; intro b7
  refine Gb1 ?_
  refine Aq Try.call49 rfl (fun w hs => Kk hs) ?_; intro _
  refine Gd1 ?_
  refine rn2 ?_
  refine Aq Try.call28 rfl (fun w hs => Jf (c := c) (l := l) hs mm hcw) ?_; intro v20
  refine J.know (p := v20.1.oneCell' = true ∧ v20.2.1.oneCell' = true ∧ v20.2.2.1.oneCell' = true) (fun w hs => ⟨isSlice.one (hs.fact (.head _)), isSlice.one (hs.fact (.tail _ (.head _))), isSlice.one (hs.fact (.tail _ (.tail _ (.head _))))⟩) (fun h12 => ?_)
  obtain ⟨hone1, hone2, hone3⟩ := h12
  refine rn3 ?_
  refine al_ (cs := [.slice none 0 0, .slice none 0 0, .slice none 0 0]) Try.zeroValue46 ?_; intro b9
  refine s_B (cs := [v20.1, v20.2.1, v20.2.2.1]) Try.sizeOf46 ?_
  refine Ga1 ?_
  rcases (show (p < 0) ∨ (0 ≤ p ∧ ((build c l).1.cores.length : Int) ≤ p) ∨ (0 ≤ p ∧ p < ((build c l).1.cores.length : Int) ∧ m.line < 0) ∨ (0 ≤ p ∧ p < ((build c l).1.cores.length : Int) ∧ 0 ≤ m.line ∧ c.lines ≤ m.line) ∨ (0 ≤ p ∧ p < ((build c l).1.cores.length : Int) ∧ 0 ≤ m.line ∧ m.line < c.lines) from by omega) with hc | hc | hc | hc | hc
  ·
   refine Aa ?_
   refine rn1 ?_
   refine ob (Af rfl rfl (Bt (by omega))) ?_
   refine Gc19 ?_
   refine kp [2, 7, 8, 9] ?_
   refine Aa ?_
   refine Ga1 ?_
   exact Cb ()
  ·
   refine Aa ?_
   refine rn1 ?_
   refine ob (Af rfl rfl (An (by omega))) ?_
   refine rn5 ?_
   refine gy ?_
   refine ob (Af rfl rfl (Cv (by omega))) ?_
   refine Gc13 ?_
   refine kp [2, 7, 8, 9] ?_
   refine Aa ?_
   refine Ga1 ?_
   exact Cb ()
  ·
   refine Aa ?_
   refine rn1 ?_
   refine ob (Af rfl rfl (An (by omega))) ?_
   refine rn5 ?_
   refine gy ?_
   refine ob (Af rfl rfl (A4 (by omega))) ?_
   refine rn4 ?_
   refine gy ?_
   refine ob (Af rfl rfl (Bt (by omega))) ?_
   refine Gc8 ?_
   refine kp [2, 7, 8, 9] ?_
   refine Aa ?_
   refine Ga1 ?_
   exact Cb ()
  ·
   refine Aa ?_
   refine rn1 ?_
   refine ob (Af rfl rfl (An (by omega))) ?_
   refine rn5 ?_
   refine gy ?_
   refine ob (Af rfl rfl (A4 (by omega))) ?_
   refine rn4 ?_
   refine gy ?_
   refine ob (Af rfl rfl (An (by omega))) ?_
   refine rn6 ?_
   refine gy ?_
   refine ob (Af rfl rfl (Cv (by omega))) ?_
   refine Gc1 ?_
   refine kp [2, 7, 8, 9] ?_
   refine Aa ?_
   refine Ga1 ?_
   exact Cb ()
  ·
   refine Aa ?_
   refine rn1 ?_
   refine ob (Af rfl rfl (An (by omega))) ?_
   refine rn5 ?_
   refine gy ?_
   refine ob (Af rfl rfl (A4 (by omega))) ?_
   refine rn4 ?_
   refine gy ?_
   refine ob (Af rfl rfl (An (by omega))) ?_
   refine rn6 ?_
   refine gy ?_
   refine ob (Af rfl rfl (A4 (by omega))) ?_
   refine Gc1 ?_
   obtain ⟨hok, n, nl, hcc, M, hI⟩ := Ie (c := c) (l := l) (by omega)
   have hnc := hI.nc
   have hnh := hI.nh
   have hn1 := hI.n1
   have hn2 := hI.l1
   have hn64 : Am ((build c l).1.cores.length : Int) := by unfold Am; omega
   have hp64 : Am p := by unfold Am; omega
   have hkb : KB (Ah (build c l).1 p) := hI.kb (p := p.toNat) (by omega)
   have hkl : (Ah (build c l).1 p).lines.length = nl := hI.ncl p.toNat (by omega)
   have hcl : c.lines = (nl : Int) := by rw [hcc]; rfl
   refine F6 (x := (build c l).1) (v := v20.1) p mm (by omega) (by omega) (fun hwt u => ?_)
   refine JC.know (p := u.oneCell' = true) (fun w hs => isSlice.one (hs.fact (.tail _ (.head _)))) (fun honeu => ?_)
   refine Fl (c := (Ah (build c l).1 p)) (v := u) m.line mm (by omega) (by omega) (fun hwl => ?_)
   refine kp [2, 7, 8, 9, 11, 44, 45, 46, 47, 48, 49, 50, 51, 52, 53] ?_
   refine cq_ (blk b9 46 [v20.1, v20.2.1, v20.2.2.1] :: blk b7 42 m.cells :: blk b4 39 c.cells :: L) ?_
   refine jd_ (fun ρ S => blk b9 46 [v20.1, v20.2.1, v20.2.2.1] :: blk b7 42 m.cells :: blk b4 39 c.cells :: ((bif S 10 then [blk (Gh.dec (γ := Nat) (ρ 10)) 82 (bif S 11 then (Ac (Ah (build c l).1 p) m.line).cells else zLine.cells)] else []) ++ (L))) ?_
   refine Si ?_
   refine Gc (cs := zLine.cells) Try.zeroValue82 rfl (fun ρ b S hS hA => ?_) ?_
   ·
    have ui : upS S 10 10 = true := rfl; have u11 : upS S 10 11 = S 11 := rfl; have h11 : S 11 = false := hA 11 ⟨0, rfl⟩; have rs : (Gh.dec (γ := Nat) (Rho.set ρ 10 (Gh.enc b) 10)) = b := rfl
    simp only [ui, hS, u11, h11, rs, cond_true, cond_false, List.nil_append]
    exact Ins.perm (by repeat (first | exact .hd | exact .hc | refine .tl ?_ | refine .ap ?_))
   refine es_ 82 0 [10] [] (fun ρ => (Gh.dec (γ := Nat) (ρ 10))) (fun ρ => zLine.cells) (fun ρ => (Ac (Ah (build c l).1 p) m.line).cells) Try.sizeOf82 ?_
   refine dnl ?_; intro ρ
   refine xq_ (blk b9 46 [v20.1, v20.2.1, v20.2.2.1] :: blk b7 42 m.cells :: blk b4 39 c.cells :: (blk (Gh.dec (γ := Nat) (ρ 10)) 82 (Ac (Ah (build c l).1 p) m.line).cells :: L)) ?_
   generalize (Gh.dec (γ := Nat) (ρ 10)) = b11
   refine Gl ?_
   rcases (show ((Ac (Ah (build c l).1 p) m.line).seen < m.turn) ∨ (m.turn ≤ (Ac (Ah (build c l).1 p) m.line).seen ∧ (Ac (Ah (build c l).1 p) m.line).serial ≤ m.serial ∧ (Ac (Ah (build c l).1 p) m.line).want ≠ 0) ∨ (m.turn ≤ (Ac (Ah (build c l).1 p) m.line).seen ∧ (Ac (Ah (build c l).1 p) m.line).serial ≤ m.serial ∧ (Ac (Ah (build c l).1 p) m.line).want = 0) ∨ (m.turn ≤ (Ac (Ah (build c l).1 p) m.line).seen ∧ m.serial < (Ac (Ah (build c l).1 p) m.line).serial) from by omega) with hc | hc | hc | hc
   ·
    refine Aa ?_
    refine rn4 ?_
    refine ob (Af rfl rfl (C0 (by omega))) ?_
    refine Gd12 ?_
    refine Ga1 ?_
    exact Cb ()
   ·
    refine Aa ?_
    refine rn4 ?_
    refine ob (Af rfl rfl (Cp (by omega))) ?_
    refine rn5 ?_
    refine gy ?_
    refine ob (Af rfl rfl (Cv (by omega))) ?_
    refine rn3 ?_
    refine gy ?_
    refine ob (Af rfl rfl (Cz (by omega))) ?_
    refine Gd2 ?_
    refine Ga1 ?_
    exact Cb ()
   ·
    refine Aa ?_
    refine rn4 ?_
    refine ob (Af rfl rfl (Cp (by omega))) ?_
    refine rn5 ?_
    refine gy ?_
    refine ob (Af rfl rfl (Cv (by omega))) ?_
    refine rn3 ?_
    refine gy ?_
    refine ob (Af rfl rfl (Bv (by omega))) ?_
    refine Gc2 ?_
    refine cq_ (blk b9 46 [v20.1, v20.2.1, v20.2.2.1] :: blk b11 82 (Ac (Ah (build c l).1 p) m.line).cells :: blk b7 42 m.cells :: blk b4 39 c.cells :: L) ?_
    refine jd_ (fun ρ S => blk b9 46 [v20.1, v20.2.1, v20.2.2.1] :: blk b11 82 (Ac (Ah (build c l).1 p) m.line).cells :: blk b7 42 m.cells :: blk b4 39 c.cells :: ((bif S 15 then [blk (Gh.dec (γ := Nat) (ρ 15)) 69 (bif S 16 then [(Gh.dec (γ := Value × Value × Value) (ρ 10)).1, vi (Ad (Ah (build c l).1 p) p ((build c l).1.cores.length : Int) m).1.wait.kind, vi (Ad (Ah (build c l).1 p) p ((build c l).1.cores.length : Int) m).1.wait.line, vi (Ad (Ah (build c l).1 p) p ((build c l).1.cores.length : Int) m).1.wait.value] else [.slice none 0 0, vi 0, vi 0, vi 0])] else []) ++ (L))) ?_
    refine Si ?_
    refine Bn (γ := Value × Value × Value) (val := fun v => .tuple #[.agg (Core.cells v.1 (Ad (Ah (build c l).1 p) p ((build c l).1.cores.length : Int) m).1).toArray, v.2.1, v.2.2]) (F := fun v => [sl v.1 (Ad (Ah (build c l).1 p) p ((build c l).1.cores.length : Int) m).1.lines, sl v.2.1 (Ad (Ah (build c l).1 p) p ((build c l).1.cores.length : Int) m).2.1, sl v.2.2 (Ad (Ah (build c l).1 p) p ((build c l).1.cores.length : Int) m).2.2]) Try.call46 (fun _ => rfl) (fun ρ L R w hd hs => Fy (c := (Ah (build c l).1 p)) (id := p) (home := ((build c l).1.cores.length : Int)) (m := m) (u := u) hs (hd.base mm) hkb.kh hp64 hn64 hmw) (fun ρ g S hS hA => by have u15 : upS S 10 15 = S 15 := rfl; have u16 : upS S 10 16 = S 16 := rfl; have r15 : Rho.set ρ 10 g 15 = ρ 15 := rfl; have h16 : S 16 = false := hA 16 ⟨0, rfl⟩; simp only [u15, u16, r15, h16, cond_false]) ?_
    refine e_p (v := fun ρ => .tuple #[.agg (Core.cells (Gh.dec (γ := Value × Value × Value) (ρ 10)).1 (Ad (Ah (build c l).1 p) p ((build c l).1.cores.length : Int) m).1).toArray, (Gh.dec (γ := Value × Value × Value) (ρ 10)).2.1, (Gh.dec (γ := Value × Value × Value) (ρ 10)).2.2]) (fun _ _ => Cx) (Ind.gh (h := fun g => (.tuple #[.agg (Core.cells (Gh.dec (γ := Value × Value × Value) g).1 (Ad (Ah (build c l).1 p) p ((build c l).1.cores.length : Int) m).1).toArray, (Gh.dec (γ := Value × Value × Value) g).2.1, (Gh.dec (γ := Value × Value × Value) g).2.2] : Value)) 10 0 rfl) (fun _ _ _ _ _ => rfl) ?_
    refine e_p (v := fun ρ => .agg (Core.cells (Gh.dec (γ := Value × Value × Value) (ρ 10)).1 (Ad (Ah (build c l).1 p) p ((build c l).1.cores.length : Int) m).1).toArray) (fun _ _ => q_x) (Ind.gh (h := fun g => (.agg (Core.cells (Gh.dec (γ := Value × Value × Value) g).1 (Ad (Ah (build c l).1 p) p ((build c l).1.cores.length : Int) m).1).toArray : Value)) 10 1 rfl) (fun _ _ _ _ _ => rfl) ?_
    refine e_p (v := fun ρ => (Gh.dec (γ := Value × Value × Value) (ρ 10)).2.1) (fun _ _ => q_x) (Ind.gh (h := fun g => ((Gh.dec (γ := Value × Value × Value) g).2.1 : Value)) 10 1 rfl) (fun _ _ _ _ _ => rfl) ?_
    refine e_p (v := fun ρ => (Gh.dec (γ := Value × Value × Value) (ρ 10)).2.2) (fun _ _ => q_x) (Ind.gh (h := fun g => ((Gh.dec (γ := Value × Value × Value) g).2.2 : Value)) 10 1 rfl) (fun _ _ _ _ _ => rfl) ?_
    refine Gc (cs := [.slice none 0 0, vi 0, vi 0, vi 0]) Try.zeroValue69 rfl (fun ρ b S hS hA => ?_) ?_
    ·
     have ui : upS S 15 15 = true := rfl; have u16 : upS S 15 16 = S 16 := rfl; have r10 : Rho.set ρ 15 (Gh.enc b) 10 = ρ 10 := rfl; have h16 : S 16 = false := hA 16 ⟨0, rfl⟩; have rs : (Gh.dec (γ := Nat) (Rho.set ρ 15 (Gh.enc b) 15)) = b := rfl
     simp only [ui, hS, u16, r10, h16, rs, cond_true, cond_false, List.nil_append]
     exact Ins.perm (by repeat (first | exact .hd | exact .hc | refine .tl ?_ | refine .ap ?_))
    refine es_ 69 0 [15] [] (fun ρ => (Gh.dec (γ := Nat) (ρ 15))) (fun ρ => [.slice none 0 0, vi 0, vi 0, vi 0]) (fun ρ => [(Gh.dec (γ := Value × Value × Value) (ρ 10)).1, vi (Ad (Ah (build c l).1 p) p ((build c l).1.cores.length : Int) m).1.wait.kind, vi (Ad (Ah (build c l).1 p) p ((build c l).1.cores.length : Int) m).1.wait.line, vi (Ad (Ah (build c l).1 p) p ((build c l).1.cores.length : Int) m).1.wait.value]) Try.sizeOf69 (h1 := (fun ρ R w L' hd hs => A6 (isSlice.one (hs.fact (hd.dep (it := ⟨10, _, _, _, _⟩) (by repeat (first | exact List.Mem.head _ | refine List.Mem.tail _ ?_)) ⟨9, rfl⟩ (List.Mem.head _)))) (by repeat (first | exact C3 | refine A6 rfl ?_)))) ?_
    refine e_p (v := fun ρ => (Gh.dec (γ := Value × Value × Value) (ρ 10)).2.1) (fun _ _ => Db) (Ind.gh (h := fun g => ((Gh.dec (γ := Value × Value × Value) g).2.1 : Value)) 10 0 rfl) (fun _ _ _ _ _ => rfl) ?_
    refine e_p (v := fun ρ => (Gh.dec (γ := Value × Value × Value) (ρ 10)).2.2) (fun _ _ => Db) (Ind.gh (h := fun g => ((Gh.dec (γ := Value × Value × Value) g).2.2 : Value)) 10 0 rfl) (fun _ _ _ _ _ => rfl) ?_
    refine dnl ?_; intro ρ
    refine xq_ (blk b9 46 [v20.1, v20.2.1, v20.2.2.1] :: blk b11 82 (Ac (Ah (build c l).1 p) m.line).cells :: blk b7 42 m.cells :: blk b4 39 c.cells :: (blk (Gh.dec (γ := Nat) (ρ 15)) 69 [(Gh.dec (γ := Value × Value × Value) (ρ 10)).1, vi (Ad (Ah (build c l).1 p) p ((build c l).1.cores.length : Int) m).1.wait.kind, vi (Ad (Ah (build c l).1 p) p ((build c l).1.cores.length : Int) m).1.wait.line, vi (Ad (Ah (build c l).1 p) p ((build c l).1.cores.length : Int) m).1.wait.value] :: L)) ?_
    generalize (Gh.dec (γ := Value × Value × Value) (ρ 10)) = v82
    generalize (Gh.dec (γ := Nat) (ρ 15)) = b12
    refine Gl ?_
    refine kp [2, 8, 9, 12, 14, 86, 87, 88, 89, 90, 91, 92, 93, 94, 95, 96, 97] ?_
    refine Dv ?_
    refine dn6 ?_
    refine dj ?_
    refine Ff (γ := Unit) (val := fun _ => .bool true) (F := fun _ => []) (C := fun _ => []) Try.call41 (fun _ => rfl) (fun _ _ _ _ => rfl) (fun ρ L R w hd hs => Fu (a := (Ad (Ah (build c l).1 p) p ((build c l).1.cores.length : Int) m).1) (b := (Ah (build c l).1 p)) (Jo (id := p) (home := ((build c l).1.cores.length : Int)) (by omega) (by omega)).1 hs (hd.base mm) (hd.base mm)) ?_
    refine djc (fun _ _ => Cx) ?_
    refine dn2 ?_
    refine dj (dgy ?_)
    refine dc (fun _ _ => Af rfl rfl (As (by rw [(Jo (id := p) (home := ((build c l).1.cores.length : Int)) (by omega) (by omega)).2]; rfl))) ?_
    refine djc (fun _ _ => Gg) ?_
    refine djc (fun _ _ => Db) ?_
    refine dnl ?_; intro ρ
    refine Gl ?_
    exact Cb ()
   ·
    refine Aa ?_
    refine rn4 ?_
    refine ob (Af rfl rfl (Cp (by omega))) ?_
    refine rn5 ?_
    refine gy ?_
    refine ob (Af rfl rfl (A4 (by omega))) ?_
    refine Gc6 ?_
    refine cq_ (blk b9 46 [v20.1, v20.2.1, v20.2.2.1] :: blk b11 82 (Ac (Ah (build c l).1 p) m.line).cells :: blk b7 42 m.cells :: blk b4 39 c.cells :: L) ?_
    refine jd_ (fun ρ S => blk b9 46 [v20.1, v20.2.1, v20.2.2.1] :: blk b11 82 (Ac (Ah (build c l).1 p) m.line).cells :: blk b7 42 m.cells :: blk b4 39 c.cells :: ((bif S 15 then [blk (Gh.dec (γ := Nat) (ρ 15)) 69 (bif S 16 then [(Gh.dec (γ := Value × Value × Value) (ρ 10)).1, vi (Ad (Ah (build c l).1 p) p ((build c l).1.cores.length : Int) m).1.wait.kind, vi (Ad (Ah (build c l).1 p) p ((build c l).1.cores.length : Int) m).1.wait.line, vi (Ad (Ah (build c l).1 p) p ((build c l).1.cores.length : Int) m).1.wait.value] else [.slice none 0 0, vi 0, vi 0, vi 0])] else []) ++ (L))) ?_
    refine Si ?_
    refine Bn (γ := Value × Value × Value) (val := fun v => .tuple #[.agg (Core.cells v.1 (Ad (Ah (build c l).1 p) p ((build c l).1.cores.length : Int) m).1).toArray, v.2.1, v.2.2]) (F := fun v => [sl v.1 (Ad (Ah (build c l).1 p) p ((build c l).1.cores.length : Int) m).1.lines, sl v.2.1 (Ad (Ah (build c l).1 p) p ((build c l).1.cores.length : Int) m).2.1, sl v.2.2 (Ad (Ah (build c l).1 p) p ((build c l).1.cores.length : Int) m).2.2]) Try.call46 (fun _ => rfl) (fun ρ L R w hd hs => Fy (c := (Ah (build c l).1 p)) (id := p) (home := ((build c l).1.cores.length : Int)) (m := m) (u := u) hs (hd.base mm) hkb.kh hp64 hn64 hmw) (fun ρ g S hS hA => by have u15 : upS S 10 15 = S 15 := rfl; have u16 : upS S 10 16 = S 16 := rfl; have r15 : Rho.set ρ 10 g 15 = ρ 15 := rfl; have h16 : S 16 = false := hA 16 ⟨0, rfl⟩; simp only [u15, u16, r15, h16, cond_false]) ?_
    refine e_p (v := fun ρ => .tuple #[.agg (Core.cells (Gh.dec (γ := Value × Value × Value) (ρ 10)).1 (Ad (Ah (build c l).1 p) p ((build c l).1.cores.length : Int) m).1).toArray, (Gh.dec (γ := Value × Value × Value) (ρ 10)).2.1, (Gh.dec (γ := Value × Value × Value) (ρ 10)).2.2]) (fun _ _ => Cx) (Ind.gh (h := fun g => (.tuple #[.agg (Core.cells (Gh.dec (γ := Value × Value × Value) g).1 (Ad (Ah (build c l).1 p) p ((build c l).1.cores.length : Int) m).1).toArray, (Gh.dec (γ := Value × Value × Value) g).2.1, (Gh.dec (γ := Value × Value × Value) g).2.2] : Value)) 10 0 rfl) (fun _ _ _ _ _ => rfl) ?_
    refine e_p (v := fun ρ => .agg (Core.cells (Gh.dec (γ := Value × Value × Value) (ρ 10)).1 (Ad (Ah (build c l).1 p) p ((build c l).1.cores.length : Int) m).1).toArray) (fun _ _ => q_x) (Ind.gh (h := fun g => (.agg (Core.cells (Gh.dec (γ := Value × Value × Value) g).1 (Ad (Ah (build c l).1 p) p ((build c l).1.cores.length : Int) m).1).toArray : Value)) 10 1 rfl) (fun _ _ _ _ _ => rfl) ?_
    refine e_p (v := fun ρ => (Gh.dec (γ := Value × Value × Value) (ρ 10)).2.1) (fun _ _ => q_x) (Ind.gh (h := fun g => ((Gh.dec (γ := Value × Value × Value) g).2.1 : Value)) 10 1 rfl) (fun _ _ _ _ _ => rfl) ?_
    refine e_p (v := fun ρ => (Gh.dec (γ := Value × Value × Value) (ρ 10)).2.2) (fun _ _ => q_x) (Ind.gh (h := fun g => ((Gh.dec (γ := Value × Value × Value) g).2.2 : Value)) 10 1 rfl) (fun _ _ _ _ _ => rfl) ?_
    refine Gc (cs := [.slice none 0 0, vi 0, vi 0, vi 0]) Try.zeroValue69 rfl (fun ρ b S hS hA => ?_) ?_
    ·
     have ui : upS S 15 15 = true := rfl; have u16 : upS S 15 16 = S 16 := rfl; have r10 : Rho.set ρ 15 (Gh.enc b) 10 = ρ 10 := rfl; have h16 : S 16 = false := hA 16 ⟨0, rfl⟩; have rs : (Gh.dec (γ := Nat) (Rho.set ρ 15 (Gh.enc b) 15)) = b := rfl
     simp only [ui, hS, u16, r10, h16, rs, cond_true, cond_false, List.nil_append]
     exact Ins.perm (by repeat (first | exact .hd | exact .hc | refine .tl ?_ | refine .ap ?_))
    refine es_ 69 0 [15] [] (fun ρ => (Gh.dec (γ := Nat) (ρ 15))) (fun ρ => [.slice none 0 0, vi 0, vi 0, vi 0]) (fun ρ => [(Gh.dec (γ := Value × Value × Value) (ρ 10)).1, vi (Ad (Ah (build c l).1 p) p ((build c l).1.cores.length : Int) m).1.wait.kind, vi (Ad (Ah (build c l).1 p) p ((build c l).1.cores.length : Int) m).1.wait.line, vi (Ad (Ah (build c l).1 p) p ((build c l).1.cores.length : Int) m).1.wait.value]) Try.sizeOf69 (h1 := (fun ρ R w L' hd hs => A6 (isSlice.one (hs.fact (hd.dep (it := ⟨10, _, _, _, _⟩) (by repeat (first | exact List.Mem.head _ | refine List.Mem.tail _ ?_)) ⟨9, rfl⟩ (List.Mem.head _)))) (by repeat (first | exact C3 | refine A6 rfl ?_)))) ?_
    refine e_p (v := fun ρ => (Gh.dec (γ := Value × Value × Value) (ρ 10)).2.1) (fun _ _ => Db) (Ind.gh (h := fun g => ((Gh.dec (γ := Value × Value × Value) g).2.1 : Value)) 10 0 rfl) (fun _ _ _ _ _ => rfl) ?_
    refine e_p (v := fun ρ => (Gh.dec (γ := Value × Value × Value) (ρ 10)).2.2) (fun _ _ => Db) (Ind.gh (h := fun g => ((Gh.dec (γ := Value × Value × Value) g).2.2 : Value)) 10 0 rfl) (fun _ _ _ _ _ => rfl) ?_
    refine dnl ?_; intro ρ
    refine xq_ (blk b9 46 [v20.1, v20.2.1, v20.2.2.1] :: blk b11 82 (Ac (Ah (build c l).1 p) m.line).cells :: blk b7 42 m.cells :: blk b4 39 c.cells :: (blk (Gh.dec (γ := Nat) (ρ 15)) 69 [(Gh.dec (γ := Value × Value × Value) (ρ 10)).1, vi (Ad (Ah (build c l).1 p) p ((build c l).1.cores.length : Int) m).1.wait.kind, vi (Ad (Ah (build c l).1 p) p ((build c l).1.cores.length : Int) m).1.wait.line, vi (Ad (Ah (build c l).1 p) p ((build c l).1.cores.length : Int) m).1.wait.value] :: L)) ?_
    generalize (Gh.dec (γ := Value × Value × Value) (ρ 10)) = v82
    generalize (Gh.dec (γ := Nat) (ρ 15)) = b12
    refine Gl ?_
    refine kp [2, 8, 9, 12, 14, 86, 87, 88, 89, 90, 91, 92, 93, 94, 95, 96, 97] ?_
    refine Dv ?_
    refine dn6 ?_
    refine dj ?_
    refine Ff (γ := Unit) (val := fun _ => .bool true) (F := fun _ => []) (C := fun _ => []) Try.call41 (fun _ => rfl) (fun _ _ _ _ => rfl) (fun ρ L R w hd hs => Fu (a := (Ad (Ah (build c l).1 p) p ((build c l).1.cores.length : Int) m).1) (b := (Ah (build c l).1 p)) (Jo (id := p) (home := ((build c l).1.cores.length : Int)) (by omega) (by omega)).1 hs (hd.base mm) (hd.base mm)) ?_
    refine djc (fun _ _ => Cx) ?_
    refine dn2 ?_
    refine dj (dgy ?_)
    refine dc (fun _ _ => Af rfl rfl (As (by rw [(Jo (id := p) (home := ((build c l).1.cores.length : Int)) (by omega) (by omega)).2]; rfl))) ?_
    refine djc (fun _ _ => Gg) ?_
    refine djc (fun _ _ => Db) ?_
    refine dnl ?_; intro ρ
    refine Gl ?_
    exact Cb ()
theorem L4 {L : List Chunk} {R : List Fact} {w : World} {vl : Value} {c : Config} {l : List Step} {p : Int} {o : Op} (hs : St (L) R w) (hl : sl vl l ∈ R) (hcw : c.wf) (how : o.wf) : Calls Try.prog 12 [.agg c.cells.toArray, vl, vi p, .agg o.cells.toArray].toArray w (Ch (fun _ : Unit => .bool true) (fun _ => L) (fun _ => R)) := by
  refine Aj Try.func12 rfl Try.ntmps12 rfl hs ?_
  clear hs
  refine Gm ?_
  refine bx ?_; intro b4
  refine bx ?_; intro b7
  refine Gb1 ?_
  refine Aq Try.call49 rfl (fun w hs => Kk hs) ?_; intro _
  refine Gd1 ?_
  refine rn2 ?_
  refine Aq Try.call28 rfl (fun w hs => Jf (c := c) (l := l) hs mm hcw) ?_; intro v20
  refine J.know (p := v20.1.oneCell' = true ∧ v20.2.1.oneCell' = true ∧ v20.2.2.1.oneCell' = true) (fun w hs => ⟨isSlice.one (hs.fact (.head _)), isSlice.one (hs.fact (.tail _ (.head _))), isSlice.one (hs.fact (.tail _ (.tail _ (.head _))))⟩) (fun h12 => ?_)
  obtain ⟨hone1, hone2, hone3⟩ := h12
  refine rn3 ?_
  refine al_ (cs := [.slice none 0 0, .slice none 0 0, .slice none 0 0]) Try.zeroValue46 ?_; intro b9
  refine s_B (cs := [v20.1, v20.2.1, v20.2.2.1]) Try.sizeOf46 ?_
  refine Ga1 ?_
  rcases (show (p < 0) ∨ (0 ≤ p ∧ ((build c l).1.cores.length : Int) ≤ p) ∨ (0 ≤ p ∧ p < ((build c l).1.cores.length : Int)) from by omega) with hc | hc | hc
  ·
   refine Aa ?_
   refine rn1 ?_
   refine ob (Af rfl rfl (Bt (by omega))) ?_
   refine Gd7 ?_
   refine Ga1 ?_
   exact Cb ()
  ·
   refine Aa ?_
   refine rn1 ?_
   refine ob (Af rfl rfl (An (by omega))) ?_
   refine rn5 ?_
   refine gy ?_
   refine ob (Af rfl rfl (Cv (by omega))) ?_
   refine Gd1 ?_
   refine Ga1 ?_
   exact Cb ()
  ·
   refine Aa ?_
   refine rn1 ?_
   refine ob (Af rfl rfl (An (by omega))) ?_
   refine rn5 ?_
   refine gy ?_
   refine ob (Af rfl rfl (A4 (by omega))) ?_
   refine Gc1 ?_
   obtain ⟨hok, n, nl, hcc, M, hI⟩ := Ie (c := c) (l := l) (by omega)
   have hnc := hI.nc
   have hnh := hI.nh
   have hn1 := hI.n1
   have hn2 := hI.l1
   have hn64 : Am ((build c l).1.cores.length : Int) := by unfold Am; omega
   have hp64 : Am p := by unfold Am; omega
   have hkb : KB (Ah (build c l).1 p) := hI.kb (p := p.toNat) (by omega)
   have hkl : (Ah (build c l).1 p).lines.length = nl := hI.ncl p.toNat (by omega)
   have hcl : c.lines = (nl : Int) := by rw [hcc]; rfl
   refine F6 (x := (build c l).1) (v := v20.1) p mm (by omega) (by omega) (fun hwt u => ?_)
   refine JC.know (p := u.oneCell' = true) (fun w hs => isSlice.one (hs.fact (.tail _ (.head _)))) (fun honeu => ?_)
   have hse : (Ac (Ah (build c l).1 p) o.line).serial < 65535 := (by have := SB.line (SB.at (SB.build c l) p) (by omega) o.line; omega)
   have hbz := Nh (c := (Ah (build c l).1 p)) (id := p) (home := ((build c l).1.cores.length : Int)) (o := o) hse
   refine cq_ (blk b9 46 [v20.1, v20.2.1, v20.2.2.1] :: blk b7 66 o.cells :: blk b4 39 c.cells :: L) ?_
   refine jd_ (fun ρ S => blk b9 46 [v20.1, v20.2.1, v20.2.2.1] :: blk b7 66 o.cells :: blk b4 39 c.cells :: ((bif S 16 then [blk (Gh.dec (γ := Nat) (ρ 16)) 69 (bif S 17 then [(Gh.dec (γ := Value × Value × Value) (ρ 10)).1, vi (Ag (Ah (build c l).1 p) p ((build c l).1.cores.length : Int) o).1.wait.kind, vi (Ag (Ah (build c l).1 p) p ((build c l).1.cores.length : Int) o).1.wait.line, vi (Ag (Ah (build c l).1 p) p ((build c l).1.cores.length : Int) o).1.wait.value] else [.slice none 0 0, vi 0, vi 0, vi 0])] else []) ++ (L))) ?_
   refine Si ?_
   refine Bn (γ := Value × Value × Value) (val := fun v => .tuple #[.agg (Core.cells v.1 (Ag (Ah (build c l).1 p) p ((build c l).1.cores.length : Int) o).1).toArray, v.2.1, v.2.2, vi (Ag (Ah (build c l).1 p) p ((build c l).1.cores.length : Int) o).2.2.2]) (F := fun v => [sl v.1 (Ag (Ah (build c l).1 p) p ((build c l).1.cores.length : Int) o).1.lines, sl v.2.1 (Ag (Ah (build c l).1 p) p ((build c l).1.cores.length : Int) o).2.1, sl v.2.2 (Ag (Ah (build c l).1 p) p ((build c l).1.cores.length : Int) o).2.2.1]) Try.call39 (fun _ => rfl) (fun ρ L R w hd hs => Ix (c := (Ah (build c l).1 p)) (id := p) (home := ((build c l).1.cores.length : Int)) (q := o) (u := u) hs (hd.base mm) hkb hp64 hn64 how) (fun ρ g S hS hA => by have u16 : upS S 10 16 = S 16 := rfl; have u17 : upS S 10 17 = S 17 := rfl; have r16 : Rho.set ρ 10 g 16 = ρ 16 := rfl; have h17 : S 17 = false := hA 17 ⟨0, rfl⟩; simp only [u16, u17, r16, h17, cond_false]) ?_
   refine e_p (v := fun ρ => .tuple #[.agg (Core.cells (Gh.dec (γ := Value × Value × Value) (ρ 10)).1 (Ag (Ah (build c l).1 p) p ((build c l).1.cores.length : Int) o).1).toArray, (Gh.dec (γ := Value × Value × Value) (ρ 10)).2.1, (Gh.dec (γ := Value × Value × Value) (ρ 10)).2.2, vi (Ag (Ah (build c l).1 p) p ((build c l).1.cores.length : Int) o).2.2.2]) (fun _ _ => Cx) (Ind.gh (h := fun g => (.tuple #[.agg (Core.cells (Gh.dec (γ := Value × Value × Value) g).1 (Ag (Ah (build c l).1 p) p ((build c l).1.cores.length : Int) o).1).toArray, (Gh.dec (γ := Value × Value × Value) g).2.1, (Gh.dec (γ := Value × Value × Value) g).2.2, vi (Ag (Ah (build c l).1 p) p ((build c l).1.cores.length : Int) o).2.2.2] : Value)) 10 0 rfl) (fun _ _ _ _ _ => rfl) ?_
   refine e_p (v := fun ρ => .agg (Core.cells (Gh.dec (γ := Value × Value × Value) (ρ 10)).1 (Ag (Ah (build c l).1 p) p ((build c l).1.cores.length : Int) o).1).toArray) (fun _ _ => q_x) (Ind.gh (h := fun g => (.agg (Core.cells (Gh.dec (γ := Value × Value × Value) g).1 (Ag (Ah (build c l).1 p) p ((build c l).1.cores.length : Int) o).1).toArray : Value)) 10 1 rfl) (fun _ _ _ _ _ => rfl) ?_
   refine e_p (v := fun ρ => (Gh.dec (γ := Value × Value × Value) (ρ 10)).2.1) (fun _ _ => q_x) (Ind.gh (h := fun g => ((Gh.dec (γ := Value × Value × Value) g).2.1 : Value)) 10 1 rfl) (fun _ _ _ _ _ => rfl) ?_
   refine e_p (v := fun ρ => (Gh.dec (γ := Value × Value × Value) (ρ 10)).2.2) (fun _ _ => q_x) (Ind.gh (h := fun g => ((Gh.dec (γ := Value × Value × Value) g).2.2 : Value)) 10 1 rfl) (fun _ _ _ _ _ => rfl) ?_
   refine Jn (v := vi (Ag (Ah (build c l).1 p) p ((build c l).1.cores.length : Int) o).2.2.2) (fun _ _ => q_x) (fun _ _ _ _ _ => rfl) ?_
   refine Gc (cs := [.slice none 0 0, vi 0, vi 0, vi 0]) Try.zeroValue69 rfl (fun ρ b S hS hA => ?_) ?_
   ·
    have ui : upS S 16 16 = true := rfl; have u17 : upS S 16 17 = S 17 := rfl; have r10 : Rho.set ρ 16 (Gh.enc b) 10 = ρ 10 := rfl; have h17 : S 17 = false := hA 17 ⟨0, rfl⟩; have rs : (Gh.dec (γ := Nat) (Rho.set ρ 16 (Gh.enc b) 16)) = b := rfl
    simp only [ui, hS, u17, r10, h17, rs, cond_true, cond_false, List.nil_append]
    exact Ins.perm (by repeat (first | exact .hd | exact .hc | refine .tl ?_ | refine .ap ?_))
   refine es_ 69 0 [16] [] (fun ρ => (Gh.dec (γ := Nat) (ρ 16))) (fun ρ => [.slice none 0 0, vi 0, vi 0, vi 0]) (fun ρ => [(Gh.dec (γ := Value × Value × Value) (ρ 10)).1, vi (Ag (Ah (build c l).1 p) p ((build c l).1.cores.length : Int) o).1.wait.kind, vi (Ag (Ah (build c l).1 p) p ((build c l).1.cores.length : Int) o).1.wait.line, vi (Ag (Ah (build c l).1 p) p ((build c l).1.cores.length : Int) o).1.wait.value]) Try.sizeOf69 (h1 := (fun ρ R w L' hd hs => A6 (isSlice.one (hs.fact (hd.dep (it := ⟨10, _, _, _, _⟩) (by repeat (first | exact List.Mem.head _ | refine List.Mem.tail _ ?_)) ⟨9, rfl⟩ (List.Mem.head _)))) (by repeat (first | exact C3 | refine A6 rfl ?_)))) ?_
   refine e_p (v := fun ρ => (Gh.dec (γ := Value × Value × Value) (ρ 10)).2.1) (fun _ _ => Db) (Ind.gh (h := fun g => ((Gh.dec (γ := Value × Value × Value) g).2.1 : Value)) 10 0 rfl) (fun _ _ _ _ _ => rfl) ?_
   refine e_p (v := fun ρ => (Gh.dec (γ := Value × Value × Value) (ρ 10)).2.2) (fun _ _ => Db) (Ind.gh (h := fun g => ((Gh.dec (γ := Value × Value × Value) g).2.2 : Value)) 10 0 rfl) (fun _ _ _ _ _ => rfl) ?_
   refine Jn (v := vi (Ag (Ah (build c l).1 p) p ((build c l).1.cores.length : Int) o).2.2.2) (fun _ _ => Db) (fun _ _ _ _ _ => rfl) ?_
   refine dnl ?_; intro ρ
   refine xq_ (blk b9 46 [v20.1, v20.2.1, v20.2.2.1] :: blk b7 66 o.cells :: blk b4 39 c.cells :: (blk (Gh.dec (γ := Nat) (ρ 16)) 69 [(Gh.dec (γ := Value × Value × Value) (ρ 10)).1, vi (Ag (Ah (build c l).1 p) p ((build c l).1.cores.length : Int) o).1.wait.kind, vi (Ag (Ah (build c l).1 p) p ((build c l).1.cores.length : Int) o).1.wait.line, vi (Ag (Ah (build c l).1 p) p ((build c l).1.cores.length : Int) o).1.wait.value] :: L)) ?_
   generalize (Gh.dec (γ := Value × Value × Value) (ρ 10)) = v43
   generalize (Gh.dec (γ := Nat) (ρ 16)) = b11
   refine Gl ?_
   refine kp [2, 7, 8, 9, 11, 12, 13, 14, 48, 49, 50, 51, 52, 53, 54, 55] ?_
   refine Aa ?_
   refine Ga8 ?_
   refine cdx (p := ?p1) (hd := ?d1) ?e1 ?_ ?_; case e1 => exact rfl
   ·
    intro ht55
    refine Gl ?_
    rcases (show ((Ag (Ah (build c l).1 p) p ((build c l).1.cores.length : Int) o).2.2.2 = 8) ∨ ((Ag (Ah (build c l).1 p) p ((build c l).1.cores.length : Int) o).2.2.2 = 1) ∨ ((Ag (Ah (build c l).1 p) p ((build c l).1.cores.length : Int) o).2.2.2 = 3) from by exact hbz.1 (by omega)) with hc | hc | hc
    ·
     refine Aa ?_
     refine rn1 ?_
     refine ob (Af rfl rfl (As (by omega))) ?_
     refine Ga9 ?_
     exact Cb ()
    ·
     refine Aa ?_
     refine rn1 ?_
     refine ob (Af rfl rfl (Ak (by omega))) ?_
     refine rn2 ?_
     refine gy ?_
     refine ob (Af rfl rfl (As (by omega))) ?_
     refine Ga6 ?_
     exact Cb ()
    ·
     refine Aa ?_
     refine rn1 ?_
     refine ob (Af rfl rfl (Ak (by omega))) ?_
     refine rn2 ?_
     refine gy ?_
     refine ob (Af rfl rfl (Ak (by omega))) ?_
     refine rn3 ?_
     refine gy ?_
     refine ob (Af rfl rfl (As (by omega))) ?_
     refine Ga2 ?_
     exact Cb ()
   ·
    intro ht55
    refine Gm ?_
    refine Ga2 ?_
    refine cdx (p := ?p2) (hd := ?d2) ?e2 ?_ ?_; case e2 => exact rfl
    ·
     intro ht67
     refine Gm ?_
     refine rn1 ?_
     refine ob (Af rfl rfl (Cz (by have := (hbz.2 (by omega)).1; omega))) ?_
     refine Ga1 ?_
     exact Cb ()
    ·
     intro ht67
     refine Gl ?_
     have hbs := Qe (c := (Ah (build c l).1 p)) (id := p) (home := ((build c l).1.cores.length : Int)) (o := o) hse (by omega) (by omega)
     rcases (show ((Ag (Ah (build c l).1 p) p ((build c l).1.cores.length : Int) o).1.wait = o ∧ (Ag (Ah (build c l).1 p) p ((build c l).1.cores.length : Int) o).2.1.length = 1 ∧ (Ag (Ah (build c l).1 p) p ((build c l).1.cores.length : Int) o).2.2.1.length = 0) ∨ ((Ag (Ah (build c l).1 p) p ((build c l).1.cores.length : Int) o).1.wait ≠ o ∧ (Ag (Ah (build c l).1 p) p ((build c l).1.cores.length : Int) o).1.wait.kind = 0 ∧ (Ag (Ah (build c l).1 p) p ((build c l).1.cores.length : Int) o).2.1.length = 0 ∧ ∃ v, (Ag (Ah (build c l).1 p) p ((build c l).1.cores.length : Int) o).2.2.1 = [⟨p, o, v⟩]) from by exact hbs) with hc | hc
     ·
      refine Dv ?_
      refine dn1 ?_
      refine djc (fun _ _ => Dy 3 Try.isAgg66 Try.sizeOf66) ?_
      refine dn1 ?_
      refine djc (fun _ _ => Hf rfl rfl (Ql (Ag (Ah (build c l).1 p) p ((build c l).1.cores.length : Int) o).1.wait o _) (Sa (x := (Ag (Ah (build c l).1 p) p ((build c l).1.cores.length : Int) o).1.wait) (y := o) (hc.1))) ?_
      refine djc (fun _ _ => Cx) ?_
      refine dn2 ?_
      refine dj (dgy ?_)
      refine dc (fun _ _ => Af rfl rfl (As (by omega))) ?_
      refine djc (fun _ _ => Gg) ?_
      refine djc (fun _ _ => Cx) ?_
      refine dn2 ?_
      refine dj (dgy ?_)
      refine dc (fun _ _ => Af rfl rfl (As (by omega))) ?_
      refine djc (fun _ _ => Gg) ?_
      refine djc (fun _ _ => Cx) ?_
      refine dn30 ?_
      refine djc (fun _ _ => Gg) ?_
      refine djc (fun _ _ => Db) ?_
      refine dnl ?_; intro ρ
      refine Gl ?_
      exact Cb ()
     ·
      obtain ⟨v, hv⟩ := hc.2.2.2
      rw [hv]
      refine JC.open0 (xs := [(⟨p, o, v⟩ : Done)]) (v := v43.2.2) 0 mm (Nat.zero_lt_one) (fun _ => ?_)
      refine Dv ?_
      refine dn1 ?_
      refine djc (fun _ _ => Dy 3 Try.isAgg66 Try.sizeOf66) ?_
      refine dn1 ?_
      refine djc (fun _ _ => Hf rfl rfl (Ql (Ag (Ah (build c l).1 p) p ((build c l).1.cores.length : Int) o).1.wait o _) (Xr (x := (Ag (Ah (build c l).1 p) p ((build c l).1.cores.length : Int) o).1.wait) (y := o) (hc.1))) ?_
      refine djc (fun _ _ => Cx) ?_
      refine dn3 ?_
      refine djc (fun _ _ => Em) ?_
      refine djc (fun _ _ => Cx) ?_
      refine dn3 ?_
      refine djc (fun _ _ => Em) ?_
      refine djc (fun _ _ => Cx) ?_
      refine dn3 ?_
      refine dj (dgy ?_)
      refine dc (fun _ _ => Af rfl rfl (As (hc.2.1))) ?_
      refine dj (dgy ?_)
      refine dc (fun _ _ => Cx) ?_
      refine dn2 ?_
      refine dj (dgy ?_)
      refine dc (fun _ _ => Af rfl rfl (As (by rw [hc.2.2.1]; rfl))) ?_
      refine dj (dgy ?_)
      refine dc (fun _ _ => Gg) ?_
      refine dj (dgy ?_)
      refine dc (fun _ _ => Cx) ?_
      refine dn2 ?_
      refine dj (dgy ?_)
      refine dc (fun _ _ => Af rfl rfl (As rfl)) ?_
      refine dj (dgy ?_)
      refine dc (fun _ _ => Gg) ?_
      refine dj (dgy ?_)
      refine dc (fun _ _ => Cx) ?_
      refine dn1 ?_
      refine dj (dgy ?_)
      refine dc (fun _ _ => Gi (i := 0) U6) ?_
      refine dj (dgy ?_)
      first | refine dc (fun _ _ => Sg Ro) ?_ | refine dc (fun _ _ => Sf Ro) ?_
      refine dj (dgy ?_)
      first | refine dc (fun _ _ => Se Try.isAgg66 Try.sizeOf66) ?_ | refine dc (fun _ _ => Dy 3 Try.isAgg66 Try.sizeOf66) ?_ | refine dc (fun _ _ => N7 3 Try.isAgg66 Try.sizeOf66) ?_ | refine dc (fun _ _ => q_lNf 3 Try.isAgg66 Try.sizeOf66) ?_
      refine dn1 ?_
      refine dj (dgy ?_)
      refine dc (fun _ _ => Hf rfl rfl (Ql o o _) (Sa (x := o) (y := o) rfl)) ?_
      refine dj (dgy ?_)
      refine dc (fun _ _ => Gg) ?_
      refine dj (dgy ?_)
      refine dc (fun _ _ => Cx) ?_
      refine dn1 ?_
      refine dj (dgy ?_)
      refine dc (fun _ _ => Gi (i := 0) U6) ?_
      refine dj (dgy ?_)
      first | refine dc (fun _ _ => Sg Rp) ?_ | refine dc (fun _ _ => Sf Rp) ?_
      refine dj (dgy ?_)
      refine dc (fun _ _ => Dn Try.isAgg3) ?_
      refine dn1 ?_
      refine dj (dgy ?_)
      refine dc (fun _ _ => Af rfl rfl (As rfl)) ?_
      refine dj (dgy ?_)
      refine dc (fun _ _ => Gg) ?_
      refine djc (fun _ _ => Em) ?_
      refine djc (fun _ _ => Db) ?_
      refine dnl ?_; intro ρ
      refine Gl ?_
      exact Cb ()
end Go.Proofs.Ytofgpimoekhfaaa
