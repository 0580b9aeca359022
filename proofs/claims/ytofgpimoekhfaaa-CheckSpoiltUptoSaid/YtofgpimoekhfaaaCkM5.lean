/- This file proves parts of what its law needs: each part is told ahead of it. No conditions. -/
import Derived.Test.YtofgpimoekhfaaaCkM3
import Derived.Test.YtofgpimoekhfaaaCkM4
import Derived.Test.YtofgpimoekhfaaaCkM2
import Derived.Test.YtofgpimoekhfaaaCkM1
/- This file proves what a core hears, by the document's answer: some kinds of messages. No conditions. -/
set_option linter.unusedVariables false
set_option linter.unusedSimpArgs false
set_option maxHeartbeats 1000000
set_option maxRecDepth 8000
namespace Go.Proofs.Ytofgpimoekhfaaa
open Go
theorem T2 {L : List Chunk} {R : List Fact} {w : World} {u : Value} {c : Core} {id home : Int} {m : Msg} (hs : St (L) R w) (hu : sl u c.lines ∈ R) (hk : KB c) (hid : An id) (hhome : An home) (hm : m.wf) (hg : 0 ≤ m.line ∧ m.line < (c.lines.length : Int) ∧ m.kind = 7) : Calls Try.prog 47 [.agg (c.cells u).toArray, vi id, vi home, .agg m.cells.toArray].toArray w (Cg (fun v : Value × Value × Value => .tuple #[.agg (Core.cells v.1 (Ag c id home m).1).toArray, v.2.1, v.2.2]) (fun v => L) (fun v => sl v.1 (Ag c id home m).1.lines :: sl v.2.1 (Ag c id home m).2.1 :: sl v.2.2 (Ag c id home m).2.2 :: R)) := by
  have hlen := Bv hu hs
  have hone0 : u.oneCell' = true := isSlice.one (hs.fact hu)
  have hn4 := hk.n
  have hm0 := hm
  unfold Msg.wf An at hm0
  refine Ah Try.func47 rfl Try.ntmps47 rfl hs ?_
  clear hs
  refine Gm ?_
  refine bx ?_; intro b4
  refine bx ?_; intro b5
  refine bx ?_; intro b6
  refine bx ?_; intro b7
  refine al_ (cs := [.slice none 0 0, vi 0, vi 0, vi 0]) Try.zeroValue69 ?_; intro b8
  refine Gb2 ?_
  refine rn2 ?_
  refine ob (Ae rfl rfl (Al (by omega))) ?_
  refine rn6 ?_
  refine gy ?_
  refine ob (Ae rfl rfl (Bc (by omega))) ?_
  refine Gc1 ?_
  refine F8 (c := c) (v := u) m.line mm (by omega) (by omega) (fun hlw => ?_)
  refine Aa ?_
  refine rn6 ?_
  refine al_ (cs := zLine.cells) Try.zeroValue82 ?_; intro b11
  refine s_B (cs := (Ac c m.line).cells) Try.sizeOf82 ?_
  refine Gm ?_
  refine Ck (vs := [bp b5 0, bp b6 0, bp b7 0]) rfl ?_
  refine Gb1 ?_
  refine Ck (vs := [bp b5 0, bp b4 0]) rfl ?_
  refine Gb1 ?_
  refine Ga2 ?_
  refine kp [4, 5, 7, 8, 9, 10, 11, 12, 13, 43, 44, 45] ?_
  refine Aa ?_
  refine ob (Ae rfl rfl (Ak (by omega))) ?_
  refine Gd1 ?_
  refine ob (Ae rfl rfl (Ak (by omega))) ?_
  refine Gd1 ?_
  refine ob (Ae rfl rfl (Ak (by omega))) ?_
  refine Gd1 ?_
  refine ob (Ae rfl rfl (Av (by omega))) ?_
  refine Gd1 ?_
  refine Ga5 ?_
  refine cdx (p := ?p1) (hd := ?d1) ?e1 ?_ ?_; case e1 => exact rfl
  ·
   intro ht157
   refine Gl ?_
   refine JC.slNil Msg ?_
   refine JC.slNil Done ?_
   refine Aa ?_
   refine rn1 ?_
   refine s_B Try.sizeOf69 ?_
   refine Ga2 ?_
   have er : Ag c id home m = (c, [], []) := by unfold Ag; rw [if_neg (by omega)]; rw [if_neg (by omega), if_neg (by omega), if_pos (by omega)]; rw [if_pos (by omega)]
   rw [er]
   exact Cu (u, .slice none 0 0, .slice none 0 0) Try.isAgg69 Try.sizeOf69
  ·
   intro ht157
   refine Gm ?_
   refine rn3 ?_
   refine Bk (caps := [bp b5 0, bp b6 0, bp b7 0]) (vs := [vi 10, vi m.turn, vi 0]) rfl Try.call85 rfl (fun w hs => N1 hs (A9 pkk rfl) (A9 pkk rfl) (A9 pkk rfl) (by unfold An; omega) hm.2.2.2.2.2.1 (by unfold An; omega) hid hhome hm.2.2.2.1) ?_; intro v162
   refine Ga1 ?_
   refine kp [4, 5, 7, 8, 9, 10, 11, 13, 16, 43, 163, 164, 165, 166, 167, 168, 169, 170, 171, 172, 173, 174, 175, 176, 177, 178, 179, 180, 181, 182, 183, 184, 185, 186] ?_
   refine Da 186 (.bool (decide (¬ G9 (Ac c m.line) m))) ?_ ?_
   ·
    rcases (show (m.serial < (Ac c m.line).serial) ∨ (m.serial = (Ac c m.line).serial ∧ m.alone = true ∧ (Ac c m.line).want ≠ 2) ∨ (m.serial = (Ac c m.line).serial ∧ m.alone = true ∧ (Ac c m.line).want = 2) ∨ (m.serial = (Ac c m.line).serial ∧ m.alone = false ∧ (Ac c m.line).want ≠ 1) ∨ (m.serial = (Ac c m.line).serial ∧ m.alone = false ∧ (Ac c m.line).want = 1) from by rcases Bool.eq_false_or_eq_true m.alone with h1 | h1 <;> simp only [h1, true_and, false_and, and_false, or_false, false_or, reduceCtorEq] <;> omega) with hm | hm | hm | hm | hm
    ·
     have hna : ¬ G9 (Ac c m.line) m := by unfold G9; omega
     refine Aa ?_
     refine rn4 ?_
     refine ob (Ae rfl rfl (Co (by omega))) ?_
     refine Ga19 ?_
     refine Ap ?_ (fun w hs => hs)
     refine ⟨by first | exact congrArg (fun b => some (Value.bool b)) (decide_eq_true (by first | exact hna | exact fun h => h hna)).symm | exact congrArg (fun b => some (Value.bool b)) (by simp; omega), alT⟩
    ·
     obtain ⟨hc1, hal, hc2⟩ := hm
     have hna : ¬ G9 (Ac c m.line) m := by unfold G9; rw [hal]; simp; omega
     refine Aa ?_
     refine rn4 ?_
     refine ob (Ae rfl rfl (Al (by omega))) ?_
     refine rn2 ?_
     refine gy ?_
     refine ob (C6 (c := .bool true) Try.isAgg4 (hc := A9 pkk (by show some (Value.bool m.alone) = _; rw [hal]))) ?_
     refine rn3 ?_
     refine gy ?_
     refine ob (Ae rfl rfl (Cn (by omega))) ?_
     refine Ga12 ?_
     refine Ap ?_ (fun w hs => hs)
     refine ⟨by first | exact congrArg (fun b => some (Value.bool b)) (decide_eq_true (by first | exact hna | exact fun h => h hna)).symm | exact congrArg (fun b => some (Value.bool b)) (by simp; omega), alT⟩
    ·
     obtain ⟨hc1, hal, hc2⟩ := hm
     have hna : G9 (Ac c m.line) m := by unfold G9; rw [hal]; simp; omega
     refine kp [4, 5, 7, 8, 9, 10, 11, 13, 16, 43, 163, 164, 165, 166, 167, 168, 169, 170, 171, 172, 173, 174, 175, 176, 177, 178, 179, 180, 181, 182, 183, 184, 185, 186] ?_
     refine Aa ?_
     refine rn4 ?_
     refine ob (Ae rfl rfl (Al (by omega))) ?_
     refine rn2 ?_
     refine gy ?_
     refine ob (C6 (c := .bool true) Try.isAgg4 (hc := A9 pkk (by show some (Value.bool m.alone) = _; rw [hal]))) ?_
     refine rn3 ?_
     refine gy ?_
     refine ob (Ae rfl rfl (Cb (by omega))) ?_
     refine rn4 ?_
     refine gy ?_
     refine ob (C6 (c := .bool true) Try.isAgg4 (hc := A9 pkk (by show some (Value.bool m.alone) = _; rw [hal]))) ?_
     refine Ga7 ?_
     refine Ap ?_ (fun w hs => hs)
     refine ⟨by first | exact congrArg (fun b => some (Value.bool b)) (decide_eq_false (by first | exact hna | exact fun h => h hna)).symm | exact congrArg (fun b => some (Value.bool b)) (by simp; omega), alT⟩
    ·
     obtain ⟨hc1, hal, hc2⟩ := hm
     have hna : ¬ G9 (Ac c m.line) m := by unfold G9; rw [hal]; simp; omega
     refine Aa ?_
     refine rn4 ?_
     refine ob (Ae rfl rfl (Al (by omega))) ?_
     refine rn2 ?_
     refine gy ?_
     refine ob (C6 (c := .bool false) Try.isAgg4 (hc := A9 pkk (by show some (Value.bool m.alone) = _; rw [hal]))) ?_
     refine rn8 ?_
     refine gy ?_
     refine ob (C6 (c := .bool false) Try.isAgg4 (hc := A9 pkk (by show some (Value.bool m.alone) = _; rw [hal]))) ?_
     refine rn4 ?_
     refine gy ?_
     refine ob (Ae rfl rfl (Cn (by omega))) ?_
     refine Ga2 ?_
     refine Ap ?_ (fun w hs => hs)
     refine ⟨by first | exact congrArg (fun b => some (Value.bool b)) (decide_eq_true (by first | exact hna | exact fun h => h hna)).symm | exact congrArg (fun b => some (Value.bool b)) (by simp; omega), alT⟩
    ·
     obtain ⟨hc1, hal, hc2⟩ := hm
     have hna : G9 (Ac c m.line) m := by unfold G9; rw [hal]; simp; omega
     refine kp [4, 5, 7, 8, 9, 10, 11, 13, 16, 43, 163, 164, 165, 166, 167, 168, 169, 170, 171, 172, 173, 174, 175, 176, 177, 178, 179, 180, 181, 182, 183, 184, 185, 186] ?_
     refine Aa ?_
     refine rn4 ?_
     refine ob (Ae rfl rfl (Al (by omega))) ?_
     refine rn2 ?_
     refine gy ?_
     refine ob (C6 (c := .bool false) Try.isAgg4 (hc := A9 pkk (by show some (Value.bool m.alone) = _; rw [hal]))) ?_
     refine rn8 ?_
     refine gy ?_
     refine ob (C6 (c := .bool false) Try.isAgg4 (hc := A9 pkk (by show some (Value.bool m.alone) = _; rw [hal]))) ?_
     refine rn4 ?_
     refine gy ?_
     refine ob (Ae rfl rfl (Cb (by omega))) ?_
     refine Ga2 ?_
     refine Ap ?_ (fun w hs => hs)
     refine ⟨by first | exact congrArg (fun b => some (Value.bool b)) (decide_eq_false (by first | exact hna | exact fun h => h hna)).symm | exact congrArg (fun b => some (Value.bool b)) (by simp; omega), alT⟩
   ·
    refine As ?_
    refine Gl ?_
    first | (refine cdx (p := ?p2) (hd := ?d2) ?e2 ?_ ?_; case e2 => exact rfl) | (refine Bh (b := ?b2) ?e2 ?_ ?_; case e2 => exact rfl)
    ·
     intro ht186
     refine Gl ?_
     refine JC.slNil Done ?_
     refine Aa ?_
     refine rn2 ?_
     refine s_B Try.sizeOf69 ?_
     refine Ga2 ?_
     have er : Ag c id home m = (c, [Ce 10 id home m.line m.turn 0], []) := by unfold Ag; rw [if_neg (by omega)]; rw [if_neg (by omega), if_neg (by omega), if_pos (by omega)]; rw [if_neg (by omega), if_neg ht186]
     rw [er]
     exact Cu (u, v162, .slice none 0 0) Try.isAgg69 Try.sizeOf69
    ·
     intro ht186
     refine Gm ?_
     refine rn2 ?_
     refine al_ (cs := zOp.cells) Try.zeroValue66 ?_; intro b17
     refine s_B Try.sizeOf66 ?_
     refine Gm ?_
     refine rn3 ?_
     obtain ⟨hwk, hwl, hwv⟩ := hk.wait m.line (by omega) (by have h9 := Decidable.not_not.1 ht186; unfold G9 at h9; omega)
     refine Ar Try.call79 rfl (fun w hs => J8 (v := m.value) (o := c.wait) hs hm.2.2.2.2.2.2 hwk (by omega) hwv) ?_; intro _
     refine Ga5 ?_
     refine kp [4, 5, 7, 8, 9, 10, 11, 13, 16, 17, 18, 19, 43, 198, 199, 200, 201, 202, 203, 204] ?_
     refine cq_ (blk b11 82 [vi (Ac c m.line).state, vi (Ac c m.line).value, vi (Ac c m.line).want, vi (Ac c m.line).serial, vi (Ac c m.line).seen, vi (Ac c m.line).gave, vi (Ac c m.line).given] :: blk b17 66 c.wait.cells :: blk b8 69 [.slice none 0 0, vi 0, vi 0, vi 0] :: blk b4 69 (c.cells u) :: blk b5 3 [vi id] :: blk b6 3 [vi home] :: blk b7 42 m.cells :: L) ?_
     refine jd_ (fun ρ S => blk b11 82 (bif S 10 then [vi 1, vi (A0 m.value c.wait).1, vi 0, vi (Ac c m.line).serial, vi m.turn, vi (Ac c m.line).gave, vi (Ac c m.line).given] else (bif S 8 then [vi (Ac c m.line).state, vi (A0 m.value c.wait).1, vi 0, vi (Ac c m.line).serial, vi m.turn, vi (Ac c m.line).gave, vi (Ac c m.line).given] else (bif S 6 then [vi (Ac c m.line).state, vi (A0 m.value c.wait).1, vi 0, vi (Ac c m.line).serial, vi (Ac c m.line).seen, vi (Ac c m.line).gave, vi (Ac c m.line).given] else (bif S 4 then [vi (Ac c m.line).state, vi (A0 m.value c.wait).1, vi (Ac c m.line).want, vi (Ac c m.line).serial, vi (Ac c m.line).seen, vi (Ac c m.line).gave, vi (Ac c m.line).given] else [vi (Ac c m.line).state, vi (Ac c m.line).value, vi (Ac c m.line).want, vi (Ac c m.line).serial, vi (Ac c m.line).seen, vi (Ac c m.line).gave, vi (Ac c m.line).given])))) :: blk b17 66 c.wait.cells :: blk b8 69 [.slice none 0 0, vi 0, vi 0, vi 0] :: blk b4 69 (c.cells u) :: blk b5 3 [vi id] :: blk b6 3 [vi home] :: blk b7 42 m.cells :: L) ?_
     refine dn4 ?_
     refine es_ 82 1 [] [6, 8, 10] (fun ρ => b11) (fun ρ => [vi (Ac c m.line).state, vi (Ac c m.line).value, vi (Ac c m.line).want, vi (Ac c m.line).serial, vi (Ac c m.line).seen, vi (Ac c m.line).gave, vi (Ac c m.line).given]) (fun ρ => [vi (A0 m.value c.wait).1]) Try.sizeOf3 ?_
     refine dn1 ?_
     refine es_ 82 2 [4] [8, 10] (fun ρ => b11) (fun ρ => [vi (Ac c m.line).state, vi (A0 m.value c.wait).1, vi (Ac c m.line).want, vi (Ac c m.line).serial, vi (Ac c m.line).seen, vi (Ac c m.line).gave, vi (Ac c m.line).given]) (fun ρ => [vi 0]) Try.sizeOf3 ?_
     refine dn1 ?_
     refine es_ 82 4 [4, 6] [10] (fun ρ => b11) (fun ρ => [vi (Ac c m.line).state, vi (A0 m.value c.wait).1, vi 0, vi (Ac c m.line).serial, vi (Ac c m.line).seen, vi (Ac c m.line).gave, vi (Ac c m.line).given]) (fun ρ => [vi m.turn]) Try.sizeOf3 ?_
     refine dn1 ?_
     refine es_ 82 0 [4, 6, 8] [] (fun ρ => b11) (fun ρ => [vi (Ac c m.line).state, vi (A0 m.value c.wait).1, vi 0, vi (Ac c m.line).serial, vi m.turn, vi (Ac c m.line).gave, vi (Ac c m.line).given]) (fun ρ => [vi 1]) Try.sizeOf3 ?_
     refine dnl ?_; intro ρ
     refine xq_ (blk b11 82 [vi 1, vi (A0 m.value c.wait).1, vi 0, vi (Ac c m.line).serial, vi m.turn, vi (Ac c m.line).gave, vi (Ac c m.line).given] :: blk b17 66 c.wait.cells :: blk b8 69 [.slice none 0 0, vi 0, vi 0, vi 0] :: blk b4 69 (c.cells u) :: blk b5 3 [vi id] :: blk b6 3 [vi home] :: blk b7 42 m.cells :: L) ?_
     refine Gm ?_
     refine Ga2 ?_
     refine Bh (b := ?b3) ?e3 ?_ ?_; case e3 => exact rfl
     ·
      intro ht206
      refine Aa ?_
      refine rn1 ?_
      refine sc ?_
      refine Gl ?_
      have hvo : An (A0 m.value c.wait).1 := Pu hm.2.2.2.2.2.2 hwv.1 hwv.2
      refine Aa ?_
      refine rn4 ?_
      have hXw : ({ (Ac c m.line) with value := (A0 m.value c.wait).1, want := 0, seen := m.turn, state := 2 } : Line).wf := by unfold Line.wf at hlw ⊢; exact ⟨by unfold An; simp only; omega, hvo, by unfold An; simp only; omega, hlw.2.2.2.1, hm.2.2.2.2.2.1, hlw.2.2.2.2.2.1, hlw.2.2.2.2.2.2⟩
      refine Ar Try.call77 rfl (fun w hs => Bd (l := { (Ac c m.line) with value := (A0 m.value c.wait).1, want := 0, seen := m.turn, state := 2 }) hs mm hXw (by omega)) ?_; intro v212
      refine J.know (p := v212.oneCell' = true) (fun w hs => isSlice.one (hs.fact (List.Mem.head _))) (fun hone212 => ?_)
      refine al_ (cs := [.slice none 0 0, vi 0, vi 0, vi 0]) Try.zeroValue69 ?_; intro b20
      refine s_B (cs := [v212, vi c.wait.kind, vi c.wait.line, vi c.wait.value]) Try.sizeOf69 ?_
      refine Gm ?_
      refine ob (Gp (cs := zOp.cells) R4) ?_
      refine rn1 ?_
      refine s_N [v212, vi 0, vi 0, vi 0] Try.sizeOf66 ?_
      refine Gl ?_
      have hto : An (A0 m.value c.wait).2 := Ns hm.2.2.2.2.2.2
      refine cq_ (blk b8 69 [.slice none 0 0, vi 0, vi 0, vi 0] :: blk b20 69 [v212, vi 0, vi 0, vi 0] :: blk b17 66 c.wait.cells :: blk b5 3 [vi id] :: L) ?_
      refine jd_ (fun ρ S => blk b8 69 (bif S 7 then [v212, vi 0, vi 0, vi 0] else [.slice none 0 0, vi 0, vi 0, vi 0]) :: blk b20 69 [v212, vi 0, vi 0, vi 0] :: blk b17 66 c.wait.cells :: blk b5 3 [vi id] :: L) ?_
      refine dn6 ?_
      refine Gn ([⟨id, c.wait, (A0 m.value c.wait).2⟩] : List Done) Jo rfl (fun _ => rfl) rfl (fun _ => rfl) rfl rfl (fun ρ R hd => Gv ⟨hid, hk.wwf.1, hk.wwf.2.1, hk.wwf.2.2, hto⟩) (fun _ _ _ _ _ => rfl) ?_
      refine es_ 69 0 [] [] (fun ρ => b8) (fun ρ => [.slice none 0 0, vi 0, vi 0, vi 0]) (fun ρ => [v212, vi 0, vi 0, vi 0]) Try.sizeOf69 ?_
      refine dn1 ?_
      refine e_p (v := fun ρ => (Gh.dec (γ := Value) (ρ 6))) (fun _ _ => Eb) (Ind.gh (h := fun g => ((Gh.dec (γ := Value) g) : Value)) 6 0 rfl) (fun _ _ _ _ _ => rfl) ?_
      refine dnl ?_; intro ρ
      refine xq_ (blk b8 69 [v212, vi 0, vi 0, vi 0] :: blk b20 69 [v212, vi 0, vi 0, vi 0] :: blk b17 66 c.wait.cells :: blk b5 3 [vi id] :: L) ?_
      generalize (Gh.dec (γ := Value) (ρ 6)) = v221
      refine Gl ?_
      have eg : Kk (Ac c m.line) m c.wait = { (Ac c m.line) with value := (A0 m.value c.wait).1, want := 0, seen := m.turn, state := 2 } := by unfold Kk; rw [ht206, if_pos rfl]
      have er : Ag c id home m = (Ay c m.line ({ (Ac c m.line) with value := (A0 m.value c.wait).1, want := 0, seen := m.turn, state := 2 }) zOp, [Ce 10 id home m.line m.turn 0], [⟨id, c.wait, (A0 m.value c.wait).2⟩]) := by unfold Ag; rw [if_neg (by omega)]; rw [if_neg (by omega), if_neg (by omega), if_pos (by omega)]; rw [if_neg (by omega), if_pos (Decidable.not_not.1 ht186), eg]
      rw [er]
      exact Cu (v212, v162, v221) Try.isAgg69 Try.sizeOf69
     ·
      intro ht206
      refine Gl ?_
      have hvo : An (A0 m.value c.wait).1 := Pu hm.2.2.2.2.2.2 hwv.1 hwv.2
      refine Aa ?_
      refine rn4 ?_
      have hXw : ({ (Ac c m.line) with value := (A0 m.value c.wait).1, want := 0, seen := m.turn, state := 1 } : Line).wf := by unfold Line.wf at hlw ⊢; exact ⟨by unfold An; simp only; omega, hvo, by unfold An; simp only; omega, hlw.2.2.2.1, hm.2.2.2.2.2.1, hlw.2.2.2.2.2.1, hlw.2.2.2.2.2.2⟩
      refine Ar Try.call77 rfl (fun w hs => Bd (l := { (Ac c m.line) with value := (A0 m.value c.wait).1, want := 0, seen := m.turn, state := 1 }) hs mm hXw (by omega)) ?_; intro v212
      refine J.know (p := v212.oneCell' = true) (fun w hs => isSlice.one (hs.fact (List.Mem.head _))) (fun hone212 => ?_)
      refine al_ (cs := [.slice none 0 0, vi 0, vi 0, vi 0]) Try.zeroValue69 ?_; intro b20
      refine s_B (cs := [v212, vi c.wait.kind, vi c.wait.line, vi c.wait.value]) Try.sizeOf69 ?_
      refine Gm ?_
      refine ob (Gp (cs := zOp.cells) R4) ?_
      refine rn1 ?_
      refine s_N [v212, vi 0, vi 0, vi 0] Try.sizeOf66 ?_
      refine Gl ?_
      have hto : An (A0 m.value c.wait).2 := Ns hm.2.2.2.2.2.2
      refine cq_ (blk b8 69 [.slice none 0 0, vi 0, vi 0, vi 0] :: blk b20 69 [v212, vi 0, vi 0, vi 0] :: blk b17 66 c.wait.cells :: blk b5 3 [vi id] :: L) ?_
      refine jd_ (fun ρ S => blk b8 69 (bif S 7 then [v212, vi 0, vi 0, vi 0] else [.slice none 0 0, vi 0, vi 0, vi 0]) :: blk b20 69 [v212, vi 0, vi 0, vi 0] :: blk b17 66 c.wait.cells :: blk b5 3 [vi id] :: L) ?_
      refine dn6 ?_
      refine Gn ([⟨id, c.wait, (A0 m.value c.wait).2⟩] : List Done) Jo rfl (fun _ => rfl) rfl (fun _ => rfl) rfl rfl (fun ρ R hd => Gv ⟨hid, hk.wwf.1, hk.wwf.2.1, hk.wwf.2.2, hto⟩) (fun _ _ _ _ _ => rfl) ?_
      refine es_ 69 0 [] [] (fun ρ => b8) (fun ρ => [.slice none 0 0, vi 0, vi 0, vi 0]) (fun ρ => [v212, vi 0, vi 0, vi 0]) Try.sizeOf69 ?_
      refine dn1 ?_
      refine e_p (v := fun ρ => (Gh.dec (γ := Value) (ρ 6))) (fun _ _ => Eb) (Ind.gh (h := fun g => ((Gh.dec (γ := Value) g) : Value)) 6 0 rfl) (fun _ _ _ _ _ => rfl) ?_
      refine dnl ?_; intro ρ
      refine xq_ (blk b8 69 [v212, vi 0, vi 0, vi 0] :: blk b20 69 [v212, vi 0, vi 0, vi 0] :: blk b17 66 c.wait.cells :: blk b5 3 [vi id] :: L) ?_
      generalize (Gh.dec (γ := Value) (ρ 6)) = v221
      refine Gl ?_
      have eg : Kk (Ac c m.line) m c.wait = { (Ac c m.line) with value := (A0 m.value c.wait).1, want := 0, seen := m.turn, state := 1 } := by unfold Kk; rw [ht206, if_neg (by decide)]
      have er : Ag c id home m = (Ay c m.line ({ (Ac c m.line) with value := (A0 m.value c.wait).1, want := 0, seen := m.turn, state := 1 }) zOp, [Ce 10 id home m.line m.turn 0], [⟨id, c.wait, (A0 m.value c.wait).2⟩]) := by unfold Ag; rw [if_neg (by omega)]; rw [if_neg (by omega), if_neg (by omega), if_pos (by omega)]; rw [if_neg (by omega), if_pos (Decidable.not_not.1 ht186), eg]
      rw [er]
      exact Cu (v212, v162, v221) Try.isAgg69 Try.sizeOf69
end Go.Proofs.Ytofgpimoekhfaaa

/- This file proves what a core hears, by the document's answer. No conditions. -/
set_option linter.unusedVariables false
set_option linter.unusedSimpArgs false
set_option maxHeartbeats 1000000
set_option maxRecDepth 8000
namespace Go.Proofs.Ytofgpimoekhfaaa
open Go
theorem Wc {L : List Chunk} {R : List Fact} {w : World} {u : Value} {c : Core} {id home : Int} {m : Msg} (hs : St (L) R w) (hu : sl u c.lines ∈ R) (hk : KB c) (hid : An id) (hhome : An home) (hm : m.wf) : Calls Try.prog 47 [.agg (c.cells u).toArray, vi id, vi home, .agg m.cells.toArray].toArray w (Cg (fun v : Value × Value × Value => .tuple #[.agg (Core.cells v.1 (Ag c id home m).1).toArray, v.2.1, v.2.2]) (fun v => L) (fun v => sl v.1 (Ag c id home m).1.lines :: sl v.2.1 (Ag c id home m).2.1 :: sl v.2.2 (Ag c id home m).2.2 :: R)) := by
  by_cases h : 0 ≤ m.line ∧ m.line < (c.lines.length : Int)
  · by_cases h4 : m.kind = 4
    · exact T5 hs hu hk hid hhome hm (by omega)
    by_cases h5 : m.kind = 5
    · exact T4 hs hu hk hid hhome hm (by omega)
    by_cases h6 : m.kind = 6
    · exact T3 hs hu hk hid hhome hm (by omega)
    by_cases h7 : m.kind = 7
    · exact T2 hs hu hk hid hhome hm (by omega)
    by_cases h11 : m.kind = 11
    · exact Sd hs hu hk hid hhome hm (by omega)
    exact T1 hs hu hk hid hhome hm (by omega)
  · exact T6 hs hu hk hid hhome hm h
end Go.Proofs.Ytofgpimoekhfaaa

/- This file proves what net.Take, Twice, Spoil and their twins compute. No conditions. -/
set_option linter.unusedVariables false
set_option linter.unusedSimpArgs false
set_option maxHeartbeats 1000000
set_option maxRecDepth 8000
namespace Go.Proofs.Ytofgpimoekhfaaa
open Go
def Sl (l : Frames) (n : Nat) (k : Nat) : Frames := (l.take k).eraseIdx n
theorem Um {l : Frames} {n k : Nat} (h : k = l.length) : Sl l n k = l.eraseIdx n := by unfold Sl; rw [h, List.take_length]
theorem Wm {l : Frames} {n k : Nat} (h : k < l.length) (hn : k ≠ n) : Sl l n (k + 1) = Sl l n k ++ [l.getD k []] := by
  unfold Sl
  rw [Hu [] h]
  by_cases h' : n < k
  · rw [List.eraseIdx_append_of_lt_length (by rw [List.length_take]; omega)]
  · rw [List.eraseIdx_of_length_le (by simp; omega), List.eraseIdx_of_length_le (by simp; omega)]
theorem Ul (l : Frames) (n k : Nat) : (Sl l n k).length ≤ k := by
 unfold Sl; rw [List.length_eraseIdx]
 split <;> rw [List.length_take] <;> omega
theorem Wn {l : Frames} {n k : Nat} (h : k < l.length) (hn : k = n) : Sl l n (k + 1) = Sl l n k := by
 unfold Sl
 subst hn
 rw [Hu [] h, List.eraseIdx_append_of_length_le (by rw [List.length_take]; omega), List.length_take, Nat.min_eq_left (by omega), Nat.sub_self, List.eraseIdx_of_length_le (l := l.take k) (by rw [List.length_take]; omega)]
 simp
theorem Gr {L : List Chunk} {R : List Fact} {w : World} {v0 : Value} {l : Frames} {n : Int} (hs : St (L) R w) (h0 : sl v0 l ∈ R) (hn : An n) : Calls Try.prog 23 [v0, vi n].toArray w (Cg (fun v : Value × Value => .tuple #[v.1, v.2, vi (Cm l n).2.2]) (fun v => L) (fun v => sl v.1 (Cm l n).1 :: sl v.2 (Cm l n).2.1 :: R)) := by
  have hlen := Bv h0 hs
  unfold An at hn
  refine Ah Try.func23 rfl Try.ntmps23 rfl hs ?_
  clear hs
  refine Gm ?_
  refine Ga3 ?_
  rcases (show (n < 0) ∨ (¬ n < 0 ∧ (l.length : Int) ≤ n) ∨ (0 ≤ n ∧ n < (l.length : Int)) from by omega) with hc | hc | hc
  ·
   refine Aa ?_
   refine rn1 ?_
   refine ob (Ae rfl rfl (Co (by omega))) ?_
   refine Gd6 ?_
   refine Ga3 ?_
   have er : Cm l n = ([], [], 5) := by unfold Cm; rw [if_pos (by omega)]
   rw [er]
   exact K9 (.slice none 0 0, .slice none 0 0) (hs := fun w hs => Aj (St.shut (St.rowNil 23 (List UInt8) (St.shut (hs.rowNil 5 UInt8)))))
  ·
   refine Aa ?_
   refine rn1 ?_
   refine ob (Ae rfl rfl (Al (by omega))) ?_
   refine rn4 ?_
   refine gy ?_
   refine ob (Ae rfl rfl (D7 (by omega))) ?_
   refine Gd1 ?_
   refine Ga3 ?_
   have er : Cm l n = ([], [], 5) := by unfold Cm; rw [if_pos (by omega)]
   rw [er]
   exact K9 (.slice none 0 0, .slice none 0 0) (hs := fun w hs => Aj (St.shut (St.rowNil 23 (List UInt8) (St.shut (hs.rowNil 5 UInt8)))))
  ·
   refine Aa ?_
   refine rn1 ?_
   refine ob (Ae rfl rfl (Al (by omega))) ?_
   refine rn4 ?_
   refine gy ?_
   refine ob (Ae rfl rfl (Bc (by omega))) ?_
   refine Gd1 ?_
   refine Gb1 ?_
   refine Ga3 ?_
   refine JC.rowNil 23 (List UInt8) ?_
   refine Bg (γ := Nat × Value) (fun g => g.1 ≤ l.length) (fun g => row 23 g.2 (Sl l n.toNat g.1) :: L) (fun _ => R) (fun g => [(0, v0), (1, vi n), (7, g.2), (18, v0), (19, vi (l.length : Int)), (20, vi (g.1 : Int))]) (fun g => l.length - g.1) (0, .slice none 0 0) (Nat.zero_le _) alT (fun w hs => hs) ?_
   rintro ⟨k, vs⟩ hk
   try simp only at hk ⊢
   refine Gm ?_
   refine Ga1 ?_
   refine cdx (p := ?p1) (hd := ?d1) ?e1 ?_ ?_; case e1 => exact rfl
   ·
    intro ht21
    refine Gl ?_
    refine JC.open1 (xs := l) k mm (by omega) (fun _ u => ?_)
    refine Aa ?_
    refine Gb5 ?_
    refine Ga3 ?_
    refine cdx (p := ?p2) (hd := ?d2) ?e2 ?_ ?_; case e2 => exact rfl
    ·
     intro ht27
     refine Aa ?_
     refine rn2 ?_
     refine li [_] Lc rfl We ?_; intro v30
     refine ap Lc (hb := fun w hs => by have : maxN = 16777216 := rfl; have h9 := Ul l n.toNat k; simp only [List.length_cons, List.length_nil]; omega) (k := ?_); intro v31
     refine Gb1 ?_
     refine Ga2 ?_
     refine A1 (k + 1, v31) (by show k + 1 ≤ l.length; omega) (by show l.length - (k + 1) < l.length - k; omega) alT (fun w hs => ?_)
     try simp only
     rw [Wm (by omega) (by omega)]; exact Aj hs
    ·
     intro ht27
     refine Gm ?_
     refine Ga2 ?_
     refine A1 (k + 1, vs) (by show k + 1 ≤ l.length; omega) (by show l.length - (k + 1) < l.length - k; omega) alT (fun w hs => ?_)
     try simp only
     rw [Wn (by omega) (by omega)]; exact Aj hs
   ·
    intro ht21
    refine Gl ?_
    refine JC.open1 (xs := l) n.toNat mm (by omega) (fun _ u => ?_)
    refine Gi ?_
    refine dn8 ?_
    refine dnl ?_; intro ρ
    refine Gl ?_
    have er : Cm l n = (l.eraseIdx n.toNat, Aw l n, 0) := by unfold Cm; rw [if_neg (by omega)]
    rw [er]
    exact K9 (vs, u) (hs := fun w hs => by rw [Um (show k = l.length by omega)] at hs; exact Aj (St.shut hs))
end Go.Proofs.Ytofgpimoekhfaaa

/- This file proves plain facts of a chip's step. No conditions. -/
set_option linter.unusedVariables false
set_option linter.unusedSimpArgs false
set_option maxHeartbeats 1000000
set_option maxRecDepth 8000
namespace Go.Proofs.Ytofgpimoekhfaaa
open Go
theorem Ma {P : Program} {n : Nat} {Q : Exit → Act → World → Prop} {L : List Chunk} {R : List Fact} {al : List (Nat × Value)} {c : Code} {v : Value} {x : Chip} (i : Int) (hm : sl v x.cores ∈ R) (h0 : 0 ≤ i) (hi : i < x.cores.length) (k : (A2 x i).wait.wf → ∀ u, JC P n c Q L (cF v 4 i.toNat (Core.cells u (A2 x i)) :: sl u (A2 x i).lines :: R) al) : JC P n c Q L R al := JC.open1 i.toNat hm (by omega) k
theorem Rp {c : Core} {id home : Int} {o : Op} (ho : o.wf) : (Ai c id home o).1.wait.wf := by
  have hz : zOp.wf := by unfold zOp Op.wf An; simp only; omega
  unfold Ai
  split
  · exact hz
  split
  · exact hz
  split
  · exact hz
  split
  · exact hz
  · exact ho
theorem Sx {c : Core} {id home : Int} {m : Msg} (ho : c.wait.wf) : (Ag c id home m).1.wait.wf := by
  have hz : zOp.wf := by unfold zOp Op.wf An; simp only; omega
  unfold Ag
  split
  · exact ho
  split
  · exact ho
  split
  · split
    · show (if _ then zOp else c.wait).wf
      split
      · exact hz
      · exact ho
    split
    · exact ho
    · exact ho
  split
  · split
    · exact ho
    split
    · exact hz
    · exact ho
  split
  · exact hz
  · exact ho
theorem U8 {x : Chip} {s : Step} (hk : s.kind = 2 ∨ s.kind = 3 ∨ s.kind = 4 ∨ s.kind = 5) (h : Cq x s.n) : Ao x s = (zChip, [], 5) := by
  unfold Ao
  rw [if_neg (by omega)]
  by_cases h2 : s.kind = 2
  · rw [if_pos h2, if_pos h]
  rw [if_neg h2]
  by_cases h3 : s.kind = 3
  · rw [if_pos h3, if_pos h]
  rw [if_neg h3]
  by_cases h4 : s.kind = 4
  · rw [if_pos h4, if_pos h]
  · rw [if_neg h4, if_pos (by omega), if_pos h]
section
variable {n nl : Nat} {x : Chip} {M : List Int}
theorem Inv.lbs (h : Inv n nl x M) {p : Int} (hp : 0 ≤ p ∧ p < x.cores.length) : ∀ i, i < (A2 x p).lines.length → LB ((A2 x p).lines.getD i zLine) := fun i hi => by
 have hnc := h.nc
 have h1 : (A2 x p).lines.length = nl := h.ncl p.toNat (by omega)
 exact h.lb (i := i) (p := p.toNat) (by omega) (by omega)
theorem Inv.ebs (h : Inv n nl x M) : ∀ i, i < x.home.length → EB (x.home.getD i A8) ∧ (x.home.getD i A8).turn ≤ 65535 ∧ (0 ≤ (x.home.getD i A8).serial ∧ (x.home.getD i A8).serial ≤ 65535) ∧ (0 ≤ (x.home.getD i A8).value ∧ (x.home.getD i A8).value ≤ 255) ∧ (x.home.getD i A8).last.length ≤ 4 := fun i hi => by
 have hnh := h.nh
 have hn := h.n1
 have := h.nla i (by omega)
 exact ⟨h.eb (i := i) (by omega), (h.ebd (i := i) (by omega)).1, (h.ebd (i := i) (by omega)).2.1, (h.ebd (i := i) (by omega)).2.2, by show (ent x i).last.length ≤ 4; omega⟩
theorem Inv.says_in (h : Inv n nl x M) (i : Nat) (hi : i < x.home.length) : ∀ a ∈ says (x.home.getD i A8) i n, MsgIn a := fun a ha => by
 have hnh := h.nh; have hn := h.n1; have hl := h.l1
 exact Ur (Ow h (i := i) (by omega) a ha).1 (by simp only [Ft]; omega) (by simp only [Ft]; omega)
end
end Go.Proofs.Ytofgpimoekhfaaa

/- This file proves what a step does to a chip, by the document's answer: some kinds of steps. No conditions. -/
set_option linter.unusedVariables false
set_option linter.unusedSimpArgs false
set_option maxHeartbeats 1000000
set_option maxRecDepth 8000
namespace Go.Proofs.Ytofgpimoekhfaaa
open Go
theorem Uc {L : List Chunk} {R : List Fact} {w : World} {n nl : Nat} {M : List Int} {cv hv fv : Value} {x : Chip} {s : Step} (hs : St (L) R w) (hc : sl cv x.cores ∈ R) (hh : sl hv x.home ∈ R) (hf : sl fv x.frames ∈ R) (h : Inv n nl x M) (hsw : s.wf) (hk : s.kind = 1) : Calls Try.prog 64 [.agg #[cv, hv, fv], .agg s.cells.toArray].toArray w (Cg (fun v : Value × Value × Value × Value => .tuple #[.agg #[v.1, v.2.1, v.2.2.1], v.2.2.2, vi (Ao x s).2.2]) (fun v => L) (fun v => sl v.1 (Ao x s).1.cores :: sl v.2.1 (Ao x s).1.home :: sl v.2.2.1 (Ao x s).1.frames :: sl v.2.2.2 (Ao x s).2.1 :: R)) := by
  have hn := h.n1
  have hnl := h.l1
  have hnc := h.nc
  have hnh := h.nh
  have hfr := h.fr
  have honec : cv.oneCell' = true := isSlice.one (hs.fact hc)
  have honeh : hv.oneCell' = true := isSlice.one (hs.fact hh)
  have honef : fv.oneCell' = true := isSlice.one (hs.fact hf)
  have hsw0 := hsw
  unfold Step.wf An at hsw0
  have hop : s.op.wf := by unfold Op.wf An; omega
  have hsn : An s.node := by unfold An; omega
  have hsN : An s.n := by unfold An; omega
  have hsb : An s.bit := by unfold An; omega
  have hn64 : An (x.cores.length : Int) := by unfold An; omega
  have hcw : (Ax x).wf := by unfold Ax Bz Config.wf An; simp only; omega
  refine Ah Try.func64 rfl Try.ntmps64 rfl hs ?_
  clear hs
  refine Gm ?_
  refine bx ?_; intro b2
  refine bx ?_; intro b3
  refine al_ (cs := [.slice none 0 0, .slice none 0 0, .slice none 0 0]) Try.zeroValue46 ?_; intro b4
  refine Gb2 ?_
  refine Gb1 ?_
  refine Gb4 ?_
  refine Gb2 ?_
  refine ob (Ae rfl rfl (Av (by omega))) ?_
  refine Gc1 ?_
  rcases (show (s.node < 0) ∨ (0 ≤ s.node ∧ (x.cores.length : Int) ≤ s.node) ∨ (0 ≤ s.node ∧ s.node < (x.cores.length : Int)) from by omega) with hc | hc | hc
  ·
   refine Aa ?_
   refine rn2 ?_
   refine ob (Ae rfl rfl (Co (by omega))) ?_
   refine Gc6 ?_
   refine JC.slNil Core ?_
   refine JC.slNil Entry ?_
   refine JC.slNil (List UInt8) ?_
   refine JC.slNil Done ?_
   refine Aa ?_
   refine rn1 ?_
   refine Bk (caps := []) (vs := [vi 5]) rfl Try.call95 rfl (fun w hs => Iy hs) ?_; intro _
   refine rn3 ?_
   refine s_B (cs := [.slice none 0 0, .slice none 0 0, .slice none 0 0]) Try.sizeOf46 ?_
   refine Ga2 ?_
   have er : Ao x s = (zChip, [], 5) := by unfold Ao Bz; rw [if_pos (by omega), if_pos (by omega)]
   rw [er]
   exact Cu (.slice none 0 0, .slice none 0 0, .slice none 0 0, .slice none 0 0) Try.isAgg46 Try.sizeOf46
  ·
   refine Aa ?_
   refine rn2 ?_
   refine ob (Ae rfl rfl (Al (by omega))) ?_
   refine rn4 ?_
   refine gy ?_
   refine ob (Ae rfl rfl (D7 (by omega))) ?_
   refine Gc1 ?_
   refine JC.slNil Core ?_
   refine JC.slNil Entry ?_
   refine JC.slNil (List UInt8) ?_
   refine JC.slNil Done ?_
   refine Aa ?_
   refine rn1 ?_
   refine Bk (caps := []) (vs := [vi 5]) rfl Try.call95 rfl (fun w hs => Iy hs) ?_; intro _
   refine rn3 ?_
   refine s_B (cs := [.slice none 0 0, .slice none 0 0, .slice none 0 0]) Try.sizeOf46 ?_
   refine Ga2 ?_
   have er : Ao x s = (zChip, [], 5) := by unfold Ao Bz; rw [if_pos (by omega), if_pos (by omega)]
   rw [er]
   exact Cu (.slice none 0 0, .slice none 0 0, .slice none 0 0, .slice none 0 0) Try.isAgg46 Try.sizeOf46
  ·
   refine Aa ?_
   refine rn2 ?_
   refine ob (Ae rfl rfl (Al (by omega))) ?_
   refine rn4 ?_
   refine gy ?_
   refine ob (Ae rfl rfl (Bc (by omega))) ?_
   refine Gc1 ?_
   refine Ma (x := x) (v := cv) s.node mm (by omega) (by omega) (fun hwt u => ?_)
   have hkb : KB (A2 x s.node) := h.kb (p := s.node.toNat) (by omega)
   have hlb := h.lbs (p := s.node) (by omega)
   have hk4 := hkb.n
   refine cq_ (blk b2 46 [cv, hv, fv] :: blk b3 98 s.cells :: blk b4 46 [.slice none 0 0, .slice none 0 0, .slice none 0 0] :: L) ?_
   refine jd_ (fun ρ S => blk b2 46 [cv, hv, fv] :: blk b3 98 s.cells :: blk b4 46 [.slice none 0 0, .slice none 0 0, .slice none 0 0] :: ((bif S 17 then [blk (Gh.dec (γ := Nat) (ρ 17)) 69 (bif S 18 then [(Gh.dec (γ := Value × Value × Value) (ρ 11)).1, vi (Ai (A2 x s.node) s.node (x.cores.length : Int) s.op).1.wait.kind, vi (Ai (A2 x s.node) s.node (x.cores.length : Int) s.op).1.wait.line, vi (Ai (A2 x s.node) s.node (x.cores.length : Int) s.op).1.wait.value] else [.slice none 0 0, vi 0, vi 0, vi 0])] else []) ++ (L))) ?_
   refine dn11 ?_
   refine Bp (γ := Value × Value × Value) (val := fun v => .tuple #[.agg (Core.cells v.1 (Ai (A2 x s.node) s.node (x.cores.length : Int) s.op).1).toArray, v.2.1, v.2.2, vi (Ai (A2 x s.node) s.node (x.cores.length : Int) s.op).2.2.2]) (F := fun v => [sl v.1 (Ai (A2 x s.node) s.node (x.cores.length : Int) s.op).1.lines, sl v.2.1 (Ai (A2 x s.node) s.node (x.cores.length : Int) s.op).2.1, sl v.2.2 (Ai (A2 x s.node) s.node (x.cores.length : Int) s.op).2.2.1]) Try.call40 (fun _ => rfl) (fun ρ L R w hd hs => Uf (c := (A2 x s.node)) (id := s.node) (home := (x.cores.length : Int)) (q := s.op) (u := u) hs (hd.base mm) hkb hsn hn64 hop) (fun ρ g S hS hA => by have u17 : upS S 11 17 = S 17 := rfl; have u18 : upS S 11 18 = S 18 := rfl; have r17 : Rho.set ρ 11 g 17 = ρ 17 := rfl; have h18 : S 18 = false := hA 18 ⟨0, rfl⟩; simp only [u17, u18, r17, h18, cond_false]) ?_
   refine e_p (v := fun ρ => .tuple #[.agg (Core.cells (Gh.dec (γ := Value × Value × Value) (ρ 11)).1 (Ai (A2 x s.node) s.node (x.cores.length : Int) s.op).1).toArray, (Gh.dec (γ := Value × Value × Value) (ρ 11)).2.1, (Gh.dec (γ := Value × Value × Value) (ρ 11)).2.2, vi (Ai (A2 x s.node) s.node (x.cores.length : Int) s.op).2.2.2]) (fun _ _ => Dh) (Ind.gh (h := fun g => (.tuple #[.agg (Core.cells (Gh.dec (γ := Value × Value × Value) g).1 (Ai (A2 x s.node) s.node (x.cores.length : Int) s.op).1).toArray, (Gh.dec (γ := Value × Value × Value) g).2.1, (Gh.dec (γ := Value × Value × Value) g).2.2, vi (Ai (A2 x s.node) s.node (x.cores.length : Int) s.op).2.2.2] : Value)) 11 0 rfl) (fun _ _ _ _ _ => rfl) ?_
   refine e_p (v := fun ρ => .agg (Core.cells (Gh.dec (γ := Value × Value × Value) (ρ 11)).1 (Ai (A2 x s.node) s.node (x.cores.length : Int) s.op).1).toArray) (fun _ _ => q_x) (Ind.gh (h := fun g => (.agg (Core.cells (Gh.dec (γ := Value × Value × Value) g).1 (Ai (A2 x s.node) s.node (x.cores.length : Int) s.op).1).toArray : Value)) 11 1 rfl) (fun _ _ _ _ _ => rfl) ?_
   refine e_p (v := fun ρ => (Gh.dec (γ := Value × Value × Value) (ρ 11)).2.1) (fun _ _ => q_x) (Ind.gh (h := fun g => ((Gh.dec (γ := Value × Value × Value) g).2.1 : Value)) 11 1 rfl) (fun _ _ _ _ _ => rfl) ?_
   refine e_p (v := fun ρ => (Gh.dec (γ := Value × Value × Value) (ρ 11)).2.2) (fun _ _ => q_x) (Ind.gh (h := fun g => ((Gh.dec (γ := Value × Value × Value) g).2.2 : Value)) 11 1 rfl) (fun _ _ _ _ _ => rfl) ?_
   refine Yc (v := vi (Ai (A2 x s.node) s.node (x.cores.length : Int) s.op).2.2.2) (fun _ _ => q_x) (fun _ _ _ _ _ => rfl) ?_
   refine Kt (cs := [.slice none 0 0, vi 0, vi 0, vi 0]) Try.zeroValue69 rfl (fun ρ b S hS hA => ?_) ?_
   ·
    have ui : upS S 17 17 = true := rfl; have u18 : upS S 17 18 = S 18 := rfl; have r11 : Rho.set ρ 17 (Gh.enc b) 11 = ρ 11 := rfl; have h18 : S 18 = false := hA 18 ⟨0, rfl⟩; have rs : (Gh.dec (γ := Nat) (Rho.set ρ 17 (Gh.enc b) 17)) = b := rfl
    simp only [ui, hS, u18, r11, h18, rs, cond_true, cond_false, List.nil_append]
    exact Ins.perm (by repeat (first | exact .hd | exact .hc | refine .tl ?_ | refine .ap ?_))
   refine es_ 69 0 [17] [] (fun ρ => (Gh.dec (γ := Nat) (ρ 17))) (fun ρ => [.slice none 0 0, vi 0, vi 0, vi 0]) (fun ρ => [(Gh.dec (γ := Value × Value × Value) (ρ 11)).1, vi (Ai (A2 x s.node) s.node (x.cores.length : Int) s.op).1.wait.kind, vi (Ai (A2 x s.node) s.node (x.cores.length : Int) s.op).1.wait.line, vi (Ai (A2 x s.node) s.node (x.cores.length : Int) s.op).1.wait.value]) Try.sizeOf69 (h1 := (fun ρ R w L' hd hs => Be (isSlice.one (hs.fact (hd.dep (it := ⟨11, _, _, _, _⟩) (by repeat (first | exact List.Mem.head _ | refine List.Mem.tail _ ?_)) ⟨9, rfl⟩ (List.Mem.head _)))) (by repeat (first | exact Di | refine Be rfl ?_)))) ?_
   refine e_p (v := fun ρ => (Gh.dec (γ := Value × Value × Value) (ρ 11)).2.1) (fun _ _ => Eb) (Ind.gh (h := fun g => ((Gh.dec (γ := Value × Value × Value) g).2.1 : Value)) 11 0 rfl) (fun _ _ _ _ _ => rfl) ?_
   refine e_p (v := fun ρ => (Gh.dec (γ := Value × Value × Value) (ρ 11)).2.2) (fun _ _ => Eb) (Ind.gh (h := fun g => ((Gh.dec (γ := Value × Value × Value) g).2.2 : Value)) 11 0 rfl) (fun _ _ _ _ _ => rfl) ?_
   refine Yc (v := vi (Ai (A2 x s.node) s.node (x.cores.length : Int) s.op).2.2.2) (fun _ _ => Eb) (fun _ _ _ _ _ => rfl) ?_
   refine dnl ?_; intro ρ
   refine xq_ (blk b2 46 [cv, hv, fv] :: blk b3 98 s.cells :: blk b4 46 [.slice none 0 0, .slice none 0 0, .slice none 0 0] :: (blk (Gh.dec (γ := Nat) (ρ 17)) 69 [(Gh.dec (γ := Value × Value × Value) (ρ 11)).1, vi (Ai (A2 x s.node) s.node (x.cores.length : Int) s.op).1.wait.kind, vi (Ai (A2 x s.node) s.node (x.cores.length : Int) s.op).1.wait.line, vi (Ai (A2 x s.node) s.node (x.cores.length : Int) s.op).1.wait.value] :: L)) ?_
   generalize (Gh.dec (γ := Value × Value × Value) (ρ 11)) = v65
   generalize (Gh.dec (γ := Nat) (ρ 17)) = b9
   refine Gl ?_
   refine kp [2, 3, 4, 5, 6, 7, 8, 9, 10, 11, 12, 31, 70, 71] ?_
   refine Aa ?_
   refine Ga2 ?_
   refine cdx (p := ?p1) (hd := ?d1) ?e1 ?_ ?_; case e1 => exact rfl
   ·
    intro ht71
    refine Gl ?_
    refine JC.slNil Core ?_
    refine JC.slNil Entry ?_
    refine JC.slNil (List UInt8) ?_
    refine JC.slNil Done ?_
    refine Aa ?_
    refine rn2 ?_
    refine Bk (caps := []) (vs := [vi (Ai (A2 x s.node) s.node (x.cores.length : Int) s.op).2.2.2]) rfl Try.call95 rfl (fun w hs => Iy hs) ?_; intro _
    refine rn3 ?_
    refine s_B (cs := [.slice none 0 0, .slice none 0 0, .slice none 0 0]) Try.sizeOf46 ?_
    refine Ga2 ?_
    have er : Ao x s = (zChip, [], (Ai (A2 x s.node) s.node (x.cores.length : Int) s.op).2.2.2) := by unfold Ao Bz; rw [if_pos (by omega), if_neg (by omega), if_pos ht71]
    rw [er]
    exact Cu (.slice none 0 0, .slice none 0 0, .slice none 0 0, .slice none 0 0) Try.isAgg46 Try.sizeOf46
   ·
    intro ht71
    refine Gm ?_
    refine rn4 ?_
    refine Ar Try.call96 rfl (fun w hs => J6 (x := x) (i := s.node) (k := (Ai (A2 x s.node) s.node (x.cores.length : Int) s.op).1) (u := v65.1) hs mm honeh honef mm (Rp hop) (by omega)) ?_; intro v82
    refine J.know (p := v82.oneCell' = true) (fun w hs => isSlice.one (hs.fact (List.Mem.head _))) (fun honev82 => ?_)
    refine s_B (cs := [v82, hv, fv]) Try.sizeOf46 ?_
    refine Gm ?_
    refine rn3 ?_
    refine Ar Try.call97 rfl (fun w hs => Nb (fs := x.frames) (ms := (Ai (A2 x s.node) s.node (x.cores.length : Int) s.op).2.1) hs mm mm (Vk (by omega) (by omega) hk4 hlb)) ?_; intro v86
    refine J.know (p := v86.oneCell' = true) (fun w hs => isSlice.one (hs.fact (List.Mem.head _))) (fun honev86 => ?_)
    refine rn1 ?_
    refine sc ?_
    refine Gm ?_
    refine rn2 ?_
    refine s_B (cs := [v82, hv, v86]) Try.sizeOf46 ?_
    refine Ga2 ?_
    have er : Ao x s = (C1 x s.node (Ai (A2 x s.node) s.node (x.cores.length : Int) s.op).1 (Ai (A2 x s.node) s.node (x.cores.length : Int) s.op).2.1, (Ai (A2 x s.node) s.node (x.cores.length : Int) s.op).2.2.1, 0) := by unfold Ao Bz; rw [if_pos (by omega), if_neg (by omega), if_neg ht71]
    rw [er]
    exact Cu (v82, hv, v86, v65.2.2) Try.isAgg46 Try.sizeOf46
theorem Ud {L : List Chunk} {R : List Fact} {w : World} {n nl : Nat} {M : List Int} {cv hv fv : Value} {x : Chip} {s : Step} (hs : St (L) R w) (hc : sl cv x.cores ∈ R) (hh : sl hv x.home ∈ R) (hf : sl fv x.frames ∈ R) (h : Inv n nl x M) (hsw : s.wf) (hk : s.kind ≠ 1 ∧ s.kind ≠ 2 ∧ s.kind ≠ 3 ∧ s.kind ≠ 4 ∧ s.kind ≠ 5 ∧ s.kind ≠ 6) : Calls Try.prog 64 [.agg #[cv, hv, fv], .agg s.cells.toArray].toArray w (Cg (fun v : Value × Value × Value × Value => .tuple #[.agg #[v.1, v.2.1, v.2.2.1], v.2.2.2, vi (Ao x s).2.2]) (fun v => L) (fun v => sl v.1 (Ao x s).1.cores :: sl v.2.1 (Ao x s).1.home :: sl v.2.2.1 (Ao x s).1.frames :: sl v.2.2.2 (Ao x s).2.1 :: R)) := by
 have hn := h.n1
 have hnl := h.l1
 have hnc := h.nc
 have hnh := h.nh
 have hfr := h.fr
 have honec : cv.oneCell' = true := isSlice.one (hs.fact hc)
 have honeh : hv.oneCell' = true := isSlice.one (hs.fact hh)
 have honef : fv.oneCell' = true := isSlice.one (hs.fact hf)
 have hsw0 := hsw
 unfold Step.wf An at hsw0
 have hop : s.op.wf := by unfold Op.wf An; omega
 have hsn : An s.node := by unfold An; omega
 have hsN : An s.n := by unfold An; omega
 have hsb : An s.bit := by unfold An; omega
 have hn64 : An (x.cores.length : Int) := by unfold An; omega
 have hcw : (Ax x).wf := by unfold Ax Bz Config.wf An; simp only; omega
 refine Ah Try.func64 rfl Try.ntmps64 rfl hs ?_
 clear hs
 refine Gm ?_
 refine bx ?_; intro b2
 refine bx ?_; intro b3
 refine al_ (cs := [.slice none 0 0, .slice none 0 0, .slice none 0 0]) Try.zeroValue46 ?_; intro b4
 refine Gb2 ?_
 refine Gb1 ?_
 refine Gb4 ?_
 refine Gb2 ?_
 refine ob (Ae rfl rfl (Ak (by omega))) ?_
 refine Gd1 ?_
 refine ob (Ae rfl rfl (Ak (by omega))) ?_
 refine Gd1 ?_
 refine ob (Ae rfl rfl (Ak (by omega))) ?_
 refine Gd1 ?_
 refine ob (Ae rfl rfl (Ak (by omega))) ?_
 refine Gd1 ?_
 refine ob (Ae rfl rfl (Ak (by omega))) ?_
 refine Gd1 ?_
 refine ob (Ae rfl rfl (Ak (by omega))) ?_
 refine Gc1 ?_
 refine JC.slNil Core ?_
 refine JC.slNil Entry ?_
 refine JC.slNil (List UInt8) ?_
 refine JC.slNil Done ?_
 refine Aa ?_
 refine rn1 ?_
 refine Bk (caps := []) (vs := [vi 1]) rfl Try.call95 rfl (fun w hs => Iy hs) ?_; intro _
 refine rn3 ?_
 refine s_B (cs := [.slice none 0 0, .slice none 0 0, .slice none 0 0]) Try.sizeOf46 ?_
 refine Ga2 ?_
 have er : Ao x s = (zChip, [], 1) := by unfold Ao; rw [if_neg (by omega), if_neg (by omega), if_neg (by omega), if_neg (by omega), if_neg (by omega), if_neg (by omega)]
 rw [er]
 exact Cu (.slice none 0 0, .slice none 0 0, .slice none 0 0, .slice none 0 0) Try.isAgg46 Try.sizeOf46
end Go.Proofs.Ytofgpimoekhfaaa

/- This file proves what a step does to a chip, by the document's answer: some kinds of steps. No conditions. -/
set_option linter.unusedVariables false
set_option linter.unusedSimpArgs false
set_option maxHeartbeats 1000000
set_option maxRecDepth 8000
namespace Go.Proofs.Ytofgpimoekhfaaa
open Go
theorem T7 {L : List Chunk} {R : List Fact} {w : World} {n nl : Nat} {M : List Int} {cv hv fv : Value} {x : Chip} {s : Step} (hs : St (L) R w) (hc : sl cv x.cores ∈ R) (hh : sl hv x.home ∈ R) (hf : sl fv x.frames ∈ R) (h : Inv n nl x M) (hsw : s.wf) (hk : s.kind = 6) : Calls Try.prog 64 [.agg #[cv, hv, fv], .agg s.cells.toArray].toArray w (Cg (fun v : Value × Value × Value × Value => .tuple #[.agg #[v.1, v.2.1, v.2.2.1], v.2.2.2, vi (Ao x s).2.2]) (fun v => L) (fun v => sl v.1 (Ao x s).1.cores :: sl v.2.1 (Ao x s).1.home :: sl v.2.2.1 (Ao x s).1.frames :: sl v.2.2.2 (Ao x s).2.1 :: R)) := by
  have hn := h.n1
  have hnl := h.l1
  have hnc := h.nc
  have hnh := h.nh
  have hfr := h.fr
  have honec : cv.oneCell' = true := isSlice.one (hs.fact hc)
  have honeh : hv.oneCell' = true := isSlice.one (hs.fact hh)
  have honef : fv.oneCell' = true := isSlice.one (hs.fact hf)
  have hsw0 := hsw
  unfold Step.wf An at hsw0
  have hop : s.op.wf := by unfold Op.wf An; omega
  have hsn : An s.node := by unfold An; omega
  have hsN : An s.n := by unfold An; omega
  have hsb : An s.bit := by unfold An; omega
  have hn64 : An (x.cores.length : Int) := by unfold An; omega
  have hcw : (Ax x).wf := by unfold Ax Bz Config.wf An; simp only; omega
  refine Ah Try.func64 rfl Try.ntmps64 rfl hs ?_
  clear hs
  refine Gm ?_
  refine bx ?_; intro b2
  refine bx ?_; intro b3
  refine al_ (cs := [.slice none 0 0, .slice none 0 0, .slice none 0 0]) Try.zeroValue46 ?_; intro b4
  refine Gb2 ?_
  refine Gb1 ?_
  refine Gb4 ?_
  refine Gb2 ?_
  refine ob (Ae rfl rfl (Ak (by omega))) ?_
  refine Gd1 ?_
  refine ob (Ae rfl rfl (Av (by omega))) ?_
  refine Gc1 ?_
  rcases (show (s.node < 0) ∨ (0 ≤ s.node ∧ (x.cores.length : Int) < s.node) ∨ (0 ≤ s.node ∧ s.node < (x.cores.length : Int)) ∨ (s.node = (x.cores.length : Int)) from by omega) with hc | hc | hc | hc
  ·
   refine Aa ?_
   refine rn2 ?_
   refine ob (Ae rfl rfl (Co (by omega))) ?_
   refine Gc6 ?_
   refine JC.slNil Core ?_
   refine JC.slNil Entry ?_
   refine JC.slNil (List UInt8) ?_
   refine JC.slNil Done ?_
   refine Aa ?_
   refine rn1 ?_
   refine Bk (caps := []) (vs := [vi 5]) rfl Try.call95 rfl (fun w hs => Iy hs) ?_; intro _
   refine rn3 ?_
   refine s_B (cs := [.slice none 0 0, .slice none 0 0, .slice none 0 0]) Try.sizeOf46 ?_
   refine Ga2 ?_
   have er : Ao x s = (zChip, [], 5) := by unfold Ao Bz; rw [if_neg (by omega), if_neg (by omega), if_neg (by omega), if_neg (by omega), if_neg (by omega), if_pos (by omega)]; rw [if_pos (by omega)]
   rw [er]
   exact Cu (.slice none 0 0, .slice none 0 0, .slice none 0 0, .slice none 0 0) Try.isAgg46 Try.sizeOf46
  ·
   refine Aa ?_
   refine rn2 ?_
   refine ob (Ae rfl rfl (Al (by omega))) ?_
   refine rn4 ?_
   refine gy ?_
   refine ob (Ae rfl rfl (C5 (by omega))) ?_
   refine Gc1 ?_
   refine JC.slNil Core ?_
   refine JC.slNil Entry ?_
   refine JC.slNil (List UInt8) ?_
   refine JC.slNil Done ?_
   refine Aa ?_
   refine rn1 ?_
   refine Bk (caps := []) (vs := [vi 5]) rfl Try.call95 rfl (fun w hs => Iy hs) ?_; intro _
   refine rn3 ?_
   refine s_B (cs := [.slice none 0 0, .slice none 0 0, .slice none 0 0]) Try.sizeOf46 ?_
   refine Ga2 ?_
   have er : Ao x s = (zChip, [], 5) := by unfold Ao Bz; rw [if_neg (by omega), if_neg (by omega), if_neg (by omega), if_neg (by omega), if_neg (by omega), if_pos (by omega)]; rw [if_pos (by omega)]
   rw [er]
   exact Cu (.slice none 0 0, .slice none 0 0, .slice none 0 0, .slice none 0 0) Try.isAgg46 Try.sizeOf46
  ·
   refine Aa ?_
   refine rn2 ?_
   refine ob (Ae rfl rfl (Al (by omega))) ?_
   refine rn4 ?_
   refine gy ?_
   refine ob (Ae rfl rfl (Bu (by omega))) ?_
   refine Gd1 ?_
   refine rn3 ?_
   refine ob (Ae rfl rfl (Co (by omega))) ?_
   refine Glc ?_
   refine Ma (x := x) (v := cv) s.node mm (by omega) (by omega) (fun hwt u => ?_)
   have hkb : KB (A2 x s.node) := h.kb (p := s.node.toNat) (by omega)
   have hlb := h.lbs (p := s.node) (by omega)
   have hk4 := hkb.n
   refine cq_ (blk b2 46 [cv, hv, fv] :: blk b3 98 s.cells :: blk b4 46 [.slice none 0 0, .slice none 0 0, .slice none 0 0] :: L) ?_
   refine jd_ (fun ρ S => blk b2 46 (bif S 14 then [cv, hv, (Gh.dec (γ := Value) (ρ 12))] else [cv, hv, fv]) :: blk b3 98 s.cells :: blk b4 46 [.slice none 0 0, .slice none 0 0, .slice none 0 0] :: L) ?_
   refine dn1 ?_
   refine Vz (v := fv) (fun ρ S hS hB hA => by have h14 : S 14 = false := hA 14 ⟨0, rfl⟩; simp only [h14, cond_false]; exact C6 (hc := A9 pkk (by repeat (first | exact rfl | refine Jj rfl ?_))) Try.isAgg22) (fun _ _ _ _ _ => rfl) ?_
   refine dn1 ?_
   refine Vz (v := cv) (fun ρ S hS hB hA => by have h14 : S 14 = false := hA 14 ⟨0, rfl⟩; simp only [h14, cond_false]; exact C6 (hc := A9 pkk (by repeat (first | exact rfl | refine Jj rfl ?_))) Try.isAgg43) (fun _ _ _ _ _ => rfl) ?_
   refine dn2 ?_
   first | refine epc (fun _ _ => D4 K8) ?_ | refine epc (fun _ _ => Ru K8) ?_ | refine epp (fun _ _ => D4 K8) ?_ | refine epp (fun _ _ => Ru K8) ?_
   first | refine epc (fun _ _ => Vu Try.isAgg69 Try.sizeOf69) ?_ | refine epc (fun _ _ => O2 4 Try.isAgg69 Try.sizeOf69) ?_ | refine epc (fun _ _ => q_lNc 4 Try.isAgg69 Try.sizeOf69) ?_ | refine epc (fun _ _ => q_lNf 4 Try.isAgg69 Try.sizeOf69) ?_ | refine epp (fun _ _ => Vu Try.isAgg69 Try.sizeOf69) ?_ | refine epp (fun _ _ => O2 4 Try.isAgg69 Try.sizeOf69) ?_ | refine epp (fun _ _ => q_lNc 4 Try.isAgg69 Try.sizeOf69) ?_ | refine epp (fun _ _ => q_lNf 4 Try.isAgg69 Try.sizeOf69) ?_
   refine dn3 ?_
   refine Bp (γ := Value) (val := fun v => v) (F := fun v => [sl v (Ez (A2 x s.node) s.node (x.cores.length : Int))]) Try.call45 (fun _ => rfl) (fun ρ L R w hd hs => Nk (c := (A2 x s.node)) (id := s.node) (home := (x.cores.length : Int)) (u := u) hs (hd.base mm) hsn hn64) (fun _ _ _ _ _ => rfl) ?_
   refine Bp (γ := Value) (val := fun v => v) (F := fun v => [sl v (way x.frames (Ez (A2 x s.node) s.node (x.cores.length : Int)))]) Try.call97 (fun _ => rfl) (fun ρ L R w hd hs => Nb (fs := x.frames) (ms := (Ez (A2 x s.node) s.node (x.cores.length : Int))) hs (hd.base mm) (hd.dep (it := ⟨11, _, _, _, _⟩) (by repeat (first | exact List.Mem.head _ | refine List.Mem.tail _ ?_)) ⟨9, rfl⟩ (List.Mem.head _)) (Pp (by omega) (by omega) _ 0 (by omega) (by omega) (U1 (d := zLine) hlb))) (fun ρ g S hS hA => by have u14 : upS S 12 14 = S 14 := rfl; have h14 : S 14 = false := hA 14 ⟨0, rfl⟩; simp only [u14, h14, cond_false]) ?_
   refine dn1 ?_
   refine Mi (T0 := 46) (f := 2) (vs := fun ρ => [cv, hv, fv]) (v := fun ρ => (Gh.dec (γ := Value) (ρ 12))) (fun ρ => b2) Try.sizeOf22 (fun _ => rfl) (fun _ => rfl) (fun ρ S R w L9 hB hd hs => isSlice.one (hs.fact (hd.dep (it := ⟨12, _, _, _, _⟩) (by repeat (first | exact List.Mem.head _ | refine List.Mem.tail _ ?_)) ⟨9, rfl⟩ (List.Mem.head _)))) (fun _ => rfl) (fun ρ g S hS hB hA => ?_) ?_
   ·
    have ui : upS S 14 14 = true := rfl; have r12 : Rho.set ρ 14 g 12 = ρ 12 := rfl
    simp only [ui, hS, r12, cond_true, cond_false]
    exact Pos.ex (by repeat (first | exact .hd | exact .hc | apply Pos.tl | apply Pos.ap))
   refine dnl ?_; intro ρ
   refine xq_ (blk b2 46 [cv, hv, (Gh.dec (γ := Value) (ρ 12))] :: blk b3 98 s.cells :: blk b4 46 [.slice none 0 0, .slice none 0 0, .slice none 0 0] :: L) ?_
   generalize (Gh.dec (γ := Value) (ρ 11)) = v121
   generalize (Gh.dec (γ := Value) (ρ 12)) = v122
   refine Gl ?_
   refine JC.slNil Done ?_
   refine JC.know (p := v122.oneCell' = true) (fun w hs => isSlice.one (hs.fact (mm (f := sl v122 (way x.frames (Ez (A2 x s.node) s.node (x.cores.length : Int))))))) (fun honev122 => ?_)
   refine kp [2, 3, 4, 5, 6, 7, 8, 31, 124] ?_
   refine Aa ?_
   refine rn1 ?_
   refine s_B (cs := [cv, hv, v122]) Try.sizeOf46 ?_
   refine Ga2 ?_
   have er : Ao x s = (⟨x.cores, x.home, way x.frames (Ez (A2 x s.node) s.node (x.cores.length : Int))⟩, [], 0) := by unfold Ao Bz; rw [if_neg (by omega), if_neg (by omega), if_neg (by omega), if_neg (by omega), if_neg (by omega), if_pos (by omega)]; rw [if_neg (by omega), if_neg (by omega)]
   rw [er]
   exact Cu (cv, hv, v122, .slice none 0 0) Try.isAgg46 Try.sizeOf46
  ·
   refine Aa ?_
   refine rn2 ?_
   refine ob (Ae rfl rfl (Al (by omega))) ?_
   refine rn4 ?_
   refine gy ?_
   refine ob (Ae rfl rfl (Bu (by omega))) ?_
   refine Gd1 ?_
   refine rn3 ?_
   refine ob (Ae rfl rfl (Al (by omega))) ?_
   refine Glc ?_
   have hnode : s.node = (x.cores.length : Int) := by omega
   refine Aa ?_
   refine Ga4 ?_
   refine Bg (γ := Nat × Value) (fun g => g.1 ≤ x.home.length) (fun g => blk b2 46 [cv, hv, g.2] :: blk b3 98 s.cells :: blk b4 46 [.slice none 0 0, .slice none 0 0, .slice none 0 0] :: L) (fun g => sl g.2 (way x.frames (Dv (x.cores.length : Int) 0 (x.home.take g.1))) :: R) (fun g => [(2, bp b2 0), (3, bp b3 0), (4, bp b4 0), (8, vi (x.cores.length : Int)), (126, hv), (127, vi (x.home.length : Int)), (128, vi (g.1 : Int))]) (fun g => x.home.length - g.1) (0, fv) (Nat.zero_le _) alT (fun w hs => Aj (Vr hs hf)) ?_
   rintro ⟨k, vf⟩ hk
   try simp only at hk ⊢
   refine Gl ?_
   refine kp [2, 3, 4, 5, 6, 7, 8, 31, 126, 127, 128, 129] ?_
   refine Aa ?_
   refine Ga1 ?_
   refine cdx (p := ?p1) (hd := ?d1) ?e1 ?_ ?_; case e1 => exact rfl
   ·
    intro ht129
    refine Gl ?_
    refine Uo (l := x.home) (v := hv) k mm (by omega) (fun _ ue => ?_)
    refine JC.know (p := ue.oneCell' = true) (fun w hs => isSlice.one (hs.fact (.tail _ (.head _)))) (fun honeu => ?_)
    refine Aa ?_
    refine rn3 ?_
    refine al_ (cs := zEC) Try.zeroValue58 ?_; intro b14
    refine rn1 ?_
    refine s_B (cs := Entry.cells ue (x.home.getD k A8)) Try.sizeOf58 ?_
    refine Gl ?_
    refine cq_ (blk b2 46 [cv, hv, vf] :: blk b14 58 (Entry.cells ue (x.home.getD k A8)) :: blk b3 98 s.cells :: blk b4 46 [.slice none 0 0, .slice none 0 0, .slice none 0 0] :: L) ?_
    refine jd_ (fun ρ S => blk b2 46 (bif S 8 then [cv, hv, (Gh.dec (γ := Value) (ρ 6))] else [cv, hv, vf]) :: blk b14 58 (Entry.cells ue (x.home.getD k A8)) :: blk b3 98 s.cells :: blk b4 46 [.slice none 0 0, .slice none 0 0, .slice none 0 0] :: L) ?_
    refine dn1 ?_
    refine Vz (v := vf) (fun ρ S hS hB hA => by have h8 : S 8 = false := hA 8 ⟨0, rfl⟩; simp only [h8, cond_false]; exact C6 (hc := A9 pkk (by repeat (first | exact rfl | refine Jj rfl ?_))) Try.isAgg22) (fun _ _ _ _ _ => rfl) ?_
    refine dn3 ?_
    refine Bp (γ := Value) (val := fun v => v) (F := fun v => [sl v (says (x.home.getD k A8) (k : Int) (x.cores.length : Int))]) Try.call34 (fun _ => rfl) (fun ρ L R w hd hs => Gt (e := (x.home.getD k A8)) (line := (k : Int)) (id := (x.cores.length : Int)) (u := ue) hs (h.ebs k (by omega)).1 honeu (by unfold An; omega) hn64) (fun _ _ _ _ _ => rfl) ?_
    refine Bp (γ := Value) (val := fun v => v) (F := fun v => [sl v (way (way x.frames (Dv (x.cores.length : Int) 0 (x.home.take k))) (says (x.home.getD k A8) (k : Int) (x.cores.length : Int)))]) Try.call97 (fun _ => rfl) (fun ρ L R w hd hs => Nb (fs := way x.frames (Dv (x.cores.length : Int) 0 (x.home.take k))) (ms := says (x.home.getD k A8) (k : Int) (x.cores.length : Int)) hs (hd.base mm) (hd.dep (it := ⟨5, _, _, _, _⟩) (by repeat (first | exact List.Mem.head _ | refine List.Mem.tail _ ?_)) ⟨9, rfl⟩ (List.Mem.head _)) (by rw [hnc]; exact h.says_in k (by omega))) (fun ρ g S hS hA => by have u8 : upS S 6 8 = S 8 := rfl; have h8 : S 8 = false := hA 8 ⟨0, rfl⟩; simp only [u8, h8, cond_false]) ?_
    refine dn1 ?_
    refine Mi (T0 := 46) (f := 2) (vs := fun ρ => [cv, hv, vf]) (v := fun ρ => (Gh.dec (γ := Value) (ρ 6))) (fun ρ => b2) Try.sizeOf22 (fun _ => rfl) (fun _ => rfl) (fun ρ S R w L9 hB hd hs => isSlice.one (hs.fact (hd.dep (it := ⟨6, _, _, _, _⟩) (by repeat (first | exact List.Mem.head _ | refine List.Mem.tail _ ?_)) ⟨9, rfl⟩ (List.Mem.head _)))) (fun _ => rfl) (fun ρ g S hS hB hA => ?_) ?_
    ·
     have ui : upS S 8 8 = true := rfl; have r6 : Rho.set ρ 8 g 6 = ρ 6 := rfl
     simp only [ui, hS, r6, cond_true, cond_false]
     exact Pos.ex (by repeat (first | exact .hd | exact .hc | apply Pos.tl | apply Pos.ap))
    refine dnl ?_; intro ρ
    refine xq_ (blk b2 46 [cv, hv, (Gh.dec (γ := Value) (ρ 6))] :: blk b14 58 (Entry.cells ue (x.home.getD k A8)) :: blk b3 98 s.cells :: blk b4 46 [.slice none 0 0, .slice none 0 0, .slice none 0 0] :: L) ?_
    generalize (Gh.dec (γ := Value) (ρ 5)) = v138
    generalize (Gh.dec (γ := Value) (ρ 6)) = v139
    refine Gm ?_
    refine Ga2 ?_
    refine A1 (k + 1, v139) (by show k + 1 ≤ x.home.length; omega) (by show x.home.length - (k + 1) < x.home.length - k; omega) alT (fun w hs => ?_)
    try simp only
    rw [Hu A8 (by omega), H4, Iu, List.length_take, Nat.min_eq_left (by omega), Int.zero_add]; exact Aj hs
   ·
    intro ht129
    refine Gl ?_
    refine JC.slNil Done ?_
    refine JC.know (p := vf.oneCell' = true) (fun w hs => isSlice.one (hs.fact (mm (f := sl vf (way x.frames (Dv (x.cores.length : Int) 0 (x.home.take k))))))) (fun honevf => ?_)
    refine Aa ?_
    refine rn1 ?_
    refine s_B (cs := [cv, hv, vf]) Try.sizeOf46 ?_
    refine Ga2 ?_
    have er : Ao x s = (⟨x.cores, x.home, way x.frames (Dv (x.cores.length : Int) 0 (x.home.take k))⟩, [], 0) := by unfold Ao Bz; rw [if_neg (by omega), if_neg (by omega), if_neg (by omega), if_neg (by omega), if_neg (by omega), if_pos (by omega)]; rw [if_neg (by omega), if_pos (by omega), List.take_of_length_le (by omega), hnode]; rfl
    rw [er]
    exact Cu (cv, hv, vf, .slice none 0 0) Try.isAgg46 Try.sizeOf46
end Go.Proofs.Ytofgpimoekhfaaa

/- This file proves what a step does to a chip, by the document's answer: some kinds of steps. No conditions. -/
set_option linter.unusedVariables false
set_option linter.unusedSimpArgs false
set_option maxHeartbeats 1000000
set_option maxRecDepth 8000
namespace Go.Proofs.Ytofgpimoekhfaaa
open Go
theorem T9 {L : List Chunk} {R : List Fact} {w : World} {n nl : Nat} {M : List Int} {cv hv fv : Value} {x : Chip} {s : Step} (hs : St (L) R w) (hc : sl cv x.cores ∈ R) (hh : sl hv x.home ∈ R) (hf : sl fv x.frames ∈ R) (h : Inv n nl x M) (hsw : s.wf) (hk : s.kind = 4) : Calls Try.prog 64 [.agg #[cv, hv, fv], .agg s.cells.toArray].toArray w (Cg (fun v : Value × Value × Value × Value => .tuple #[.agg #[v.1, v.2.1, v.2.2.1], v.2.2.2, vi (Ao x s).2.2]) (fun v => L) (fun v => sl v.1 (Ao x s).1.cores :: sl v.2.1 (Ao x s).1.home :: sl v.2.2.1 (Ao x s).1.frames :: sl v.2.2.2 (Ao x s).2.1 :: R)) := by
  have hn := h.n1
  have hnl := h.l1
  have hnc := h.nc
  have hnh := h.nh
  have hfr := h.fr
  have honec : cv.oneCell' = true := isSlice.one (hs.fact hc)
  have honeh : hv.oneCell' = true := isSlice.one (hs.fact hh)
  have honef : fv.oneCell' = true := isSlice.one (hs.fact hf)
  have hsw0 := hsw
  unfold Step.wf An at hsw0
  have hop : s.op.wf := by unfold Op.wf An; omega
  have hsn : An s.node := by unfold An; omega
  have hsN : An s.n := by unfold An; omega
  have hsb : An s.bit := by unfold An; omega
  have hn64 : An (x.cores.length : Int) := by unfold An; omega
  have hcw : (Ax x).wf := by unfold Ax Bz Config.wf An; simp only; omega
  refine Ah Try.func64 rfl Try.ntmps64 rfl hs ?_
  clear hs
  refine Gm ?_
  refine bx ?_; intro b2
  refine bx ?_; intro b3
  refine al_ (cs := [.slice none 0 0, .slice none 0 0, .slice none 0 0]) Try.zeroValue46 ?_; intro b4
  refine Gb2 ?_
  refine Gb1 ?_
  refine Gb4 ?_
  refine Gb2 ?_
  refine ob (Ae rfl rfl (Ak (by omega))) ?_
  refine Gd1 ?_
  refine ob (Ae rfl rfl (Ak (by omega))) ?_
  refine Gd1 ?_
  refine ob (Ae rfl rfl (Ak (by omega))) ?_
  refine Gd1 ?_
  refine ob (Ae rfl rfl (Ak (by omega))) ?_
  refine Gd1 ?_
  refine ob (Ae rfl rfl (Av (by omega))) ?_
  refine Gc1 ?_
  rcases (show (Cq x s.n) ∨ (¬ Cq x s.n) from by exact Classical.em _) with hc | hc
  ·
   have et : Cm x.frames s.n = ([], [], 5) := by unfold Cm; rw [if_pos (by unfold Cq at hc; exact hc)]
   refine Aa ?_
   refine rn4 ?_
   refine Ar (γ := Value × Value) (val := fun v => .tuple #[v.1, v.2, vi 5]) (Rf := fun v => sl v.1 ([] : Frames) :: sl v.2 ([] : List UInt8) :: R) Try.call23 rfl (fun w hs => by have h9 := Gr (l := x.frames) (n := s.n) hs mm hsN; rw [et] at h9; exact h9) ?_; intro ⟨va, vb⟩
   refine Ga7 ?_
   refine kp [2, 3, 4, 5, 6, 7, 8, 15, 16, 17, 157, 158] ?_
   refine Aa ?_
   refine rn1 ?_
   refine ob (Ae rfl rfl (Cn (by decide))) ?_
   refine Glc ?_
   refine JC.slNil Core ?_
   refine JC.slNil Entry ?_
   refine JC.slNil (List UInt8) ?_
   refine JC.slNil Done ?_
   refine Aa ?_
   refine rn2 ?_
   refine Bk (caps := []) (vs := [vi 5]) rfl Try.call95 rfl (fun w hs => Iy hs) ?_; intro _
   refine rn3 ?_
   refine s_B (cs := [.slice none 0 0, .slice none 0 0, .slice none 0 0]) Try.sizeOf46 ?_
   refine Ga2 ?_
   have er : Ao x s = (zChip, [], 5) := U8 (by omega) hc
   rw [er]
   exact Cu (.slice none 0 0, .slice none 0 0, .slice none 0 0, .slice none 0 0) Try.isAgg46 Try.sizeOf46
  ·
   have hnf := hc
   unfold Cq at hc
   have et : Cm x.frames s.n = ((x.frames.eraseIdx s.n.toNat), (Aw x.frames s.n), 0) := by unfold Cm; rw [if_neg hc]
   refine Aa ?_
   refine rn4 ?_
   refine Ar (γ := Value × Value) (val := fun v => .tuple #[v.1, v.2, vi 0]) (Rf := fun v => sl v.1 (x.frames.eraseIdx s.n.toNat) :: sl v.2 (Aw x.frames s.n) :: R) Try.call23 rfl (fun w hs => by have h9 := Gr (l := x.frames) (n := s.n) hs mm hsN; rw [et] at h9; exact h9) ?_; intro ⟨va, vb⟩
   refine Ga7 ?_
   refine kp [2, 3, 4, 5, 6, 7, 8, 15, 16, 17, 157, 158] ?_
   refine Aa ?_
   refine rn1 ?_
   refine ob (Ae rfl rfl (Cb (by decide))) ?_
   refine Gmc ?_
   refine Gb2 ?_
   refine ob (Ae rfl rfl (Av (by omega))) ?_
   refine Gd1 ?_
   refine rn3 ?_
   refine Ar Try.call21 rfl (fun w hs => Sc (l := x.frames) (b := (Aw x.frames s.n)) hs mm mm) ?_; intro v172
   refine J.know (p := v172.oneCell' = true) (fun w hs => isSlice.one (hs.fact (List.Mem.head _))) (fun honev172 => ?_)
   refine rn1 ?_
   refine sc ?_
   refine Gl ?_
   refine JC.slNil Done ?_
   refine Aa ?_
   refine rn1 ?_
   refine s_B (cs := [cv, hv, v172]) Try.sizeOf46 ?_
   refine Ga2 ?_
   have er : Ao x s = (⟨x.cores, x.home, Fo x.frames (Aw x.frames s.n)⟩, [], 0) := by unfold Ao; rw [if_neg (by omega), if_neg (by omega), if_neg (by omega), if_pos (by omega), if_neg hnf]
   rw [er]
   exact Cu (cv, hv, v172, .slice none 0 0) Try.isAgg46 Try.sizeOf46
theorem T8 {L : List Chunk} {R : List Fact} {w : World} {n nl : Nat} {M : List Int} {cv hv fv : Value} {x : Chip} {s : Step} (hs : St (L) R w) (hc : sl cv x.cores ∈ R) (hh : sl hv x.home ∈ R) (hf : sl fv x.frames ∈ R) (h : Inv n nl x M) (hsw : s.wf) (hk : s.kind = 5) : Calls Try.prog 64 [.agg #[cv, hv, fv], .agg s.cells.toArray].toArray w (Cg (fun v : Value × Value × Value × Value => .tuple #[.agg #[v.1, v.2.1, v.2.2.1], v.2.2.2, vi (Ao x s).2.2]) (fun v => L) (fun v => sl v.1 (Ao x s).1.cores :: sl v.2.1 (Ao x s).1.home :: sl v.2.2.1 (Ao x s).1.frames :: sl v.2.2.2 (Ao x s).2.1 :: R)) := by
  have hn := h.n1
  have hnl := h.l1
  have hnc := h.nc
  have hnh := h.nh
  have hfr := h.fr
  have honec : cv.oneCell' = true := isSlice.one (hs.fact hc)
  have honeh : hv.oneCell' = true := isSlice.one (hs.fact hh)
  have honef : fv.oneCell' = true := isSlice.one (hs.fact hf)
  have hsw0 := hsw
  unfold Step.wf An at hsw0
  have hop : s.op.wf := by unfold Op.wf An; omega
  have hsn : An s.node := by unfold An; omega
  have hsN : An s.n := by unfold An; omega
  have hsb : An s.bit := by unfold An; omega
  have hn64 : An (x.cores.length : Int) := by unfold An; omega
  have hcw : (Ax x).wf := by unfold Ax Bz Config.wf An; simp only; omega
  refine Ah Try.func64 rfl Try.ntmps64 rfl hs ?_
  clear hs
  refine Gm ?_
  refine bx ?_; intro b2
  refine bx ?_; intro b3
  refine al_ (cs := [.slice none 0 0, .slice none 0 0, .slice none 0 0]) Try.zeroValue46 ?_; intro b4
  refine Gb2 ?_
  refine Gb1 ?_
  refine Gb4 ?_
  refine Gb2 ?_
  refine ob (Ae rfl rfl (Ak (by omega))) ?_
  refine Gd1 ?_
  refine ob (Ae rfl rfl (Ak (by omega))) ?_
  refine Gd1 ?_
  refine ob (Ae rfl rfl (Ak (by omega))) ?_
  refine Gd1 ?_
  refine ob (Ae rfl rfl (Ak (by omega))) ?_
  refine Gd1 ?_
  refine ob (Ae rfl rfl (Ak (by omega))) ?_
  refine Gd1 ?_
  refine ob (Ae rfl rfl (Av (by omega))) ?_
  refine Gc1 ?_
  rcases (show (Cq x s.n) ∨ (¬ Cq x s.n) from by exact Classical.em _) with hc | hc
  ·
   have et : Cm x.frames s.n = ([], [], 5) := by unfold Cm; rw [if_pos (by unfold Cq at hc; exact hc)]
   refine Aa ?_
   refine rn4 ?_
   refine Ar (γ := Value × Value) (val := fun v => .tuple #[v.1, v.2, vi 5]) (Rf := fun v => sl v.1 ([] : Frames) :: sl v.2 ([] : List UInt8) :: R) Try.call23 rfl (fun w hs => by have h9 := Gr (l := x.frames) (n := s.n) hs mm hsN; rw [et] at h9; exact h9) ?_; intro ⟨va, vb⟩
   refine Ga7 ?_
   refine kp [2, 3, 4, 5, 6, 7, 8, 15, 16, 17, 157, 158] ?_
   refine Aa ?_
   refine rn1 ?_
   refine ob (Ae rfl rfl (Cn (by decide))) ?_
   refine Glc ?_
   refine JC.slNil Core ?_
   refine JC.slNil Entry ?_
   refine JC.slNil (List UInt8) ?_
   refine JC.slNil Done ?_
   refine Aa ?_
   refine rn2 ?_
   refine Bk (caps := []) (vs := [vi 5]) rfl Try.call95 rfl (fun w hs => Iy hs) ?_; intro _
   refine rn3 ?_
   refine s_B (cs := [.slice none 0 0, .slice none 0 0, .slice none 0 0]) Try.sizeOf46 ?_
   refine Ga2 ?_
   have er : Ao x s = (zChip, [], 5) := U8 (by omega) hc
   rw [er]
   exact Cu (.slice none 0 0, .slice none 0 0, .slice none 0 0, .slice none 0 0) Try.isAgg46 Try.sizeOf46
  ·
   have hnf := hc
   unfold Cq at hc
   have et : Cm x.frames s.n = ((x.frames.eraseIdx s.n.toNat), (Aw x.frames s.n), 0) := by unfold Cm; rw [if_neg hc]
   refine Aa ?_
   refine rn4 ?_
   refine Ar (γ := Value × Value) (val := fun v => .tuple #[v.1, v.2, vi 0]) (Rf := fun v => sl v.1 (x.frames.eraseIdx s.n.toNat) :: sl v.2 (Aw x.frames s.n) :: R) Try.call23 rfl (fun w hs => by have h9 := Gr (l := x.frames) (n := s.n) hs mm hsN; rw [et] at h9; exact h9) ?_; intro ⟨va, vb⟩
   refine Ga7 ?_
   refine kp [2, 3, 4, 5, 6, 7, 8, 15, 16, 17, 157, 158] ?_
   refine Aa ?_
   refine rn1 ?_
   refine ob (Ae rfl rfl (Cb (by decide))) ?_
   refine Gmc ?_
   refine Gb2 ?_
   refine ob (Ae rfl rfl (Ak (by omega))) ?_
   refine Gd1 ?_
   refine ob (Ae rfl rfl (Av (by omega))) ?_
   refine Gd1 ?_
   refine rn6 ?_
   refine Ar Try.call57 rfl (fun w hs => L3 (c := (Ax x)) (b := (Aw x.frames s.n)) hs mm hcw) ?_; intro _
   refine rn3 ?_
   refine al_ (cs := zMsg.cells) Try.zeroValue42 ?_; intro b18
   refine s_B (cs := (Af (Ax x) (Aw x.frames s.n)).1.cells) Try.sizeOf42 ?_
   refine Gb1 ?_
   refine Ga2 ?_
   refine cdx (p := ?p1) (hd := ?d1) ?e1 ?_ ?_; case e1 => exact rfl
   ·
    intro ht188
    refine Gl ?_
    refine JC.slNil Core ?_
    refine JC.slNil Entry ?_
    refine JC.slNil (List UInt8) ?_
    refine JC.slNil Done ?_
    refine Aa ?_
    refine rn1 ?_
    refine Bk (caps := []) (vs := [vi 6]) rfl Try.call95 rfl (fun w hs => Iy hs) ?_; intro _
    refine rn3 ?_
    refine s_B (cs := [.slice none 0 0, .slice none 0 0, .slice none 0 0]) Try.sizeOf46 ?_
    refine Ga2 ?_
    have er : Ao x s = (zChip, [], 6) := by unfold Ao; rw [if_neg (by omega), if_neg (by omega), if_neg (by omega), if_neg (by omega), if_pos (by omega), if_neg hnf]; rw [if_pos ht188]
    rw [er]
    exact Cu (.slice none 0 0, .slice none 0 0, .slice none 0 0, .slice none 0 0) Try.isAgg46 Try.sizeOf46
   ·
    intro ht188
    refine Gl ?_
    have hb12 : (Aw x.frames s.n).length = 12 := (h.mi _ (Ic hc)).1
    rcases (show (s.bit < 0) ∨ (0 ≤ s.bit ∧ 8 * ((Aw x.frames s.n).length : Int) ≤ s.bit) ∨ (0 ≤ s.bit ∧ s.bit < 8 * ((Aw x.frames s.n).length : Int)) from by omega) with hc | hc | hc
    ·
     have esp : Eu x.frames s.n s.bit = ([], 3) := by unfold Eu; rw [if_neg (by omega), if_pos (by omega)]
     refine Aa ?_
     refine rn2 ?_
     refine ob (Ae rfl rfl (Co (by omega))) ?_
     refine Gc8 ?_
     refine JC.slNil Core ?_
     refine JC.slNil Entry ?_
     refine JC.slNil (List UInt8) ?_
     refine JC.slNil Done ?_
     refine kp [2, 3, 4, 5, 6, 7, 8, 15, 16, 17, 205, 206, 207, 208, 209] ?_
     refine Aa ?_
     refine rn1 ?_
     refine Bk (caps := []) (vs := [vi 3]) rfl Try.call95 rfl (fun w hs => Iy hs) ?_; intro _
     refine rn3 ?_
     refine s_B (cs := [.slice none 0 0, .slice none 0 0, .slice none 0 0]) Try.sizeOf46 ?_
     refine Ga2 ?_
     have er : Ao x s = (zChip, [], 3) := by unfold Ao; rw [if_neg (by omega), if_neg (by omega), if_neg (by omega), if_neg (by omega), if_pos (by omega), if_neg hnf]; rw [if_neg ht188, esp, if_pos (by decide)]
     rw [er]
     exact Cu (.slice none 0 0, .slice none 0 0, .slice none 0 0, .slice none 0 0) Try.isAgg46 Try.sizeOf46
    ·
     have esp : Eu x.frames s.n s.bit = ([], 3) := by unfold Eu; rw [if_neg (by omega), if_pos (by omega)]
     refine Aa ?_
     refine rn2 ?_
     refine ob (Ae rfl rfl (Al (by omega))) ?_
     refine rn5 ?_
     refine gy ?_
     refine ob (Ae (a := 8) (b := ((Aw x.frames s.n).length : Int)) rfl rfl (Oi (by omega) (by omega))) ?_
     refine gy ?_
     refine ob (Ae rfl rfl (D7 (by omega))) ?_
     refine Gc1 ?_
     refine JC.slNil Core ?_
     refine JC.slNil Entry ?_
     refine JC.slNil (List UInt8) ?_
     refine JC.slNil Done ?_
     refine kp [2, 3, 4, 5, 6, 7, 8, 15, 16, 17, 205, 206, 207, 208, 209] ?_
     refine Aa ?_
     refine rn1 ?_
     refine Bk (caps := []) (vs := [vi 3]) rfl Try.call95 rfl (fun w hs => Iy hs) ?_; intro _
     refine rn3 ?_
     refine s_B (cs := [.slice none 0 0, .slice none 0 0, .slice none 0 0]) Try.sizeOf46 ?_
     refine Ga2 ?_
     have er : Ao x s = (zChip, [], 3) := by unfold Ao; rw [if_neg (by omega), if_neg (by omega), if_neg (by omega), if_neg (by omega), if_pos (by omega), if_neg hnf]; rw [if_neg ht188, esp, if_pos (by decide)]
     rw [er]
     exact Cu (.slice none 0 0, .slice none 0 0, .slice none 0 0, .slice none 0 0) Try.isAgg46 Try.sizeOf46
    ·
     have esp : Eu x.frames s.n s.bit = (x.frames.set s.n.toNat (Bn (Aw x.frames s.n) s.bit), 0) := by unfold Eu; rw [if_neg (by omega), if_neg (by omega)]
     refine Aa ?_
     refine rn2 ?_
     refine ob (Ae rfl rfl (Al (by omega))) ?_
     refine rn5 ?_
     refine gy ?_
     refine ob (Ae (a := 8) (b := ((Aw x.frames s.n).length : Int)) rfl rfl (Oi (by omega) (by omega))) ?_
     refine gy ?_
     refine ob (Ae rfl rfl (Bc (by omega))) ?_
     refine Gc1 ?_
     refine kp [2, 3, 4, 5, 6, 8, 15, 16, 17, 20, 210, 211, 212, 213] ?_
     refine Aa ?_
     refine liO ([] : Frames) Lc rfl (fun j h => Fa) ?_; intro v210
     refine rn2 ?_
     refine ap Lc (hb := fun w hs => by have : maxN = 16777216 := rfl; simp only [List.length_nil]; omega) (k := ?_); intro v213
     refine Ga1 ?_
     refine cq_ (row 23 v213 x.frames :: blk b2 46 [cv, hv, fv] :: blk b3 98 s.cells :: blk b4 46 [.slice none 0 0, .slice none 0 0, .slice none 0 0] :: L) ?_
     refine jd_ (fun ρ S => row 23 v213 (bif S 8 then (x.frames.set s.n.toNat (Bn (Aw x.frames s.n) s.bit)) else x.frames) :: blk b2 46 [cv, hv, fv] :: blk b3 98 s.cells :: blk b4 46 [.slice none 0 0, .slice none 0 0, .slice none 0 0] :: L) ?_
     refine dn6 ?_
     refine Bp (γ := Value) (val := fun v => v) (F := fun v => [sl v (Bn (Aw x.frames s.n) s.bit)]) Try.call26 (fun _ => rfl) (fun ρ L R w hd hs => J7 (b := (Aw x.frames s.n)) (bit := s.bit) hs (hd.base mm) hsb) (fun _ _ _ _ _ => rfl) ?_
     refine Yc (v := ep v213 1 s.n.toNat 0) (fun ρ S => Ru (v := v213) (len := (bif S 8 then (x.frames.set s.n.toNat (Bn (Aw x.frames s.n) s.bit)) else x.frames).length) (i := s.n) so_22 (hl := Dn .hd) (h0 := by omega) (h1 := by cases S 8 <;> simp <;> omega)) (fun _ _ _ _ _ => rfl) ?_
     refine U6 (T0 := 23) (v := v213) (xs := x.frames) (k := s.n.toNat) (e' := (Bn (Aw x.frames s.n) s.bit)) (c := fun ρ => (Gh.dec (γ := Value) (ρ 6))) (cs := fun ρ => [(Gh.dec (γ := Value) (ρ 6))]) Try.sizeOf23 rfl (by omega) (fun _ => rfl) (fun _ => rfl) (fun _ h => G8 h) (fun ρ R w L' hd hs => isSlice.one (hs.fact (hd.dep (it := ⟨6, _, _, _, _⟩) (by repeat (first | exact List.Mem.head _ | refine List.Mem.tail _ ?_)) ⟨9, rfl⟩ (List.Mem.head _)))) (fun ρ R hd j hj => ⟨_, rfl, hj _ (hd.dep (it := ⟨6, _, _, _, _⟩) (by repeat (first | exact List.Mem.head _ | refine List.Mem.tail _ ?_)) ⟨9, rfl⟩ (List.Mem.head _))⟩) (fun ρ g S hS hB hA => ?_) ?_
     ·
      have ui : upS S 8 8 = true := rfl
      simp only [ui, hS, cond_true, cond_false]
      exact Pos.ex (by repeat (first | exact .hd | exact .hc | apply Pos.tl | apply Pos.ap))
     refine dnl ?_; intro ρ
     refine xq_ (row 23 v213 (x.frames.set s.n.toNat (Bn (Aw x.frames s.n) s.bit)) :: blk b2 46 [cv, hv, fv] :: blk b3 98 s.cells :: blk b4 46 [.slice none 0 0, .slice none 0 0, .slice none 0 0] :: L) ?_
     generalize (Gh.dec (γ := Value) (ρ 6)) = v220
     refine Gl ?_
     refine JC.shut (v := v213) pkk ?_
     refine JC.know (p := v213.oneCell' = true) (fun w hs => isSlice.one (hs.fact (List.Mem.head _))) (fun honev213 => ?_)
     refine Aa ?_
     refine rn2 ?_
     refine sc ?_
     refine Gl ?_
     refine JC.slNil Done ?_
     refine Aa ?_
     refine rn1 ?_
     refine s_B (cs := [cv, hv, v213]) Try.sizeOf46 ?_
     refine Ga2 ?_
     have er : Ao x s = (⟨x.cores, x.home, x.frames.set s.n.toNat (Bn (Aw x.frames s.n) s.bit)⟩, [], 0) := by unfold Ao; rw [if_neg (by omega), if_neg (by omega), if_neg (by omega), if_neg (by omega), if_pos (by omega), if_neg hnf]; rw [if_neg ht188, esp, if_neg (fun h => h rfl)]
     rw [er]
     exact Cu (cv, hv, v213, .slice none 0 0) Try.isAgg46 Try.sizeOf46
end Go.Proofs.Ytofgpimoekhfaaa

/- This file proves what a step does to a chip, by the document's answer: some kinds of steps. No conditions. -/
set_option linter.unusedVariables false
set_option linter.unusedSimpArgs false
set_option maxHeartbeats 1000000
set_option maxRecDepth 8000
namespace Go.Proofs.Ytofgpimoekhfaaa
open Go
theorem Ua {L : List Chunk} {R : List Fact} {w : World} {n nl : Nat} {M : List Int} {cv hv fv : Value} {x : Chip} {s : Step} (hs : St (L) R w) (hc : sl cv x.cores ∈ R) (hh : sl hv x.home ∈ R) (hf : sl fv x.frames ∈ R) (h : Inv n nl x M) (hsw : s.wf) (hk : s.kind = 3) : Calls Try.prog 64 [.agg #[cv, hv, fv], .agg s.cells.toArray].toArray w (Cg (fun v : Value × Value × Value × Value => .tuple #[.agg #[v.1, v.2.1, v.2.2.1], v.2.2.2, vi (Ao x s).2.2]) (fun v => L) (fun v => sl v.1 (Ao x s).1.cores :: sl v.2.1 (Ao x s).1.home :: sl v.2.2.1 (Ao x s).1.frames :: sl v.2.2.2 (Ao x s).2.1 :: R)) := by
  have hn := h.n1
  have hnl := h.l1
  have hnc := h.nc
  have hnh := h.nh
  have hfr := h.fr
  have honec : cv.oneCell' = true := isSlice.one (hs.fact hc)
  have honeh : hv.oneCell' = true := isSlice.one (hs.fact hh)
  have honef : fv.oneCell' = true := isSlice.one (hs.fact hf)
  have hsw0 := hsw
  unfold Step.wf An at hsw0
  have hop : s.op.wf := by unfold Op.wf An; omega
  have hsn : An s.node := by unfold An; omega
  have hsN : An s.n := by unfold An; omega
  have hsb : An s.bit := by unfold An; omega
  have hn64 : An (x.cores.length : Int) := by unfold An; omega
  have hcw : (Ax x).wf := by unfold Ax Bz Config.wf An; simp only; omega
  refine Ah Try.func64 rfl Try.ntmps64 rfl hs ?_
  clear hs
  refine Gm ?_
  refine bx ?_; intro b2
  refine bx ?_; intro b3
  refine al_ (cs := [.slice none 0 0, .slice none 0 0, .slice none 0 0]) Try.zeroValue46 ?_; intro b4
  refine Gb2 ?_
  refine Gb1 ?_
  refine Gb4 ?_
  refine Gb2 ?_
  refine ob (Ae rfl rfl (Ak (by omega))) ?_
  refine Gd1 ?_
  refine ob (Ae rfl rfl (Ak (by omega))) ?_
  refine Gd1 ?_
  refine ob (Ae rfl rfl (Ak (by omega))) ?_
  refine Gd1 ?_
  refine ob (Ae rfl rfl (Av (by omega))) ?_
  refine Gc1 ?_
  rcases (show (Cq x s.n) ∨ (¬ Cq x s.n) from by exact Classical.em _) with hc | hc
  ·
   have et : Cm x.frames s.n = ([], [], 5) := by unfold Cm; rw [if_pos (by unfold Cq at hc; exact hc)]
   refine Aa ?_
   refine rn4 ?_
   refine Ar (γ := Value × Value) (val := fun v => .tuple #[v.1, v.2, vi 5]) (Rf := fun v => sl v.1 ([] : Frames) :: sl v.2 ([] : List UInt8) :: R) Try.call23 rfl (fun w hs => by have h9 := Gr (l := x.frames) (n := s.n) hs mm hsN; rw [et] at h9; exact h9) ?_; intro ⟨va, vb⟩
   refine Ga7 ?_
   refine kp [2, 3, 4, 5, 6, 7, 8, 15, 16, 17, 157, 158] ?_
   refine Aa ?_
   refine rn1 ?_
   refine ob (Ae rfl rfl (Cn (by decide))) ?_
   refine Glc ?_
   refine JC.slNil Core ?_
   refine JC.slNil Entry ?_
   refine JC.slNil (List UInt8) ?_
   refine JC.slNil Done ?_
   refine Aa ?_
   refine rn2 ?_
   refine Bk (caps := []) (vs := [vi 5]) rfl Try.call95 rfl (fun w hs => Iy hs) ?_; intro _
   refine rn3 ?_
   refine s_B (cs := [.slice none 0 0, .slice none 0 0, .slice none 0 0]) Try.sizeOf46 ?_
   refine Ga2 ?_
   have er : Ao x s = (zChip, [], 5) := U8 (by omega) hc
   rw [er]
   exact Cu (.slice none 0 0, .slice none 0 0, .slice none 0 0, .slice none 0 0) Try.isAgg46 Try.sizeOf46
  ·
   have hnf := hc
   unfold Cq at hc
   have et : Cm x.frames s.n = ((x.frames.eraseIdx s.n.toNat), (Aw x.frames s.n), 0) := by unfold Cm; rw [if_neg hc]
   refine Aa ?_
   refine rn4 ?_
   refine Ar (γ := Value × Value) (val := fun v => .tuple #[v.1, v.2, vi 0]) (Rf := fun v => sl v.1 (x.frames.eraseIdx s.n.toNat) :: sl v.2 (Aw x.frames s.n) :: R) Try.call23 rfl (fun w hs => by have h9 := Gr (l := x.frames) (n := s.n) hs mm hsN; rw [et] at h9; exact h9) ?_; intro ⟨va, vb⟩
   refine Ga7 ?_
   refine kp [2, 3, 4, 5, 6, 7, 8, 15, 16, 17, 157, 158] ?_
   refine Aa ?_
   refine rn1 ?_
   refine ob (Ae rfl rfl (Cb (by decide))) ?_
   refine Gmc ?_
   refine Gb2 ?_
   refine ob (Ae rfl rfl (Ak (by omega))) ?_
   refine Gd1 ?_
   refine ob (Ae rfl rfl (Ak (by omega))) ?_
   refine Gc1 ?_
   refine JC.know (p := va.oneCell' = true) (fun w hs => isSlice.one (hs.fact (mm (f := sl va (x.frames.eraseIdx s.n.toNat))))) (fun honea => ?_)
   refine Aa ?_
   refine rn2 ?_
   refine sc ?_
   refine Gm ?_
   refine rn2 ?_
   refine ob (Ae rfl rfl (Av (by omega))) ?_
   refine Glc ?_
   refine JC.slNil Done ?_
   refine Aa ?_
   refine rn1 ?_
   refine s_B (cs := [cv, hv, va]) Try.sizeOf46 ?_
   refine Ga2 ?_
   have er : Ao x s = (⟨x.cores, x.home, (x.frames.eraseIdx s.n.toNat)⟩, [], 0) := by unfold Ao; rw [if_neg (by omega), if_neg (by omega), if_pos (by omega), if_neg hnf]
   rw [er]
   exact Cu (cv, hv, va, .slice none 0 0) Try.isAgg46 Try.sizeOf46
theorem Ub {L : List Chunk} {R : List Fact} {w : World} {n nl : Nat} {M : List Int} {cv hv fv : Value} {x : Chip} {s : Step} (hs : St (L) R w) (hc : sl cv x.cores ∈ R) (hh : sl hv x.home ∈ R) (hf : sl fv x.frames ∈ R) (h : Inv n nl x M) (hsw : s.wf) (hk : s.kind = 2) : Calls Try.prog 64 [.agg #[cv, hv, fv], .agg s.cells.toArray].toArray w (Cg (fun v : Value × Value × Value × Value => .tuple #[.agg #[v.1, v.2.1, v.2.2.1], v.2.2.2, vi (Ao x s).2.2]) (fun v => L) (fun v => sl v.1 (Ao x s).1.cores :: sl v.2.1 (Ao x s).1.home :: sl v.2.2.1 (Ao x s).1.frames :: sl v.2.2.2 (Ao x s).2.1 :: R)) := by
  have hn := h.n1
  have hnl := h.l1
  have hnc := h.nc
  have hnh := h.nh
  have hfr := h.fr
  have honec : cv.oneCell' = true := isSlice.one (hs.fact hc)
  have honeh : hv.oneCell' = true := isSlice.one (hs.fact hh)
  have honef : fv.oneCell' = true := isSlice.one (hs.fact hf)
  have hsw0 := hsw
  unfold Step.wf An at hsw0
  have hop : s.op.wf := by unfold Op.wf An; omega
  have hsn : An s.node := by unfold An; omega
  have hsN : An s.n := by unfold An; omega
  have hsb : An s.bit := by unfold An; omega
  have hn64 : An (x.cores.length : Int) := by unfold An; omega
  have hcw : (Ax x).wf := by unfold Ax Bz Config.wf An; simp only; omega
  refine Ah Try.func64 rfl Try.ntmps64 rfl hs ?_
  clear hs
  refine Gm ?_
  refine bx ?_; intro b2
  refine bx ?_; intro b3
  refine al_ (cs := [.slice none 0 0, .slice none 0 0, .slice none 0 0]) Try.zeroValue46 ?_; intro b4
  refine Gb2 ?_
  refine Gb1 ?_
  refine Gb4 ?_
  refine Gb2 ?_
  refine ob (Ae rfl rfl (Ak (by omega))) ?_
  refine Gd1 ?_
  refine ob (Ae rfl rfl (Ak (by omega))) ?_
  refine Gd1 ?_
  refine ob (Ae rfl rfl (Av (by omega))) ?_
  refine Gc1 ?_
  rcases (show (Cq x s.n) ∨ (¬ Cq x s.n) from by exact Classical.em _) with hc | hc
  ·
   have et : Cm x.frames s.n = ([], [], 5) := by unfold Cm; rw [if_pos (by unfold Cq at hc; exact hc)]
   refine Aa ?_
   refine rn4 ?_
   refine Ar (γ := Value × Value) (val := fun v => .tuple #[v.1, v.2, vi 5]) (Rf := fun v => sl v.1 ([] : Frames) :: sl v.2 ([] : List UInt8) :: R) Try.call23 rfl (fun w hs => by have h9 := Gr (l := x.frames) (n := s.n) hs mm hsN; rw [et] at h9; exact h9) ?_; intro ⟨va, vb⟩
   refine Gb7 ?_
   refine rn1 ?_
   refine ob (Ae rfl rfl (Cn (by decide))) ?_
   refine Glc ?_
   refine JC.slNil Core ?_
   refine JC.slNil Entry ?_
   refine JC.slNil (List UInt8) ?_
   refine JC.slNil Done ?_
   refine kp [2, 3, 4, 5, 6, 7, 8, 15, 16, 17, 159, 160, 161, 162, 163, 164] ?_
   refine Aa ?_
   refine rn2 ?_
   refine Bk (caps := []) (vs := [vi 5]) rfl Try.call95 rfl (fun w hs => Iy hs) ?_; intro _
   refine rn3 ?_
   refine s_B (cs := [.slice none 0 0, .slice none 0 0, .slice none 0 0]) Try.sizeOf46 ?_
   refine Ga2 ?_
   have er : Ao x s = (zChip, [], 5) := U8 (by omega) hc
   rw [er]
   exact Cu (.slice none 0 0, .slice none 0 0, .slice none 0 0, .slice none 0 0) Try.isAgg46 Try.sizeOf46
  ·
   have hnf := hc
   unfold Cq at hc
   have et : Cm x.frames s.n = ((x.frames.eraseIdx s.n.toNat), (Aw x.frames s.n), 0) := by unfold Cm; rw [if_neg hc]
   refine Aa ?_
   refine rn4 ?_
   refine Ar (γ := Value × Value) (val := fun v => .tuple #[v.1, v.2, vi 0]) (Rf := fun v => sl v.1 (x.frames.eraseIdx s.n.toNat) :: sl v.2 (Aw x.frames s.n) :: R) Try.call23 rfl (fun w hs => by have h9 := Gr (l := x.frames) (n := s.n) hs mm hsN; rw [et] at h9; exact h9) ?_; intro ⟨va, vb⟩
   refine Gb7 ?_
   refine rn1 ?_
   refine ob (Ae rfl rfl (Cb (by decide))) ?_
   refine Glc ?_
   refine kp [2, 3, 4, 5, 6, 7, 8, 15, 16, 17, 165, 166] ?_
   refine Aa ?_
   refine Gb2 ?_
   refine ob (Ae rfl rfl (Ak (by omega))) ?_
   refine Gd1 ?_
   refine ob (Ae rfl rfl (Ak (by omega))) ?_
   refine Gc1 ?_
   refine JC.know (p := va.oneCell' = true) (fun w hs => isSlice.one (hs.fact (mm (f := sl va (x.frames.eraseIdx s.n.toNat))))) (fun honea => ?_)
   refine Aa ?_
   refine rn2 ?_
   refine sc ?_
   refine Gm ?_
   refine rn2 ?_
   refine ob (Ae rfl rfl (Ak (by omega))) ?_
   refine Gmc ?_
   refine rn6 ?_
   refine Ar Try.call57 rfl (fun w hs => L3 (c := (Ax x)) (b := (Aw x.frames s.n)) hs mm hcw) ?_; intro _
   refine rn3 ?_
   refine al_ (cs := zMsg.cells) Try.zeroValue42 ?_; intro b21
   refine s_B (cs := (Af (Ax x) (Aw x.frames s.n)).1.cells) Try.sizeOf42 ?_
   refine Gb1 ?_
   refine Ga2 ?_
   refine cdx (p := ?p1) (hd := ?d1) ?e1 ?_ ?_; case e1 => exact rfl
   ·
    intro ht242
    refine Gl ?_
    refine JC.slNil Done ?_
    refine Aa ?_
    refine rn1 ?_
    refine s_B (cs := [cv, hv, va]) Try.sizeOf46 ?_
    refine Ga2 ?_
    have er : Ao x s = (⟨x.cores, x.home, (x.frames.eraseIdx s.n.toNat)⟩, [], 0) := by unfold Ao; rw [if_neg (by omega), if_pos (by omega), if_neg hnf]; unfold E5; rw [show Ax ⟨x.cores, x.home, (x.frames.eraseIdx s.n.toNat)⟩ = Ax x from rfl]; rw [if_pos ht242]
    rw [er]
    exact Cu (cv, hv, va, .slice none 0 0) Try.isAgg46 Try.sizeOf46
   ·
    intro ht242
    refine Gl ?_
    have hp0 : (Af (Ax x) (Aw x.frames s.n)).2 = 0 := Decidable.not_not.1 ht242
    have hpk := Jv (c := (Ax x)) (b := (Aw x.frames s.n)) (m := (Af (Ax x) (Aw x.frames s.n)).1) (by rw [← hp0])
    have hwk := H0 hpk.2.2.2.2.1
    have hpw : (Af (Ax x) (Aw x.frames s.n)).1.wf := by rw [hpk.2.2.2.2.2]; exact Pw _
    have ecn : (Ax x).cores = (x.cores.length : Int) := rfl
    rw [ecn] at hwk
    refine JC.slNil Done ?_
    refine Aa ?_
    refine Ga4 ?_
    refine cdx (p := ?p2) (hd := ?d2) ?e2 ?_ ?_; case e2 => exact rfl
    ·
     intro ht247
     refine Gl ?_
     refine kp [2, 4, 5, 6, 8, 21, 22, 23, 248, 249, 250, 251, 252, 253, 254, 255] ?_
     refine Aa ?_
     refine rn4 ?_
     refine Ar Try.call30 rfl (fun w hs => O0 (l := x.home) (id := (x.cores.length : Int)) (m := (Af (Ax x) (Aw x.frames s.n)).1) hs mm (fun i hi => (h.ebs i hi).1) (fun i hi => (h.ebs i hi).2.2.2.2) hpw hn64) ?_; intro ⟨v253a, v253b⟩
     refine Ga5 ?_
     refine JC.know (p := v253a.oneCell' = true) (fun w hs => isSlice.one (hs.fact (mm (f := sl v253a (Am x.home (x.cores.length : Int) (Af (Ax x) (Aw x.frames s.n)).1).1)))) (fun honeva => ?_)
     refine Aa ?_
     refine rn2 ?_
     refine sc ?_
     refine Gm ?_
     refine rn3 ?_
     refine Ar Try.call97 rfl (fun w hs => Nb (fs := (x.frames.eraseIdx s.n.toNat)) (ms := (Am x.home (x.cores.length : Int) (Af (Ax x) (Aw x.frames s.n)).1).2) hs mm mm (Pc (by omega) (by omega) h.ebs hwk.2.2.2.1 hwk.2.2.2.2.2.1)) ?_; intro v261
     refine J.know (p := v261.oneCell' = true) (fun w hs => isSlice.one (hs.fact (List.Mem.head _))) (fun honev261 => ?_)
     refine rn1 ?_
     refine sc ?_
     refine Gm ?_
     refine rn1 ?_
     refine s_B (cs := [cv, v253a, v261]) Try.sizeOf46 ?_
     refine Ga2 ?_
     have er : Ao x s = (⟨x.cores, (Am x.home (x.cores.length : Int) (Af (Ax x) (Aw x.frames s.n)).1).1, way (x.frames.eraseIdx s.n.toNat) (Am x.home (x.cores.length : Int) (Af (Ax x) (Aw x.frames s.n)).1).2⟩, [], 0) := by unfold Ao; rw [if_neg (by omega), if_pos (by omega), if_neg hnf]; unfold E5; rw [show Ax ⟨x.cores, x.home, (x.frames.eraseIdx s.n.toNat)⟩ = Ax x from rfl]; rw [if_neg ht242, if_pos (show (Af (Ax x) (Aw x.frames s.n)).1.dst = Bz ⟨x.cores, x.home, (x.frames.eraseIdx s.n.toNat)⟩ from ht247)]; rfl
     rw [er]
     exact Cu (cv, v253a, v261, .slice none 0 0) Try.isAgg46 Try.sizeOf46
    ·
     intro ht247
     refine Gl ?_
     refine Ma (x := x) (v := cv) (Af (Ax x) (Aw x.frames s.n)).1.dst mm (by omega) (by omega) (fun hwt u => ?_)
     have hkb : KB (A2 x (Af (Ax x) (Aw x.frames s.n)).1.dst) := h.kb (p := (Af (Ax x) (Aw x.frames s.n)).1.dst.toNat) (by omega)
     have hlb := h.lbs (p := (Af (Ax x) (Aw x.frames s.n)).1.dst) (by omega)
     have hk4 := hkb.n
     have hpd64 : An (Af (Ax x) (Aw x.frames s.n)).1.dst := by unfold An; omega
     refine kp [2, 4, 5, 6, 8, 21, 24, 25, 26, 264, 265, 266, 267, 268, 269, 270, 271, 272, 273, 274, 275, 276, 277, 278] ?_
     refine cq_ (blk b2 46 [cv, hv, va] :: blk b21 42 (Af (Ax x) (Aw x.frames s.n)).1.cells :: blk b3 98 s.cells :: blk b4 46 [.slice none 0 0, .slice none 0 0, .slice none 0 0] :: L) ?_
     refine jd_ (fun ρ S => blk b2 46 [cv, hv, va] :: blk b21 42 (Af (Ax x) (Aw x.frames s.n)).1.cells :: blk b3 98 s.cells :: blk b4 46 [.slice none 0 0, .slice none 0 0, .slice none 0 0] :: ((bif S 15 then [blk (Gh.dec (γ := Nat) (ρ 15)) 69 (bif S 16 then [(Gh.dec (γ := Value × Value × Value) (ρ 10)).1, vi (Ag (A2 x (Af (Ax x) (Aw x.frames s.n)).1.dst) (Af (Ax x) (Aw x.frames s.n)).1.dst (x.cores.length : Int) (Af (Ax x) (Aw x.frames s.n)).1).1.wait.kind, vi (Ag (A2 x (Af (Ax x) (Aw x.frames s.n)).1.dst) (Af (Ax x) (Aw x.frames s.n)).1.dst (x.cores.length : Int) (Af (Ax x) (Aw x.frames s.n)).1).1.wait.line, vi (Ag (A2 x (Af (Ax x) (Aw x.frames s.n)).1.dst) (Af (Ax x) (Aw x.frames s.n)).1.dst (x.cores.length : Int) (Af (Ax x) (Aw x.frames s.n)).1).1.wait.value] else [.slice none 0 0, vi 0, vi 0, vi 0])] else []) ++ (L))) ?_
     refine dn10 ?_
     refine Bp (γ := Value × Value × Value) (val := fun v => .tuple #[.agg (Core.cells v.1 (Ag (A2 x (Af (Ax x) (Aw x.frames s.n)).1.dst) (Af (Ax x) (Aw x.frames s.n)).1.dst (x.cores.length : Int) (Af (Ax x) (Aw x.frames s.n)).1).1).toArray, v.2.1, v.2.2]) (F := fun v => [sl v.1 (Ag (A2 x (Af (Ax x) (Aw x.frames s.n)).1.dst) (Af (Ax x) (Aw x.frames s.n)).1.dst (x.cores.length : Int) (Af (Ax x) (Aw x.frames s.n)).1).1.lines, sl v.2.1 (Ag (A2 x (Af (Ax x) (Aw x.frames s.n)).1.dst) (Af (Ax x) (Aw x.frames s.n)).1.dst (x.cores.length : Int) (Af (Ax x) (Aw x.frames s.n)).1).2.1, sl v.2.2 (Ag (A2 x (Af (Ax x) (Aw x.frames s.n)).1.dst) (Af (Ax x) (Aw x.frames s.n)).1.dst (x.cores.length : Int) (Af (Ax x) (Aw x.frames s.n)).1).2.2]) Try.call47 (fun _ => rfl) (fun ρ L R w hd hs => Wc (c := (A2 x (Af (Ax x) (Aw x.frames s.n)).1.dst)) (id := (Af (Ax x) (Aw x.frames s.n)).1.dst) (home := (x.cores.length : Int)) (m := (Af (Ax x) (Aw x.frames s.n)).1) (u := u) hs (hd.base mm) hkb hpd64 hn64 hpw) (fun ρ g S hS hA => by have u15 : upS S 10 15 = S 15 := rfl; have u16 : upS S 10 16 = S 16 := rfl; have r15 : Rho.set ρ 10 g 15 = ρ 15 := rfl; have h16 : S 16 = false := hA 16 ⟨0, rfl⟩; simp only [u15, u16, r15, h16, cond_false]) ?_
     refine e_p (v := fun ρ => .tuple #[.agg (Core.cells (Gh.dec (γ := Value × Value × Value) (ρ 10)).1 (Ag (A2 x (Af (Ax x) (Aw x.frames s.n)).1.dst) (Af (Ax x) (Aw x.frames s.n)).1.dst (x.cores.length : Int) (Af (Ax x) (Aw x.frames s.n)).1).1).toArray, (Gh.dec (γ := Value × Value × Value) (ρ 10)).2.1, (Gh.dec (γ := Value × Value × Value) (ρ 10)).2.2]) (fun _ _ => Dh) (Ind.gh (h := fun g => (.tuple #[.agg (Core.cells (Gh.dec (γ := Value × Value × Value) g).1 (Ag (A2 x (Af (Ax x) (Aw x.frames s.n)).1.dst) (Af (Ax x) (Aw x.frames s.n)).1.dst (x.cores.length : Int) (Af (Ax x) (Aw x.frames s.n)).1).1).toArray, (Gh.dec (γ := Value × Value × Value) g).2.1, (Gh.dec (γ := Value × Value × Value) g).2.2] : Value)) 10 0 rfl) (fun _ _ _ _ _ => rfl) ?_
     refine e_p (v := fun ρ => .agg (Core.cells (Gh.dec (γ := Value × Value × Value) (ρ 10)).1 (Ag (A2 x (Af (Ax x) (Aw x.frames s.n)).1.dst) (Af (Ax x) (Aw x.frames s.n)).1.dst (x.cores.length : Int) (Af (Ax x) (Aw x.frames s.n)).1).1).toArray) (fun _ _ => q_x) (Ind.gh (h := fun g => (.agg (Core.cells (Gh.dec (γ := Value × Value × Value) g).1 (Ag (A2 x (Af (Ax x) (Aw x.frames s.n)).1.dst) (Af (Ax x) (Aw x.frames s.n)).1.dst (x.cores.length : Int) (Af (Ax x) (Aw x.frames s.n)).1).1).toArray : Value)) 10 1 rfl) (fun _ _ _ _ _ => rfl) ?_
     refine e_p (v := fun ρ => (Gh.dec (γ := Value × Value × Value) (ρ 10)).2.1) (fun _ _ => q_x) (Ind.gh (h := fun g => ((Gh.dec (γ := Value × Value × Value) g).2.1 : Value)) 10 1 rfl) (fun _ _ _ _ _ => rfl) ?_
     refine e_p (v := fun ρ => (Gh.dec (γ := Value × Value × Value) (ρ 10)).2.2) (fun _ _ => q_x) (Ind.gh (h := fun g => ((Gh.dec (γ := Value × Value × Value) g).2.2 : Value)) 10 1 rfl) (fun _ _ _ _ _ => rfl) ?_
     refine Kt (cs := [.slice none 0 0, vi 0, vi 0, vi 0]) Try.zeroValue69 rfl (fun ρ b S hS hA => ?_) ?_
     ·
      have ui : upS S 15 15 = true := rfl; have u16 : upS S 15 16 = S 16 := rfl; have r10 : Rho.set ρ 15 (Gh.enc b) 10 = ρ 10 := rfl; have h16 : S 16 = false := hA 16 ⟨0, rfl⟩; have rs : (Gh.dec (γ := Nat) (Rho.set ρ 15 (Gh.enc b) 15)) = b := rfl
      simp only [ui, hS, u16, r10, h16, rs, cond_true, cond_false, List.nil_append]
      exact Ins.perm (by repeat (first | exact .hd | exact .hc | refine .tl ?_ | refine .ap ?_))
     refine es_ 69 0 [15] [] (fun ρ => (Gh.dec (γ := Nat) (ρ 15))) (fun ρ => [.slice none 0 0, vi 0, vi 0, vi 0]) (fun ρ => [(Gh.dec (γ := Value × Value × Value) (ρ 10)).1, vi (Ag (A2 x (Af (Ax x) (Aw x.frames s.n)).1.dst) (Af (Ax x) (Aw x.frames s.n)).1.dst (x.cores.length : Int) (Af (Ax x) (Aw x.frames s.n)).1).1.wait.kind, vi (Ag (A2 x (Af (Ax x) (Aw x.frames s.n)).1.dst) (Af (Ax x) (Aw x.frames s.n)).1.dst (x.cores.length : Int) (Af (Ax x) (Aw x.frames s.n)).1).1.wait.line, vi (Ag (A2 x (Af (Ax x) (Aw x.frames s.n)).1.dst) (Af (Ax x) (Aw x.frames s.n)).1.dst (x.cores.length : Int) (Af (Ax x) (Aw x.frames s.n)).1).1.wait.value]) Try.sizeOf69 (h1 := (fun ρ R w L' hd hs => Be (isSlice.one (hs.fact (hd.dep (it := ⟨10, _, _, _, _⟩) (by repeat (first | exact List.Mem.head _ | refine List.Mem.tail _ ?_)) ⟨9, rfl⟩ (List.Mem.head _)))) (by repeat (first | exact Di | refine Be rfl ?_)))) ?_
     refine e_p (v := fun ρ => (Gh.dec (γ := Value × Value × Value) (ρ 10)).2.1) (fun _ _ => Eb) (Ind.gh (h := fun g => ((Gh.dec (γ := Value × Value × Value) g).2.1 : Value)) 10 0 rfl) (fun _ _ _ _ _ => rfl) ?_
     refine e_p (v := fun ρ => (Gh.dec (γ := Value × Value × Value) (ρ 10)).2.2) (fun _ _ => Eb) (Ind.gh (h := fun g => ((Gh.dec (γ := Value × Value × Value) g).2.2 : Value)) 10 0 rfl) (fun _ _ _ _ _ => rfl) ?_
     refine dnl ?_; intro ρ
     refine xq_ (blk b2 46 [cv, hv, va] :: blk b21 42 (Af (Ax x) (Aw x.frames s.n)).1.cells :: blk b3 98 s.cells :: blk b4 46 [.slice none 0 0, .slice none 0 0, .slice none 0 0] :: (blk (Gh.dec (γ := Nat) (ρ 15)) 69 [(Gh.dec (γ := Value × Value × Value) (ρ 10)).1, vi (Ag (A2 x (Af (Ax x) (Aw x.frames s.n)).1.dst) (Af (Ax x) (Aw x.frames s.n)).1.dst (x.cores.length : Int) (Af (Ax x) (Aw x.frames s.n)).1).1.wait.kind, vi (Ag (A2 x (Af (Ax x) (Aw x.frames s.n)).1.dst) (Af (Ax x) (Aw x.frames s.n)).1.dst (x.cores.length : Int) (Af (Ax x) (Aw x.frames s.n)).1).1.wait.line, vi (Ag (A2 x (Af (Ax x) (Aw x.frames s.n)).1.dst) (Af (Ax x) (Aw x.frames s.n)).1.dst (x.cores.length : Int) (Af (Ax x) (Aw x.frames s.n)).1).1.wait.value] :: L)) ?_
     generalize (Gh.dec (γ := Value × Value × Value) (ρ 10)) = v275
     generalize (Gh.dec (γ := Nat) (ρ 15)) = b24
     refine Gm ?_
     refine rn4 ?_
     refine Ar Try.call96 rfl (fun w hs => J6 (x := x) (i := (Af (Ax x) (Aw x.frames s.n)).1.dst) (k := (Ag (A2 x (Af (Ax x) (Aw x.frames s.n)).1.dst) (Af (Ax x) (Aw x.frames s.n)).1.dst (x.cores.length : Int) (Af (Ax x) (Aw x.frames s.n)).1).1) (u := v275.1) hs mm honeh honea mm (Sx hkb.wwf) (by omega)) ?_; intro v283
     refine J.know (p := v283.oneCell' = true) (fun w hs => isSlice.one (hs.fact (List.Mem.head _))) (fun honev283 => ?_)
     refine s_B (cs := [v283, hv, va]) Try.sizeOf46 ?_
     refine Gm ?_
     refine rn3 ?_
     refine Ar Try.call97 rfl (fun w hs => Nb (fs := (x.frames.eraseIdx s.n.toNat)) (ms := (Ag (A2 x (Af (Ax x) (Aw x.frames s.n)).1.dst) (Af (Ax x) (Aw x.frames s.n)).1.dst (x.cores.length : Int) (Af (Ax x) (Aw x.frames s.n)).1).2.1) hs mm mm (W2 (by omega) (by omega) hk4 hlb hwk.2.2.2.2.1)) ?_; intro v287
     refine J.know (p := v287.oneCell' = true) (fun w hs => isSlice.one (hs.fact (List.Mem.head _))) (fun honev287 => ?_)
     refine rn1 ?_
     refine sc ?_
     refine Gl ?_
     refine kp [2, 4, 5, 6, 26, 289, 290] ?_
     refine Aa ?_
     refine rn2 ?_
     refine s_B (cs := [v283, hv, v287]) Try.sizeOf46 ?_
     refine Ga2 ?_
     have er : Ao x s = (⟨x.cores.set (Af (Ax x) (Aw x.frames s.n)).1.dst.toNat (Ag (A2 x (Af (Ax x) (Aw x.frames s.n)).1.dst) (Af (Ax x) (Aw x.frames s.n)).1.dst (x.cores.length : Int) (Af (Ax x) (Aw x.frames s.n)).1).1, x.home, way (x.frames.eraseIdx s.n.toNat) (Ag (A2 x (Af (Ax x) (Aw x.frames s.n)).1.dst) (Af (Ax x) (Aw x.frames s.n)).1.dst (x.cores.length : Int) (Af (Ax x) (Aw x.frames s.n)).1).2.1⟩, (Ag (A2 x (Af (Ax x) (Aw x.frames s.n)).1.dst) (Af (Ax x) (Aw x.frames s.n)).1.dst (x.cores.length : Int) (Af (Ax x) (Aw x.frames s.n)).1).2.2, 0) := by unfold Ao; rw [if_neg (by omega), if_pos (by omega), if_neg hnf]; unfold E5; rw [show Ax ⟨x.cores, x.home, (x.frames.eraseIdx s.n.toNat)⟩ = Ax x from rfl]; rw [if_neg ht242, if_neg (show ¬ (Af (Ax x) (Aw x.frames s.n)).1.dst = Bz ⟨x.cores, x.home, (x.frames.eraseIdx s.n.toNat)⟩ from ht247)]; rfl
     rw [er]
     exact Cu (v283, hv, v287, v275.2.2) Try.isAgg46 Try.sizeOf46
end Go.Proofs.Ytofgpimoekhfaaa

/- This file proves what a step does to a chip, by the document's answer. No conditions. -/
set_option linter.unusedVariables false
set_option linter.unusedSimpArgs false
set_option maxHeartbeats 1000000
set_option maxRecDepth 8000
namespace Go.Proofs.Ytofgpimoekhfaaa
open Go
theorem refDo4 {L : List Chunk} {R : List Fact} {w : World} {n nl : Nat} {M : List Int} {cv hv fv : Value} {x : Chip} {s : Step} (hs : St (L) R w) (hc : sl cv x.cores ∈ R) (hh : sl hv x.home ∈ R) (hf : sl fv x.frames ∈ R) (h : Inv n nl x M) (hsw : s.wf) : Calls Try.prog 64 [.agg #[cv, hv, fv], .agg s.cells.toArray].toArray w (Cg (fun v : Value × Value × Value × Value => .tuple #[.agg #[v.1, v.2.1, v.2.2.1], v.2.2.2, vi (Ao x s).2.2]) (fun v => L) (fun v => sl v.1 (Ao x s).1.cores :: sl v.2.1 (Ao x s).1.home :: sl v.2.2.1 (Ao x s).1.frames :: sl v.2.2.2 (Ao x s).2.1 :: R)) := by
  by_cases h1 : s.kind = 1
  · exact Uc hs hc hh hf h hsw h1
  by_cases h2 : s.kind = 2
  · exact Ub hs hc hh hf h hsw h2
  by_cases h3 : s.kind = 3
  · exact Ua hs hc hh hf h hsw h3
  by_cases h4 : s.kind = 4
  · exact T9 hs hc hh hf h hsw h4
  by_cases h5 : s.kind = 5
  · exact T8 hs hc hh hf h hsw h5
  by_cases h6 : s.kind = 6
  · exact T7 hs hc hh hf h hsw h6
  exact Ud hs hc hh hf h hsw ⟨h1, h2, h3, h4, h5, h6⟩
end Go.Proofs.Ytofgpimoekhfaaa

/- This file proves what a chip is that steps build, by the document's answer. No conditions. -/
set_option linter.unusedVariables false
set_option linter.unusedSimpArgs false
set_option maxHeartbeats 1000000
set_option maxRecDepth 8000
namespace Go.Proofs.Ytofgpimoekhfaaa
open Go
def bAt (c : Config) (l : List Step) (k : Nat) : Chip × List Done := Ey (Bt c).1 (l.take k)
theorem Ik {x : Chip} {a : Step} {l : List Step} (h : (Ao x a).2.2 = 0) : Ey x (a :: l) = ((Ey (Ao x a).1 l).1, (Ao x a).2.1 ++ (Ey (Ao x a).1 l).2) := by simp only [Ey]; rw [if_pos h]
theorem Il {x : Chip} {a : Step} {l : List Step} (h : ¬ (Ao x a).2.2 = 0) : Ey x (a :: l) = Ey x l := by simp only [Ey]; rw [if_neg h]
theorem Ku (s : Step) : ∀ (l : List Step) (x : Chip), (Ao (Ey x l).1 s).2.2 = 0 → Ey x (l ++ [s]) = ((Ao (Ey x l).1 s).1, (Ey x l).2 ++ (Ao (Ey x l).1 s).2.1)
  | [], x, h => by
    have h' : (Ao x s).2.2 = 0 := h
    rw [List.nil_append, Ik h']; simp [Ey]
  | a :: l, x, h => by
    by_cases h1 : (Ao x a).2.2 = 0
    · rw [Ik h1] at h ⊢
      rw [List.cons_append, Ik h1, Ku s l _ h]; simp
    · rw [Il h1] at h ⊢
      rw [List.cons_append, Il h1]; exact Ku s l x h
theorem Mj (s : Step) : ∀ (l : List Step) (x : Chip), ¬ (Ao (Ey x l).1 s).2.2 = 0 → Ey x (l ++ [s]) = Ey x l
  | [], x, h => by
    have h' : ¬ (Ao x s).2.2 = 0 := h
    rw [List.nil_append, Il h']
  | a :: l, x, h => by
    by_cases h1 : (Ao x a).2.2 = 0
    · rw [Ik h1] at h ⊢
      rw [List.cons_append, Ik h1, Mj s l _ h]
    · rw [Il h1] at h ⊢
      rw [List.cons_append, Il h1]; exact Mj s l x h
theorem Tk {c : Config} {l : List Step} {k : Nat} (h : k < l.length) (h0 : (Ao (bAt c l k).1 (l.getD k zStep)).2.2 = 0) : bAt c l (k + 1) = ((Ao (bAt c l k).1 (l.getD k zStep)).1, (bAt c l k).2 ++ (Ao (bAt c l k).1 (l.getD k zStep)).2.1) := by
 unfold bAt at h0 ⊢; rw [Hu zStep h]; exact Ku _ _ _ h0
theorem V4 {c : Config} {l : List Step} {k : Nat} (h : k < l.length) (h0 : ¬ (Ao (bAt c l k).1 (l.getD k zStep)).2.2 = 0) : bAt c l (k + 1) = bAt c l k := by
 unfold bAt at h0 ⊢; rw [Hu zStep h]; exact Mj _ _ _ h0
theorem Tg (c : Core) (id home : Int) (o : Op) : (Ai c id home o).2.2.1.length ≤ 1 := by
  unfold Ai
  split
  · simp
  split
  · simp
  split
  · simp
  split <;> simp
theorem U0 (c : Core) (id home : Int) (m : Msg) : (Ag c id home m).2.2.length ≤ 1 := by
  unfold Ag
  split
  · simp
  split
  · simp
  split
  · split
    · simp only; split <;> simp
    split <;> simp
  split
  · split
    · simp
    split <;> simp
  split <;> simp
theorem V0 (x : Chip) (s : Step) : (Ao x s).2.1.length ≤ 1 := by
  unfold Ao
  split
  · split
    · simp
    split
    · simp
    · exact Tg ..
  split
  · split
    · simp
    · simp only
      unfold E5
      split
      · simp
      split
      · simp
      · exact U0 ..
  split
  · split <;> simp
  split
  · split <;> simp
  split
  · split
    · simp
    split
    · simp
    split <;> simp
  split
  · split
    · simp
    split <;> simp
  · simp
theorem Tl (c : Config) (l : List Step) : ∀ k, (bAt c l k).2.length ≤ k
  | 0 => by unfold bAt; simp [Ey]
  | k + 1 => by
    have ih := Tl c l k
    by_cases h : k < l.length
    · by_cases h0 : (Ao (bAt c l k).1 (l.getD k zStep)).2.2 = 0
      · have := V0 (bAt c l k).1 (l.getD k zStep)
        rw [Tk h h0]
        simp only [List.length_append]; omega
      · rw [V4 h h0]; omega
    · unfold bAt at ih ⊢
      rw [List.take_of_length_le (by omega)]
      rw [List.take_of_length_le (by omega)] at ih
      omega
theorem Yx {c : Config} (l : List Step) (h : (Bt c).2 = 0) (k : Nat) : ∃ n nl M, Inv n nl (bAt c l k).1 M := by
 obtain ⟨n, nl, h1, h2, _, h4⟩ := Lt h
 obtain ⟨M, h5, _⟩ := Ie (l.take k) (Sr h1 h2)
 exact ⟨n, nl, M, by unfold bAt; rw [h4]; exact h5⟩
theorem Oc {c : Config} (h : (Bt c).2 ≠ 0) : Bt c = (zChip, 3) := by
  unfold Bt at h ⊢
  split
  · rfl
  · rename_i h1; rw [if_neg h1] at h; exact absurd rfl h
theorem Qd {c : Config} {l : List Step} {k : Nat} (h : (Bt c).2 = 0) (hk : l.take k = l.take 300) : build c l = bAt c l k := by
 unfold build bAt; rw [if_neg (by rw [h]; decide), hk]
theorem Vg {c : Config} {l : List Step} (h : (Bt c).2 ≠ 0) : build c l = ((Bt c).1, []) := by
 unfold build; rw [if_pos h, Oc h]
theorem H5 {L : List Chunk} {R : List Fact} {w : World} {vl : Value} {c : Config} {l : List Step} (hs : St (L) R w) (hl : sl vl l ∈ R) (hcw : c.wf) : Calls Try.prog 28 [.agg c.cells.toArray, vl].toArray w (Cg (fun v : Value × Value × Value × Value => .tuple #[.agg #[v.1, v.2.1, v.2.2.1], v.2.2.2]) (fun v => L) (fun v => sl v.1 (build c l).1.cores :: sl v.2.1 (build c l).1.home :: sl v.2.2.1 (build c l).1.frames :: sl v.2.2.2 (build c l).2 :: R)) := by
  have hlen := Bv hl hs
  refine Ah Try.func28 rfl Try.ntmps28 rfl hs ?_
  clear hs
  refine Gm ?_
  refine bx ?_; intro b2
  refine al_ (cs := [.slice none 0 0, .slice none 0 0, .slice none 0 0]) Try.zeroValue46 ?_; intro b4
  refine Gb1 ?_
  refine rn1 ?_
  refine Ar Try.call35 rfl (fun w hs => Vt (c := c) hs hcw) ?_; intro v16
  refine J.know (p := v16.1.oneCell' = true ∧ v16.2.oneCell' = true) (fun w hs => ⟨isSlice.one (hs.fact (.head _)), isSlice.one (hs.fact (.tail _ (.head _)))⟩) (fun h12 => ?_)
  obtain ⟨hone1, hone2⟩ := h12
  refine rn3 ?_
  refine al_ (cs := [.slice none 0 0, .slice none 0 0, .slice none 0 0]) Try.zeroValue46 ?_; intro b6
  refine s_B (cs := [v16.1, v16.2, .slice none 0 0]) Try.sizeOf46 ?_
  refine Gb1 ?_
  refine Ga2 ?_
  refine cdx (p := ?p1) (hd := ?d1) ?e1 ?_ ?_; case e1 => exact rfl
  ·
   intro ht20
   refine Gl ?_
   refine JC.slNil Done ?_
   refine Aa ?_
   refine rn1 ?_
   refine s_B (cs := [v16.1, v16.2, .slice none 0 0]) Try.sizeOf46 ?_
   refine Ga1 ?_
   rw [Vg ht20]
   exact Fv (v16.1, v16.2, .slice none 0 0, .slice none 0 0) Try.isAgg46 Try.sizeOf46
  ·
   intro ht20
   refine Gm ?_
   refine Gb1 ?_
   refine Ga3 ?_
   have hok : (Bt c).2 = 0 := Decidable.not_not.1 ht20
   have e0 : bAt c l 0 = ((Bt c).1, []) := by unfold bAt; simp [Ey]
   refine JC.rowNil 84 Done ?_
   refine Bg (γ := Nat × Value × Value × Value × Value) (fun g => g.1 ≤ l.length ∧ g.1 ≤ 300) (fun g => row 84 g.2.2.2.2 (bAt c l g.1).2 :: blk b6 46 [g.2.1, g.2.2.1, g.2.2.2.1] :: blk b4 46 [.slice none 0 0, .slice none 0 0, .slice none 0 0] :: L) (fun g => sl g.2.1 (bAt c l g.1).1.cores :: sl g.2.2.1 (bAt c l g.1).1.home :: sl g.2.2.2.1 (bAt c l g.1).1.frames :: R) (fun g => [(4, bp b4 0), (6, bp b6 0), (8, g.2.2.2.2), (22, vl), (23, vi (l.length : Int)), (24, vi (g.1 : Int))]) (fun g => l.length - g.1) (0, v16.1, v16.2, .slice none 0 0, .slice none 0 0) ⟨Nat.zero_le _, by show 0 ≤ 300; omega⟩ alT (fun w hs => by rw [e0]; exact Aj hs) ?_
   rintro ⟨k, cv, hv, fv, dv⟩ ⟨hk, hk3⟩
   try simp only at hk hk3 ⊢
   refine Gm ?_
   refine Ga1 ?_
   refine cdx (p := ?p2) (hd := ?d2) ?e2 ?_ ?_; case e2 => exact rfl
   ·
    intro ht25
    refine Gl ?_
    refine JC.open0 (xs := l) (v := vl) k mm (by omega) (fun hsw => ?_)
    refine Aa ?_
    refine rn3 ?_
    refine al_ (cs := zStep.cells) Try.zeroValue98 ?_; intro b10
    refine rn1 ?_
    refine s_B (cs := (l.getD k zStep).cells) Try.sizeOf98 ?_
    refine Gm ?_
    refine Ga2 ?_
    refine cdx (p := ?p3) (hd := ?d3) ?e3 ?_ ?_; case e3 => exact rfl
    ·
     intro ht30
     refine Gl ?_
     refine JC.shut (v := dv) pkk ?_
     refine JC.know (p := cv.oneCell' = true ∧ hv.oneCell' = true ∧ fv.oneCell' = true) (fun w hs => ⟨isSlice.one (hs.fact (mm (f := sl cv (bAt c l k).1.cores))), isSlice.one (hs.fact (mm (f := sl hv (bAt c l k).1.home))), isSlice.one (hs.fact (mm (f := sl fv (bAt c l k).1.frames)))⟩) (fun h12 => ?_)
     obtain ⟨hone1, hone2, hone3⟩ := h12
     refine Aa ?_
     refine rn2 ?_
     refine s_B (cs := [cv, hv, fv]) Try.sizeOf46 ?_
     refine Ga1 ?_
     have ek : l.take k = l.take 300 := by
      first
       | rw [show k = 300 by omega]
       | rw [List.take_of_length_le (by omega), List.take_of_length_le (by omega)]
     rw [Qd hok ek]
     exact Fv (cv, hv, fv, dv) Try.isAgg46 Try.sizeOf46
    ·
     intro ht30
     refine Gm ?_
     refine rn2 ?_
     obtain ⟨n, nl, M, hI⟩ := Yx l hok k
     refine Ar Try.call64 rfl (fun w hs => refDo4 (x := (bAt c l k).1) (s := (l.getD k zStep)) hs mm mm mm hI hsw) ?_; intro v34
     refine J.know (p := v34.1.oneCell' = true ∧ v34.2.1.oneCell' = true ∧ v34.2.2.1.oneCell' = true) (fun w hs => ⟨isSlice.one (hs.fact (.head _)), isSlice.one (hs.fact (.tail _ (.head _))), isSlice.one (hs.fact (.tail _ (.tail _ (.head _))))⟩) (fun h12 => ?_)
     obtain ⟨hone1, hone2, hone3⟩ := h12
     refine rn4 ?_
     refine al_ (cs := [.slice none 0 0, .slice none 0 0, .slice none 0 0]) Try.zeroValue46 ?_; intro b11
     refine s_B (cs := [v34.1, v34.2.1, v34.2.2.1]) Try.sizeOf46 ?_
     refine Ga2 ?_
     refine kp [4, 5, 6, 8, 9, 10, 11, 12, 13, 22, 23, 24, 25, 26, 27, 28, 29, 30, 31, 32, 33, 34, 35, 36, 37, 38, 39] ?_
     refine Aa ?_
     refine Ga2 ?_
     refine cdx (p := ?p4) (hd := ?d4) ?e4 ?_ ?_; case e4 => exact rfl
     ·
      intro ht39
      refine Gm ?_
      refine rn1 ?_
      refine s_B (cs := [v34.1, v34.2.1, v34.2.2.1]) Try.sizeOf46 ?_
      refine Gm ?_
      refine rn2 ?_
      refine ap Jo (hb := fun w hs => by have : maxN = 16777216 := rfl; have h8 := Tl c l k; have h9 := V0 (bAt c l k).1 (l.getD k zStep); omega) (k := ?_); intro v43
      refine Gb1 ?_
      refine Ga2 ?_
      have e1 := Tk (c := c) (l := l) (k := k) (by omega) ht39
      refine A1 (k + 1, v34.1, v34.2.1, v34.2.2.1, v43) ⟨by show k + 1 ≤ l.length; omega, by show k + 1 ≤ 300; omega⟩ (by show l.length - (k + 1) < l.length - k; omega) alT (fun w hs => ?_)
      try simp only
      rw [e1]; exact Aj hs
     ·
      intro ht39
      refine Gm ?_
      refine Ga2 ?_
      have e1 := V4 (c := c) (l := l) (k := k) (by omega) ht39
      refine A1 (k + 1, cv, hv, fv, dv) ⟨by show k + 1 ≤ l.length; omega, by show k + 1 ≤ 300; omega⟩ (by show l.length - (k + 1) < l.length - k; omega) alT (fun w hs => ?_)
      try simp only
      rw [e1]; exact Aj hs
   ·
    intro ht25
    refine Gl ?_
    refine JC.shut (v := dv) pkk ?_
    refine JC.know (p := cv.oneCell' = true ∧ hv.oneCell' = true ∧ fv.oneCell' = true) (fun w hs => ⟨isSlice.one (hs.fact (mm (f := sl cv (bAt c l k).1.cores))), isSlice.one (hs.fact (mm (f := sl hv (bAt c l k).1.home))), isSlice.one (hs.fact (mm (f := sl fv (bAt c l k).1.frames)))⟩) (fun h12 => ?_)
    obtain ⟨hone1, hone2, hone3⟩ := h12
    refine Aa ?_
    refine rn2 ?_
    refine s_B (cs := [cv, hv, fv]) Try.sizeOf46 ?_
    refine Ga1 ?_
    have ek : l.take k = l.take 300 := by
     first
      | rw [show k = 300 by omega]
      | rw [List.take_of_length_le (by omega), List.take_of_length_le (by omega)]
    rw [Qd hok ek]
    exact Fv (cv, hv, fv, dv) Try.isAgg46 Try.sizeOf46
end Go.Proofs.Ytofgpimoekhfaaa

/- This file proves that the closed fact of the looks at a chip holds, and what the laws of them compute. No conditions. -/
set_option linter.unusedVariables false
set_option linter.unusedSimpArgs false
set_option maxHeartbeats 1000000
set_option maxRecDepth 8000
namespace Go.Proofs.Ytofgpimoekhfaaa
open Go
instance e0KV : El0 KV := ⟨fun x => x.c.cells x.u, fun x => x.c.wait.wf ∧ x.u.oneCell' = true, ⟨Hj, .slice none 0 0⟩, fun _ _ _ h => h⟩
theorem kv_new {L : List Chunk} {R : List Fact} {w : World} {v : Value} {l : List KV} {cs : List Core} (hm : sl v l ∈ R) (hl : cs.length = l.length) (h : ∀ (k : Nat) x c, l[k]? = some x → cs[k]? = some c → sl x.u c.lines ∈ R ∧ c.wait = x.c.wait) (hs : St L R w) : St L (sl v cs :: R) w := by
  obtain ⟨m, j, hd, hmm, hj, hst, hr⟩ := hs
  refine ⟨m, j, hd, hmm, hj, hst, fun f hf => ?_⟩
  rcases List.mem_cons.1 hf with e | e
  · rw [e]
    obtain ⟨base, cap, hv, hn, hc⟩ := hr _ hm
    refine ⟨base, cap, by rw [hl]; exact hv, by rw [hl]; exact hn, fun hx => ?_⟩
    have hx' : l ≠ [] := fun e2 => hx (List.length_eq_zero_iff.1 (by rw [hl, e2]; rfl))
    obtain ⟨a, cells, T, fz, cc, h1, h2, h3, h4, h5⟩ := hc hx'
    obtain ⟨rs, g1, g2, g3⟩ := h5.raw
    refine ⟨a, cells, T, fz, cc, h1, h2, h3, by rw [hl]; exact h4, RdL.typed (α := Core) (xs := cs) (rs := rs) g1 (g2.trans hl.symm) (fun k c r hk hkr => ?_)⟩
    have hlt : k < l.length := by rw [← hl]; exact (List.getElem?_eq_some_iff.1 hk).1
    have g := g3 k l[k] r (List.getElem?_eq_getElem hlt) hkr
    obtain ⟨s1, s2⟩ := h k l[k] c (List.getElem?_eq_getElem hlt) hk
    exact ⟨l[k].u, by rw [show r.1 = _ from g.1]; unfold Core.cells; rw [s2], hr _ s1, by rw [s2]; exact g.2.1⟩
  · exact hr f e
def aX : Chip := ⟨[⟨[zLine], zOp⟩, ⟨[zLine], zOp⟩], [⟨0, -1, 0, 0, 0, 0, false, 0, 0, [0, 0]⟩], []⟩
def aL2 : Line := { zLine with state := 2 }
def aL1 : Line := { zLine with state := 1 }
def aY : Chip := ⟨[⟨[aL2], zOp⟩, ⟨[aL1], zOp⟩], [⟨0, -1, 0, 0, 0, 0, false, 0, 0, [0, 0]⟩], []⟩
theorem a_new : Bt ⟨2, 1⟩ = (aX, 0) := by decide
theorem a_ax : Dd aX = true := by decide
theorem a_ay : Dd aY = false := by decide
theorem a_cx : Ef aX = true := by decide
theorem a_wx : Cv aX = 0 := by decide
theorem a_wy : Cv aY = 6 := by decide
theorem a_sx : Ee aX = true := by decide
theorem a_kx : Db aX = true := by decide
theorem a_ky : Db aY = false := by decide
theorem a_vx : C3 aX 0 = 0 := by decide
theorem a_px : E1 ⟨(aX.cores.length : Int), (aX.home.length : Int)⟩ aX = 0 := by decide
theorem Rg : CX aX := by
  refine ⟨by decide, by decide, fun p hp => ?_, fun i hi => ?_, fun i hi h0 => ?_, fun i hi => ?_⟩
  · have hp : p < 2 := hp
    rcases (show p = 0 ∨ p = 1 by omega) with e | e <;> subst e <;> rfl
  all_goals (have hi : i < 1 := hi; obtain rfl : i = 0 := by omega)
  · rfl
  · exact absurd h0 (by decide)
  · decide
theorem Yh : CX aY := by
  refine ⟨by decide, by decide, fun p hp => ?_, fun i hi => ?_, fun i hi h0 => ?_, fun i hi => ?_⟩
  · have hp : p < 2 := hp
    rcases (show p = 0 ∨ p = 1 by omega) with e | e <;> subst e <;> rfl
  all_goals (have hi : i < 1 := hi; obtain rfl : i = 0 := by omega)
  · rfl
  · exact absurd h0 (by decide)
  · decide
theorem ks_two {ks : List KV} (h : ks.map KV.c = aX.cores) : ∃ u0 u1, ks = [⟨⟨[zLine], zOp⟩, u0⟩, ⟨⟨[zLine], zOp⟩, u1⟩] := by
 match ks, h with
 | [⟨c0, u0⟩, ⟨c1, u1⟩], h =>
  simp only [aX, List.map_cons, List.map_nil, List.cons.injEq, and_true] at h
  exact ⟨u0, u1, by rw [h.1, h.2]⟩
 | [], h => cases h
 | [_], h => simp [aX] at h
 | _ :: _ :: _ :: _, h => simp [aX] at h
theorem Is {L : List Chunk} {R : List Fact} {w : World}  (hs : St (L) R w) : Calls Try.prog 50 [].toArray w (Cg (fun _ : Unit => .bool true) (fun _ => L) (fun _ => R)) := by
  refine Ah Try.func50 rfl Try.ntmps50 rfl hs ?_
  clear hs
  refine Gm ?_
  refine Gb1 ?_
  refine rn1 ?_
  refine Ar Try.call35 rfl (fun w hs => by have h := Vt (c := ⟨2, 1⟩) hs (by unfold Config.wf An; decide); rw [a_new] at h; exact h) ?_; intro v6
  refine J.know (p := v6.1.oneCell' = true ∧ v6.2.oneCell' = true) (fun w hs => ⟨isSlice.one (hs.fact (.head _)), isSlice.one (hs.fact (.tail _ (.head _)))⟩) (fun h12 => ?_)
  obtain ⟨hone1, hone2⟩ := h12
  refine rn3 ?_
  refine al_ (cs := [.slice none 0 0, .slice none 0 0, .slice none 0 0]) Try.zeroValue46 ?_; intro b1
  refine s_B (cs := [v6.1, v6.2, .slice none 0 0]) Try.sizeOf46 ?_
  refine Gb1 ?_
  refine rn1 ?_
  refine Ar Try.call87 rfl (fun w hs => Yo (x := aX) (cv := v6.1) (hv := v6.2) (fv := .slice none 0 0) hs mm mm mm (by decide)) ?_; intro ⟨cY, hY, fY, ks⟩
  refine J.know (p := ks.map KV.c = aX.cores) (fun w hs => pr_of (.head _) hs) (fun hks => ?_)
  obtain ⟨u0, u1, rfl⟩ := ks_two hks
  simp only [List.map_cons, List.map_nil, List.cons_append, List.nil_append, Wt]
  refine J.shut (v := cY) (xs := [(⟨⟨[zLine], zOp⟩, u0⟩ : KV), ⟨⟨[zLine], zOp⟩, u1⟩]) pkk ?_
  refine J.know (p := cY.oneCell' = true ∧ hY.oneCell' = true ∧ fY.oneCell' = true) (fun w hs => ⟨isSlice.one (hs.fact (.head _)), isSlice.one (hs.fact (mm (f := sl hY aX.home))), isSlice.one (hs.fact (mm (f := sl fY aX.frames)))⟩) (fun h12 => ?_)
  obtain ⟨hone3, hone4, hone5⟩ := h12
  refine al_ (cs := [.slice none 0 0, .slice none 0 0, .slice none 0 0]) Try.zeroValue46 ?_; intro b3
  refine s_B (cs := [cY, hY, fY]) Try.sizeOf46 ?_
  refine Gm ?_
  refine rn3 ?_
  refine ob (Ae rfl rfl (Cb rfl)) ?_
  refine Glc ?_
  refine JC.open0 (xs := [(⟨⟨[zLine], zOp⟩, u0⟩ : KV), ⟨⟨[zLine], zOp⟩, u1⟩]) (v := cY) 0 mm (by simp) (fun hk0 => ?_)
  refine JC.open0 (xs := [(⟨⟨[zLine], zOp⟩, u0⟩ : KV), ⟨⟨[zLine], zOp⟩, u1⟩]) (v := cY) 1 mm (by simp) (fun hk1 => ?_)
  refine JC.focus0 (T := 82) (v := u0) (xs := [zLine]) 0 pkk (by decide) (fun _ => ?_)
  refine JC.focus0 (T := 82) (v := u1) (xs := [zLine]) 0 pkk (by decide) (fun _ => ?_)
  refine cq_ (foc 82 u0 [zLine] 0 [vi 0, vi 0, vi 0, vi 0, vi 0, vi 0, vi 0] :: foc 82 u1 [zLine] 0 [vi 0, vi 0, vi 0, vi 0, vi 0, vi 0, vi 0] :: blk b3 46 [cY, hY, fY] :: blk b1 46 [v6.1, v6.2, .slice none 0 0] :: L) ?_
  refine jd_ (fun ρ S => foc 82 u0 [zLine] 0 (bif S 12 then [vi 2, vi 0, vi 0, vi 0, vi 0, vi 0, vi 0] else [vi 0, vi 0, vi 0, vi 0, vi 0, vi 0, vi 0]) :: foc 82 u1 [zLine] 0 (bif S 15 then [vi 1, vi 0, vi 0, vi 0, vi 0, vi 0, vi 0] else [vi 0, vi 0, vi 0, vi 0, vi 0, vi 0, vi 0]) :: blk b3 46 [cY, hY, fY] :: blk b1 46 [v6.1, v6.2, .slice none 0 0] :: L) ?_
  refine dn2 ?_
  first | refine epc (fun _ _ => D4 (i := 0) K8) ?_ | refine epp (fun _ _ => D4 (i := 0) K8) ?_
  first | refine epc (fun _ _ => Oq Gc) ?_ | refine epc (fun _ _ => Oo Gc) ?_ | refine epp (fun _ _ => Oq Gc) ?_ | refine epp (fun _ _ => Oo Gc) ?_
  first | refine epc (fun _ _ => C6 Try.isAgg67) ?_ | refine epp (fun _ _ => C6 Try.isAgg67) ?_
  refine dn2 ?_
  first | refine epc (fun _ _ => D4 (i := 1) K8) ?_ | refine epp (fun _ _ => D4 (i := 1) K8) ?_
  first | refine epc (fun _ _ => Oq Gc) ?_ | refine epc (fun _ _ => Oo Gc) ?_ | refine epp (fun _ _ => Oq Gc) ?_ | refine epp (fun _ _ => Oo Gc) ?_
  first | refine epc (fun _ _ => C6 Try.isAgg67) ?_ | refine epp (fun _ _ => C6 Try.isAgg67) ?_
  first | refine epc (fun _ _ => D4 (i := 0) Qo) ?_ | refine epp (fun _ _ => D4 (i := 0) Qo) ?_
  first | refine epc (fun _ _ => Oq Gb) ?_ | refine epc (fun _ _ => Oo Gb) ?_ | refine epp (fun _ _ => Oq Gb) ?_ | refine epp (fun _ _ => Oo Gb) ?_
  refine P7 (T0 := 82) (f := 0) (k := 0) (sz := 7) (hv := u0) (xs := [zLine]) (vs := fun ρ => [vi 0, vi 0, vi 0, vi 0, vi 0, vi 0, vi 0]) (v := fun ρ => vi 2) rfl Try.sizeOf3 (fun _ => rfl) (fun _ => rfl) (fun _ _ _ _ _ _ _ _ => rfl) (fun _ => rfl) (fun ρ g S hS hB hA => ?_) ?_
  ·
   have ui : upS S 12 12 = true := rfl; have u15 : upS S 12 15 = S 15 := rfl
   simp only [ui, hS, u15, cond_true, cond_false]
   exact Pos.ex (by repeat (first | exact .hd | exact .hc | apply Pos.tl | apply Pos.ap))
  first | refine epc (fun _ _ => D4 (i := 0) Qo) ?_ | refine epp (fun _ _ => D4 (i := 0) Qo) ?_
  first | refine epc (fun _ _ => Oq Gb) ?_ | refine epc (fun _ _ => Oo Gb) ?_ | refine epp (fun _ _ => Oq Gb) ?_ | refine epp (fun _ _ => Oo Gb) ?_
  refine P7 (T0 := 82) (f := 0) (k := 0) (sz := 7) (hv := u1) (xs := [zLine]) (vs := fun ρ => [vi 0, vi 0, vi 0, vi 0, vi 0, vi 0, vi 0]) (v := fun ρ => vi 1) rfl Try.sizeOf3 (fun _ => rfl) (fun _ => rfl) (fun _ _ _ _ _ _ _ _ => rfl) (fun _ => rfl) (fun ρ g S hS hB hA => ?_) ?_
  ·
   have ui : upS S 15 15 = true := rfl; have u12 : upS S 15 12 = S 12 := rfl
   simp only [ui, hS, u12, cond_true, cond_false]
   exact Pos.ex (by repeat (first | exact .hd | exact .hc | apply Pos.tl | apply Pos.ap))
  refine dnl ?_; intro ρ
  refine xq_ (foc 82 u0 [zLine] 0 [vi 2, vi 0, vi 0, vi 0, vi 0, vi 0, vi 0] :: foc 82 u1 [zLine] 0 [vi 1, vi 0, vi 0, vi 0, vi 0, vi 0, vi 0] :: blk b3 46 [cY, hY, fY] :: blk b1 46 [v6.1, v6.2, .slice none 0 0] :: L) ?_
  refine Gl ?_
  refine JC.conseq (L' := row 82 u0 [aL2] :: foc 82 u1 [zLine] 0 [vi 1, vi 0, vi 0, vi 0, vi 0, vi 0, vi 0] :: blk b3 46 [cY, hY, fY] :: blk b1 46 [v6.1, v6.2, .slice none 0 0] :: L) (fun w hs => Aj (Nv (ls := [zLine]) (i := 0) aL2 (by unfold Line.wf An; decide) (hs.pick pkk))) ?_
  refine JC.conseq (L' := row 82 u1 [aL1] :: row 82 u0 [aL2] :: blk b3 46 [cY, hY, fY] :: blk b1 46 [v6.1, v6.2, .slice none 0 0] :: L) (fun w hs => Aj (Nv (ls := [zLine]) (i := 0) aL1 (by unfold Line.wf An; decide) (hs.pick pkk))) ?_
  refine JC.shut (v := u0) (xs := [aL2]) pkk ?_
  refine JC.shut (v := u1) (xs := [aL1]) pkk ?_
  refine JC.conseq (fun w hs => kv_new (v := cY) (l := [(⟨⟨[zLine], zOp⟩, u0⟩ : KV), ⟨⟨[zLine], zOp⟩, u1⟩]) (cs := [⟨[aL2], zOp⟩, ⟨[aL1], zOp⟩]) mm rfl (fun k x c h1 h2 => by rcases k with _ | _ | k <;> simp at h1 h2 <;> subst h1 h2 <;> exact ⟨mm, rfl⟩) hs) ?_
  refine kp [0, 1, 3, 29, 30, 31, 32, 33, 34, 35, 36, 37, 38, 39, 40, 41, 42, 43, 44, 45, 46, 47, 48, 49, 50, 51, 52, 53, 54, 55, 56, 57, 58, 59, 60, 61, 62, 63, 64, 65, 66, 67, 68, 69, 70, 71, 72] ?_
  refine Aa ?_
  refine rn1 ?_
  refine Ar Try.call51 rfl (fun w hs => by have h := G7 (cv := v6.1) (hv := v6.2) (fv := .slice none 0 0) (x := aX) hs mm mm Rg rfl; rw [a_ax] at h; exact h) ?_; intro _
  refine rn2 ?_
  refine gy ?_
  refine Ar Try.call51 rfl (fun w hs => by have h := G7 (cv := cY) (hv := hY) (fv := fY) (x := aY) hs mm mm Yh hone5; rw [a_ay] at h; exact h) ?_; intro _
  refine rn4 ?_
  refine gy ?_
  refine Ar Try.call59 rfl (fun w hs => by have h := Mo (cv := v6.1) (hv := v6.2) (fv := .slice none 0 0) (x := aX) hs mm mm Rg mm rfl; rw [a_cx] at h; exact h) ?_; intro _
  refine rn3 ?_
  refine gy ?_
  refine Ar Try.call54 rfl (fun w hs => by have h := Kx (cv := v6.1) (hv := v6.2) (fv := .slice none 0 0) (x := aX) hs mm mm Rg mm rfl; rw [a_wx] at h; exact h) ?_; intro _
  refine gy ?_
  refine ob (Ae rfl rfl (Av rfl)) ?_
  refine rn3 ?_
  refine gy ?_
  refine Ar Try.call54 rfl (fun w hs => by have h := Kx (cv := cY) (hv := hY) (fv := fY) (x := aY) hs mm mm Yh mm hone5; rw [a_wy] at h; exact h) ?_; intro _
  refine gy ?_
  refine ob (Ae rfl rfl (Av rfl)) ?_
  refine rn3 ?_
  refine gy ?_
  refine Ar Try.call52 rfl (fun w hs => by have h := Ip (cv := v6.1) (hv := v6.2) (fv := .slice none 0 0) (x := aX) hs mm mm Rg rfl; rw [a_sx] at h; exact h) ?_; intro _
  refine rn3 ?_
  refine gy ?_
  refine Ar Try.call53 rfl (fun w hs => by have h := G6 (cv := v6.1) (hv := v6.2) (fv := .slice none 0 0) (x := aX) hs mm mm Rg rfl; rw [a_kx] at h; exact h) ?_; intro _
  refine rn3 ?_
  refine gy ?_
  refine Ar Try.call53 rfl (fun w hs => by have h := G6 (cv := cY) (hv := hY) (fv := fY) (x := aY) hs mm mm Yh hone5; rw [a_ky] at h; exact h) ?_; intro _
  refine rn4 ?_
  refine gy ?_
  refine Ar Try.call56 rfl (fun w hs => by have h := Ky (i := 0) (cv := v6.1) (hv := v6.2) (fv := .slice none 0 0) (x := aX) hs mm mm Rg rfl (by decide); rw [a_vx] at h; exact h) ?_; intro _
  refine gy ?_
  refine ob (Ae rfl rfl (Av rfl)) ?_
  refine rn3 ?_
  refine gy ?_
  refine Ar Try.call58 rfl (fun w hs => by have h := I7 (cv := v6.1) (hv := v6.2) (fv := .slice none 0 0) (x := aX) hs mm mm mm rfl; rw [a_px] at h; exact h) ?_; intro _
  refine gy ?_
  refine ob (Ae rfl rfl (Av rfl)) ?_
  refine Ga2 ?_
  exact Bm ()
theorem K1 {L : List Chunk} {R : List Fact} {w : World} {vl : Value} {c : Config} {l : List Step} (hs : St (L) R w) (hl : sl vl l ∈ R) (hcw : c.wf) : Calls Try.prog 13 [.agg c.cells.toArray, vl].toArray w (Cg (fun _ : Unit => .bool true) (fun _ => L) (fun _ => R)) := by
 refine Ah Try.func13 rfl Try.ntmps13 rfl hs ?_
 clear hs
 refine Gm ?_
 refine bx ?_; intro b2
 refine Gb1 ?_
 refine Ar Try.call50 rfl (fun w hs => Is hs) ?_; intro _
 refine Gd1 ?_
 refine rn2 ?_
 refine Ar Try.call28 rfl (fun w hs => H5 (c := c) (l := l) hs mm hcw) ?_; intro v12
 refine J.know (p := v12.1.oneCell' = true ∧ v12.2.1.oneCell' = true ∧ v12.2.2.1.oneCell' = true) (fun w hs => ⟨isSlice.one (hs.fact (.head _)), isSlice.one (hs.fact (.tail _ (.head _))), isSlice.one (hs.fact (.tail _ (.tail _ (.head _))))⟩) (fun h12 => ?_)
 obtain ⟨hone1, hone2, hone3⟩ := h12
 refine rn3 ?_
 refine al_ (cs := [.slice none 0 0, .slice none 0 0, .slice none 0 0]) Try.zeroValue46 ?_; intro b5
 refine s_B (cs := [v12.1, v12.2.1, v12.2.2.1]) Try.sizeOf46 ?_
 refine Gb1 ?_
 refine rn1 ?_
 refine Ar Try.call51 rfl (fun w hs => by have h := G7 (x := (build c l).1) hs mm mm (Cw c l).1 hone3; rw [(Cw c l).2.1.1] at h; exact h) ?_; intro _
 refine Ga1 ?_
 exact Bm ()
theorem Le {L : List Chunk} {R : List Fact} {w : World} {vl : Value} {c : Config} {l : List Step} (hs : St (L) R w) (hl : sl vl l ∈ R) (hcw : c.wf) : Calls Try.prog 14 [.agg c.cells.toArray, vl].toArray w (Cg (fun _ : Unit => .bool true) (fun _ => L) (fun _ => R)) := by
 refine Ah Try.func14 rfl Try.ntmps14 rfl hs ?_
 clear hs
 refine Gm ?_
 refine bx ?_; intro b2
 refine Gb1 ?_
 refine Ar Try.call50 rfl (fun w hs => Is hs) ?_; intro _
 refine Gd1 ?_
 refine rn2 ?_
 refine Ar Try.call28 rfl (fun w hs => H5 (c := c) (l := l) hs mm hcw) ?_; intro v12
 refine J.know (p := v12.1.oneCell' = true ∧ v12.2.1.oneCell' = true ∧ v12.2.2.1.oneCell' = true) (fun w hs => ⟨isSlice.one (hs.fact (.head _)), isSlice.one (hs.fact (.tail _ (.head _))), isSlice.one (hs.fact (.tail _ (.tail _ (.head _))))⟩) (fun h12 => ?_)
 obtain ⟨hone1, hone2, hone3⟩ := h12
 refine rn3 ?_
 refine al_ (cs := [.slice none 0 0, .slice none 0 0, .slice none 0 0]) Try.zeroValue46 ?_; intro b5
 refine s_B (cs := [v12.1, v12.2.1, v12.2.2.1]) Try.sizeOf46 ?_
 refine Gb1 ?_
 refine rn1 ?_
 refine Ar Try.call52 rfl (fun w hs => by have h := Ip (x := (build c l).1) hs mm mm (Cw c l).1 hone3; rw [(Cw c l).2.1.2.1] at h; exact h) ?_; intro _
 refine Ga1 ?_
 exact Bm ()
theorem K0 {L : List Chunk} {R : List Fact} {w : World} {vl : Value} {c : Config} {l : List Step} (hs : St (L) R w) (hl : sl vl l ∈ R) (hcw : c.wf) : Calls Try.prog 15 [.agg c.cells.toArray, vl].toArray w (Cg (fun _ : Unit => .bool true) (fun _ => L) (fun _ => R)) := by
 refine Ah Try.func15 rfl Try.ntmps15 rfl hs ?_
 clear hs
 refine Gm ?_
 refine bx ?_; intro b2
 refine Gb1 ?_
 refine Ar Try.call50 rfl (fun w hs => Is hs) ?_; intro _
 refine Gd1 ?_
 refine rn2 ?_
 refine Ar Try.call28 rfl (fun w hs => H5 (c := c) (l := l) hs mm hcw) ?_; intro v12
 refine J.know (p := v12.1.oneCell' = true ∧ v12.2.1.oneCell' = true ∧ v12.2.2.1.oneCell' = true) (fun w hs => ⟨isSlice.one (hs.fact (.head _)), isSlice.one (hs.fact (.tail _ (.head _))), isSlice.one (hs.fact (.tail _ (.tail _ (.head _))))⟩) (fun h12 => ?_)
 obtain ⟨hone1, hone2, hone3⟩ := h12
 refine rn3 ?_
 refine al_ (cs := [.slice none 0 0, .slice none 0 0, .slice none 0 0]) Try.zeroValue46 ?_; intro b5
 refine s_B (cs := [v12.1, v12.2.1, v12.2.2.1]) Try.sizeOf46 ?_
 refine Gb1 ?_
 refine rn1 ?_
 refine Ar Try.call53 rfl (fun w hs => by have h := G6 (x := (build c l).1) hs mm mm (Cw c l).1 hone3; rw [(Cw c l).2.1.2.2.1] at h; exact h) ?_; intro _
 refine rn2 ?_
 refine gy ?_
 refine Ar Try.call54 rfl (fun w hs => by have h := Kx (x := (build c l).1) hs mm mm (Cw c l).1 mm hone3; rw [(Cw c l).2.1.2.2.2] at h; exact h) ?_; intro _
 refine gy ?_
 refine ob (Ae rfl rfl (Av rfl)) ?_
 refine Ga2 ?_
 exact Bm ()
end Go.Proofs.Ytofgpimoekhfaaa

/- This file proves what operations come to on memory that is one, by the document's answer. No conditions. -/
set_option linter.unusedVariables false
set_option linter.unusedSimpArgs false
set_option maxHeartbeats 1000000
set_option maxRecDepth 8000
namespace Go.Proofs.Ytofgpimoekhfaaa
open Go
theorem Wb {L : List Chunk} {R : List Fact} {w : World} {v1 : Value} {l : List Done} {lines : Int} (hs : St (L) R w) (h1 : sl v1 l ∈ R) (hl0 : 0 ≤ lines) (hl4 : lines ≤ 100) : Calls Try.prog 55 [vi lines, v1].toArray w (Cg (fun v : Value => .tuple #[v, vi (Fl lines l).2]) (fun v => L) (fun v => sl v (Fl lines l).1 :: R)) := by
  have hlen := Bv h1 hs
  refine Ah Try.func55 rfl Try.ntmps55 rfl hs ?_
  clear hs
  refine Gm ?_
  refine Gb2 ?_
  refine Gb1 ?_
  refine rn1 ?_
  refine ob (q_mx (a := lines) rfl hl0) ?_
  refine Ga1 ?_
  refine JC.rowNil 3 Int ?_
  refine Bg (γ := Nat × Value) (fun g => (g.1 : Int) ≤ lines) (fun g => row 3 g.2 (List.replicate g.1 (0 : Int)) :: L) (fun _ => R) (fun g => [(1, v1), (6, g.2), (13, vi lines), (14, vi (g.1 : Int))]) (fun g => lines.toNat - g.1) (0, .slice none 0 0) (by show (0 : Int) ≤ lines; omega) alT (fun w hs => Aj hs) ?_
  rintro ⟨k, v6⟩ hk
  try simp only at hk ⊢
  refine Gm ?_
  refine Ga1 ?_
  refine cdx (p := ?p1) (hd := ?d1) ?e1 ?_ ?_; case e1 => exact rfl
  ·
   intro ht15
   refine Gm ?_
   refine rn1 ?_
   refine li (α := Int) ([0] : List Int) D3 rfl (fun j hj => ⟨⟨_, rfl, rfl, by unfold An; decide⟩, trivial⟩) ?_; intro v17
   refine ap D3 (hb := fun w hs => by have : maxN = 16777216 := rfl; simp only [List.length_cons, List.length_nil, List.length_replicate]; omega) (k := ?_); intro v18
   refine Gb1 ?_
   refine Ga2 ?_
   refine A1 (k + 1, v18) (by show ((k + 1 : Nat) : Int) ≤ lines; omega) (by show lines.toNat - (k + 1) < lines.toNat - k; omega) alT (fun w hs => ?_)
   try simp only
   rw [List.replicate_succ']; exact Aj hs
  ·
   intro ht15
   refine Gl ?_
   have hkl : lines.toNat = k := by omega
   refine JC.shut (v := v6) pkk ?_
   rw [show List.replicate k (0 : Int) = Qj lines by unfold Qj; rw [hkl]]
   refine Aa ?_
   refine Ga3 ?_
   refine Bg (γ := Nat × Value × List Int) (fun g => g.1 ≤ l.length ∧ g.2.2.length ≤ 16777216 ∧ Fl lines l = Es g.2.2 (g.1 : Int) (l.drop g.1)) (fun _ => L) (fun g => sl g.2.1 g.2.2 :: R) (fun g => [(6, g.2.1), (20, v1), (21, vi (l.length : Int)), (22, vi (g.1 : Int))]) (fun g => l.length - g.1) (0, v6, Qj lines) ⟨by simp, by unfold Qj; rw [List.length_replicate]; omega, rfl⟩ alT (fun w hs => Aj hs) ?_
   rintro ⟨j, v, mk⟩ ⟨hj, hmk, hpl⟩
   try simp only at hj hmk hpl ⊢
   refine Gm ?_
   refine Ga1 ?_
   refine cdx (p := ?p2) (hd := ?d2) ?e2 ?_ ?_; case e2 => exact rfl
   ·
    intro ht23
    refine Gl ?_
    refine JC.open0 (xs := l) (v := v1) j mm (by omega) (fun hdw => ?_)
    have hd : l[j]? = some (l.getD j zDone) := by rw [List.getD_eq_getElem?_getD, List.getElem?_eq_getElem (by omega)]; rfl
    refine Aa ?_
    refine rn3 ?_
    refine al_ (cs := zDone.cells) Try.zeroValue84 ?_; intro b8
    refine rn1 ?_
    refine s_B (cs := (l.getD j zDone).cells) Try.sizeOf84 ?_
    refine Gm ?_
    refine rn2 ?_
    refine ob (O2 3 Try.isAgg66 Try.sizeOf66) ?_
    refine Ar Try.call90 rfl (fun w hs => refDo (m := mk) (o := (l.getD j zDone).op) hs mm) ?_; intro v31
    refine Ga7 ?_
    refine kp [4, 5, 6, 7, 8, 9, 10, 11, 20, 21, 22, 23, 24, 25, 26, 27, 28, 29, 30, 31, 32, 33, 34, 35, 36, 37, 38, 39, 40, 41, 42] ?_
    refine Da 42 (.bool (decide (((Ca mk (l.getD j zDone).op).2.2 ≠ 0) ∨ ((Ca mk (l.getD j zDone).op).2.1 ≠ (l.getD j zDone).value)))) ?_ ?_
    ·
     rcases (show (((Ca mk (l.getD j zDone).op).2.2 ≠ 0)) ∨ (¬ ((Ca mk (l.getD j zDone).op).2.2 ≠ 0) ∧ ((Ca mk (l.getD j zDone).op).2.1 ≠ (l.getD j zDone).value)) ∨ (¬ ((Ca mk (l.getD j zDone).op).2.2 ≠ 0) ∧ ¬ ((Ca mk (l.getD j zDone).op).2.1 ≠ (l.getD j zDone).value)) from by omega) with hm | hm | hm
     ·
      refine Aa ?_
      refine rn1 ?_
      refine ob (Ae rfl rfl (Cn (by omega))) ?_
      refine Ga6 ?_
      refine Ap ?_ (fun w hs => hs)
      refine ⟨by first | exact congrArg (fun b => some (Value.bool b)) (decide_eq_true (by omega)).symm | exact congrArg (fun b => some (Value.bool b)) (by simp; omega), alT⟩
     ·
      refine Aa ?_
      refine rn1 ?_
      refine ob (Ae rfl rfl (Cb (by omega))) ?_
      refine rn4 ?_
      refine gy ?_
      refine ob (Ae rfl rfl (Cn (by omega))) ?_
      refine Ga1 ?_
      refine Ap ?_ (fun w hs => hs)
      refine ⟨by first | exact congrArg (fun b => some (Value.bool b)) (decide_eq_true (by omega)).symm | exact congrArg (fun b => some (Value.bool b)) (by simp; omega), alT⟩
     ·
      refine Aa ?_
      refine rn1 ?_
      refine ob (Ae rfl rfl (Cb (by omega))) ?_
      refine rn4 ?_
      refine gy ?_
      refine ob (Ae rfl rfl (Cb (by omega))) ?_
      refine Ga1 ?_
      refine Ap ?_ (fun w hs => hs)
      refine ⟨by first | exact congrArg (fun b => some (Value.bool b)) (decide_eq_false (by omega)).symm | exact congrArg (fun b => some (Value.bool b)) (by simp; omega), alT⟩
    ·
     refine As ?_
     refine Gl ?_
     first | (refine cdx (p := ?p3) (hd := ?d3) ?e3 ?_ ?_; case e3 => exact rfl) | (refine Bh (b := ?b3) ?e3 ?_ ?_; case e3 => exact rfl)
     ·
      intro ht42
      refine Gm ?_
      refine Ga4 ?_
      have er : Fl lines l = (mk, (j : Int)) := by rw [hpl, S4 hd, L7 (by omega)]
      rw [er]
      exact C9 v
     ·
      intro ht42
      refine Gm ?_
      refine Gb2 ?_
      refine Ga2 ?_
      refine A1 (j + 1, v31, (Ca mk (l.getD j zDone).op).1) ⟨by show j + 1 ≤ l.length; omega, Nat.le_trans Q7 hmk, ?_⟩ (by show l.length - (j + 1) < l.length - j; omega) alT (fun w hs => Aj hs)
      show Fl lines l = Es (Ca mk (l.getD j zDone).op).1 ((j + 1 : Nat) : Int) (l.drop (j + 1))
      rw [hpl, S4 hd, Kc (by rintro (h | h) <;> omega)]; rfl
   ·
    intro ht23
    refine Gm ?_
    refine Ga3 ?_
    have er : Fl lines l = (mk, -1) := by rw [hpl, List.drop_of_length_le (by omega)]; rfl
    rw [er]
    exact C9 v
end Go.Proofs.Ytofgpimoekhfaaa

/- This file proves what the laws of looks at a chip compute: values, and what is spoilt. No conditions. -/
set_option linter.unusedVariables false
set_option linter.unusedSimpArgs false
set_option maxHeartbeats 1000000
set_option maxRecDepth 8000
namespace Go.Proofs.Ytofgpimoekhfaaa
open Go
theorem Vh {c : Config} {l : List Step} (h : ¬ ((build c l).1.cores.length : Int) = 0) : ∃ n nl : Nat, c = Ft n nl ∧ ∃ M, Inv n nl (build c l).1 M ∧ Ds (List.replicate nl 0) (build c l).2 M := by
  rcases Hy c l with e | e
  · rw [e] at h; exact absurd rfl h
  · exact e
theorem Ov (c : Config) (l : List Step) : E0 (C8 c (build c l).1) (build c l).1.frames.length = E1 ⟨((build c l).1.cores.length : Int), ((build c l).1.home.length : Int)⟩ (build c l).1 := by
  unfold E1
  rcases Hy c l with e | ⟨n, nl, hc, M, hI, _⟩
  · rw [e]; rfl
  · rw [hI.nc, hI.nh]
    have : c = ⟨(n : Int), (nl : Int)⟩ := hc
    rw [← this]
theorem Kz {L : List Chunk} {R : List Fact} {w : World} {vl : Value} {c : Config} {l : List Step} (hs : St (L) R w) (hl : sl vl l ∈ R) (hcw : c.wf) : Calls Try.prog 16 [.agg c.cells.toArray, vl].toArray w (Cg (fun _ : Unit => .bool true) (fun _ => L) (fun _ => R)) := by
  refine Ah Try.func16 rfl Try.ntmps16 rfl hs ?_
  clear hs
  refine Gm ?_
  refine bx ?_; intro b2
  refine Gb1 ?_
  refine Ar Try.call50 rfl (fun w hs => Is hs) ?_; intro _
  refine Gd1 ?_
  refine rn2 ?_
  refine Ar Try.call28 rfl (fun w hs => H5 (c := c) (l := l) hs mm hcw) ?_; intro v16
  refine J.know (p := v16.1.oneCell' = true ∧ v16.2.1.oneCell' = true ∧ v16.2.2.1.oneCell' = true) (fun w hs => ⟨isSlice.one (hs.fact (.head _)), isSlice.one (hs.fact (.tail _ (.head _))), isSlice.one (hs.fact (.tail _ (.tail _ (.head _))))⟩) (fun h12 => ?_)
  obtain ⟨hone1, hone2, hone3⟩ := h12
  refine rn3 ?_
  refine al_ (cs := [.slice none 0 0, .slice none 0 0, .slice none 0 0]) Try.zeroValue46 ?_; intro b5
  refine s_B (cs := [v16.1, v16.2.1, v16.2.2.1]) Try.sizeOf46 ?_
  refine Gb1 ?_
  refine Ga4 ?_
  refine cdx (p := ?p1) (hd := ?d1) ?e1 ?_ ?_; case e1 => exact rfl
  ·
   intro ht22
   refine Gm ?_
   refine Ga1 ?_
   exact Bm ()
  ·
   intro ht22
   obtain ⟨n, nl, hcc, M, hI, hdo⟩ := Vh ht22
   have hnc := hI.nc
   have hnh := hI.nh
   have hn1 := hI.n1
   have hn2 := hI.l1
   have hcl : c.lines = (nl : Int) := by rw [hcc]; rfl
   have hml : M.length = nl := hI.ml
   have hfp : Fl c.lines (build c l).2 = (M, -1) := by
    unfold Fl Qj
    rw [hcl, Int.toNat_natCast]; exact Np hdo
   refine Gm ?_
   refine rn3 ?_
   refine Ar Try.call55 rfl (fun w hs => by have h := Wb (l := (build c l).2) (lines := c.lines) hs mm (by omega) (by omega); rw [hfp] at h; exact h) ?_; intro v27
   refine Gb5 ?_
   refine rn1 ?_
   refine ob (Ae rfl rfl (Bc (show ¬ (0 : Int) ≤ -1 by decide))) ?_
   refine Gmc ?_
   refine Ga3 ?_
   refine Bg (γ := Nat) (fun k => k ≤ M.length) (fun _ => blk b5 46 [v16.1, v16.2.1, v16.2.2.1] :: L) (fun _ => sl v27 M :: sl v16.1 (build c l).1.cores :: sl v16.2.1 (build c l).1.home :: R) (fun k => [(5, bp b5 0), (32, v27), (33, vi (M.length : Int)), (34, vi (k : Int))]) (fun k => M.length - k) 0 (Nat.zero_le _) alT (fun w hs => Aj hs) ?_
   intro k hk
   refine Gl ?_
   refine kp [4, 5, 32, 33, 34, 35] ?_
   refine Aa ?_
   refine Ga1 ?_
   refine cdx (p := ?p2) (hd := ?d2) ?e2 ?_ ?_; case e2 => exact rfl
   ·
    intro ht35
    refine Gl ?_
    refine JC.open0 (xs := M) (v := v27) k mm (by omega) (fun _ => ?_)
    refine Aa ?_
    refine Gb5 ?_
    refine rn2 ?_
    refine Ar Try.call56 rfl (fun w hs => by have h := Ky (x := (build c l).1) (i := k) hs mm mm (Cw c l).1 hone3 (by omega); rw [N9 hI (by omega)] at h; exact h) ?_; intro _
    refine rn1 ?_
    refine ob (Ae rfl rfl (Cb rfl)) ?_
    refine Gmc ?_
    refine Ga2 ?_
    refine A1 (k + 1) (by omega) (by omega) alT (fun w hs => Aj hs)
   ·
    intro ht35
    refine Gm ?_
    refine Ga1 ?_
    exact Bm ()
theorem Jp {L : List Chunk} {R : List Fact} {w : World} {vl : Value} {c : Config} {l : List Step} (hs : St (L) R w) (hl : sl vl l ∈ R) (hcw : c.wf) : Calls Try.prog 17 [.agg c.cells.toArray, vl].toArray w (Cg (fun _ : Unit => .bool true) (fun _ => L) (fun _ => R)) := by
  refine Ah Try.func17 rfl Try.ntmps17 rfl hs ?_
  clear hs
  refine Gm ?_
  refine bx ?_; intro b2
  refine Gb1 ?_
  refine Ar Try.call50 rfl (fun w hs => Is hs) ?_; intro _
  refine Gd1 ?_
  refine rn2 ?_
  refine Ar Try.call28 rfl (fun w hs => H5 (c := c) (l := l) hs mm hcw) ?_; intro v17
  refine J.know (p := v17.1.oneCell' = true ∧ v17.2.1.oneCell' = true ∧ v17.2.2.1.oneCell' = true) (fun w hs => ⟨isSlice.one (hs.fact (.head _)), isSlice.one (hs.fact (.tail _ (.head _))), isSlice.one (hs.fact (.tail _ (.tail _ (.head _))))⟩) (fun h12 => ?_)
  obtain ⟨hone1, hone2, hone3⟩ := h12
  refine rn3 ?_
  refine al_ (cs := [.slice none 0 0, .slice none 0 0, .slice none 0 0]) Try.zeroValue46 ?_; intro b5
  refine s_B (cs := [v17.1, v17.2.1, v17.2.2.1]) Try.sizeOf46 ?_
  refine Gb1 ?_
  refine Gb1 ?_
  refine Ga4 ?_
  refine Bg (γ := Nat) (fun i => i ≤ (build c l).1.frames.length) (fun _ => blk b5 46 [v17.1, v17.2.1, v17.2.2.1] :: blk b2 39 c.cells :: L) (fun _ => sl v17.1 (build c l).1.cores :: sl v17.2.1 (build c l).1.home :: sl v17.2.2.1 (build c l).1.frames :: R) (fun i => [(2, bp b2 0), (5, bp b5 0), (7, vi (E0 (C8 c (build c l).1) i : Int)), (21, v17.2.2.1), (22, vi ((build c l).1.frames.length : Int)), (23, vi (i : Int))]) (fun i => (build c l).1.frames.length - i) 0 (Nat.zero_le _) alT (fun w hs => Aj hs) ?_
  intro i hi
  have hcn := Kw (f := C8 c (build c l).1) (k := i)
  have hf40 := (Cw c l).2.2
  refine Gm ?_
  refine Ga1 ?_
  refine cdx (p := ?p1) (hd := ?d1) ?e1 ?_ ?_; case e1 => exact rfl
  ·
   intro ht24
   refine Gl ?_
   refine JC.open1 (xs := (build c l).1.frames) (v := v17.2.2.1) i mm (by omega) (fun _ fu => ?_)
   refine Aa ?_
   refine Gb3 ?_
   refine rn2 ?_
   refine Ar Try.call57 rfl (fun w hs => L3 (c := c) (b := ((build c l).1.frames.getD i [])) hs mm hcw) ?_; intro _
   refine rn3 ?_
   refine al_ (cs := zMsg.cells) Try.zeroValue42 ?_; intro b10
   refine s_B (cs := (Af c ((build c l).1.frames.getD i [])).1.cells) Try.sizeOf42 ?_
   refine Ga1 ?_
   refine kp [2, 4, 5, 7, 9, 10, 11, 21, 22, 23, 24, 25, 26, 27, 28, 29, 30, 31, 32, 33, 34] ?_
   refine Aa ?_
   refine Ga2 ?_
   refine cdx (p := ?p2) (hd := ?d2) ?e2 ?_ ?_; case e2 => exact rfl
   ·
    intro ht34
    refine Aa ?_
    refine Gb3 ?_
    refine Ga2 ?_
    refine A1 (i + 1) (by omega) (by omega) ⟨rfl, rfl, congrArg (fun z : Nat => some (vi (z : Int))) (show _ = E0 (C8 c (build c l).1) (i + 1) from (N8 (by unfold C8; simpa using ht34)).symm), alT⟩ (fun w hs => Aj hs)
   ·
    intro ht34
    refine Gm ?_
    refine Ga2 ?_
    refine A1 (i + 1) (by omega) (by omega) ⟨rfl, rfl, congrArg (fun z : Nat => some (vi (z : Int))) (show _ = E0 (C8 c (build c l).1) (i + 1) from (Jg (by unfold C8; simpa using ht34)).symm), alT⟩ (fun w hs => Aj hs)
  ·
   intro ht24
   refine Gl ?_
   have hie : (build c l).1.frames.length = i := by omega
   rw [← hie]
   have hsp := Ov c l
   have hce := Yp (build c l).1
   rcases (show (((build c l).1.frames.length : Int) ≠ 0) ∨ (((build c l).1.frames.length : Int) = 0) from by omega) with hc | hc
   ·
    have hcl : Ef (build c l).1 = false := by rw [hce, decide_eq_false (by omega)]; rfl
    refine Gi ?_
    refine dn1 ?_
    refine dj ?_
    refine Kv (γ := Unit) (val := fun _ => vi (E1 ⟨((build c l).1.cores.length : Int), ((build c l).1.home.length : Int)⟩ (build c l).1 : Int)) (F := fun _ => []) (C := fun _ => []) Try.call58 (fun _ => rfl) (fun _ _ _ _ => rfl) (fun ρ L R w hd hs => I7 (x := (build c l).1) hs (hd.base mm) (hd.base mm) (hd.base mm) hone3) ?_
    refine dn1 ?_
    refine djc (fun _ _ => Ae rfl rfl (Av (by rw [hsp]))) ?_
    refine djc (fun _ _ => Dh) ?_
    refine dn1 ?_
    refine dj (dgy ?_)
    refine Kv (γ := Unit) (val := fun _ => .bool (Ef (build c l).1)) (F := fun _ => []) (C := fun _ => []) Try.call59 (fun _ => rfl) (fun _ _ _ _ => rfl) (fun ρ L R w hd hs => Mo (x := (build c l).1) hs (hd.base mm) (hd.base mm) (Cw c l).1 (hd.base mm) hone3) ?_
    refine dn3 ?_
    refine dj (dgy ?_)
    refine dc (fun _ _ => Ae rfl rfl (Ak (by omega))) ?_
    refine dj (dgy ?_)
    refine dc (fun _ _ => Dh) ?_
    refine dn2 ?_
    refine dj (dgy ?_)
    refine dc (fun _ _ => E3) ?_
    refine dj (dgy ?_)
    refine dc (fun _ _ => Sj rfl rfl (Mr Try.underlying4)) ?_
    refine djc (fun _ _ => H8) ?_
    refine djc (fun _ _ => Eb) ?_
    refine dnl ?_; intro ρ
    refine Gl ?_
    refine Bm () (hv := ?_)
    rw [hcl]; rfl
   ·
    have hcl : Ef (build c l).1 = K2 (build c l).1 := by rw [hce, decide_eq_true (by omega)]; rfl
    refine Gi ?_
    refine dn1 ?_
    refine dj ?_
    refine Kv (γ := Unit) (val := fun _ => vi (E1 ⟨((build c l).1.cores.length : Int), ((build c l).1.home.length : Int)⟩ (build c l).1 : Int)) (F := fun _ => []) (C := fun _ => []) Try.call58 (fun _ => rfl) (fun _ _ _ _ => rfl) (fun ρ L R w hd hs => I7 (x := (build c l).1) hs (hd.base mm) (hd.base mm) (hd.base mm) hone3) ?_
    refine dn1 ?_
    refine djc (fun _ _ => Ae rfl rfl (Av (by rw [hsp]))) ?_
    refine djc (fun _ _ => Dh) ?_
    refine dn1 ?_
    refine dj (dgy ?_)
    refine Kv (γ := Unit) (val := fun _ => .bool (Ef (build c l).1)) (F := fun _ => []) (C := fun _ => []) Try.call59 (fun _ => rfl) (fun _ _ _ _ => rfl) (fun ρ L R w hd hs => Mo (x := (build c l).1) hs (hd.base mm) (hd.base mm) (Cw c l).1 (hd.base mm) hone3) ?_
    refine dn3 ?_
    refine dj (dgy ?_)
    refine dc (fun _ _ => Ae rfl rfl (Av (by omega))) ?_
    refine dj (dgy ?_)
    refine dc (fun _ _ => Dh) ?_
    refine dn1 ?_
    refine dj (dgy ?_)
    refine Kv (γ := Unit) (val := fun _ => .bool (K2 (build c l).1)) (F := fun _ => []) (C := fun _ => []) Try.call60 (fun _ => rfl) (fun _ _ _ _ => rfl) (fun ρ L R w hd hs => Wd (x := (build c l).1) hs (hd.base mm) (hd.base mm) (Cw c l).1.n4 (Cw c l).1.h4 hone3) ?_
    refine dj (dgy ?_)
    refine dc (fun _ _ => H8) ?_
    refine dj (dgy ?_)
    refine dc (fun _ _ => Sj rfl rfl (Mr Try.underlying4)) ?_
    refine djc (fun _ _ => H8) ?_
    refine djc (fun _ _ => Eb) ?_
    refine dnl ?_; intro ρ
    refine Gl ?_
    refine Bm () (hv := ?_)
    rw [hcl]; simp
end Go.Proofs.Ytofgpimoekhfaaa
