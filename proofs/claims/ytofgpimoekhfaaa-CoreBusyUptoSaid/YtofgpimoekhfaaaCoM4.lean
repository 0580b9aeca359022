/- This file proves parts of what its law needs: each part is told ahead of it. No conditions. -/
import Derived.Test.YtofgpimoekhfaaaCoM2
import Derived.Test.YtofgpimoekhfaaaCoM3
import Derived.Test.YtofgpimoekhfaaaCoM1
/- This file proves how the program's core begins an operation, asks again, and what a new core is. No conditions. -/
set_option linter.unusedVariables false
set_option linter.unusedSimpArgs false
set_option maxHeartbeats 1000000
set_option maxRecDepth 8000
namespace Go.Proofs.Ytofgpimoekhfaaa
open Go
section
variable {ls : List Line} {q q0 : Op} {id home : Int} {l : Line}
theorem beg_1 (h : q.kind < 1 ∨ 4 < q.kind) : Ag ⟨ls, q0⟩ id home q = (E0, [], [], 1) := by unfold Ag; rw [if_pos h]
theorem Ul (h1 : 1 ≤ q.kind ∧ q.kind ≤ 4) (h : q.line < 0 ∨ (ls.length : Int) ≤ q.line ∨ q.value < 0 ∨ 255 < q.value) : Ag ⟨ls, q0⟩ id home q = (E0, [], [], 3) := by
 unfold Ag; rw [if_neg (by omega), if_pos h]
theorem beg_8 (hl : ls.getD q.line.toNat zLine = l) (h1 : 1 ≤ q.kind ∧ q.kind ≤ 4) (h2 : 0 ≤ q.line ∧ q.line < (ls.length : Int)) (h3 : 0 ≤ q.value ∧ q.value ≤ 255) (h : q0.kind ≠ 0 ∨ 65535 ≤ l.serial) : Ag ⟨ls, q0⟩ id home q = (E0, [], [], 8) := by
 subst hl
 unfold Ag; rw [if_neg (by omega), if_neg (by simp only; omega), if_pos (show (⟨ls, q0⟩ : Core).wait.kind ≠ 0 ∨ 65535 ≤ (Ac ⟨ls, q0⟩ q.line).serial from h)]
theorem Nr (hl : ls.getD q.line.toNat zLine = l) (h1 : 1 ≤ q.kind ∧ q.kind ≤ 4) (h2 : 0 ≤ q.line ∧ q.line < (ls.length : Int)) (h3 : 0 ≤ q.value ∧ q.value ≤ 255) (h4 : q0.kind = 0) (h5 : l.serial < 65535) : Ag ⟨ls, q0⟩ id home q = (if A1 l q then (⟨ls.set q.line.toNat (Av l q), zOp⟩, [], [⟨id, q, Bd l q⟩], 0) else (⟨ls.set q.line.toNat (Av l q), q⟩, [Bl (Av l q) id home q.line], [], 0)) := by
 subst hl
 unfold Ag; rw [if_neg (by omega), if_neg (by simp only; omega), if_neg (fun h => by rcases h with h | h; exact h h4; exact absurd h (by show ¬ 65535 ≤ (ls.getD q.line.toNat zLine).serial; omega))]; rfl
end
theorem Ix {L : List Chunk} {R : List Fact} {w : World} {u : Value} {c : Core} {id home : Int} {q : Op} (hs : St (L) R w) (hu : sl u c.lines ∈ R) (hk : KB c) (hid : Am id) (hhome : Am home) (hq : q.wf) : Calls Try.prog 39 [.agg (c.cells u).toArray, vi id, vi home, .agg q.cells.toArray].toArray w (Ch (fun v : Value × Value × Value => .tuple #[.agg (Core.cells v.1 (Ag c id home q).1).toArray, v.2.1, v.2.2, vi (Ag c id home q).2.2.2]) (fun v => L) (fun v => sl v.1 (Ag c id home q).1.lines :: sl v.2.1 (Ag c id home q).2.1 :: sl v.2.2 (Ag c id home q).2.2.1 :: R)) := by
  obtain ⟨ls, q0⟩ := c
  have hu : sl u ls ∈ R := hu
  obtain ⟨l, hl⟩ : ∃ l, ls.getD q.line.toNat zLine = l := ⟨_, rfl⟩
  have hlen := Bk hu hs
  have hone0 : u.oneCell' = true := isSlice.one (hs.fact hu)
  have hn4 : ls.length ≤ 4 := hk.n
  have hid0 := hid
  have hhome0 := hhome
  unfold Am at hid0 hhome0
  refine Aj Try.func39 rfl Try.ntmps39 rfl hs ?_
  clear hs
  refine Gm ?_
  refine bx ?_; intro b4
  refine bx ?_; intro b7
  refine al_ (cs := [.slice none 0 0, vi 0, vi 0, vi 0]) Try.zeroValue69 ?_; intro b8
  refine Ga3 ?_
  refine cq_ (blk b4 69 [u, vi q0.kind, vi q0.line, vi q0.value] :: blk b7 66 q.cells :: blk b8 69 [.slice none 0 0, vi 0, vi 0, vi 0] :: L) ?_
  rcases (show (q.kind < 1) ∨ (¬ q.kind < 1 ∧ 4 < q.kind) ∨ (1 ≤ q.kind ∧ q.kind ≤ 4) from by omega) with hc | hc | hc
  ·
   refine Aa ?_
   refine rn2 ?_
   refine ob (Af rfl rfl (Bt (by omega))) ?_
   refine Gc6 ?_
   refine JC.slNil Line ?_
   refine JC.slNil Msg ?_
   refine JC.slNil Done ?_
   refine Aa ?_
   refine ob (E2 (cs := [.slice none 0 0, vi 0, vi 0, vi 0]) F4) ?_
   refine s_B Try.sizeOf69 ?_
   refine Ga3 ?_
   have er : (Ag ⟨ls, q0⟩ id home q) = (E0, [], [], 1) := beg_1 (by omega)
   rw [er]
   exact D2 (.slice none 0 0, .slice none 0 0, .slice none 0 0) Try.isAgg69 Try.sizeOf69
  ·
   refine Aa ?_
   refine rn2 ?_
   refine ob (Af rfl rfl (An (by omega))) ?_
   refine rn3 ?_
   refine gy ?_
   refine ob (Af rfl rfl (C0 (by omega))) ?_
   refine Gc2 ?_
   refine JC.slNil Line ?_
   refine JC.slNil Msg ?_
   refine JC.slNil Done ?_
   refine Aa ?_
   refine ob (E2 (cs := [.slice none 0 0, vi 0, vi 0, vi 0]) F4) ?_
   refine s_B Try.sizeOf69 ?_
   refine Ga3 ?_
   have er : (Ag ⟨ls, q0⟩ id home q) = (E0, [], [], 1) := beg_1 (by omega)
   rw [er]
   exact D2 (.slice none 0 0, .slice none 0 0, .slice none 0 0) Try.isAgg69 Try.sizeOf69
  ·
   refine Aa ?_
   refine rn2 ?_
   refine ob (Af rfl rfl (An (by omega))) ?_
   refine rn3 ?_
   refine gy ?_
   refine ob (Af rfl rfl (Cp (by omega))) ?_
   refine Gc2 ?_
   rcases (show (q.line < 0) ∨ (0 ≤ q.line ∧ (ls.length : Int) ≤ q.line) ∨ (0 ≤ q.line ∧ q.line < (ls.length : Int) ∧ q.value < 0) ∨ (0 ≤ q.line ∧ q.line < (ls.length : Int) ∧ 255 < q.value) ∨ (0 ≤ q.line ∧ q.line < (ls.length : Int) ∧ 0 ≤ q.value ∧ q.value ≤ 255) from by omega) with hc | hc | hc | hc | hc
   ·
    refine Aa ?_
    refine rn2 ?_
    refine ob (Af rfl rfl (Bt (by omega))) ?_
    refine Gc19 ?_
    refine JC.slNil Line ?_
    refine JC.slNil Msg ?_
    refine JC.slNil Done ?_
    refine kp [1, 2, 4, 7, 8, 9, 10, 11, 46] ?_
    refine Aa ?_
    refine ob (E2 (cs := [.slice none 0 0, vi 0, vi 0, vi 0]) F4) ?_
    refine s_B Try.sizeOf69 ?_
    refine Ga3 ?_
    have er : (Ag ⟨ls, q0⟩ id home q) = (E0, [], [], 3) := Ul (by omega) (by omega)
    rw [er]
    exact D2 (.slice none 0 0, .slice none 0 0, .slice none 0 0) Try.isAgg69 Try.sizeOf69
   ·
    refine Aa ?_
    refine rn2 ?_
    refine ob (Af rfl rfl (An (by omega))) ?_
    refine rn6 ?_
    refine gy ?_
    refine ob (Af rfl rfl (Cv (by omega))) ?_
    refine Gc12 ?_
    refine JC.slNil Line ?_
    refine JC.slNil Msg ?_
    refine JC.slNil Done ?_
    refine kp [1, 2, 4, 7, 8, 9, 10, 11, 46] ?_
    refine Aa ?_
    refine ob (E2 (cs := [.slice none 0 0, vi 0, vi 0, vi 0]) F4) ?_
    refine s_B Try.sizeOf69 ?_
    refine Ga3 ?_
    have er : (Ag ⟨ls, q0⟩ id home q) = (E0, [], [], 3) := Ul (by omega) (by omega)
    rw [er]
    exact D2 (.slice none 0 0, .slice none 0 0, .slice none 0 0) Try.isAgg69 Try.sizeOf69
   ·
    refine Aa ?_
    refine rn2 ?_
    refine ob (Af rfl rfl (An (by omega))) ?_
    refine rn6 ?_
    refine gy ?_
    refine ob (Af rfl rfl (A4 (by omega))) ?_
    refine rn4 ?_
    refine gy ?_
    refine ob (Af rfl rfl (Bt (by omega))) ?_
    refine Gc7 ?_
    refine JC.slNil Line ?_
    refine JC.slNil Msg ?_
    refine JC.slNil Done ?_
    refine kp [1, 2, 4, 7, 8, 9, 10, 11, 46] ?_
    refine Aa ?_
    refine ob (E2 (cs := [.slice none 0 0, vi 0, vi 0, vi 0]) F4) ?_
    refine s_B Try.sizeOf69 ?_
    refine Ga3 ?_
    have er : (Ag ⟨ls, q0⟩ id home q) = (E0, [], [], 3) := Ul (by omega) (by omega)
    rw [er]
    exact D2 (.slice none 0 0, .slice none 0 0, .slice none 0 0) Try.isAgg69 Try.sizeOf69
   ·
    refine Aa ?_
    refine rn2 ?_
    refine ob (Af rfl rfl (An (by omega))) ?_
    refine rn6 ?_
    refine gy ?_
    refine ob (Af rfl rfl (A4 (by omega))) ?_
    refine rn4 ?_
    refine gy ?_
    refine ob (Af rfl rfl (An (by omega))) ?_
    refine rn4 ?_
    refine gy ?_
    refine ob (Af rfl rfl (C0 (by omega))) ?_
    refine Gc2 ?_
    refine JC.slNil Line ?_
    refine JC.slNil Msg ?_
    refine JC.slNil Done ?_
    refine kp [1, 2, 4, 7, 8, 9, 10, 11, 46] ?_
    refine Aa ?_
    refine ob (E2 (cs := [.slice none 0 0, vi 0, vi 0, vi 0]) F4) ?_
    refine s_B Try.sizeOf69 ?_
    refine Ga3 ?_
    have er : (Ag ⟨ls, q0⟩ id home q) = (E0, [], [], 3) := Ul (by omega) (by omega)
    rw [er]
    exact D2 (.slice none 0 0, .slice none 0 0, .slice none 0 0) Try.isAgg69 Try.sizeOf69
   ·
    refine Aa ?_
    refine rn2 ?_
    refine ob (Af rfl rfl (An (by omega))) ?_
    refine rn6 ?_
    refine gy ?_
    refine ob (Af rfl rfl (A4 (by omega))) ?_
    refine rn4 ?_
    refine gy ?_
    refine ob (Af rfl rfl (An (by omega))) ?_
    refine rn4 ?_
    refine gy ?_
    refine ob (Af rfl rfl (Cp (by omega))) ?_
    refine Gc2 ?_
    refine open_l (v := u) hl mm (by omega) (by omega) (fun hlw1 => ?_)
    rcases (show (q0.kind ≠ 0) ∨ (q0.kind = 0 ∧ 65535 ≤ l.serial) ∨ (q0.kind = 0 ∧ l.serial < 65535) from by omega) with hc | hc | hc
    ·
     refine kp [1, 2, 4, 7, 8, 9, 10, 11, 47, 48, 49, 50, 51, 52, 53, 54, 55, 56, 57, 58, 59, 60, 61] ?_
     refine Aa ?_
     refine rn3 ?_
     refine ob (Af rfl rfl (Cz (by omega))) ?_
     refine Gc11 ?_
     refine JC.slNil Line ?_
     refine JC.slNil Msg ?_
     refine JC.slNil Done ?_
     refine Aa ?_
     refine ob (E2 (cs := [.slice none 0 0, vi 0, vi 0, vi 0]) F4) ?_
     refine s_B Try.sizeOf69 ?_
     refine Ga3 ?_
     have er : (Ag ⟨ls, q0⟩ id home q) = (E0, [], [], 8) := beg_8 hl (by omega) (by omega) (by omega) (by omega)
     rw [er]
     exact D2 (.slice none 0 0, .slice none 0 0, .slice none 0 0) Try.isAgg69 Try.sizeOf69
    ·
     refine kp [1, 2, 4, 7, 8, 9, 10, 11, 47, 48, 49, 50, 51, 52, 53, 54, 55, 56, 57, 58, 59, 60, 61] ?_
     refine Aa ?_
     refine rn3 ?_
     refine ob (Af rfl rfl (Bv (by omega))) ?_
     refine rn8 ?_
     refine gy ?_
     refine ob (Af rfl rfl (Cv (by omega))) ?_
     refine Gc2 ?_
     refine JC.slNil Line ?_
     refine JC.slNil Msg ?_
     refine JC.slNil Done ?_
     refine Aa ?_
     refine ob (E2 (cs := [.slice none 0 0, vi 0, vi 0, vi 0]) F4) ?_
     refine s_B Try.sizeOf69 ?_
     refine Ga3 ?_
     have er : (Ag ⟨ls, q0⟩ id home q) = (E0, [], [], 8) := beg_8 hl (by omega) (by omega) (by omega) (by omega)
     rw [er]
     exact D2 (.slice none 0 0, .slice none 0 0, .slice none 0 0) Try.isAgg69 Try.sizeOf69
    ·
     have hc5 := hc
     refine kp [1, 2, 4, 7, 8, 9, 10, 11, 47, 48, 49, 50, 51, 52, 53, 54, 55, 56, 57, 58, 59, 60, 61] ?_
     refine Aa ?_
     refine rn3 ?_
     refine ob (Af rfl rfl (Bv (by omega))) ?_
     refine rn8 ?_
     refine gy ?_
     refine ob (Af rfl rfl (A4 (by omega))) ?_
     refine Gd2 ?_
     refine rn1 ?_
     refine Aq Try.call43 rfl (fun w hs => Fp (u := u) (c := ⟨ls, q0⟩) hs mm) ?_; intro vL
     refine J.know (p := vL.oneCell' = true) (fun w hs => De .hd hs) (fun honeV => ?_)
     refine rn3 ?_
     refine bx ?_; intro b68
     refine Ga1 ?_
     refine cq_ (row 82 vL ls :: blk b68 115 [vL, vi q0.kind, vi q0.line, vi q0.value, vi id, vi home, .slice none 0 0, .slice none 0 0] :: blk b8 69 [.slice none 0 0, vi 0, vi 0, vi 0] :: blk b7 66 q.cells :: L) ?_
     refine F7 (ls := ls) (l := l) (i := q.line) pkk hl (by omega) (by omega) (fun hlw hA => ?_)
     have hlw0 := hlw
     unfold Line.wf Am at hlw0
     have honeL : (ep vL 7 q.line.toNat 0).oneCell' = true := hA.one
     have hz : q0 = zOp := (hk.w.free hc5.1).1
     refine Dv ?_
     refine dn7 ?_
     refine dj ?_
     refine dc (fun _ _ => J1 (v := vL) (i := q.line) Ja (hl := E4 (α := Line) (xs := ls) pkk)) ?_
     refine djc (fun _ _ => Db) ?_
     refine dnl ?_; intro ρ
     refine Gl ?_
     refine kp [1, 7, 8, 9, 10, 11, 12, 13, 80, 81, 82, 83, 84, 85, 86, 87, 88, 89, 90] ?_
     refine Di 80 (.bool (decide ((q.kind = 4) ∧ (l.state = 2)))) ?_ ?_
     ·
      rcases (show (¬ (q.kind = 4)) ∨ ((q.kind = 4) ∧ ¬ (l.state = 2)) ∨ ((q.kind = 4) ∧ (l.state = 2)) from by omega) with hm | hm | hm
      ·
       refine Aa ?_
       refine rn2 ?_
       refine ob (Af rfl rfl (Ak (by omega))) ?_
       refine Ga8 ?_
       refine Aw ?_ (fun w hs => hs)
       refine ⟨by first | exact congrArg (fun b => some (Value.bool b)) (decide_eq_false (by omega)).symm | exact congrArg (fun b => some (Value.bool b)) (by simp; omega), alT⟩
      ·
       refine Aa ?_
       refine rn2 ?_
       refine ob (Af rfl rfl (As (by omega))) ?_
       refine rn5 ?_
       refine gy ?_
       refine ob (Af rfl rfl (Ak (by omega))) ?_
       refine Ga2 ?_
       refine Aw ?_ (fun w hs => hs)
       refine ⟨by first | exact congrArg (fun b => some (Value.bool b)) (decide_eq_false (by omega)).symm | exact congrArg (fun b => some (Value.bool b)) (by simp; omega), alT⟩
      ·
       refine Aa ?_
       refine rn2 ?_
       refine ob (Af rfl rfl (As (by omega))) ?_
       refine rn5 ?_
       refine gy ?_
       refine ob (Af rfl rfl (As (by omega))) ?_
       refine Ga2 ?_
       refine Aw ?_ (fun w hs => hs)
       refine ⟨by first | exact congrArg (fun b => some (Value.bool b)) (decide_eq_true (by omega)).symm | exact congrArg (fun b => some (Value.bool b)) (by simp; omega), alT⟩
     ·
      refine A3 ?_
      first | (refine cdx (p := ?p1) (hd := ?d1) ?e1 ?_ ?_; case e1 => exact rfl) | (refine Bp (b := ?b1) ?e1 ?_ ?_; case e1 => exact rfl)
      ·
       intro ht80
       refine Gl ?_
       refine kp [1, 7, 8, 9, 10, 11, 12, 13, 91, 92, 93] ?_
       refine Aa ?_
       refine rn3 ?_
       refine sc ?_
       refine Gl ?_
       refine JC.conseq (L' := row 82 vL (ls.set q.line.toNat ({ l with state := 3 })) :: blk b68 115 [vL, vi q0.kind, vi q0.line, vi q0.value, vi id, vi home, .slice none 0 0, .slice none 0 0] :: blk b8 69 [.slice none 0 0, vi 0, vi 0, vi 0] :: blk b7 66 q.cells :: L) (fun w hs => Al (C2 ({ l with state := 3 }) (by unfold Line.wf Am; simp only; omega) (hs.pick pkk))) ?_
       refine JC.rowNil 42 Msg ?_
       refine Aa ?_
       refine rn2 ?_
       refine Aq Try.call75 rfl (fun w hs => Ol (vL := vL) (vo := .slice none 0 0) (vd := .slice none 0 0) (q := q) (q0 := q0) (id := id) (home := home) (ls := (ls.set q.line.toNat ({ l with state := 3 }))) (l := { l with state := 3 }) (ms := []) (want := 3) (bk := b68) (LX := blk b8 69 [.slice none 0 0, vi 0, vi 0, vi 0] :: blk b7 66 q.cells :: L) (Al hs) (by rw [List.getD_eq_getElem?_getD, List.getElem?_set_self (by omega)]; rfl) (by rw [List.length_set]; omega) (by rw [List.length_set]; omega) hid hhome (by simp) (by first | omega | (simp only; omega)) (by unfold Am; omega)) ?_; intro v96
       refine J.conseq (L' := row 82 vL (ls.set q.line.toNat ({ l with state := 3, want := 3, serial := l.serial + 1 })) :: blk b68 115 [vL, vi q.kind, vi q.line, vi q.value, vi id, vi home, v96, .slice none 0 0] :: row 42 v96 [Bl ({ l with state := 3, want := 3, serial := l.serial + 1 }) id home q.line] :: blk b8 69 [.slice none 0 0, vi 0, vi 0, vi 0] :: L) (fun w hs => by rw [List.nil_append, List.set_set] at hs; exact Al hs) ?_
       refine Gl ?_
       refine cq_ (row 82 vL (ls.set q.line.toNat ({ l with state := 3, want := 3, serial := l.serial + 1 })) :: blk b68 115 [vL, vi q.kind, vi q.line, vi q.value, vi id, vi home, v96, .slice none 0 0] :: row 42 v96 [Bl ({ l with state := 3, want := 3, serial := l.serial + 1 }) id home q.line] :: blk b8 69 [.slice none 0 0, vi 0, vi 0, vi 0] :: L) ?_
       refine JC.shut (v := vL) (xs := (ls.set q.line.toNat ({ l with state := 3, want := 3, serial := l.serial + 1 }))) .hd ?_
       refine JC.shut (v := v96) (xs := [Bl ({ l with state := 3, want := 3, serial := l.serial + 1 }) id home q.line]) pkk ?_
       refine JC.slNil Done ?_
       refine cq_ (blk b8 69 [.slice none 0 0, vi 0, vi 0, vi 0] :: blk b68 115 [vL, vi q.kind, vi q.line, vi q.value, vi id, vi home, v96, .slice none 0 0] :: L) ?_
       refine jd_ (fun ρ S => blk b8 69 (bif S 12 then [vL, vi q.kind, vi q.line, vi q.value] else [.slice none 0 0, vi 0, vi 0, vi 0]) :: blk b68 115 [vL, vi q.kind, vi q.line, vi q.value, vi id, vi home, v96, .slice none 0 0] :: L) ?_
       refine dn3 ?_
       refine Jn (v := .agg ([vL, vi q.kind, vi q.line, vi q.value]).toArray) (fun _ _ => Dy (b := b68) (f := 0) (vs := [vL, vi q.kind, vi q.line, vi q.value, vi id, vi home, v96, .slice none 0 0]) 4 Try.isAgg69 Try.sizeOf69) (fun _ _ _ _ _ => rfl) ?_
       refine dn8 ?_
       refine es_ 69 0 [] [] (fun ρ => b8) (fun ρ => [.slice none 0 0, vi 0, vi 0, vi 0]) (fun ρ => [vL, vi q.kind, vi q.line, vi q.value]) Try.sizeOf69 ?_
       refine dn3 ?_
       refine dnl ?_; intro ρ
       refine xq_ (blk b8 69 [vL, vi q.kind, vi q.line, vi q.value] :: blk b68 115 [vL, vi q.kind, vi q.line, vi q.value, vi id, vi home, v96, .slice none 0 0] :: L) ?_
       refine Gl ?_
       have eb : Av l q = { l with state := 3, want := 3, serial := l.serial + 1 } := by unfold Av; rw [if_pos (by omega), if_pos (by omega)]
       have ed : A1 l q = false := by unfold A1; split <;> simp <;> omega
       have er : (Ag ⟨ls, q0⟩ id home q) = (⟨ls.set q.line.toNat ({ l with state := 3, want := 3, serial := l.serial + 1 }), q⟩, [Bl ({ l with state := 3, want := 3, serial := l.serial + 1 }) id home q.line], [], 0) := by rw [Nr hl (by omega) (by omega) (by omega) (by omega) (by omega), ed, if_neg (by decide), eb]
       rw [er]
       exact D2 (vL, v96, .slice none 0 0) Try.isAgg69 Try.sizeOf69
      ·
       intro ht80
       refine Gl ?_
       refine kp [1, 7, 8, 9, 10, 11, 12, 13, 97, 98, 99, 100] ?_
       refine Aa ?_
       refine Ga4 ?_
       refine cdx (p := ?p2) (hd := ?d2) ?e2 ?_ ?_; case e2 => exact rfl
       ·
        intro ht97
        refine Gm ?_
        refine rn4 ?_
        refine sc ?_
        refine rn2 ?_
        refine sc ?_
        refine Gl ?_
        refine JC.rowNil 84 Done ?_
        refine cq_ (blk b68 115 [vL, vi q0.kind, vi q0.line, vi q0.value, vi id, vi home, .slice none 0 0, .slice none 0 0] :: row 84 (.slice none 0 0) [] :: foc 82 vL ls q.line.toNat [vi 0, vi 0, vi l.want, vi l.serial, vi l.seen, vi l.gave, vi l.given] :: blk b8 69 [.slice none 0 0, vi 0, vi 0, vi 0] :: blk b7 66 q.cells :: L) ?_
        refine jd_ (fun ρ S => blk b68 115 (bif S 12 then [vL, vi q0.kind, vi q0.line, vi q0.value, vi id, vi home, .slice none 0 0, (Gh.dec (γ := Value) (ρ 9))] else [vL, vi q0.kind, vi q0.line, vi q0.value, vi id, vi home, .slice none 0 0, .slice none 0 0]) :: (bif S 9 then row 84 (Gh.dec (γ := Value) (ρ 9)) ([] ++ [(⟨id, q, 0⟩ : Done)]) else row 84 (.slice none 0 0) []) :: foc 82 vL ls q.line.toNat [vi 0, vi 0, vi l.want, vi l.serial, vi l.seen, vi l.gave, vi l.given] :: blk b8 69 [.slice none 0 0, vi 0, vi 0, vi 0] :: blk b7 66 q.cells :: L) ?_
        refine dn4 ?_
        refine Ko (v := .slice none 0 0) (fun ρ S hS hB hA => by have h12 : S 12 = false := hA 12 ⟨0, rfl⟩; simp only [h12, cond_false]; exact Dn (hc := A2 pkk (by repeat (first | exact rfl | refine Eh rfl ?_))) Try.isAgg47) (fun _ _ _ _ _ => rfl) ?_
        refine dn3 ?_
        refine E7 ([(⟨id, q, 0⟩ : Done)] : List Done) Fj rfl (fun _ => rfl) rfl (fun _ => rfl) rfl rfl (fun ρ R hd => E5 ⟨hid, hq.1, hq.2.1, hq.2.2, by unfold Am; simp only; omega⟩) (fun _ _ _ _ _ => rfl) ?_
        refine G9 (e := 84) (xs := []) (ys := [(⟨id, q, 0⟩ : Done)]) (v := (.slice none 0 0)) Fj (fun _ => rfl) (fun _ => rfl) rfl (by decide) (fun ρ R hd => (hd.dep (it := ⟨8, _, _, _, _⟩) (by repeat (first | exact List.Mem.head _ | refine List.Mem.tail _ ?_)) ⟨9, rfl⟩ (List.Mem.head _))) (by have : maxN = 16777216 := rfl; simp only [List.length_cons, List.length_nil]; omega) (fun ρ g S hS hB hA => ?_) ?_
        ·
         have ui : upS S 9 9 = true := rfl; have u12 : upS S 9 12 = S 12 := rfl; have h12 : S 12 = false := hA 12 ⟨0, rfl⟩; have rs : (Gh.dec (γ := Value) (Rho.set ρ 9 (Gh.enc g) 9)) = g := rfl
         simp only [ui, hS, u12, h12, rs, cond_true, cond_false]
         exact Pos.ex (by repeat (first | exact .hd | exact .hc | apply Pos.tl | apply Pos.ap))
        refine dn2 ?_
        refine Fm (T0 := 115) (f := 7) (vs := fun ρ => [vL, vi q0.kind, vi q0.line, vi q0.value, vi id, vi home, .slice none 0 0, .slice none 0 0]) (v := fun ρ => (Gh.dec (γ := Value) (ρ 9))) (fun ρ => b68) Try.sizeOf47 (fun _ => rfl) (fun _ => rfl) (fun ρ S R w L9 hB hd hs => by have h9 : S 9 = true := hB 9 ⟨9, rfl⟩; simp only [h9, cond_true] at hs; exact De pkk hs) (fun _ => rfl) (fun ρ g S hS hB hA => ?_) ?_
        ·
         have ui : upS S 12 12 = true := rfl; have u9 : upS S 12 9 = S 9 := rfl; have r9 : Rho.set ρ 12 g 9 = ρ 9 := rfl
         simp only [ui, hS, u9, r9, cond_true, cond_false]
         exact Pos.ex (by repeat (first | exact .hd | exact .hc | apply Pos.tl | apply Pos.ap))
        refine dnl ?_; intro ρ
        refine xq_ (blk b68 115 [vL, vi q0.kind, vi q0.line, vi q0.value, vi id, vi home, .slice none 0 0, (Gh.dec (γ := Value) (ρ 9))] :: row 84 (Gh.dec (γ := Value) (ρ 9)) [(⟨id, q, 0⟩ : Done)] :: foc 82 vL ls q.line.toNat [vi 0, vi 0, vi l.want, vi l.serial, vi l.seen, vi l.gave, vi l.given] :: blk b8 69 [.slice none 0 0, vi 0, vi 0, vi 0] :: blk b7 66 q.cells :: L) ?_
        generalize (Gh.dec (γ := Value) (ρ 8)) = v115
        generalize (Gh.dec (γ := Value) (ρ 9)) = v116
        refine Gl ?_
        refine JC.conseq (L' := row 82 vL (ls.set q.line.toNat ({ l with state := 0, value := 0 })) :: blk b68 115 [vL, vi q0.kind, vi q0.line, vi q0.value, vi id, vi home, .slice none 0 0, v116] :: row 84 v116 [(⟨id, q, 0⟩ : Done)] :: blk b8 69 [.slice none 0 0, vi 0, vi 0, vi 0] :: L) (fun w hs => Al (C2 ({ l with state := 0, value := 0 }) (by unfold Line.wf Am; simp only; omega) (hs.pick pkk))) ?_
        refine JC.shut (v := vL) (xs := (ls.set q.line.toNat ({ l with state := 0, value := 0 }))) .hd ?_
        refine JC.slNil Msg ?_
        refine JC.shut (v := v116) (xs := [(⟨id, q, 0⟩ : Done)]) pkk ?_
        refine cq_ (blk b8 69 [.slice none 0 0, vi 0, vi 0, vi 0] :: blk b68 115 [vL, vi q0.kind, vi q0.line, vi q0.value, vi id, vi home, .slice none 0 0, v116] :: L) ?_
        refine jd_ (fun ρ S => blk b8 69 (bif S 12 then [vL, vi q0.kind, vi q0.line, vi q0.value] else [.slice none 0 0, vi 0, vi 0, vi 0]) :: blk b68 115 [vL, vi q0.kind, vi q0.line, vi q0.value, vi id, vi home, .slice none 0 0, v116] :: L) ?_
        refine dn3 ?_
        refine Jn (v := .agg ([vL, vi q0.kind, vi q0.line, vi q0.value]).toArray) (fun _ _ => Dy (b := b68) (f := 0) (vs := [vL, vi q0.kind, vi q0.line, vi q0.value, vi id, vi home, .slice none 0 0, v116]) 4 Try.isAgg69 Try.sizeOf69) (fun _ _ _ _ _ => rfl) ?_
        refine dn8 ?_
        refine es_ 69 0 [] [] (fun ρ => b8) (fun ρ => [.slice none 0 0, vi 0, vi 0, vi 0]) (fun ρ => [vL, vi q0.kind, vi q0.line, vi q0.value]) Try.sizeOf69 ?_
        refine dn3 ?_
        refine dnl ?_; intro ρ
        refine xq_ (blk b8 69 [vL, vi q0.kind, vi q0.line, vi q0.value] :: blk b68 115 [vL, vi q0.kind, vi q0.line, vi q0.value, vi id, vi home, .slice none 0 0, v116] :: L) ?_
        refine Gl ?_
        have eb : Av l q = { l with state := 0, value := 0 } := by unfold Av; rw [if_pos (by omega), if_neg (by omega)]
        have ed : A1 l q = true := by unfold A1; split <;> simp <;> omega
        have et : Bd l q = 0 := by unfold Bd; rw [if_pos (by omega)]
        have er : (Ag ⟨ls, q0⟩ id home q) = (⟨ls.set q.line.toNat ({ l with state := 0, value := 0 }), q0⟩, [], [(⟨id, q, 0⟩ : Done)], 0) := by rw [Nr hl (by omega) (by omega) (by omega) (by omega) (by omega), ed, if_pos rfl, eb, et, hz]
        rw [er]
        exact D2 (vL, .slice none 0 0, v116) Try.isAgg69 Try.sizeOf69
       ·
        intro ht97
        refine Gl ?_
        refine kp [7, 8, 9, 10, 11, 12, 13, 119, 120, 121, 122, 123, 124, 125, 126, 127, 128, 129, 130, 131, 132, 133, 134, 135, 136] ?_
        refine Di 119 (.bool (decide (l.state = 2 ∨ (l.state = 1 ∧ q.kind = 1)))) ?_ ?_
        ·
         rcases (show (l.state = 2) ∨ (l.state = 1 ∧ q.kind = 1) ∨ (l.state = 1 ∧ q.kind ≠ 1) ∨ (l.state ≠ 1 ∧ l.state ≠ 2) from by omega) with hm | hm | hm | hm
         ·
          refine Aa ?_
          refine rn4 ?_
          refine ob (Af rfl rfl (As (by omega))) ?_
          refine Ga13 ?_
          refine Aw ?_ (fun w hs => hs)
          refine ⟨by first | exact congrArg (fun b => some (Value.bool b)) (decide_eq_true (by omega)).symm | exact congrArg (fun b => some (Value.bool b)) (by simp; omega), alT⟩
         ·
          refine Aa ?_
          refine rn4 ?_
          refine ob (Af rfl rfl (Ak (by omega))) ?_
          refine rn5 ?_
          refine gy ?_
          refine ob (Af rfl rfl (As (by omega))) ?_
          refine rn3 ?_
          refine gy ?_
          refine ob (Af rfl rfl (As (by omega))) ?_
          refine Ga3 ?_
          refine Aw ?_ (fun w hs => hs)
          refine ⟨by first | exact congrArg (fun b => some (Value.bool b)) (decide_eq_true (by omega)).symm | exact congrArg (fun b => some (Value.bool b)) (by simp; omega), alT⟩
         ·
          refine kp [7, 8, 9, 10, 11, 12, 13, 119, 120, 121, 122, 123, 124, 125, 126, 127, 128, 129, 130, 131, 132, 133, 134, 135, 136] ?_
          refine Aa ?_
          refine rn4 ?_
          refine ob (Af rfl rfl (Ak (by omega))) ?_
          refine rn5 ?_
          refine gy ?_
          refine ob (Af rfl rfl (As (by omega))) ?_
          refine rn3 ?_
          refine gy ?_
          refine ob (Af rfl rfl (Ak (by omega))) ?_
          refine Ga3 ?_
          refine Aw ?_ (fun w hs => hs)
          refine ⟨by first | exact congrArg (fun b => some (Value.bool b)) (decide_eq_false (by omega)).symm | exact congrArg (fun b => some (Value.bool b)) (by simp; omega), alT⟩
         ·
          refine Aa ?_
          refine rn4 ?_
          refine ob (Af rfl rfl (Ak (by omega))) ?_
          refine rn5 ?_
          refine gy ?_
          refine ob (Af rfl rfl (Ak (by omega))) ?_
          refine Ga7 ?_
          refine Aw ?_ (fun w hs => hs)
          refine ⟨by first | exact congrArg (fun b => some (Value.bool b)) (decide_eq_false (by omega)).symm | exact congrArg (fun b => some (Value.bool b)) (by simp; omega), alT⟩
        ·
         refine A3 ?_
         first | (refine cdx (p := ?p3) (hd := ?d3) ?e3 ?_ ?_; case e3 => exact rfl) | (refine Bp (b := ?b3) ?e3 ?_ ?_; case e3 => exact rfl)
         ·
          intro ht119
          refine JC.conseq (L' := row 82 vL ls :: blk b68 115 [vL, vi q0.kind, vi q0.line, vi q0.value, vi id, vi home, .slice none 0 0, .slice none 0 0] :: blk b8 69 [.slice none 0 0, vi 0, vi 0, vi 0] :: blk b7 66 q.cells :: L) (fun w hs => Al (Dh hl hlw (hs.pick pkk))) ?_
          refine JC.rowNil 84 Done ?_
          refine kp [7, 8, 9, 10, 11, 12, 137, 138] ?_
          refine Aa ?_
          refine rn2 ?_
          refine Aq Try.call76 rfl (fun w hs => Iw (vL := vL) (vo := .slice none 0 0) (vd := .slice none 0 0) (q := q) (q0 := q0) (id := id) (home := home) (ls := ls) (l := l) (ds := []) (bk := b68) (LX := blk b8 69 [.slice none 0 0, vi 0, vi 0, vi 0] :: blk b7 66 q.cells :: L) (Al hs) hl (by omega) (by omega) hid hhome (by simp) hq (by omega) (by omega)) ?_; intro v139
          refine J.conseq (L' := row 82 vL (ls.set q.line.toNat ({ l with value := (Au l.value q).1 })) :: blk b68 115 [vL, vi 0, vi 0, vi 0, vi id, vi home, .slice none 0 0, v139] :: row 84 v139 [(⟨id, q, (Au l.value q).2⟩ : Done)] :: blk b8 69 [.slice none 0 0, vi 0, vi 0, vi 0] :: L) (fun w hs => by rw [List.nil_append] at hs; exact Al hs) ?_
          refine Gl ?_
          refine cq_ (row 82 vL (ls.set q.line.toNat ({ l with value := (Au l.value q).1 })) :: blk b68 115 [vL, vi 0, vi 0, vi 0, vi id, vi home, .slice none 0 0, v139] :: row 84 v139 [(⟨id, q, (Au l.value q).2⟩ : Done)] :: blk b8 69 [.slice none 0 0, vi 0, vi 0, vi 0] :: L) ?_
          refine JC.shut (v := vL) (xs := (ls.set q.line.toNat ({ l with value := (Au l.value q).1 }))) .hd ?_
          refine JC.slNil Msg ?_
          refine JC.shut (v := v139) (xs := [(⟨id, q, (Au l.value q).2⟩ : Done)]) pkk ?_
          refine cq_ (blk b8 69 [.slice none 0 0, vi 0, vi 0, vi 0] :: blk b68 115 [vL, vi 0, vi 0, vi 0, vi id, vi home, .slice none 0 0, v139] :: L) ?_
          refine jd_ (fun ρ S => blk b8 69 (bif S 12 then [vL, vi 0, vi 0, vi 0] else [.slice none 0 0, vi 0, vi 0, vi 0]) :: blk b68 115 [vL, vi 0, vi 0, vi 0, vi id, vi home, .slice none 0 0, v139] :: L) ?_
          refine dn3 ?_
          refine Jn (v := .agg ([vL, vi 0, vi 0, vi 0]).toArray) (fun _ _ => Dy (b := b68) (f := 0) (vs := [vL, vi 0, vi 0, vi 0, vi id, vi home, .slice none 0 0, v139]) 4 Try.isAgg69 Try.sizeOf69) (fun _ _ _ _ _ => rfl) ?_
          refine dn8 ?_
          refine es_ 69 0 [] [] (fun ρ => b8) (fun ρ => [.slice none 0 0, vi 0, vi 0, vi 0]) (fun ρ => [vL, vi 0, vi 0, vi 0]) Try.sizeOf69 ?_
          refine dn3 ?_
          refine dnl ?_; intro ρ
          refine xq_ (blk b8 69 [vL, vi 0, vi 0, vi 0] :: blk b68 115 [vL, vi 0, vi 0, vi 0, vi id, vi home, .slice none 0 0, v139] :: L) ?_
          refine Gl ?_
          have eb : Av l q = { l with value := (Au l.value q).1 } := by unfold Av; rw [if_neg (by omega), if_pos (by omega)]
          have ed : A1 l q = true := by unfold A1; split <;> simp <;> omega
          have et : Bd l q = (Au l.value q).2 := by unfold Bd; rw [if_neg (by omega)]
          have er : (Ag ⟨ls, q0⟩ id home q) = (⟨ls.set q.line.toNat ({ l with value := (Au l.value q).1 }), zOp⟩, [], [(⟨id, q, (Au l.value q).2⟩ : Done)], 0) := by rw [Nr hl (by omega) (by omega) (by omega) (by omega) (by omega), ed, if_pos rfl, eb, et]
          rw [er]
          exact D2 (vL, .slice none 0 0, v139) Try.isAgg69 Try.sizeOf69
         ·
          intro ht119
          refine Gl ?_
          refine kp [7, 8, 9, 10, 11, 12, 140, 141, 142, 143] ?_
          refine Aa ?_
          refine Ga4 ?_
          refine cdx (p := ?p4) (hd := ?d4) ?e4 ?_ ?_; case e4 => exact rfl
          ·
           intro ht140
           refine JC.conseq (L' := row 82 vL ls :: blk b68 115 [vL, vi q0.kind, vi q0.line, vi q0.value, vi id, vi home, .slice none 0 0, .slice none 0 0] :: blk b8 69 [.slice none 0 0, vi 0, vi 0, vi 0] :: blk b7 66 q.cells :: L) (fun w hs => Al (Dh hl hlw (hs.pick pkk))) ?_
           refine JC.rowNil 42 Msg ?_
           refine Aa ?_
           refine rn2 ?_
           refine Aq Try.call75 rfl (fun w hs => Ol (vL := vL) (vo := .slice none 0 0) (vd := .slice none 0 0) (q := q) (q0 := q0) (id := id) (home := home) (ls := ls) (l := l) (ms := []) (want := 1) (bk := b68) (LX := blk b8 69 [.slice none 0 0, vi 0, vi 0, vi 0] :: blk b7 66 q.cells :: L) (Al hs) hl (by omega) (by omega) hid hhome (by simp) (by first | omega | (simp only; omega)) (by unfold Am; omega)) ?_; intro v146
           refine J.conseq (L' := row 82 vL (ls.set q.line.toNat ({ l with want := 1, serial := l.serial + 1 })) :: blk b68 115 [vL, vi q.kind, vi q.line, vi q.value, vi id, vi home, v146, .slice none 0 0] :: row 42 v146 [Bl ({ l with want := 1, serial := l.serial + 1 }) id home q.line] :: blk b8 69 [.slice none 0 0, vi 0, vi 0, vi 0] :: L) (fun w hs => by rw [List.nil_append] at hs; exact Al hs) ?_
           refine Gl ?_
           refine cq_ (row 82 vL (ls.set q.line.toNat ({ l with want := 1, serial := l.serial + 1 })) :: blk b68 115 [vL, vi q.kind, vi q.line, vi q.value, vi id, vi home, v146, .slice none 0 0] :: row 42 v146 [Bl ({ l with want := 1, serial := l.serial + 1 }) id home q.line] :: blk b8 69 [.slice none 0 0, vi 0, vi 0, vi 0] :: L) ?_
           refine JC.shut (v := vL) (xs := (ls.set q.line.toNat ({ l with want := 1, serial := l.serial + 1 }))) .hd ?_
           refine JC.shut (v := v146) (xs := [Bl ({ l with want := 1, serial := l.serial + 1 }) id home q.line]) pkk ?_
           refine JC.slNil Done ?_
           refine cq_ (blk b8 69 [.slice none 0 0, vi 0, vi 0, vi 0] :: blk b68 115 [vL, vi q.kind, vi q.line, vi q.value, vi id, vi home, v146, .slice none 0 0] :: L) ?_
           refine jd_ (fun ρ S => blk b8 69 (bif S 12 then [vL, vi q.kind, vi q.line, vi q.value] else [.slice none 0 0, vi 0, vi 0, vi 0]) :: blk b68 115 [vL, vi q.kind, vi q.line, vi q.value, vi id, vi home, v146, .slice none 0 0] :: L) ?_
           refine dn3 ?_
           refine Jn (v := .agg ([vL, vi q.kind, vi q.line, vi q.value]).toArray) (fun _ _ => Dy (b := b68) (f := 0) (vs := [vL, vi q.kind, vi q.line, vi q.value, vi id, vi home, v146, .slice none 0 0]) 4 Try.isAgg69 Try.sizeOf69) (fun _ _ _ _ _ => rfl) ?_
           refine dn8 ?_
           refine es_ 69 0 [] [] (fun ρ => b8) (fun ρ => [.slice none 0 0, vi 0, vi 0, vi 0]) (fun ρ => [vL, vi q.kind, vi q.line, vi q.value]) Try.sizeOf69 ?_
           refine dn3 ?_
           refine dnl ?_; intro ρ
           refine xq_ (blk b8 69 [vL, vi q.kind, vi q.line, vi q.value] :: blk b68 115 [vL, vi q.kind, vi q.line, vi q.value, vi id, vi home, v146, .slice none 0 0] :: L) ?_
           refine Gl ?_
           have eb : Av l q = { l with want := 1, serial := l.serial + 1 } := by unfold Av; rw [if_neg (by omega), if_neg (by omega), if_pos (by omega)]
           have ed : A1 l q = false := by unfold A1; split <;> simp <;> omega
           have er : (Ag ⟨ls, q0⟩ id home q) = (⟨ls.set q.line.toNat ({ l with want := 1, serial := l.serial + 1 }), q⟩, [Bl ({ l with want := 1, serial := l.serial + 1 }) id home q.line], [], 0) := by rw [Nr hl (by omega) (by omega) (by omega) (by omega) (by omega), ed, if_neg (by decide), eb]
           rw [er]
           exact D2 (vL, v146, .slice none 0 0) Try.isAgg69 Try.sizeOf69
          ·
           intro ht140
           refine JC.conseq (L' := row 82 vL ls :: blk b68 115 [vL, vi q0.kind, vi q0.line, vi q0.value, vi id, vi home, .slice none 0 0, .slice none 0 0] :: blk b8 69 [.slice none 0 0, vi 0, vi 0, vi 0] :: blk b7 66 q.cells :: L) (fun w hs => Al (Dh hl hlw (hs.pick pkk))) ?_
           refine JC.rowNil 42 Msg ?_
           refine Aa ?_
           refine rn2 ?_
           refine Aq Try.call75 rfl (fun w hs => Ol (vL := vL) (vo := .slice none 0 0) (vd := .slice none 0 0) (q := q) (q0 := q0) (id := id) (home := home) (ls := ls) (l := l) (ms := []) (want := 2) (bk := b68) (LX := blk b8 69 [.slice none 0 0, vi 0, vi 0, vi 0] :: blk b7 66 q.cells :: L) (Al hs) hl (by omega) (by omega) hid hhome (by simp) (by first | omega | (simp only; omega)) (by unfold Am; omega)) ?_; intro v79
           refine J.conseq (L' := row 82 vL (ls.set q.line.toNat ({ l with want := 2, serial := l.serial + 1 })) :: blk b68 115 [vL, vi q.kind, vi q.line, vi q.value, vi id, vi home, v79, .slice none 0 0] :: row 42 v79 [Bl ({ l with want := 2, serial := l.serial + 1 }) id home q.line] :: blk b8 69 [.slice none 0 0, vi 0, vi 0, vi 0] :: L) (fun w hs => by rw [List.nil_append] at hs; exact Al hs) ?_
           refine Gl ?_
           refine cq_ (row 82 vL (ls.set q.line.toNat ({ l with want := 2, serial := l.serial + 1 })) :: blk b68 115 [vL, vi q.kind, vi q.line, vi q.value, vi id, vi home, v79, .slice none 0 0] :: row 42 v79 [Bl ({ l with want := 2, serial := l.serial + 1 }) id home q.line] :: blk b8 69 [.slice none 0 0, vi 0, vi 0, vi 0] :: L) ?_
           refine JC.shut (v := vL) (xs := (ls.set q.line.toNat ({ l with want := 2, serial := l.serial + 1 }))) .hd ?_
           refine JC.shut (v := v79) (xs := [Bl ({ l with want := 2, serial := l.serial + 1 }) id home q.line]) pkk ?_
           refine JC.slNil Done ?_
           refine cq_ (blk b8 69 [.slice none 0 0, vi 0, vi 0, vi 0] :: blk b68 115 [vL, vi q.kind, vi q.line, vi q.value, vi id, vi home, v79, .slice none 0 0] :: L) ?_
           refine jd_ (fun ρ S => blk b8 69 (bif S 12 then [vL, vi q.kind, vi q.line, vi q.value] else [.slice none 0 0, vi 0, vi 0, vi 0]) :: blk b68 115 [vL, vi q.kind, vi q.line, vi q.value, vi id, vi home, v79, .slice none 0 0] :: L) ?_
           refine dn3 ?_
           refine Jn (v := .agg ([vL, vi q.kind, vi q.line, vi q.value]).toArray) (fun _ _ => Dy (b := b68) (f := 0) (vs := [vL, vi q.kind, vi q.line, vi q.value, vi id, vi home, v79, .slice none 0 0]) 4 Try.isAgg69 Try.sizeOf69) (fun _ _ _ _ _ => rfl) ?_
           refine dn8 ?_
           refine es_ 69 0 [] [] (fun ρ => b8) (fun ρ => [.slice none 0 0, vi 0, vi 0, vi 0]) (fun ρ => [vL, vi q.kind, vi q.line, vi q.value]) Try.sizeOf69 ?_
           refine dn3 ?_
           refine dnl ?_; intro ρ
           refine xq_ (blk b8 69 [vL, vi q.kind, vi q.line, vi q.value] :: blk b68 115 [vL, vi q.kind, vi q.line, vi q.value, vi id, vi home, v79, .slice none 0 0] :: L) ?_
           refine Gl ?_
           have eb : Av l q = { l with want := 2, serial := l.serial + 1 } := by unfold Av; rw [if_neg (by omega), if_neg (by omega), if_neg (by omega)]
           have ed : A1 l q = false := by unfold A1; split <;> simp <;> omega
           have er : (Ag ⟨ls, q0⟩ id home q) = (⟨ls.set q.line.toNat ({ l with want := 2, serial := l.serial + 1 }), q⟩, [Bl ({ l with want := 2, serial := l.serial + 1 }) id home q.line], [], 0) := by rw [Nr hl (by omega) (by omega) (by omega) (by omega) (by omega), ed, if_neg (by decide), eb]
           rw [er]
           exact D2 (vL, v79, .slice none 0 0) Try.isAgg69 Try.sizeOf69
theorem K6 {L : List Chunk} {R : List Fact} {w : World} {u : Value} {c : Core} {id home : Int} (hs : St (L) R w) (hu : sl u c.lines ∈ R) (hn4 : c.lines.length ≤ 100) (hid : Am id) (hhome : Am home) : Calls Try.prog 44 [.agg (c.cells u).toArray, vi id, vi home].toArray w (Ch (fun v : Value => v) (fun v => L) (fun v => sl v (C7 c id home) :: R)) := by
  obtain ⟨ls, q⟩ := c
  have hu : sl u ls ∈ R := hu
  have hn4 : ls.length ≤ 100 := hn4
  have hone0 : u.oneCell' = true := isSlice.one (hs.fact hu)
  refine Aj Try.func44 rfl Try.ntmps44 rfl hs ?_
  clear hs
  refine Gm ?_
  refine bx ?_; intro b3
  refine Gb1 ?_
  refine rn1 ?_
  refine Aq Try.call43 rfl (fun w hs => Fp (u := u) (c := ⟨ls, q⟩) hs mm) ?_; intro vL
  refine J.know (p := vL.oneCell' = true) (fun w hs => De .hd hs) (fun honeV => ?_)
  refine rn3 ?_
  refine bx ?_; intro b14
  refine Ga1 ?_
  refine cq_ (row 82 vL ls :: blk b14 115 [vL, vi q.kind, vi q.line, vi q.value, vi id, vi home, .slice none 0 0, .slice none 0 0] :: L) ?_
  refine Aa ?_
  refine Ga7 ?_
  refine JC.rowNil 42 Msg ?_
  refine Cu (γ := Nat × Value) (fun g => g.1 ≤ ls.length) (fun g => blk b14 115 [vL, vi q.kind, vi q.line, vi q.value, vi id, vi home, g.2, .slice none 0 0] :: row 82 vL ls :: row 42 g.2 (Bw id home 0 (ls.take g.1)) :: L) (fun _ => R) (fun g => [(7, bp b14 0), (20, vi (ls.length : Int)), (21, vi (g.1 : Int))]) (fun g => ls.length - g.1) (0, .slice none 0 0) (Nat.zero_le _) alT (fun w hs => Al hs) ?_
  rintro ⟨k, vs⟩ hk9
  try simp only at hk9 ⊢
  have htl := Jq id home (ls.take k) 0
  rw [List.length_take] at htl
  refine Gm ?_
  refine Ga1 ?_
  refine cdx (p := ?p1) (hd := ?d1) ?e1 ?_ ?_; case e1 => exact rfl
  ·
   intro ht22
   refine Gm ?_
   refine Ga2 ?_
   obtain ⟨l, hl⟩ : ∃ l, ls.getD ((k : Int)).toNat zLine = l := ⟨_, rfl⟩
   refine F7 (ls := ls) (l := l) (i := (k : Int)) pkk hl (by omega) (by omega) (fun hlw hA => ?_)
   have hlw0 := hlw
   unfold Line.wf Am at hlw0
   have honeL : (ep vL 7 (k : Int).toNat 0).oneCell' = true := hA.one
   refine Aa ?_
   refine rn6 ?_
   refine ob (J1 (v := vL) (i := (k : Int)) Ja (hl := E4 (α := Line) (xs := ls) pkk)) ?_
   refine Ga3 ?_
   refine cdx (p := ?p2) (hd := ?d2) ?e2 ?_ ?_; case e2 => exact rfl
   ·
    intro ht33
    refine JC.conseq (L' := row 82 vL ls :: blk b14 115 [vL, vi q.kind, vi q.line, vi q.value, vi id, vi home, vs, .slice none 0 0] :: row 42 vs (Bw id home 0 (ls.take k)) :: L) (fun w hs => Al (Dh hl hlw (hs.pick pkk))) ?_
    refine Aa ?_
    refine rn2 ?_
    refine Aq Try.call81 rfl (fun w hs => Nk (vL := vL) (vd := .slice none 0 0) (q := q) (id := id) (home := home) (ms := Bw id home 0 (ls.take k)) (line := (k : Int)) (ls := ls) (l := l) (LX := L) (Al hs) hl (by omega) (by omega) (by omega) hid hhome) ?_; intro v36
    refine Gl ?_
    refine kp [6, 7, 8, 20, 21, 22, 23, 24, 25, 26, 27, 28, 29, 30, 31, 32, 33, 34, 35, 37] ?_
    refine Aa ?_
    refine Ga2 ?_
    refine Be (k + 1, v36) (by show k + 1 ≤ ls.length; omega) (by show ls.length - (k + 1) < ls.length - k; omega) alT (fun w hs => ?_)
    try simp only
    rw [Ft zLine (by omega), Fs, show ls.getD k zLine = l from hl, if_pos ht33, List.length_take, Nat.min_eq_left (by omega), Int.zero_add]
    exact Al hs
   ·
    intro ht33
    refine Gm ?_
    refine Ga2 ?_
    refine Be (k + 1, vs) (by show k + 1 ≤ ls.length; omega) (by show ls.length - (k + 1) < ls.length - k; omega) alT (fun w hs => ?_)
    try simp only
    rw [Ft zLine (by omega), Fs, show ls.getD k zLine = l from hl, if_neg ht33, List.append_nil]
    exact Al (Dh hl hlw (hs.pick pkk))
  ·
   intro ht22
   refine Gl ?_
   refine JC.shut (v := vs) (xs := Bw id home 0 (ls.take k)) pkk ?_
   refine Aa ?_
   refine Ga5 ?_
   have hkl : k = ls.length := by omega
   rw [show C7 ⟨ls, q⟩ id home = Bw id home 0 (ls.take k) from by rw [hkl, List.take_length]; rfl]
   exact Cb vs
theorem Pd {L : List Chunk} {R : List Fact} {w : World} {lines : Int} (hs : St (L) R w) (hl : 0 ≤ lines ∧ lines ≤ 4) : Calls Try.prog 48 [vi lines].toArray w (Ch (fun v : Value => .agg (Core.cells v (Fh lines)).toArray) (fun v => L) (fun v => sl v (Fh lines).lines :: R)) := by
 refine Aj Try.func48 rfl Try.ntmps48 rfl hs ?_
 clear hs
 refine Gm ?_
 refine al_ (cs := [.slice none 0 0, vi 0, vi 0, vi 0]) Try.zeroValue69 ?_; intro b2
 refine Gm ?_
 refine rn1 ?_
 refine ob (q_mx (a := lines) rfl (by omega)) ?_
 refine Q3 (α := Line) (x0 := zLine) (zc := zLine.cells) P6 rfl (by decide) rfl rfl rfl (fun j => ⟨rfl, by unfold Line.wf Am; decide⟩) (by omega) (by omega) ?_; intro v5
 refine J.shut .hd ?_
 refine J.know (p := v5.oneCell' = true) (fun w hs => isSlice.one (hs.fact (.head _))) (fun honev5 => ?_)
 refine rn1 ?_
 refine s_B (cs := [v5, vi 0, vi 0, vi 0]) Try.sizeOf69 ?_
 refine Gl ?_
 exact Ml v5 Try.isAgg69 Try.sizeOf69
end Go.Proofs.Ytofgpimoekhfaaa

/- This file proves plain laws of a core. No conditions. -/
set_option linter.unusedVariables false
set_option linter.unusedSimpArgs false
set_option maxHeartbeats 1000000
set_option maxRecDepth 8000
namespace Go.Proofs.Ytofgpimoekhfaaa
open Go
theorem Of {c : Core} {i : Int} {l : Line} {w : Op} (h0 : 0 ≤ i) (h : i < (c.lines.length : Int)) : Ac (Ap c i l w) i = l := by
 unfold Ac Ap
 rw [List.getD_eq_getElem?_getD, List.getElem?_set_self (by omega)]; rfl
theorem Qo {c : Core} {i : Int} {l l' : Line} {w w' : Op} : Ap (Ap c i l w) i l' w' = Ap c i l' w' := by
 unfold Ap; rw [List.set_set]
theorem Sm {c : Core} {i : Int} {l : Line} {w : Op} : ((Ap c i l w).lines.length : Int) = c.lines.length := by unfold Ap; rw [List.length_set]
theorem Qp {c : Core} {i : Int} : Ap c i (Ac c i) c.wait = c := by
  unfold Ap Ac
  have : c.lines.set i.toNat (c.lines.getD i.toNat zLine) = c.lines := by
    by_cases h : i.toNat < c.lines.length
    · rw [List.getD_eq_getElem?_getD, List.getElem?_eq_getElem h]; exact List.set_getElem_self h
    · exact List.set_eq_of_length_le (by omega)
  rw [this]
theorem core_twice {c : Core} {id home : Int} {m : Msg} : (Ad (Ad c id home m).1 id home m).1 = (Ad c id home m).1 ∧ (Ad (Ad c id home m).1 id home m).2.2 = [] := by
  by_cases o : m.line < 0 ∨ (c.lines.length : Int) ≤ m.line
  · have h1 : Ad c id home m = (c, [], []) := by unfold Ad; rw [if_pos o]
    rw [h1]; rw [h1]; exact ⟨rfl, rfl⟩
  have hg : ∀ l w, ¬ (m.line < 0 ∨ ((Ap c m.line l w).lines.length : Int) ≤ m.line) := fun l w => by rw [Sm]; exact o
  have hla : ∀ l w, Ac (Ap c m.line l w) m.line = l := fun l w => Of (by omega) (by omega)
  by_cases k4 : m.kind = 4
  · have h1 : (Ad c id home m).1 = Ap c m.line (Bh (Ac c m.line) m.turn) c.wait := by unfold Ad; rw [if_neg o, if_pos k4]
    rw [h1]
    have h2 : Bh (Bh (Ac c m.line) m.turn) m.turn = Bh (Ac c m.line) m.turn := by
      generalize Ac c m.line = l
      by_cases a : l.seen < m.turn
      · have hs : (Bh l m.turn).seen = m.turn := by unfold Bh; rw [if_pos a]; split <;> rfl
        generalize Bh l m.turn = z at hs
        unfold Bh; rw [if_neg (by omega)]
      · have hs : Bh l m.turn = l := by unfold Bh; rw [if_neg a]
        rw [hs, hs]
    have h3 : Ad (Ap c m.line (Bh (Ac c m.line) m.turn) c.wait) id home m = (Ap c m.line (Bh (Ac c m.line) m.turn) c.wait, [A5 8 id home m.line m.turn 0], []) := by
      unfold Ad; rw [if_neg (hg _ _), if_pos k4, hla, h2, Qo]; rfl
    rw [h3]; exact ⟨rfl, rfl⟩
  by_cases k5 : m.kind = 5 ∨ m.kind = 6
  · by_cases f : Cq (Ac c m.line) m.turn
    · have h1 : ∃ w, (Ad c id home m).1 = Ap c m.line (Bq (Ac c m.line) m.kind m.turn) w := ⟨_, by unfold Ad; rw [if_neg o, if_neg k4, if_pos k5, if_pos f]⟩
      obtain ⟨w, h1⟩ := h1
      rw [h1]
      have h2 : ¬ Cq (Bq (Ac c m.line) m.kind m.turn) m.turn := by
        have : (Bq (Ac c m.line) m.kind m.turn).seen = m.turn := by unfold Bq; split <;> (try split) <;> rfl
        unfold Cq; omega
      unfold Ad
      rw [if_neg (hg _ _), if_neg k4, if_pos k5, hla, if_neg h2]
      split <;> exact ⟨rfl, rfl⟩
    · have h1 : (Ad c id home m).1 = c ∧ (Ad c id home m).2.2 = [] := by
        unfold Ad; rw [if_neg o, if_neg k4, if_pos k5, if_neg f]; split <;> exact ⟨rfl, rfl⟩
      rw [h1.1]; exact h1
  by_cases k7 : m.kind = 7
  · by_cases s : (Ac c m.line).serial < m.serial
    · have h1 : Ad c id home m = (c, [], []) := by unfold Ad; rw [if_neg o, if_neg k4, if_neg k5, if_pos k7, if_pos s]
      rw [h1]; rw [h1]; exact ⟨rfl, rfl⟩
    by_cases a : Er (Ac c m.line) m
    · have h1 : (Ad c id home m).1 = Ap c m.line (Ed (Ac c m.line) m c.wait) zOp := by unfold Ad; rw [if_neg o, if_neg k4, if_neg k5, if_pos k7, if_neg s, if_pos a]
      rw [h1]
      have h2 : ¬ Er (Ed (Ac c m.line) m c.wait) m := by
        have : (Ed (Ac c m.line) m c.wait).want = 0 := rfl
        unfold Er; omega
      have h3 : (Ed (Ac c m.line) m c.wait).serial = (Ac c m.line).serial := rfl
      unfold Ad
      rw [if_neg (hg _ _), if_neg k4, if_neg k5, if_pos k7, hla, if_neg (by omega), if_neg h2]
      exact ⟨rfl, rfl⟩
    · have h1 : Ad c id home m = (c, [A5 10 id home m.line m.turn 0], []) := by unfold Ad; rw [if_neg o, if_neg k4, if_neg k5, if_pos k7, if_neg s, if_neg a]
      rw [h1]; rw [h1]; exact ⟨rfl, rfl⟩
  by_cases k11 : m.kind = 11 ∧ (Ac c m.line).want = 3 ∧ m.serial = (Ac c m.line).serial
  · have h1 : (Ad c id home m).1 = Ap c m.line { Ac c m.line with state := 0, value := 0, want := 0 } zOp := by unfold Ad; rw [if_neg o, if_neg k4, if_neg k5, if_neg k7, if_pos k11]
    rw [h1]
    unfold Ad
    rw [if_neg (hg _ _), if_neg k4, if_neg k5, if_neg k7, hla, if_neg (fun h => absurd (show (0 : Int) = 3 from h.2.1) (by decide))]
    exact ⟨rfl, rfl⟩
  · have h1 : Ad c id home m = (c, [], []) := by unfold Ad; rw [if_neg o, if_neg k4, if_neg k5, if_neg k7, if_neg k11]
    rw [h1]; rw [h1]; exact ⟨rfl, rfl⟩
theorem Jo {c : Core} {id home : Int} {m : Msg} (ht : m.turn ≤ (Ac c m.line).seen) (hs : (Ac c m.line).want = 0 ∨ m.serial < (Ac c m.line).serial) : (Ad c id home m).1 = c ∧ (Ad c id home m).2.2 = [] := by
  unfold Ad
  split
  · exact ⟨rfl, rfl⟩
  split
  · have : Bh (Ac c m.line) m.turn = Ac c m.line := by unfold Bh; rw [if_neg (by omega)]
    rw [this, Qp]; exact ⟨rfl, rfl⟩
  split
  · rw [if_neg (by unfold Cq; omega)]; split <;> exact ⟨rfl, rfl⟩
  split
  · split
    · exact ⟨rfl, rfl⟩
    · rw [if_neg (by unfold Er; omega)]; exact ⟨rfl, rfl⟩
  split
  · omega
  · exact ⟨rfl, rfl⟩
theorem Nh {c : Core} {id home : Int} {o : Op} (hn : (Ac c o.line).serial < 65535) :
    (c.wait.kind ≠ 0 → (Ag c id home o).2.2.2 = 8 ∨ (Ag c id home o).2.2.2 = 1 ∨ (Ag c id home o).2.2.2 = 3) ∧
    (c.wait.kind = 0 → (Ag c id home o).2.2.2 ≠ 8 ∧ ((Ag c id home o).2.2.2 = 0 →
      (∃ a, (Ag c id home o).1.wait = o ∧ (Ag c id home o).2.1 = [a] ∧ (Ag c id home o).2.2.1 = []) ∨
      (∃ v, (Ag c id home o).1.wait.kind = 0 ∧ (Ag c id home o).2.1 = [] ∧ (Ag c id home o).2.2.1 = [⟨id, o, v⟩]))) := by
  unfold Ag
  split
  · exact ⟨fun _ => .inr (.inl rfl), fun _ => ⟨by show (1 : Int) ≠ 8; decide, fun h => absurd (show (1 : Int) = 0 from h) (by decide)⟩⟩
  split
  · exact ⟨fun _ => .inr (.inr rfl), fun _ => ⟨by show (3 : Int) ≠ 8; decide, fun h => absurd (show (3 : Int) = 0 from h) (by decide)⟩⟩
  by_cases w : c.wait.kind = 0
  · rw [if_neg (by omega)]
    refine ⟨fun h => absurd w h, fun _ => ?_⟩
    split
    · exact ⟨by show (0 : Int) ≠ 8; decide, fun _ => .inr ⟨_, rfl, rfl, rfl⟩⟩
    · exact ⟨by show (0 : Int) ≠ 8; decide, fun _ => .inl ⟨_, rfl, rfl, rfl⟩⟩
  · rw [if_pos (.inl w)]
    exact ⟨fun _ => .inl rfl, fun h => absurd h w⟩
def SB (x : Chip) (N : Nat) : Prop := ∀ c ∈ x.cores, ∀ l ∈ c.lines, l.serial ≤ (N : Int)
theorem SB.mono {x : Chip} {N K : Nat} (h : SB x N) (hk : N ≤ K) : SB x K := fun c hc l hl => Int.le_trans (h c hc l hl) (by omega)
theorem SB.set {x : Chip} {N : Nat} {p : Nat} {c : Core} (h : SB x N) (hc : ∀ l ∈ c.lines, l.serial ≤ (N : Int)) {hm : List Entry} {fr : Frames} : SB ⟨x.cores.set p c, hm, fr⟩ N := by
  intro d hd l hl
  rcases List.mem_or_eq_of_mem_set hd with h1 | h1
  · exact h d h1 l hl
  · subst h1; exact hc l hl
theorem SB.line {c : Core} {N : Int} (h : ∀ l ∈ c.lines, l.serial ≤ N) (h0 : 0 ≤ N) (i : Int) : (Ac c i).serial ≤ N := by
 unfold Ac
 rw [List.getD_eq_getElem?_getD]
 cases e : c.lines[i.toNat]? with
 | none => exact h0
 | some l => exact h l (List.mem_of_getElem? e)
theorem SB.at {x : Chip} {N : Nat} (h : SB x N) (p : Int) : ∀ l ∈ (Ah x p).lines, l.serial ≤ (N : Int) := by
 unfold Ah
 rw [List.getD_eq_getElem?_getD]
 cases e : x.cores[p.toNat]? with
 | none => intro l hl; cases hl
 | some c => exact h c (List.mem_of_getElem? e)
theorem SB.wl {c : Core} {N K : Int} (h : ∀ l ∈ c.lines, l.serial ≤ N) (hk : N ≤ K) {i : Int} {l : Line} {w : Op} (hl : l.serial ≤ K) : ∀ l' ∈ (Ap c i l w).lines, l'.serial ≤ K := by
  intro l' h'
  rcases List.mem_or_eq_of_mem_set h' with h1 | h1
  · exact Int.le_trans (h l' h1) hk
  · subst h1; exact hl
theorem SB.hear {c : Core} {N : Nat} (h : ∀ l ∈ c.lines, l.serial ≤ (N : Int)) {id home : Int} {m : Msg} : ∀ l ∈ (Ad c id home m).1.lines, l.serial ≤ (N : Int) := by
  have h0 := SB.line h (by omega) m.line
  unfold Ad
  split
  · exact h
  split
  · refine SB.wl h (Int.le_refl _) ?_
    unfold Bh; split <;> (try split) <;> exact h0
  split
  · split
    · refine SB.wl h (Int.le_refl _) ?_
      unfold Bq; split <;> (try split) <;> exact h0
    split <;> exact h
  split
  · split
    · exact h
    split
    · exact SB.wl h (Int.le_refl _) h0
    · exact h
  split
  · exact SB.wl h (Int.le_refl _) h0
  · exact h
theorem SB.begin {c : Core} {N : Nat} (h : ∀ l ∈ c.lines, l.serial ≤ (N : Int)) {id home : Int} {o : Op} : ∀ l ∈ (Ag c id home o).1.lines, l.serial ≤ ((N + 1 : Nat) : Int) := by
  have h0 := SB.line h (by omega) o.line
  have h1 : (Av (Ac c o.line) o).serial ≤ ((N + 1 : Nat) : Int) := by
    unfold Av
    split <;> (try split) <;> (simp only; omega)
  unfold Ag
  split
  · intro l hl; cases hl
  split
  · intro l hl; cases hl
  split
  · intro l hl; cases hl
  split
  · exact SB.wl h (by omega) h1
  · exact SB.wl h (by omega) h1
theorem SB.zero {N : Nat} : SB Dw N := fun c hc => by cases hc
theorem SB.step {x : Chip} {N : Nat} (h : SB x N) (s : Step) : SB (Ar x s).1 (N + 1) := by
  have hc : ∀ fr b, SB (Eg ⟨x.cores, x.home, fr⟩ b).1 N := by
    intro fr b
    unfold Eg
    split
    · exact h
    split
    · exact h
    · exact SB.set h (SB.hear (SB.at h _))
  unfold Ar
  split
  · split
    · exact SB.zero
    split
    · exact SB.zero
    · exact SB.set (h.mono (by omega)) (SB.begin (SB.at h _))
  split
  · split
    · exact SB.zero
    · exact (hc _ _).mono (by omega)
  split
  · split
    · exact SB.zero
    · exact (show SB _ N from h).mono (by omega)
  split
  · split
    · exact SB.zero
    · exact (show SB _ N from h).mono (by omega)
  split
  · split
    · exact SB.zero
    split
    · exact SB.zero
    split
    · exact SB.zero
    · exact (show SB _ N from h).mono (by omega)
  split
  · split
    · exact SB.zero
    split
    · exact (show SB _ N from h).mono (by omega)
    · exact (show SB _ N from h).mono (by omega)
  · exact SB.zero
theorem SB.all : ∀ (l : List Step) {x : Chip} {N : Nat}, SB x N → SB (Ej x l).1 (N + l.length)
  | [], _, _, h => h
  | s :: r, x, N, h => by
    unfold Ej
    split
    · refine (SB.all r (SB.step h s)).mono ?_
      rw [List.length_cons]; omega
    · exact (SB.all r h).mono (by rw [List.length_cons]; omega)
theorem SB.build (c : Config) (l : List Step) : SB (build c l).1 300 := by
  unfold Go.Proofs.Ytofgpimoekhfaaa.build
  split
  · exact SB.zero
  · rename_i hg
    have h0 : SB (Br c).1 0 := by
      intro k hk l hl
      unfold Br at hk
      split at hk
      · cases hk
      · have e := List.eq_of_mem_replicate hk
        subst e
        have e2 := List.eq_of_mem_replicate hl
        subst e2
        exact Int.le_refl _
    refine (SB.all (l.take 300) h0).mono ?_
    rw [List.length_take]; omega
end Go.Proofs.Ytofgpimoekhfaaa

/- This file proves what frame.Sum and its twin in shref1 compute. No conditions. -/
set_option linter.unusedVariables false
set_option linter.unusedSimpArgs false
set_option maxHeartbeats 1000000
set_option maxRecDepth 8000
namespace Go.Proofs.Ytofgpimoekhfaaa
open Go
theorem Gp {L : List Chunk} {R : List Fact} {w : World} {v0 : Value} {b : List UInt8} (hs : St L R w) (h0 : sl v0 b ∈ R) : Calls Try.prog 91 [v0].toArray w (Ch (fun _ : Unit => vi (Il b)) (fun _ => L) (fun _ => R)) := by
  have hlen := Bk h0 hs
  refine Aj Try.func91 rfl Try.ntmps91 rfl hs ?_
  clear hs
  repeat refine Bz ?_
  refine Aa ?_
  refine Cc rfl ?_
  refine J.nil ?_
  refine A3 ?_
  repeat refine Bz ?_
  refine Aa ?_
  refine Cc rfl ?_
  refine J.nil ?_
  refine A3 ?_
  repeat refine Bz ?_
  refine Aa ?_
  refine Bx rfl ?_
  refine r_len Try.underlying23 rfl (by first | exact Eb (by first | exact .hd | exact .tl .hd | exact .tl (.tl .hd) | exact .tl (.tl (.tl .hd)) | exact .tl (.tl (.tl (.tl .hd))) | exact .tl (.tl (.tl (.tl (.tl .hd)))) | exact .tl (.tl (.tl (.tl (.tl (.tl .hd))))) | exact .tl (.tl (.tl (.tl (.tl (.tl (.tl .hd)))))) | exact .tl (.tl (.tl (.tl (.tl (.tl (.tl (.tl .hd)))))))) | exact Fd (by first | assumption | exact .head _ | (refine .tail _ ?_; first | assumption | exact .head _ | (refine .tail _ ?_; first | assumption | exact .head _ | (refine .tail _ ?_; first | assumption | exact .head _ | (refine .tail _ ?_; first | assumption | exact .head _ | (refine .tail _ ?_; first | assumption | exact .head _ | (refine .tail _ ?_; first | assumption | exact .head _ | (refine .tail _ ?_; first | assumption | exact .head _ | (refine .tail _ ?_; first | assumption | exact .head _ | (refine .tail _ ?_; first | assumption | exact .head _))))))))))) ?_
  refine Bx rfl ?_
  refine J.nil ?_
  refine A3 ?_
  repeat refine Bz ?_
  refine D3 ?_
  refine Cu (γ := Nat) (fun k => k ≤ b.length) (fun _ => L) (fun _ => R) (fun k => [(0, v0), (9, v0), (10, vi (b.length : Int)), (11, vi (k : Int)), (3, vi ((Le b k).toNat : Int))]) (fun k => b.length - k) 0 (by omega) ⟨rfl, rfl, rfl, rfl, rfl, trivial⟩ (fun w hs => hs) ?_
  intro k hk
  repeat refine Bz ?_
  refine Aa ?_
  refine E1 rfl rfl Kt ?_
  refine J.nil ?_
  refine A3 ?_
  repeat refine Bz ?_
  refine Bp rfl (fun ht12 => ?_) (fun ht12 => ?_)
  · -- t12 True
    try simp only [decide_eq_true_eq, decide_eq_false_iff_not, beq_iff_eq, bne_iff_ne, beq_eq_false_iff_ne, bne_eq_false_iff_eq, Int.not_lt, Int.not_le, Bool.not_eq_true, ne_eq, Bool.not_eq_eq_eq_not, Bool.not_true, Bool.not_false] at ht12
    refine Fe ?_
    refine A3 ?_
    repeat refine Bz ?_
    refine D3 ?_
    repeat refine Bz ?_
    refine Aa ?_
    first | refine I2 D4 rfl rfl (by first | exact Eb (by first | exact .hd | exact .tl .hd | exact .tl (.tl .hd) | exact .tl (.tl (.tl .hd)) | exact .tl (.tl (.tl (.tl .hd))) | exact .tl (.tl (.tl (.tl (.tl .hd)))) | exact .tl (.tl (.tl (.tl (.tl (.tl .hd))))) | exact .tl (.tl (.tl (.tl (.tl (.tl (.tl .hd)))))) | exact .tl (.tl (.tl (.tl (.tl (.tl (.tl (.tl .hd)))))))) | exact Fd (by first | assumption | exact .head _ | (refine .tail _ ?_; first | assumption | exact .head _ | (refine .tail _ ?_; first | assumption | exact .head _ | (refine .tail _ ?_; first | assumption | exact .head _ | (refine .tail _ ?_; first | assumption | exact .head _ | (refine .tail _ ?_; first | assumption | exact .head _ | (refine .tail _ ?_; first | assumption | exact .head _ | (refine .tail _ ?_; first | assumption | exact .head _ | (refine .tail _ ?_; first | assumption | exact .head _ | (refine .tail _ ?_; first | assumption | exact .head _))))))))))) (by first | assumption | omega | (simp only [List.length_nil, List.length_cons, List.length_append, List.length_take, List.length_drop, List.length_set, List.length_replicate]; omega)) ?_ | refine Ho D4 rfl rfl (by first | exact Eb (by first | exact .hd | exact .tl .hd | exact .tl (.tl .hd) | exact .tl (.tl (.tl .hd)) | exact .tl (.tl (.tl (.tl .hd))) | exact .tl (.tl (.tl (.tl (.tl .hd)))) | exact .tl (.tl (.tl (.tl (.tl (.tl .hd))))) | exact .tl (.tl (.tl (.tl (.tl (.tl (.tl .hd)))))) | exact .tl (.tl (.tl (.tl (.tl (.tl (.tl (.tl .hd)))))))) | exact Fd (by first | assumption | exact .head _ | (refine .tail _ ?_; first | assumption | exact .head _ | (refine .tail _ ?_; first | assumption | exact .head _ | (refine .tail _ ?_; first | assumption | exact .head _ | (refine .tail _ ?_; first | assumption | exact .head _ | (refine .tail _ ?_; first | assumption | exact .head _ | (refine .tail _ ?_; first | assumption | exact .head _ | (refine .tail _ ?_; first | assumption | exact .head _ | (refine .tail _ ?_; first | assumption | exact .head _ | (refine .tail _ ?_; first | assumption | exact .head _))))))))))) (by first | assumption | omega | (simp only [List.length_nil, List.length_cons, List.length_append, List.length_take, List.length_drop, List.length_set, List.length_replicate]; omega)) (by first | assumption | omega | (simp only [List.length_nil, List.length_cons, List.length_append, List.length_take, List.length_drop, List.length_set, List.length_replicate]; omega)) ?_
    first | refine Ip Try.isAgg5 rfl (A2 (by first | exact .hd | exact .tl .hd | exact .tl (.tl .hd) | exact .tl (.tl (.tl .hd)) | exact .tl (.tl (.tl (.tl .hd))) | exact .tl (.tl (.tl (.tl (.tl .hd)))) | exact .tl (.tl (.tl (.tl (.tl (.tl .hd))))) | exact .tl (.tl (.tl (.tl (.tl (.tl (.tl .hd)))))) | exact .tl (.tl (.tl (.tl (.tl (.tl (.tl (.tl .hd)))))))) (by exact rfl)) ?_ | refine Ip Try.isAgg5 rfl (at_byterow (by first | exact .hd | exact .tl .hd | exact .tl (.tl .hd) | exact .tl (.tl (.tl .hd)) | exact .tl (.tl (.tl (.tl .hd))) | exact .tl (.tl (.tl (.tl (.tl .hd)))) | exact .tl (.tl (.tl (.tl (.tl (.tl .hd))))) | exact .tl (.tl (.tl (.tl (.tl (.tl (.tl .hd)))))) | exact .tl (.tl (.tl (.tl (.tl (.tl (.tl (.tl .hd)))))))) (by first | assumption | omega | (simp only [List.length_nil, List.length_cons, List.length_append, List.length_take, List.length_drop, List.length_set, List.length_replicate]; omega))) ?_ | refine Ip Try.isAgg5 rfl (Ph (by first | assumption | exact .head _ | (refine .tail _ ?_; first | assumption | exact .head _ | (refine .tail _ ?_; first | assumption | exact .head _ | (refine .tail _ ?_; first | assumption | exact .head _ | (refine .tail _ ?_; first | assumption | exact .head _ | (refine .tail _ ?_; first | assumption | exact .head _ | (refine .tail _ ?_; first | assumption | exact .head _ | (refine .tail _ ?_; first | assumption | exact .head _ | (refine .tail _ ?_; first | assumption | exact .head _ | (refine .tail _ ?_; first | assumption | exact .head _)))))))))) (by first | assumption | omega | (simp only [List.length_nil, List.length_cons, List.length_append, List.length_take, List.length_drop, List.length_set, List.length_replicate]; omega))) ?_
    refine Cc rfl ?_
    refine J.nil ?_
    refine A3 ?_
    repeat refine Bz ?_
    refine Aa ?_
    refine Cc rfl ?_
    refine J.nil ?_
    refine A3 ?_
    refine D3 ?_
    refine Cu (γ := Nat) (fun j => j ≤ 8) (fun _ => L) (fun _ => R) (fun j => [(0, v0), (9, v0), (10, vi (b.length : Int)), (11, vi (k : Int)), (5, vb (b.getD k 0)), (6, vi (7 - (j : Int))), (3, vi ((Gr (b.getD k 0) j (Le b k)).toNat : Int))]) (fun j => 8 - j) 0 (by omega) ⟨rfl, rfl, rfl, rfl, rfl, rfl, rfl, trivial⟩ (fun w hs => hs) ?_
    intro j hj
    generalize hx : Gr (b.getD k 0) j (Le b k) = x
    repeat refine Bz ?_
    refine Aa ?_
    refine Bx rfl ?_
    refine E1 rfl rfl Nt ?_
    refine J.nil ?_
    refine A3 ?_
    repeat refine Bz ?_
    refine Bp rfl (fun ht16 => ?_) (fun ht16 => ?_)
    · -- t16 True
      try simp only [decide_eq_true_eq, decide_eq_false_iff_not, beq_iff_eq, bne_iff_ne, beq_eq_false_iff_ne, bne_eq_false_iff_eq, Int.not_lt, Int.not_le, Bool.not_eq_true, ne_eq, Bool.not_eq_eq_eq_not, Bool.not_true, Bool.not_false] at ht16
      refine Fe ?_
      refine A3 ?_
      repeat refine Bz ?_
      refine D3 ?_
      repeat refine Bz ?_
      obtain ⟨q, hq⟩ : ∃ q : Nat, 7 - (j : Int) = (q : Int) := ⟨7 - j, by omega⟩
      have hq2 : q = 7 - j := by omega
      rw [hq]
      refine Aa ?_
      refine Bx rfl ?_
      refine r_p (A9 Try.underlying5 Try.underlying3 rfl (Bi _)) rfl ?_
      refine Bx rfl ?_
      refine Ve rfl rfl (b_shr (by omega) (by omega)) ?_
      rw [Int.toNat_natCast, show ((b.getD k 0).toNat : Int) / 2 ^ q = ((((b.getD k 0).toNat : Int) / 2 ^ q).toNat : Int) from (Int.toNat_of_nonneg (Int.ediv_nonneg (by omega) (Int.pow_nonneg (by omega)))).symm]
      refine E1 rfl rfl (b_andN (b := 1) (by have := (b.getD k 0).toNat_lt; have h1 := Int.ediv_le_self (a := ((b.getD k 0).toNat : Int)) (2 ^ q) (by omega); omega) (by omega)) ?_
      rw [Sw _ _ (by omega)]
      refine Cc rfl ?_
      refine J.nil ?_
      refine A3 ?_
      repeat refine Bz ?_
      refine Aa ?_
      refine Bx rfl ?_
      refine E1 rfl rfl (b_quo (by decide) (by rw [N3]; split <;> omega) (by rw [N3]; split <;> omega)) ?_
      rw [N3]
      refine Cc rfl ?_
      refine J.nil ?_
      refine A3 ?_
      repeat refine Bz ?_
      refine Aa ?_
      refine Bx rfl ?_
      refine E1 rfl rfl b_mulw ?_
      refine E1 rfl rfl (Un (by decide) (by rw [N4]; omega) (by rw [N4]; have := (x <<< 1).isLt; omega)) ?_
      rw [N4]
      refine Cc rfl ?_
      refine J.nil ?_
      refine A3 ?_
      repeat refine Bz ?_
      refine Aa ?_
      refine Bx rfl ?_
      refine Bx rfl ?_
      refine E1 rfl rfl Uo ?_
      refine J.nil ?_
      refine A3 ?_
      refine Bp rfl (fun ht31 => ?_) (fun ht31 => ?_)
      · -- t31 True
        try simp only [decide_eq_true_eq, decide_eq_false_iff_not, beq_iff_eq, bne_iff_ne, beq_eq_false_iff_ne, bne_eq_false_iff_eq, Int.not_lt, Int.not_le, Bool.not_eq_true, ne_eq, Bool.not_eq_eq_eq_not, Bool.not_true, Bool.not_false] at ht31
        replace ht31 : (x.msb ^^ (b.getD k 0).toBitVec.getLsbD (7 - j)) = true := by rw [← hq2]; generalize b.getD k 0 = c at ht31 ⊢; cases h1 : x.msb <;> cases h2 : c.toBitVec.getLsbD q <;> simp [h1, h2] at ht31 ⊢
        refine Aa ?_
        refine Bx rfl ?_
        refine E1 rfl rfl (U1 (b := 4129) (lt63 _) (by omega)) ?_
        refine Cc rfl ?_
        refine J.nil ?_
        refine Ec ?_
        refine A3 ?_
        refine Aa ?_
        refine Bx rfl ?_
        refine E1 rfl rfl (Um (by omega) (by omega)) ?_
        refine Cc rfl ?_
        refine J.nil ?_
        refine Be (j + 1) (by omega) (by omega) ⟨rfl, rfl, rfl, rfl, rfl, ?_, ?_, trivial⟩ (fun w hs => hs)
        · exact congrArg (fun z => some (vi z)) (show (q : Int) - 1 = 7 - ((j + 1 : Nat) : Int) by omega)
        rw [I1, hx]
        exact congrArg (fun z : Nat => some (vi (z : Int))) (by rw [Vb]; unfold K0; rw [if_pos ht31])
      · -- t31 False
        try simp only [decide_eq_true_eq, decide_eq_false_iff_not, beq_iff_eq, bne_iff_ne, beq_eq_false_iff_ne, bne_eq_false_iff_eq, Int.not_lt, Int.not_le, Bool.not_eq_true, ne_eq, Bool.not_eq_eq_eq_not, Bool.not_true, Bool.not_false] at ht31
        replace ht31 : (x.msb ^^ (b.getD k 0).toBitVec.getLsbD (7 - j)) = false := by rw [← hq2]; generalize b.getD k 0 = c at ht31 ⊢; cases h1 : x.msb <;> cases h2 : c.toBitVec.getLsbD q <;> simp [h1, h2] at ht31 ⊢
        refine Fe ?_
        refine Ec ?_
        refine A3 ?_
        refine Aa ?_
        refine Bx rfl ?_
        refine E1 rfl rfl (Um (by omega) (by omega)) ?_
        refine Cc rfl ?_
        refine J.nil ?_
        refine Be (j + 1) (by omega) (by omega) ⟨rfl, rfl, rfl, rfl, rfl, ?_, ?_, trivial⟩ (fun w hs => hs)
        · exact congrArg (fun z => some (vi z)) (show (q : Int) - 1 = 7 - ((j + 1 : Nat) : Int) by omega)
        rw [I1, hx]
        exact congrArg (fun z : Nat => some (vi (z : Int))) (by unfold K0; rw [if_neg (by rw [ht31]; decide), BitVec.xor_zero])
    · -- t16 False
      try simp only [decide_eq_true_eq, decide_eq_false_iff_not, beq_iff_eq, bne_iff_ne, beq_eq_false_iff_ne, bne_eq_false_iff_eq, Int.not_lt, Int.not_le, Bool.not_eq_true, ne_eq, Bool.not_eq_eq_eq_not, Bool.not_true, Bool.not_false] at ht16
      refine Gw ?_
      repeat (first | refine Dj ?_ | refine Ez rfl ?_)
      refine Dk ?_
      refine Ec ?_
      refine A3 ?_
      refine Aa ?_
      refine E1 rfl rfl (Mb (by omega) (by omega)) ?_
      refine Bx rfl ?_
      refine J.nil ?_
      refine Be (k + 1) (by omega) (by omega) ⟨rfl, rfl, rfl, rfl, ?_, trivial⟩ (fun w hs => hs)
      have h8 : j = 8 := by omega
      subst h8
      rw [Pn (by omega), Ok, hx]; rfl
  · -- t12 False
    try simp only [decide_eq_true_eq, decide_eq_false_iff_not, beq_iff_eq, bne_iff_ne, beq_eq_false_iff_ne, bne_eq_false_iff_eq, Int.not_lt, Int.not_le, Bool.not_eq_true, ne_eq, Bool.not_eq_eq_eq_not, Bool.not_true, Bool.not_false] at ht12
    refine Gw ?_
    repeat (first | refine Dj ?_ | refine Ez rfl ?_)
    refine Dk ?_
    refine A3 ?_
    repeat refine Bz ?_
    refine Aa ?_
    refine Bx rfl ?_
    refine Cc rfl ?_
    refine J.nil ?_
    refine A3 ?_
    refine K3 ?_
    repeat (first | refine E9 ?_ | refine Eo ?_)
    have hkl : k = b.length := by omega
    subst hkl
    rw [sum_vi]
    refine Co (.inr rfl) (fun B w _ => res1 rfl rfl B w) (fun w hs => ⟨(), ?_, hs.sub (by repeat (first | exact .refl | exact .nil | refine .cons (by first | exact .hd | exact .tl .hd | exact .tl (.tl .hd) | exact .tl (.tl (.tl .hd)) | exact .tl (.tl (.tl (.tl .hd))) | exact .tl (.tl (.tl (.tl (.tl .hd)))) | exact .tl (.tl (.tl (.tl (.tl (.tl .hd))))) | exact .tl (.tl (.tl (.tl (.tl (.tl (.tl .hd)))))) | exact .tl (.tl (.tl (.tl (.tl (.tl (.tl (.tl .hd)))))))) ?_ | refine .drop ?_)) (by repeat (first | exact FSub.refl | exact FSub.nil | refine FSub.cons (by first | assumption | (repeat (first | assumption | exact List.Mem.head _ | refine .tail _ ?_))) ?_ | refine FSub.drop ?_))⟩)
    rfl
end Go.Proofs.Ytofgpimoekhfaaa

/- This file proves what the document's answer tells of frames: what is wrong with a message, its bytes, and the message of bytes. No conditions. -/
set_option linter.unusedVariables false
set_option linter.unusedSimpArgs false
set_option maxHeartbeats 1000000
set_option maxRecDepth 8000
namespace Go.Proofs.Ytofgpimoekhfaaa
open Go
theorem Sx {L : List Chunk} {R : List Fact} {w : World} {c : Config} {m : Msg} (hs : St (L) R w) (hcw : c.wf) (hm : m.wf) : Calls Try.prog 92 [.agg c.cells.toArray, .agg m.cells.toArray].toArray w (Ch (fun _ : Unit => vi (Bg c m)) (fun _ => L) (fun _ => R)) := by
  refine Aj Try.func92 rfl Try.ntmps92 rfl hs ?_
  clear hs
  refine Gm ?_
  refine bx ?_; intro b2
  refine bx ?_; intro b3
  refine Ga1 ?_
  rcases (show (m.kind < 1) ∨ (¬ m.kind < 1 ∧ 11 < m.kind) ∨ (1 ≤ m.kind ∧ m.kind ≤ 11) from by omega) with hc | hc | hc
  ·
   refine Aa ?_
   refine rn2 ?_
   refine ob (Af rfl rfl (Bt (by omega))) ?_
   refine Gd5 ?_
   refine Ga1 ?_
   have er : Bg c m = 1 := by unfold Bg; rw [if_pos (by omega)]
   rw [er]
   exact Cb ()
  ·
   refine Aa ?_
   refine rn2 ?_
   refine ob (Af rfl rfl (An (by omega))) ?_
   refine rn3 ?_
   refine gy ?_
   refine ob (Af rfl rfl (C0 (by omega))) ?_
   refine Gd1 ?_
   refine Ga1 ?_
   have er : Bg c m = 1 := by unfold Bg; rw [if_pos (by omega)]
   rw [er]
   exact Cb ()
  ·
   refine Aa ?_
   refine rn2 ?_
   refine ob (Af rfl rfl (An (by omega))) ?_
   refine rn3 ?_
   refine gy ?_
   refine ob (Af rfl rfl (Cp (by omega))) ?_
   refine Gd1 ?_
   refine rn4 ?_
   refine ob (Hw Try.underlying143 Try.sizeOf3 Try.zeroValue143 rfl rfl) ?_
   refine rn4 ?_
   refine ob (Hw Try.underlying143 Try.sizeOf3 Try.zeroValue143 rfl rfl) ?_
   refine rn2 ?_
   refine ob (Hw Try.underlying143 Try.sizeOf3 Try.zeroValue143 rfl rfl) ?_
   refine rn2 ?_
   refine ob (Hw Try.underlying143 Try.sizeOf3 Try.zeroValue143 rfl rfl) ?_
   refine rn2 ?_
   refine ob (Hw Try.underlying143 Try.sizeOf3 Try.zeroValue143 rfl rfl) ?_
   refine li (α := Int × Int) [(m.src, c.cores), (m.dst, c.cores), (m.serial, 65535), (m.turn, 65535), (m.value, 255)] eo_144 rfl (fun j hj => ⟨⟨_, rfl, rfl, hm.2.1, hcw.1⟩, ⟨_, rfl, rfl, hm.2.2.1, hcw.1⟩, ⟨_, rfl, rfl, hm.2.2.2.2.1, by unfold Am; simp only; omega⟩, ⟨_, rfl, rfl, hm.2.2.2.2.2.1, by unfold Am; simp only; omega⟩, ⟨_, rfl, rfl, hm.2.2.2.2.2.2, by unfold Am; simp only; omega⟩, trivial⟩) ?_; intro v34
   have hxl : ([(m.src, c.cores), (m.dst, c.cores), (m.serial, 65535), (m.turn, 65535), (m.value, 255)] : List (Int × Int)).length = 5 := rfl
   generalize hxs : ([(m.src, c.cores), (m.dst, c.cores), (m.serial, 65535), (m.turn, 65535), (m.value, 255)] : List (Int × Int)) = xs at hxl ⊢
   refine Ga2 ?_
   refine Cu (γ := Nat) (fun k => k ≤ 5 ∧ (0 < k → ¬ (m.line < 0 ∨ c.lines ≤ m.line)) ∧ ∀ i, i < k → ¬ ((xs.getD i (0, 0)).1 < 0 ∨ (xs.getD i (0, 0)).2 < (xs.getD i (0, 0)).1)) (fun _ => blk b3 42 m.cells :: blk b2 39 c.cells :: L) (fun _ => sl v34 xs :: R) (fun k => [(2, bp b2 0), (3, bp b3 0), (34, v34), (35, vi (5 : Int)), (36, vi (k : Int))]) (fun k => 5 - k) 0 ⟨by omega, fun h => by omega, fun i hi => by omega⟩ ⟨rfl, rfl, rfl, congrArg (fun z : Nat => some (vi (z : Int))) hxl, rfl, trivial⟩ (fun w hs => Al hs) ?_
   rintro k ⟨hk, hkl, hkx⟩
   refine Gl ?_
   refine kp [2, 3, 4, 34, 35, 36, 37] ?_
   refine Aa ?_
   refine Ga1 ?_
   refine cdx (p := ?p1) (hd := ?d1) ?e1 ?_ ?_; case e1 => exact rfl
   ·
    intro ht37
    refine Gl ?_
    refine JC.open0 (xs := xs) (v := v34) k mm (by omega) (fun hpw => ?_)
    refine Aa ?_
    refine rn2 ?_
    refine al_ (cs := [vi 0, vi 0]) Try.zeroValue143 ?_; intro b6
    refine s_B (cs := [vi (xs.getD k (0, 0)).1, vi (xs.getD k (0, 0)).2]) Try.sizeOf143 ?_
    refine Gl ?_
    refine kp [2, 3, 4, 6, 34, 35, 36, 37, 38, 39, 40, 41, 42, 43, 44, 45, 46, 47, 48, 49, 50, 51, 52, 53, 54, 55, 56, 57, 58, 59, 60, 61] ?_
    refine Di 61 (.bool (decide (((xs.getD k (0, 0)).1 < 0) ∨ ((xs.getD k (0, 0)).2 < (xs.getD k (0, 0)).1) ∨ (m.line < 0) ∨ (c.lines ≤ m.line)))) ?_ ?_
    ·
     rcases (show (((xs.getD k (0, 0)).1 < 0)) ∨ (¬ ((xs.getD k (0, 0)).1 < 0) ∧ ((xs.getD k (0, 0)).2 < (xs.getD k (0, 0)).1)) ∨ (¬ ((xs.getD k (0, 0)).1 < 0) ∧ ¬ ((xs.getD k (0, 0)).2 < (xs.getD k (0, 0)).1) ∧ (m.line < 0)) ∨ (¬ ((xs.getD k (0, 0)).1 < 0) ∧ ¬ ((xs.getD k (0, 0)).2 < (xs.getD k (0, 0)).1) ∧ ¬ (m.line < 0) ∧ (c.lines ≤ m.line)) ∨ (¬ ((xs.getD k (0, 0)).1 < 0) ∧ ¬ ((xs.getD k (0, 0)).2 < (xs.getD k (0, 0)).1) ∧ ¬ (m.line < 0) ∧ ¬ (c.lines ≤ m.line)) from by omega) with hm | hm | hm | hm | hm
     ·
      refine Aa ?_
      refine ob (Bu (i := 0) Try.underlying143 Try.sizeOf3 rfl rfl rfl) ?_
      refine rn1 ?_
      refine ob (Af rfl rfl (Bt (by omega))) ?_
      refine Ga19 ?_
      refine Aw ?_ (fun w hs => hs)
      refine ⟨by first | exact congrArg (fun b => some (Value.bool b)) (decide_eq_true (by omega)).symm | exact congrArg (fun b => some (Value.bool b)) (by simp; omega), alT⟩
     ·
      refine Aa ?_
      refine ob (Bu (i := 0) Try.underlying143 Try.sizeOf3 rfl rfl rfl) ?_
      refine rn1 ?_
      refine ob (Af rfl rfl (An (by omega))) ?_
      refine rn1 ?_
      refine gy ?_
      refine ob (Bu (i := 0) Try.underlying143 Try.sizeOf3 rfl rfl rfl) ?_
      refine rn1 ?_
      refine gy ?_
      refine ob (Bu (i := 1) Try.underlying143 Try.sizeOf3 rfl rfl rfl) ?_
      refine rn1 ?_
      refine gy ?_
      refine ob (Af rfl rfl (C0 (by omega))) ?_
      refine Ga13 ?_
      refine Aw ?_ (fun w hs => hs)
      refine ⟨by first | exact congrArg (fun b => some (Value.bool b)) (decide_eq_true (by omega)).symm | exact congrArg (fun b => some (Value.bool b)) (by simp; omega), alT⟩
     ·
      refine kp [2, 3, 4, 6, 34, 35, 36, 37, 38, 39, 40, 41, 42, 43, 44, 45, 46, 47, 48, 49, 50, 51, 52, 53, 54, 55, 56, 57, 58, 59, 60, 61] ?_
      refine Aa ?_
      refine ob (Bu (i := 0) Try.underlying143 Try.sizeOf3 rfl rfl rfl) ?_
      refine rn1 ?_
      refine ob (Af rfl rfl (An (by omega))) ?_
      refine rn1 ?_
      refine gy ?_
      refine ob (Bu (i := 0) Try.underlying143 Try.sizeOf3 rfl rfl rfl) ?_
      refine rn1 ?_
      refine gy ?_
      refine ob (Bu (i := 1) Try.underlying143 Try.sizeOf3 rfl rfl rfl) ?_
      refine rn1 ?_
      refine gy ?_
      refine ob (Af rfl rfl (Cp (by omega))) ?_
      refine rn4 ?_
      refine gy ?_
      refine ob (Af rfl rfl (Bt (by omega))) ?_
      refine Ga8 ?_
      refine Aw ?_ (fun w hs => hs)
      refine ⟨by first | exact congrArg (fun b => some (Value.bool b)) (decide_eq_true (by omega)).symm | exact congrArg (fun b => some (Value.bool b)) (by simp; omega), alT⟩
     ·
      refine Aa ?_
      refine ob (Bu (i := 0) Try.underlying143 Try.sizeOf3 rfl rfl rfl) ?_
      refine rn1 ?_
      refine ob (Af rfl rfl (An (by omega))) ?_
      refine rn1 ?_
      refine gy ?_
      refine ob (Bu (i := 0) Try.underlying143 Try.sizeOf3 rfl rfl rfl) ?_
      refine rn1 ?_
      refine gy ?_
      refine ob (Bu (i := 1) Try.underlying143 Try.sizeOf3 rfl rfl rfl) ?_
      refine rn1 ?_
      refine gy ?_
      refine ob (Af rfl rfl (Cp (by omega))) ?_
      refine rn4 ?_
      refine gy ?_
      refine ob (Af rfl rfl (An (by omega))) ?_
      refine rn6 ?_
      refine gy ?_
      refine ob (Af rfl rfl (Cv (by omega))) ?_
      refine Ga1 ?_
      refine Aw ?_ (fun w hs => hs)
      refine ⟨by first | exact congrArg (fun b => some (Value.bool b)) (decide_eq_true (by omega)).symm | exact congrArg (fun b => some (Value.bool b)) (by simp; omega), alT⟩
     ·
      refine kp [2, 3, 4, 6, 34, 35, 36, 37, 38, 39, 40, 41, 42, 43, 44, 45, 46, 47, 48, 49, 50, 51, 52, 53, 54, 55, 56, 57, 58, 59, 60, 61] ?_
      refine Aa ?_
      refine ob (Bu (i := 0) Try.underlying143 Try.sizeOf3 rfl rfl rfl) ?_
      refine rn1 ?_
      refine ob (Af rfl rfl (An (by omega))) ?_
      refine rn1 ?_
      refine gy ?_
      refine ob (Bu (i := 0) Try.underlying143 Try.sizeOf3 rfl rfl rfl) ?_
      refine rn1 ?_
      refine gy ?_
      refine ob (Bu (i := 1) Try.underlying143 Try.sizeOf3 rfl rfl rfl) ?_
      refine rn1 ?_
      refine gy ?_
      refine ob (Af rfl rfl (Cp (by omega))) ?_
      refine rn4 ?_
      refine gy ?_
      refine ob (Af rfl rfl (An (by omega))) ?_
      refine rn6 ?_
      refine gy ?_
      refine ob (Af rfl rfl (A4 (by omega))) ?_
      refine Ga1 ?_
      refine Aw ?_ (fun w hs => hs)
      refine ⟨by first | exact congrArg (fun b => some (Value.bool b)) (decide_eq_false (by omega)).symm | exact congrArg (fun b => some (Value.bool b)) (by simp; omega), alT⟩
    ·
     refine A3 ?_
     first | (refine cdx (p := ?p2) (hd := ?d2) ?e2 ?_ ?_; case e2 => exact rfl) | (refine Bp (b := ?b2) ?e2 ?_ ?_; case e2 => exact rfl)
     ·
      intro ht61
      refine Gm ?_
      refine Ga1 ?_
      have hr : m.src < 0 ∨ c.cores < m.src ∨ m.dst < 0 ∨ c.cores < m.dst ∨ m.line < 0 ∨ c.lines ≤ m.line ∨ m.serial < 0 ∨ 65535 < m.serial ∨ m.turn < 0 ∨ 65535 < m.turn ∨ m.value < 0 ∨ 255 < m.value := by
       subst hxs
       have hk5 : k = 0 ∨ k = 1 ∨ k = 2 ∨ k = 3 ∨ k = 4 := by omega
       rcases hk5 with rfl | rfl | rfl | rfl | rfl <;> simp only [List.getD_cons_zero, List.getD_cons_succ] at ht61 <;> omega
      have er : Bg c m = 3 := by unfold Bg; rw [if_neg (by omega), if_pos hr]
      rw [er]
      exact Cb ()
     ·
      intro ht61
      refine Gm ?_
      refine Ga2 ?_
      refine Be (k + 1) ⟨by omega, fun _ => by omega, fun i hi => ?_⟩ (by omega) alT (fun w hs => Al hs)
      by_cases hik : i = k
      ·
       subst hik; omega
      ·
       exact hkx i (by omega)
   ·
    intro ht37
    refine Gl ?_
    refine kp [2, 3, 4, 6, 34, 35, 36, 37, 38, 39, 40, 41, 42, 43, 44, 45, 46, 47, 48, 49, 50, 51, 52, 53, 54, 55, 56, 57, 58, 59, 60, 61, 62, 63, 64, 65, 66, 67, 68, 69, 70, 71, 72, 73, 74, 75, 76, 77, 78, 79, 80, 81, 82, 83, 84, 85, 86, 87, 88] ?_
    refine Di 88 (.bool (decide (m.src = c.cores ↔ m.dst = c.cores))) ?_ ?_
    ·
     rcases (show (m.src = c.cores ∧ m.dst = c.cores) ∨ (m.src = c.cores ∧ m.dst ≠ c.cores) ∨ (m.src ≠ c.cores ∧ m.dst = c.cores) ∨ (m.src ≠ c.cores ∧ m.dst ≠ c.cores) from by omega) with hm | hm | hm | hm
     ·
      refine Aa ?_
      refine rn4 ?_
      refine ob (Af rfl rfl (As (by omega))) ?_
      refine rn5 ?_
      refine gy ?_
      refine ob (Af rfl rfl (As (by omega))) ?_
      refine Ga15 ?_
      refine Aw ?_ (fun w hs => hs)
      refine ⟨by first | exact congrArg (fun b => some (Value.bool b)) (decide_eq_true (by omega)).symm | exact congrArg (fun b => some (Value.bool b)) (by simp; omega), alT⟩
     ·
      refine Aa ?_
      refine rn4 ?_
      refine ob (Af rfl rfl (As (by omega))) ?_
      refine rn5 ?_
      refine gy ?_
      refine ob (Af rfl rfl (Ak (by omega))) ?_
      refine rn6 ?_
      refine gy ?_
      refine ob (Af rfl rfl (Bv (by omega))) ?_
      refine Ga8 ?_
      refine Aw ?_ (fun w hs => hs)
      refine ⟨by first | exact congrArg (fun b => some (Value.bool b)) (decide_eq_false (by omega)).symm | exact congrArg (fun b => some (Value.bool b)) (by simp; omega), alT⟩
     ·
      refine kp [2, 3, 4, 6, 34, 35, 36, 37, 38, 39, 40, 41, 42, 43, 44, 45, 46, 47, 48, 49, 50, 51, 52, 53, 54, 55, 56, 57, 58, 59, 60, 61, 62, 63, 64, 65, 66, 67, 68, 69, 70, 71, 72, 73, 74, 75, 76, 77, 78, 79, 80, 81, 82, 83, 84, 85, 86, 87, 88] ?_
      refine Aa ?_
      refine rn4 ?_
      refine ob (Af rfl rfl (Ak (by omega))) ?_
      refine Va ?_
      refine gy ?_
      refine ob (Af rfl rfl (Cz (by omega))) ?_
      refine rn5 ?_
      refine gy ?_
      refine ob (Af rfl rfl (Bv (by omega))) ?_
      refine Ga2 ?_
      refine Aw ?_ (fun w hs => hs)
      refine ⟨by first | exact congrArg (fun b => some (Value.bool b)) (decide_eq_false (by omega)).symm | exact congrArg (fun b => some (Value.bool b)) (by simp; omega), alT⟩
     ·
      refine Aa ?_
      refine rn4 ?_
      refine ob (Af rfl rfl (Ak (by omega))) ?_
      refine Va ?_
      refine gy ?_
      refine ob (Af rfl rfl (Cz (by omega))) ?_
      refine rn5 ?_
      refine gy ?_
      refine ob (Af rfl rfl (Cz (by omega))) ?_
      refine Ga2 ?_
      refine Aw ?_ (fun w hs => hs)
      refine ⟨by first | exact congrArg (fun b => some (Value.bool b)) (decide_eq_true (by omega)).symm | exact congrArg (fun b => some (Value.bool b)) (by simp; omega), alT⟩
    ·
     refine A3 ?_
     refine Gl ?_
     first | (refine cdx (p := ?p3) (hd := ?d3) ?e3 ?_ ?_; case e3 => exact rfl) | (refine Bp (b := ?b3) ?e3 ?_ ?_; case e3 => exact rfl)
     ·
      intro ht88
      refine Gl ?_
      refine kp [4] ?_
      refine Aa ?_
      refine Ga1 ?_
      have hk5 : k = 5 := by omega
      subst hk5
      have hl := hkl (by omega)
      subst hxs
      have q0 := hkx 0 (by omega)
      have q1 := hkx 1 (by omega)
      have q2 := hkx 2 (by omega)
      have q3 := hkx 3 (by omega)
      have q4 := hkx 4 (by omega)
      simp only [List.getD_cons_zero, List.getD_cons_succ] at q0 q1 q2 q3 q4
      have hr : ¬ (m.src < 0 ∨ c.cores < m.src ∨ m.dst < 0 ∨ c.cores < m.dst ∨ m.line < 0 ∨ c.lines ≤ m.line ∨ m.serial < 0 ∨ 65535 < m.serial ∨ m.turn < 0 ∨ 65535 < m.turn ∨ m.value < 0 ∨ 255 < m.value) := by omega
      have er : Bg c m = 6 := by unfold Bg; rw [if_neg (by omega), if_neg hr, if_pos ht88]
      rw [er]
      exact Cb ()
     ·
      intro ht88
      refine Gl ?_
      refine kp [4] ?_
      refine Aa ?_
      refine Ga1 ?_
      have hk5 : k = 5 := by omega
      subst hk5
      have hl := hkl (by omega)
      subst hxs
      have q0 := hkx 0 (by omega)
      have q1 := hkx 1 (by omega)
      have q2 := hkx 2 (by omega)
      have q3 := hkx 3 (by omega)
      have q4 := hkx 4 (by omega)
      simp only [List.getD_cons_zero, List.getD_cons_succ] at q0 q1 q2 q3 q4
      have hr : ¬ (m.src < 0 ∨ c.cores < m.src ∨ m.dst < 0 ∨ c.cores < m.dst ∨ m.line < 0 ∨ c.lines ≤ m.line ∨ m.serial < 0 ∨ 65535 < m.serial ∨ m.turn < 0 ∨ 65535 < m.turn ∨ m.value < 0 ∨ 255 < m.value) := by omega
      have er : Bg c m = 0 := by unfold Bg; rw [if_neg (by omega), if_neg hr, if_neg ht88]
      rw [er]
      exact Cb ()
theorem Tb {L : List Chunk} {R : List Fact} {w : World} {m : Msg} (hs : St (L) R w) (hin : MsgIn m) : Calls Try.prog 105 [.agg m.cells.toArray].toArray w (Ch (fun v : Value => v) (fun v => L) (fun v => sl v (By m) :: R)) := by
  obtain ⟨k0, k1, k2, k3, k4, k5, k6⟩ := hin
  refine Aj Try.func105 rfl Try.ntmps105 rfl hs ?_
  clear hs
  refine Gm ?_
  refine bx ?_; intro b1
  refine Gb1 ?_
  refine Gb1 ?_
  refine Ga2 ?_
  refine Bp (b := ?b1) ?e1 ?_ ?_; case e1 => exact rfl
  ·
   intro ht9
   refine Aa ?_
   refine Gb1 ?_
   refine Gb1 ?_
   refine Va ?_
   refine ob (Af rfl rfl (I8 (b := 256) (by omega) (by omega) (by omega))) ?_
   refine rn2 ?_
   refine ob (Af rfl rfl (I7 (b := 256) (by omega) (by omega) (by omega))) ?_
   refine rn2 ?_
   refine ob (Af rfl rfl (I8 (b := 256) (by omega) (by omega) (by omega))) ?_
   refine rn2 ?_
   refine ob (Af rfl rfl (I7 (b := 256) (by omega) (by omega) (by omega))) ?_
   refine rn3 ?_
   refine li (α := Int) ([m.kind, 16 * m.src + m.dst, m.line, m.serial / 256, m.serial % 256, m.turn / 256, m.turn % 256, m.value, 1, 0] : List Int) D9 rfl (fun j hj => ⟨⟨_, rfl, rfl, by unfold Am; omega⟩, ⟨⟨_, rfl, rfl, by unfold Am; omega⟩, ⟨⟨_, rfl, rfl, by unfold Am; omega⟩, ⟨⟨_, rfl, rfl, by unfold Am; omega⟩, ⟨⟨_, rfl, rfl, by unfold Am; omega⟩, ⟨⟨_, rfl, rfl, by unfold Am; omega⟩, ⟨⟨_, rfl, rfl, by unfold Am; omega⟩, ⟨⟨_, rfl, rfl, by unfold Am; omega⟩, ⟨⟨_, rfl, rfl, by unfold Am; omega⟩, ⟨⟨_, rfl, rfl, by unfold Am; omega⟩, trivial⟩⟩⟩⟩⟩⟩⟩⟩⟩⟩) ?_; intro v35
   have hxl : ([m.kind, 16 * m.src + m.dst, m.line, m.serial / 256, m.serial % 256, m.turn / 256, m.turn % 256, m.value, 1, 0] : List Int).length = 10 := rfl
   have hxb : ([m.kind, 16 * m.src + m.dst, m.line, m.serial / 256, m.serial % 256, m.turn / 256, m.turn % 256, m.value, 1, 0] : List Int).map u8 = Ct m := by
    have e : ∀ x y : Int, x % 256 = y % 256 → u8 x = u8 y := fun x y h => by unfold u8; rw [h]
    unfold Ct
    simp only [List.map_cons, List.map_nil]
    rw [ht9, e (m.serial % 256) m.serial (by omega), e (m.turn % 256) m.turn (by omega)]; rfl
   generalize hxs : ([m.kind, 16 * m.src + m.dst, m.line, m.serial / 256, m.serial % 256, m.turn / 256, m.turn % 256, m.value, 1, 0] : List Int) = xs at hxl hxb ⊢
   refine Ga2 ?_
   refine JC.rowNil 5 UInt8 ?_
   refine Cu (γ := Nat × Value) (fun g => g.1 ≤ 10) (fun g => row 5 g.2 ((xs.map u8).take g.1) :: L) (fun _ => sl v35 xs :: R) (fun g => [(4, g.2), (35, v35), (36, vi (10 : Int)), (37, vi (g.1 : Int))]) (fun g => 10 - g.1) (0, .slice none 0 0) (by omega) ⟨rfl, rfl, congrArg (fun z : Nat => some (vi (z : Int))) hxl, rfl, trivial⟩ (fun w hs => Al hs) ?_
   rintro ⟨k, v4⟩ hk
   try simp only at hk ⊢
   refine Gl ?_
   refine kp [2, 4, 35, 36, 37, 38] ?_
   refine Aa ?_
   refine Ga1 ?_
   refine cdx (p := ?p2) (hd := ?d2) ?e2 ?_ ?_; case e2 => exact rfl
   ·
    intro ht38
    refine Gl ?_
    refine JC.open0 (xs := xs) (v := v35) k mm (by omega) (fun hpw => ?_)
    refine Aa ?_
    refine Gb3 ?_
    refine rn2 ?_
    refine ob (A9 Try.underlying3 Try.underlying5 rfl (F2 _)) ?_
    refine li (α := UInt8) ([u8 (xs.getD k 0)] : List UInt8) H6 rfl (fun j hj => ⟨⟨_, rfl, rfl⟩, trivial⟩) ?_; intro v44
    refine ap H6 (hb := fun w hs => by have : maxN = 16777216 := rfl; first | (rw [Jk]; simp only [List.length_cons, List.length_nil]; omega) | (rw [List.length_take, List.length_map]; simp only [List.length_cons, List.length_nil]; omega)) (k := ?_); intro v45
    refine Gb1 ?_
    refine Ga2 ?_
    refine Be (k + 1, v45) (by show k + 1 ≤ 10; omega) (by show 10 - (k + 1) < 10 - k; omega) alT (fun w hs => ?_)
    try simp only
    have e9 : (xs.map u8).take (k + 1) = (xs.map u8).take k ++ [u8 (xs.getD k 0)] := by rw [Ft 0 (by rw [List.length_map]; omega)]; simp [List.getD_eq_getElem?_getD, List.getElem?_map, List.getElem?_eq_getElem (show k < xs.length by omega)]
    rw [e9]; exact Al hs
   ·
    intro ht38
    refine Gl ?_
    have hk10 : k = 10 := by omega
    subst hk10
    rw [List.take_of_length_le (by rw [List.length_map]; omega), hxb]
    have hsm := Ov (Ct m)
    refine Aa ?_
    refine rn1 ?_
    refine Aq (γ := Unit) (val := fun _ => vi (Il (Ct m))) Try.call91 rfl (fun w hs => lend .hd (fun L R w hs hf _ => Gp hs hf) hs) ?_; intro _
    refine Gb1 ?_
    refine rn2 ?_
    refine ob (Af rfl rfl (I8 (b := 256) (by omega) (by omega) (by omega))) ?_
    refine ob (A9 Try.underlying3 Try.underlying5 rfl (F2 _)) ?_
    refine rn1 ?_
    refine ob (Af rfl rfl (I7 (b := 256) (by omega) (by omega) (by omega))) ?_
    refine ob (A9 Try.underlying3 Try.underlying5 rfl (F2 _)) ?_
    have hsr : u8 (Il (Ct m) % 256) = u8 (Il (Ct m)) := by unfold u8; rw [Int.emod_emod_of_dvd _ (by decide)]
    refine li (α := UInt8) ([u8 (Il (Ct m) / 256), u8 (Il (Ct m) % 256)] : List UInt8) H6 rfl (fun j hj => ⟨⟨_, rfl, rfl⟩, ⟨⟨_, rfl, rfl⟩, trivial⟩⟩) ?_; intro v56
    rw [hsr]
    refine ap H6 (hb := fun w hs => by have : maxN = 16777216 := rfl; first | (rw [Jk]; simp only [List.length_cons, List.length_nil]; omega) | (rw [List.length_take, List.length_map]; simp only [List.length_cons, List.length_nil]; omega)) (k := ?_); intro v57
    refine Ga1 ?_
    exact Cb v57 (hs := fun w hs => Al (St.shut (hs.pick pkk)))
  ·
   intro ht9
   refine Gm ?_
   refine Gb1 ?_
   refine Va ?_
   refine ob (Af rfl rfl (I8 (b := 256) (by omega) (by omega) (by omega))) ?_
   refine rn2 ?_
   refine ob (Af rfl rfl (I7 (b := 256) (by omega) (by omega) (by omega))) ?_
   refine rn2 ?_
   refine ob (Af rfl rfl (I8 (b := 256) (by omega) (by omega) (by omega))) ?_
   refine rn2 ?_
   refine ob (Af rfl rfl (I7 (b := 256) (by omega) (by omega) (by omega))) ?_
   refine rn3 ?_
   refine li (α := Int) ([m.kind, 16 * m.src + m.dst, m.line, m.serial / 256, m.serial % 256, m.turn / 256, m.turn % 256, m.value, 0, 0] : List Int) D9 rfl (fun j hj => ⟨⟨_, rfl, rfl, by unfold Am; omega⟩, ⟨⟨_, rfl, rfl, by unfold Am; omega⟩, ⟨⟨_, rfl, rfl, by unfold Am; omega⟩, ⟨⟨_, rfl, rfl, by unfold Am; omega⟩, ⟨⟨_, rfl, rfl, by unfold Am; omega⟩, ⟨⟨_, rfl, rfl, by unfold Am; omega⟩, ⟨⟨_, rfl, rfl, by unfold Am; omega⟩, ⟨⟨_, rfl, rfl, by unfold Am; omega⟩, ⟨⟨_, rfl, rfl, by unfold Am; omega⟩, ⟨⟨_, rfl, rfl, by unfold Am; omega⟩, trivial⟩⟩⟩⟩⟩⟩⟩⟩⟩⟩) ?_; intro v35
   have hxl : ([m.kind, 16 * m.src + m.dst, m.line, m.serial / 256, m.serial % 256, m.turn / 256, m.turn % 256, m.value, 0, 0] : List Int).length = 10 := rfl
   have hxb : ([m.kind, 16 * m.src + m.dst, m.line, m.serial / 256, m.serial % 256, m.turn / 256, m.turn % 256, m.value, 0, 0] : List Int).map u8 = Ct m := by
    have e : ∀ x y : Int, x % 256 = y % 256 → u8 x = u8 y := fun x y h => by unfold u8; rw [h]
    unfold Ct
    simp only [List.map_cons, List.map_nil]
    rw [ht9, e (m.serial % 256) m.serial (by omega), e (m.turn % 256) m.turn (by omega)]; rfl
   generalize hxs : ([m.kind, 16 * m.src + m.dst, m.line, m.serial / 256, m.serial % 256, m.turn / 256, m.turn % 256, m.value, 0, 0] : List Int) = xs at hxl hxb ⊢
   refine Ga2 ?_
   refine JC.rowNil 5 UInt8 ?_
   refine Cu (γ := Nat × Value) (fun g => g.1 ≤ 10) (fun g => row 5 g.2 ((xs.map u8).take g.1) :: L) (fun _ => sl v35 xs :: R) (fun g => [(4, g.2), (35, v35), (36, vi (10 : Int)), (37, vi (g.1 : Int))]) (fun g => 10 - g.1) (0, .slice none 0 0) (by omega) ⟨rfl, rfl, congrArg (fun z : Nat => some (vi (z : Int))) hxl, rfl, trivial⟩ (fun w hs => Al hs) ?_
   rintro ⟨k, v4⟩ hk
   try simp only at hk ⊢
   refine Gl ?_
   refine kp [2, 4, 35, 36, 37, 38] ?_
   refine Aa ?_
   refine Ga1 ?_
   refine cdx (p := ?p3) (hd := ?d3) ?e3 ?_ ?_; case e3 => exact rfl
   ·
    intro ht38
    refine Gl ?_
    refine JC.open0 (xs := xs) (v := v35) k mm (by omega) (fun hpw => ?_)
    refine Aa ?_
    refine Gb3 ?_
    refine rn2 ?_
    refine ob (A9 Try.underlying3 Try.underlying5 rfl (F2 _)) ?_
    refine li (α := UInt8) ([u8 (xs.getD k 0)] : List UInt8) H6 rfl (fun j hj => ⟨⟨_, rfl, rfl⟩, trivial⟩) ?_; intro v44
    refine ap H6 (hb := fun w hs => by have : maxN = 16777216 := rfl; first | (rw [Jk]; simp only [List.length_cons, List.length_nil]; omega) | (rw [List.length_take, List.length_map]; simp only [List.length_cons, List.length_nil]; omega)) (k := ?_); intro v45
    refine Gb1 ?_
    refine Ga2 ?_
    refine Be (k + 1, v45) (by show k + 1 ≤ 10; omega) (by show 10 - (k + 1) < 10 - k; omega) alT (fun w hs => ?_)
    try simp only
    have e9 : (xs.map u8).take (k + 1) = (xs.map u8).take k ++ [u8 (xs.getD k 0)] := by rw [Ft 0 (by rw [List.length_map]; omega)]; simp [List.getD_eq_getElem?_getD, List.getElem?_map, List.getElem?_eq_getElem (show k < xs.length by omega)]
    rw [e9]; exact Al hs
   ·
    intro ht38
    refine Gl ?_
    have hk10 : k = 10 := by omega
    subst hk10
    rw [List.take_of_length_le (by rw [List.length_map]; omega), hxb]
    have hsm := Ov (Ct m)
    refine Aa ?_
    refine rn1 ?_
    refine Aq (γ := Unit) (val := fun _ => vi (Il (Ct m))) Try.call91 rfl (fun w hs => lend .hd (fun L R w hs hf _ => Gp hs hf) hs) ?_; intro _
    refine Gb1 ?_
    refine rn2 ?_
    refine ob (Af rfl rfl (I8 (b := 256) (by omega) (by omega) (by omega))) ?_
    refine ob (A9 Try.underlying3 Try.underlying5 rfl (F2 _)) ?_
    refine rn1 ?_
    refine ob (Af rfl rfl (I7 (b := 256) (by omega) (by omega) (by omega))) ?_
    refine ob (A9 Try.underlying3 Try.underlying5 rfl (F2 _)) ?_
    have hsr : u8 (Il (Ct m) % 256) = u8 (Il (Ct m)) := by unfold u8; rw [Int.emod_emod_of_dvd _ (by decide)]
    refine li (α := UInt8) ([u8 (Il (Ct m) / 256), u8 (Il (Ct m) % 256)] : List UInt8) H6 rfl (fun j hj => ⟨⟨_, rfl, rfl⟩, ⟨⟨_, rfl, rfl⟩, trivial⟩⟩) ?_; intro v56
    rw [hsr]
    refine ap H6 (hb := fun w hs => by have : maxN = 16777216 := rfl; first | (rw [Jk]; simp only [List.length_cons, List.length_nil]; omega) | (rw [List.length_take, List.length_map]; simp only [List.length_cons, List.length_nil]; omega)) (k := ?_); intro v57
    refine Ga1 ?_
    exact Cb v57 (hs := fun w hs => Al (St.shut (hs.pick pkk)))
theorem Jb {P : Program} {n : Nat} {Q : Exit → Act → World → Prop} {L : List Chunk} {R : List Fact} {al : List (Nat × Value)} {c : Code} {v : Value} {b : List UInt8} (i : Nat) (hm : sl v b ∈ R) (hi : i < b.length) (k : JC P n c Q L (cF v 1 i [vb (b.getD i 0)] :: R) al) : JC P n c Q L R al := JC.open0 (xs := b) i hm hi (fun _ => k)
theorem Oy {L : List Chunk} {R : List Fact} {w : World} {v1 : Value} {b : List UInt8} {c : Config} (hs : St (L) R w) (h1 : sl v1 b ∈ R) (hc : c.wf) : Calls Try.prog 57 [.agg c.cells.toArray, v1].toArray w (Ch (fun _ : Unit => .tuple #[.agg (Ai c b).1.cells.toArray, vi (Ai c b).2]) (fun _ => L) (fun _ => R)) := by
  have hlen := Bk h1 hs
  have B : ∀ i, (b.getD i 0).toNat < 256 := fun i => (b.getD i 0).toNat_lt
  refine Aj Try.func57 rfl Try.ntmps57 rfl hs ?_
  clear hs
  refine Gm ?_
  refine bx ?_; intro b2
  refine al_ (cs := zMsg.cells) Try.zeroValue42 ?_; intro b4
  refine Gb1 ?_
  refine Ga3 ?_
  refine cdx (p := ?p1) (hd := ?d1) ?e1 ?_ ?_; case e1 => exact rfl
  ·
   intro ht10
   refine Gm ?_
   refine ob (E2 (cs := zMsg.cells) Hs) ?_
   refine s_B Try.sizeOf42 ?_
   refine Ga1 ?_
   have er : Ai c b = (zMsg, 2) := by
    unfold Ai
    rw [if_pos (by omega)]
   rw [er]
   exact Hv () Try.isAgg42 Try.sizeOf42
  ·
   intro ht10
   refine Gl ?_
   have B0 := B 0; have B1 := B 1; have B2 := B 2; have B3 := B 3; have B4 := B 4; have B5 := B 5; have B6 := B 6; have B7 := B 7; have B8 := B 8; have B9 := B 9; have B10 := B 10; have B11 := B 11
   refine Jb (v := v1) (b := b) 10 mm (by omega) ?_
   refine Jb (v := v1) (b := b) 11 mm (by omega) ?_
   refine Dv ?_
   refine dn1 ?_
   refine dj ?_
   refine Ub (α := UInt8) (xs := b) (lo := 0) (hi := 10) D4 (fun _ => rfl) mm (fun _ => rfl) (fun _ => rfl) (by omega) (by omega) (fun _ _ _ _ => rfl) ?_
   refine dj ?_
   refine Ff (γ := Unit) (val := fun _ => vi (Il (b.take 10))) (F := fun _ => []) (C := fun _ => []) Try.call91 (fun _ => rfl) (fun _ _ _ _ => rfl) (fun ρ L R w hd hs => Gp hs (hd.dep (it := ⟨1, _, _, _, _⟩) (by repeat (first | exact List.Mem.head _ | refine List.Mem.tail _ ?_)) ⟨9, rfl⟩ (List.Mem.head _))) ?_
   refine dn1 ?_
   refine dj ?_
   first | refine dc (fun _ _ => Gi (i := 10) D4) ?_ | refine dp (fun _ _ => Gi (i := 10) D4) ?_
   refine dj ?_
   first | refine dc (fun _ _ => Dn Try.isAgg5) ?_ | refine dp (fun _ _ => Dn Try.isAgg5) ?_
   refine dj ?_
   first | refine dc (fun _ _ => A9 Try.underlying5 Try.underlying3 rfl (Bi _)) ?_ | refine dp (fun _ _ => A9 Try.underlying5 Try.underlying3 rfl (Bi _)) ?_
   refine dj ?_
   first | refine dc (fun _ _ => Km) ?_ | refine dp (fun _ _ => Km) ?_
   refine dn1 ?_
   refine dj ?_
   first | refine dc (fun _ _ => Gi (i := 11) D4) ?_ | refine dp (fun _ _ => Gi (i := 11) D4) ?_
   refine dj ?_
   first | refine dc (fun _ _ => Dn Try.isAgg5) ?_ | refine dp (fun _ _ => Dn Try.isAgg5) ?_
   refine dj ?_
   first | refine dc (fun _ _ => A9 Try.underlying5 Try.underlying3 rfl (Bi _)) ?_ | refine dp (fun _ _ => A9 Try.underlying5 Try.underlying3 rfl (Bi _)) ?_
   refine dj ?_
   first | refine dc (fun _ _ => D6) ?_ | refine dc (fun _ _ => Fc) ?_ | refine dp (fun _ _ => D6) ?_ | refine dp (fun _ _ => Fc) ?_
   refine dj ?_
   first | refine dc (fun _ _ => Gs Qh) ?_ | refine dp (fun _ _ => Gs Qh) ?_
   refine dnl ?_; intro ρ
   refine Gl ?_
   refine cdx (p := ?p2) (hd := ?d2) ?e2 ?_ ?_; case e2 => exact rfl
   ·
    intro ht25
    refine Gm ?_
    refine ob (E2 (cs := zMsg.cells) Hs) ?_
    refine s_B Try.sizeOf42 ?_
    refine Ga1 ?_
    have er : Ai c b = (zMsg, 7) := by
     unfold Ai
     rw [if_neg (by omega), if_pos (by show Il (b.take 10) ≠ _; unfold at8; omega)]
    rw [er]
    exact Hv () Try.isAgg42 Try.sizeOf42
   ·
    intro ht25
    refine Gl ?_
    refine Jb (v := v1) (b := b) 8 mm (by omega) ?_
    refine Jb (v := v1) (b := b) 9 mm (by omega) ?_
    refine Aa ?_
    refine rn1 ?_
    refine ob (Gi (i := 8) D4) ?_
    refine rn3 ?_
    refine jgx (t := 31) (p := ?p3) (hd := ?d3) ?e3 ?_ ?_; case e3 => exact rfl
    ·
     intro ht31
     refine Gd5 ?_
     refine ob (E2 (cs := zMsg.cells) Hs) ?_
     refine s_B Try.sizeOf42 ?_
     refine Ga1 ?_
     have er : Ai c b = (zMsg, 2) := by
      unfold Ai
      rw [if_neg (by omega), if_neg (by show ¬ Il (b.take 10) ≠ _; unfold at8; omega), if_pos (by unfold at8; omega)]
     rw [er]
     exact Hv () Try.isAgg42 Try.sizeOf42
    ·
     intro ht31
     refine rn1 ?_
     refine gy ?_
     refine ob (Gi (i := 9) D4) ?_
     refine Ga3 ?_
     refine cdx (p := ?p4) (hd := ?d4) ?e4 ?_ ?_; case e4 => exact rfl
     ·
      intro ht36
      refine Gm ?_
      refine ob (E2 (cs := zMsg.cells) Hs) ?_
      refine s_B Try.sizeOf42 ?_
      refine Ga1 ?_
      have er : Ai c b = (zMsg, 2) := by
       unfold Ai
       rw [if_neg (by omega), if_neg (by show ¬ Il (b.take 10) ≠ _; unfold at8; omega), if_pos (by unfold at8; omega)]
      rw [er]
      exact Hv () Try.isAgg42 Try.sizeOf42
     ·
      intro ht36
      refine Gl ?_
      refine Jb (v := v1) (b := b) 0 mm (by omega) ?_
      refine Jb (v := v1) (b := b) 1 mm (by omega) ?_
      refine Jb (v := v1) (b := b) 2 mm (by omega) ?_
      refine Jb (v := v1) (b := b) 3 mm (by omega) ?_
      refine Jb (v := v1) (b := b) 4 mm (by omega) ?_
      refine Jb (v := v1) (b := b) 5 mm (by omega) ?_
      refine Jb (v := v1) (b := b) 6 mm (by omega) ?_
      refine Jb (v := v1) (b := b) 7 mm (by omega) ?_
      refine cq_ (blk b4 42 zMsg.cells :: blk b2 39 c.cells :: L) ?_
      refine jd_ (fun ρ S => blk b4 42 zMsg.cells :: blk b2 39 c.cells :: ((bif S 47 then [blk (Gh.dec (γ := Nat) (ρ 47)) 42 (bif S 48 then (Hc b).cells else zMsg.cells)] else []) ++ (L))) ?_
      refine dn1 ?_
      first | refine epc (fun _ _ => Gi (i := 0) D4) ?_ | refine epp (fun _ _ => Gi (i := 0) D4) ?_
      first | refine epc (fun _ _ => Dn Try.isAgg5) ?_ | refine epp (fun _ _ => Dn Try.isAgg5) ?_
      first | refine epc (fun _ _ => A9 Try.underlying5 Try.underlying3 rfl (Bi _)) ?_ | refine epp (fun _ _ => A9 Try.underlying5 Try.underlying3 rfl (Bi _)) ?_
      refine dn1 ?_
      first | refine epc (fun _ _ => Gi (i := 1) D4) ?_ | refine epp (fun _ _ => Gi (i := 1) D4) ?_
      first | refine epc (fun _ _ => Dn Try.isAgg5) ?_ | refine epp (fun _ _ => Dn Try.isAgg5) ?_
      first | refine epc (fun _ _ => A9 Try.underlying5 Try.underlying3 rfl (Bi _)) ?_ | refine epp (fun _ _ => A9 Try.underlying5 Try.underlying3 rfl (Bi _)) ?_
      refine Jn (fun _ _ => Af rfl rfl (I8 (b := 16) (by omega) (by omega) (by omega))) (fun _ _ _ _ _ => rfl) ?_
      refine dn1 ?_
      first | refine epc (fun _ _ => Gi (i := 1) D4) ?_ | refine epp (fun _ _ => Gi (i := 1) D4) ?_
      first | refine epc (fun _ _ => Dn Try.isAgg5) ?_ | refine epp (fun _ _ => Dn Try.isAgg5) ?_
      first | refine epc (fun _ _ => A9 Try.underlying5 Try.underlying3 rfl (Bi _)) ?_ | refine epp (fun _ _ => A9 Try.underlying5 Try.underlying3 rfl (Bi _)) ?_
      refine Jn (fun _ _ => Af rfl rfl (I7 (b := 16) (by omega) (by omega) (by omega))) (fun _ _ _ _ _ => rfl) ?_
      refine dn1 ?_
      first | refine epc (fun _ _ => Gi (i := 2) D4) ?_ | refine epp (fun _ _ => Gi (i := 2) D4) ?_
      first | refine epc (fun _ _ => Dn Try.isAgg5) ?_ | refine epp (fun _ _ => Dn Try.isAgg5) ?_
      first | refine epc (fun _ _ => A9 Try.underlying5 Try.underlying3 rfl (Bi _)) ?_ | refine epp (fun _ _ => A9 Try.underlying5 Try.underlying3 rfl (Bi _)) ?_
      refine dn1 ?_
      first | refine epc (fun _ _ => Gi (i := 3) D4) ?_ | refine epp (fun _ _ => Gi (i := 3) D4) ?_
      first | refine epc (fun _ _ => Dn Try.isAgg5) ?_ | refine epp (fun _ _ => Dn Try.isAgg5) ?_
      first | refine epc (fun _ _ => A9 Try.underlying5 Try.underlying3 rfl (Bi _)) ?_ | refine epp (fun _ _ => A9 Try.underlying5 Try.underlying3 rfl (Bi _)) ?_
      first | refine epc (fun _ _ => Km) ?_ | refine epp (fun _ _ => Km) ?_
      refine dn1 ?_
      first | refine epc (fun _ _ => Gi (i := 4) D4) ?_ | refine epp (fun _ _ => Gi (i := 4) D4) ?_
      first | refine epc (fun _ _ => Dn Try.isAgg5) ?_ | refine epp (fun _ _ => Dn Try.isAgg5) ?_
      first | refine epc (fun _ _ => A9 Try.underlying5 Try.underlying3 rfl (Bi _)) ?_ | refine epp (fun _ _ => A9 Try.underlying5 Try.underlying3 rfl (Bi _)) ?_
      first | refine epc (fun _ _ => D6) ?_ | refine epc (fun _ _ => Fc) ?_ | refine epp (fun _ _ => D6) ?_ | refine epp (fun _ _ => Fc) ?_
      refine dn1 ?_
      first | refine epc (fun _ _ => Gi (i := 5) D4) ?_ | refine epp (fun _ _ => Gi (i := 5) D4) ?_
      first | refine epc (fun _ _ => Dn Try.isAgg5) ?_ | refine epp (fun _ _ => Dn Try.isAgg5) ?_
      first | refine epc (fun _ _ => A9 Try.underlying5 Try.underlying3 rfl (Bi _)) ?_ | refine epp (fun _ _ => A9 Try.underlying5 Try.underlying3 rfl (Bi _)) ?_
      first | refine epc (fun _ _ => Km) ?_ | refine epp (fun _ _ => Km) ?_
      refine dn1 ?_
      first | refine epc (fun _ _ => Gi (i := 6) D4) ?_ | refine epp (fun _ _ => Gi (i := 6) D4) ?_
      first | refine epc (fun _ _ => Dn Try.isAgg5) ?_ | refine epp (fun _ _ => Dn Try.isAgg5) ?_
      first | refine epc (fun _ _ => A9 Try.underlying5 Try.underlying3 rfl (Bi _)) ?_ | refine epp (fun _ _ => A9 Try.underlying5 Try.underlying3 rfl (Bi _)) ?_
      first | refine epc (fun _ _ => D6) ?_ | refine epc (fun _ _ => Fc) ?_ | refine epp (fun _ _ => D6) ?_ | refine epp (fun _ _ => Fc) ?_
      refine dn1 ?_
      first | refine epc (fun _ _ => Gi (i := 7) D4) ?_ | refine epp (fun _ _ => Gi (i := 7) D4) ?_
      first | refine epc (fun _ _ => Dn Try.isAgg5) ?_ | refine epp (fun _ _ => Dn Try.isAgg5) ?_
      first | refine epc (fun _ _ => A9 Try.underlying5 Try.underlying3 rfl (Bi _)) ?_ | refine epp (fun _ _ => A9 Try.underlying5 Try.underlying3 rfl (Bi _)) ?_
      refine dn1 ?_
      first | refine epc (fun _ _ => Gi (i := 8) D4) ?_ | refine epp (fun _ _ => Gi (i := 8) D4) ?_
      first | refine epc (fun _ _ => Dn Try.isAgg5) ?_ | refine epp (fun _ _ => Dn Try.isAgg5) ?_
      first | refine epc (fun _ _ => Gs Qj) ?_ | refine epp (fun _ _ => Gs Qj) ?_
      first | refine epc (fun _ _ => E2 Hs) ?_ | refine epc (fun _ _ => F5 Hs) ?_ | refine epp (fun _ _ => E2 Hs) ?_ | refine epp (fun _ _ => F5 Hs) ?_
      refine Gc (cs := zMsg.cells) Try.zeroValue42 rfl (fun ρ b S hS hA => ?_) ?_
      ·
       have ui : upS S 47 47 = true := rfl; have u48 : upS S 47 48 = S 48 := rfl; have h48 : S 48 = false := hA 48 ⟨0, rfl⟩; have rs : (Gh.dec (γ := Nat) (Rho.set ρ 47 (Gh.enc b) 47)) = b := rfl
       simp only [ui, hS, u48, h48, rs, cond_true, cond_false, List.nil_append]
       exact Ins.perm (by repeat (first | exact .hd | exact .hc | refine .tl ?_ | refine .ap ?_))
      refine es_ 42 0 [47] [] (fun ρ => (Gh.dec (γ := Nat) (ρ 47))) (fun ρ => zMsg.cells) (fun ρ => (Hc b).cells) Try.sizeOf42 ?_
      refine dnl ?_; intro ρ
      refine xq_ (blk b4 42 zMsg.cells :: blk b2 39 c.cells :: (blk (Gh.dec (γ := Nat) (ρ 47)) 42 (Hc b).cells :: L)) ?_
      generalize (Gh.dec (γ := Nat) (ρ 47)) = b6
      refine Gl ?_
      refine kp [2, 4, 5, 6, 7, 85, 86, 87] ?_
      refine Aa ?_
      refine rn2 ?_
      refine Aq Try.call92 rfl (fun w hs => Sx (c := c) (m := Hc b) hs hc (O2 b)) ?_; intro _
      refine Gb1 ?_
      refine Ga2 ?_
      refine cdx (p := ?p5) (hd := ?d5) ?e5 ?_ ?_; case e5 => exact rfl
      ·
       intro ht89
       refine Gm ?_
       refine ob (E2 (cs := zMsg.cells) Hs) ?_
       refine rn1 ?_
       refine s_B Try.sizeOf42 ?_
       refine Ga1 ?_
       have er : Ai c b = (zMsg, Bg c (Hc b)) := by
        unfold Ai
        rw [if_neg (by omega), if_neg (by show ¬ Il (b.take 10) ≠ _; unfold at8; omega), if_neg (by unfold at8; omega), if_pos (by omega)]
       rw [er]
       exact Hv () Try.isAgg42 Try.sizeOf42
      ·
       intro ht89
       refine Gm ?_
       refine rn1 ?_
       refine s_B Try.sizeOf42 ?_
       refine Ga1 ?_
       have er : Ai c b = (Hc b, 0) := by
        unfold Ai
        rw [if_neg (by omega), if_neg (by show ¬ Il (b.take 10) ≠ _; unfold at8; omega), if_neg (by unfold at8; omega), if_neg (by omega)]
       rw [er]
       exact Hv () Try.isAgg42 Try.sizeOf42
end Go.Proofs.Ytofgpimoekhfaaa

/- This file proves what net.Own, Send, and copies of slices compute. No conditions. -/
set_option linter.unusedVariables false
set_option linter.unusedSimpArgs false
set_option maxHeartbeats 1000000
set_option maxRecDepth 8000
namespace Go.Proofs.Ytofgpimoekhfaaa
open Go
theorem Qz {L : List Chunk} {R : List Fact} {w : World} {v0 v1 : Value} {l : Frames} {b : List UInt8} (hs : St (L) R w) (h0 : sl v0 l ∈ R) (h1 : sl v1 b ∈ R) : Calls Try.prog 21 [v0, v1].toArray w (Ch (fun v : Value => v) (fun v => L) (fun v => sl v (Fn l b) :: R)) := by
  have hlen := Bk h0 hs
  refine Aj Try.func21 rfl Try.ntmps21 rfl hs ?_
  clear hs
  refine Gm ?_
  refine Gb1 ?_
  refine Ga3 ?_
  refine cdx (p := ?p1) (hd := ?d1) ?e1 ?_ ?_; case e1 => exact rfl
  ·
   intro ht7
   refine Gm ?_
   refine Ga2 ?_
   have e : Fn l b = l := by unfold Fn; rw [if_neg (by omega)]
   rw [e]
   exact Cb v0
  ·
   intro ht7
   refine Gm ?_
   refine liO ([] : Frames) Nc rfl (fun j h => Fw) ?_; intro v9
   refine rn1 ?_
   refine ap Nc (hb := fun w hs => by have : maxN = 16777216 := rfl; have := hlen; simp only [List.length_cons, List.length_nil, List.length_take, List.length_append]; omega) (k := ?_); intro v11
   refine rn1 ?_
   refine li [_] Nc rfl rd_sl ?_; intro v13
   refine ap Nc (hb := fun w hs => by have : maxN = 16777216 := rfl; have := hlen; simp only [List.length_cons, List.length_nil, List.length_take, List.length_append]; omega) (k := ?_); intro v14
   refine Ga1 ?_
   have e : Fn l b = l ++ [b] := by unfold Fn; rw [if_pos (by omega)]
   rw [e]
   exact Cb v14 (hs := fun w hs => Al (St.shut hs))
end Go.Proofs.Ytofgpimoekhfaaa

/- This file proves what frame.Turn and its twin in shref1 compute. No conditions. -/
set_option linter.unusedVariables false
set_option linter.unusedSimpArgs false
set_option maxHeartbeats 1000000
set_option maxRecDepth 8000
namespace Go.Proofs.Ytofgpimoekhfaaa
open Go
theorem Jy {L : List Chunk} {R : List Fact} {w : World} {v0 : Value} {b : List UInt8} {bit : Int} (hs : St L R w) (h0 : sl v0 b ∈ R) (hbit : Am bit) : Calls Try.prog 26 [v0, vi bit].toArray w (Ch (fun v : Value => v) (fun _ => L) (fun v => sl v (Bj b bit) :: R)) := by
  have hlen := Bk h0 hs
  have hbit' := hbit
  unfold Am at hbit'
  refine Aj Try.func26 rfl Try.ntmps26 rfl hs ?_
  clear hs
  repeat refine Bz ?_
  refine Aa ?_
  refine Cc rfl ?_
  refine J.nil ?_
  refine A3 ?_
  repeat refine Bz ?_
  refine Aa ?_
  refine Cc rfl ?_
  refine J.nil ?_
  refine A3 ?_
  repeat refine Bz ?_
  refine Aa ?_
  refine Bx rfl ?_
  refine r_len Try.underlying23 rfl (by first | exact Eb (by first | exact .hd | exact .tl .hd | exact .tl (.tl .hd) | exact .tl (.tl (.tl .hd)) | exact .tl (.tl (.tl (.tl .hd))) | exact .tl (.tl (.tl (.tl (.tl .hd)))) | exact .tl (.tl (.tl (.tl (.tl (.tl .hd))))) | exact .tl (.tl (.tl (.tl (.tl (.tl (.tl .hd)))))) | exact .tl (.tl (.tl (.tl (.tl (.tl (.tl (.tl .hd)))))))) | exact Fd (by first | assumption | exact .head _ | (refine .tail _ ?_; first | assumption | exact .head _ | (refine .tail _ ?_; first | assumption | exact .head _ | (refine .tail _ ?_; first | assumption | exact .head _ | (refine .tail _ ?_; first | assumption | exact .head _ | (refine .tail _ ?_; first | assumption | exact .head _ | (refine .tail _ ?_; first | assumption | exact .head _ | (refine .tail _ ?_; first | assumption | exact .head _ | (refine .tail _ ?_; first | assumption | exact .head _ | (refine .tail _ ?_; first | assumption | exact .head _))))))))))) ?_
  refine Bx rfl ?_
  refine J.nil ?_
  refine A3 ?_
  repeat refine Bz ?_
  refine D3 ?_
  have hbl : (Bj b bit).length = b.length := G2 b bit
  refine JC.rowNil 5 UInt8 ?_
  refine Cu (γ := Nat × Value) (fun g => g.1 ≤ b.length) (fun g => row 5 g.2 ((Bj b bit).take g.1) :: L) (fun _ => R) (fun g => [(1, vi bit), (5, g.2), (9, v0), (10, vi (b.length : Int)), (11, vi (g.1 : Int))]) (fun g => b.length - g.1) (0, .slice none 0 0) (by omega) ⟨rfl, rfl, rfl, rfl, rfl, trivial⟩ (fun w hs => hs) ?_
  rintro ⟨k, v5⟩ hk
  simp only at hk ⊢
  repeat refine Bz ?_
  refine Aa ?_
  refine E1 rfl rfl Kt ?_
  refine J.nil ?_
  refine A3 ?_
  repeat refine Bz ?_
  refine Bp rfl (fun ht12 => ?_) (fun ht12 => ?_)
  · -- t12 True
    try simp only [decide_eq_true_eq, decide_eq_false_iff_not, beq_iff_eq, bne_iff_ne, beq_eq_false_iff_ne, bne_eq_false_iff_eq, Int.not_lt, Int.not_le, Bool.not_eq_true, ne_eq, Bool.not_eq_eq_eq_not, Bool.not_true, Bool.not_false] at ht12
    refine Fe ?_
    refine A3 ?_
    repeat refine Bz ?_
    refine D3 ?_
    repeat refine Bz ?_
    refine Aa ?_
    refine Bx rfl ?_
    first | refine I2 D4 rfl rfl (by first | exact Eb (by first | exact .hd | exact .tl .hd | exact .tl (.tl .hd) | exact .tl (.tl (.tl .hd)) | exact .tl (.tl (.tl (.tl .hd))) | exact .tl (.tl (.tl (.tl (.tl .hd)))) | exact .tl (.tl (.tl (.tl (.tl (.tl .hd))))) | exact .tl (.tl (.tl (.tl (.tl (.tl (.tl .hd)))))) | exact .tl (.tl (.tl (.tl (.tl (.tl (.tl (.tl .hd)))))))) | exact Fd (by first | assumption | exact .head _ | (refine .tail _ ?_; first | assumption | exact .head _ | (refine .tail _ ?_; first | assumption | exact .head _ | (refine .tail _ ?_; first | assumption | exact .head _ | (refine .tail _ ?_; first | assumption | exact .head _ | (refine .tail _ ?_; first | assumption | exact .head _ | (refine .tail _ ?_; first | assumption | exact .head _ | (refine .tail _ ?_; first | assumption | exact .head _ | (refine .tail _ ?_; first | assumption | exact .head _ | (refine .tail _ ?_; first | assumption | exact .head _))))))))))) (by first | assumption | omega | (simp only [List.length_nil, List.length_cons, List.length_append, List.length_take, List.length_drop, List.length_set, List.length_replicate]; omega)) ?_ | refine Ho D4 rfl rfl (by first | exact Eb (by first | exact .hd | exact .tl .hd | exact .tl (.tl .hd) | exact .tl (.tl (.tl .hd)) | exact .tl (.tl (.tl (.tl .hd))) | exact .tl (.tl (.tl (.tl (.tl .hd)))) | exact .tl (.tl (.tl (.tl (.tl (.tl .hd))))) | exact .tl (.tl (.tl (.tl (.tl (.tl (.tl .hd)))))) | exact .tl (.tl (.tl (.tl (.tl (.tl (.tl (.tl .hd)))))))) | exact Fd (by first | assumption | exact .head _ | (refine .tail _ ?_; first | assumption | exact .head _ | (refine .tail _ ?_; first | assumption | exact .head _ | (refine .tail _ ?_; first | assumption | exact .head _ | (refine .tail _ ?_; first | assumption | exact .head _ | (refine .tail _ ?_; first | assumption | exact .head _ | (refine .tail _ ?_; first | assumption | exact .head _ | (refine .tail _ ?_; first | assumption | exact .head _ | (refine .tail _ ?_; first | assumption | exact .head _ | (refine .tail _ ?_; first | assumption | exact .head _))))))))))) (by first | assumption | omega | (simp only [List.length_nil, List.length_cons, List.length_append, List.length_take, List.length_drop, List.length_set, List.length_replicate]; omega)) (by first | assumption | omega | (simp only [List.length_nil, List.length_cons, List.length_append, List.length_take, List.length_drop, List.length_set, List.length_replicate]; omega)) ?_
    first | refine Ip Try.isAgg5 rfl (A2 (by first | exact .hd | exact .tl .hd | exact .tl (.tl .hd) | exact .tl (.tl (.tl .hd)) | exact .tl (.tl (.tl (.tl .hd))) | exact .tl (.tl (.tl (.tl (.tl .hd)))) | exact .tl (.tl (.tl (.tl (.tl (.tl .hd))))) | exact .tl (.tl (.tl (.tl (.tl (.tl (.tl .hd)))))) | exact .tl (.tl (.tl (.tl (.tl (.tl (.tl (.tl .hd)))))))) (by exact rfl)) ?_ | refine Ip Try.isAgg5 rfl (at_byterow (by first | exact .hd | exact .tl .hd | exact .tl (.tl .hd) | exact .tl (.tl (.tl .hd)) | exact .tl (.tl (.tl (.tl .hd))) | exact .tl (.tl (.tl (.tl (.tl .hd)))) | exact .tl (.tl (.tl (.tl (.tl (.tl .hd))))) | exact .tl (.tl (.tl (.tl (.tl (.tl (.tl .hd)))))) | exact .tl (.tl (.tl (.tl (.tl (.tl (.tl (.tl .hd)))))))) (by first | assumption | omega | (simp only [List.length_nil, List.length_cons, List.length_append, List.length_take, List.length_drop, List.length_set, List.length_replicate]; omega))) ?_ | refine Ip Try.isAgg5 rfl (Ph (by first | assumption | exact .head _ | (refine .tail _ ?_; first | assumption | exact .head _ | (refine .tail _ ?_; first | assumption | exact .head _ | (refine .tail _ ?_; first | assumption | exact .head _ | (refine .tail _ ?_; first | assumption | exact .head _ | (refine .tail _ ?_; first | assumption | exact .head _ | (refine .tail _ ?_; first | assumption | exact .head _ | (refine .tail _ ?_; first | assumption | exact .head _ | (refine .tail _ ?_; first | assumption | exact .head _ | (refine .tail _ ?_; first | assumption | exact .head _)))))))))) (by first | assumption | omega | (simp only [List.length_nil, List.length_cons, List.length_append, List.length_take, List.length_drop, List.length_set, List.length_replicate]; omega))) ?_
    refine Cc rfl ?_
    refine Cc rfl ?_
    refine J.nil ?_
    refine A3 ?_
    repeat refine Bz ?_
    refine Aa ?_
    refine Bx rfl ?_
    refine Bx rfl ?_
    refine E1 rfl rfl (Ns (by omega) (by omega)) ?_
    refine E1 rfl rfl Nt ?_
    refine Bx rfl ?_
    refine Ls (t := 20) (b := ?b1) ?e1 ?_ ?_
    case e1 => exact rfl
    · -- t20 True
      intro ht20
      try simp only [decide_eq_true_eq, decide_eq_false_iff_not, beq_iff_eq, bne_iff_ne, beq_eq_false_iff_ne, bne_eq_false_iff_eq, Int.not_lt, Int.not_le, Bool.not_eq_true, ne_eq, Bool.not_eq_eq_eq_not, Bool.not_true, Bool.not_false] at ht20
      refine J.guardYes ?_ ?_
      · exact rfl
      refine Bx rfl ?_
      refine J.guardYes ?_ ?_
      · exact rfl
      refine Bx rfl ?_
      refine J.guardYes ?_ ?_
      · exact rfl
      refine E1 rfl rfl (Ns (by omega) (by omega)) ?_
      refine J.guardYes ?_ ?_
      · exact rfl
      refine E1 rfl rfl (Mb (by omega) (by omega)) ?_
      refine J.guardYes ?_ ?_
      · exact rfl
      refine E1 rfl rfl Kt ?_
      refine Vf rfl rfl ?_
      refine J.nil ?_
      refine A3 ?_
      repeat refine Bz ?_
      refine Bp rfl (fun ht26 => ?_) (fun ht26 => ?_)
      · -- t26 True
        try simp only [decide_eq_true_eq, decide_eq_false_iff_not, beq_iff_eq, bne_iff_ne, beq_eq_false_iff_ne, bne_eq_false_iff_eq, Int.not_lt, Int.not_le, Bool.not_eq_true, ne_eq, Bool.not_eq_eq_eq_not, Bool.not_true, Bool.not_false] at ht26
        repeat refine Bz ?_
        obtain ⟨r, hr⟩ : ∃ r : Nat, bit = 8 * (k : Int) + r := ⟨(bit - 8 * (k : Int)).toNat, by omega⟩
        have hr8 : r < 8 := by omega
        have hget : (Bj b bit).getD k 0 = b.getD k 0 ^^^ ((1 : UInt8) <<< UInt8.ofNat r) := by
          have e1 : (bit / 8).toNat = k := by omega
          have e2 : (bit % 8).toNat = r := by omega
          unfold Bj
          rw [if_pos (by omega), e1, e2, Cy _ _ _ _ _ (by omega), if_pos rfl]
        refine Aa ?_
        refine Cc rfl ?_
        refine J.nil ?_
        refine A3 ?_
        repeat refine Bz ?_
        refine Aa ?_
        refine Bx rfl ?_
        refine Bx rfl ?_
        refine E1 rfl rfl (Ns (by omega) (by omega)) ?_
        refine E1 rfl rfl (Um (by omega) (by omega)) ?_
        refine Bx rfl ?_
        refine J.nil ?_
        refine A3 ?_
        repeat refine Bz ?_
        refine D3 ?_
        rw [show bit - 8 * (k : Int) = (r : Int) by omega]
        refine Cu (γ := Nat) (fun j => j ≤ r) (fun _ => row 5 v5 ((Bj b bit).take k) :: L) (fun _ => R) (fun j => [(1, vi bit), (5, v5), (9, v0), (10, vi (b.length : Int)), (11, vi (k : Int)), (7, vb (b.getD k 0)), (30, vi (r : Int)), (31, vi (j : Int)), (8, vi ((2 ^ j : Nat) : Int))]) (fun j => r - j) 0 (by omega) ⟨rfl, rfl, rfl, rfl, rfl, rfl, rfl, rfl, rfl, trivial⟩ (fun w hs => hs.sub (by repeat (first | exact .refl | exact .nil | refine .cons (by first | exact .hd | exact .tl .hd | exact .tl (.tl .hd) | exact .tl (.tl (.tl .hd)) | exact .tl (.tl (.tl (.tl .hd))) | exact .tl (.tl (.tl (.tl (.tl .hd)))) | exact .tl (.tl (.tl (.tl (.tl (.tl .hd))))) | exact .tl (.tl (.tl (.tl (.tl (.tl (.tl .hd)))))) | exact .tl (.tl (.tl (.tl (.tl (.tl (.tl (.tl .hd)))))))) ?_ | refine .drop ?_)) (by repeat (first | exact FSub.refl | exact FSub.nil | refine FSub.cons (by first | assumption | (repeat (first | assumption | exact List.Mem.head _ | refine .tail _ ?_))) ?_ | refine FSub.drop ?_))) ?_
        intro j hj
        repeat refine Bz ?_
        refine Aa ?_
        refine E1 rfl rfl Kt ?_
        refine J.nil ?_
        refine A3 ?_
        repeat refine Bz ?_
        refine Bp rfl (fun ht32 => ?_) (fun ht32 => ?_)
        · -- t32 True
          try simp only [decide_eq_true_eq, decide_eq_false_iff_not, beq_iff_eq, bne_iff_ne, beq_eq_false_iff_ne, bne_eq_false_iff_eq, Int.not_lt, Int.not_le, Bool.not_eq_true, ne_eq, Bool.not_eq_eq_eq_not, Bool.not_true, Bool.not_false] at ht32
          refine Fe ?_
          refine A3 ?_
          repeat refine Bz ?_
          refine D3 ?_
          refine Aa ?_
          refine Bx rfl ?_
          have hp := Nat.pow_le_pow_right (show 0 < 2 by decide) (show j ≤ 8 by omega)
          have hp1 : (0 : Int) ≤ ((2 ^ j : Nat) : Int) := Int.natCast_nonneg _
          have hp2 : ((2 ^ j : Nat) : Int) ≤ 256 := Int.ofNat_le.2 hp
          refine E1 rfl rfl (Ns (by omega) (by omega)) ?_
          refine Cc rfl ?_
          refine J.nil ?_
          refine Ec ?_
          refine A3 ?_
          refine Aa ?_
          refine E1 rfl rfl (Mb (by omega) (by omega)) ?_
          refine Bx rfl ?_
          refine J.nil ?_
          have hp3 : 2 ^ (j + 1) = 2 ^ j * 2 := Nat.pow_succ ..
          refine Be (j + 1) (by omega) (by omega) ⟨rfl, rfl, rfl, rfl, rfl, rfl, rfl, rfl, ?_, trivial⟩ (fun w hs => hs)
          exact congrArg (fun z => some (vi z)) (show 2 * ((2 ^ j : Nat) : Int) = ((2 ^ (j + 1) : Nat) : Int) by rw [hp3, Int.natCast_mul]; exact Int.mul_comm _ _)
        · -- t32 False
          try simp only [decide_eq_true_eq, decide_eq_false_iff_not, beq_iff_eq, bne_iff_ne, beq_eq_false_iff_ne, bne_eq_false_iff_eq, Int.not_lt, Int.not_le, Bool.not_eq_true, ne_eq, Bool.not_eq_eq_eq_not, Bool.not_true, Bool.not_false] at ht32
          refine Gw ?_
          repeat (first | refine Dj ?_ | refine Ez rfl ?_)
          refine Dk ?_
          refine A3 ?_
          refine Aa ?_
          refine Bx rfl ?_
          refine r_p (A9 Try.underlying5 Try.underlying3 rfl (Bi _)) rfl ?_
          refine Bx rfl ?_
          have hjr : j = r := by omega
          subst hjr
          have hp := Nat.pow_le_pow_right (show 0 < 2 by decide) (show j ≤ 8 by omega)
          refine r_p (Af rfl rfl (U1 (by have := (b.getD k 0).toNat_lt; omega) (by omega))) rfl ?_
          refine r_p (A9 Try.underlying3 Try.underlying5 rfl (F2 _)) rfl ?_
          rw [Sk _ _ hr8]
          refine Cc rfl ?_
          refine J.nil ?_
          refine A3 ?_
          refine Aa ?_
          refine Bx rfl ?_
          refine Bx rfl ?_
          refine Q4 (α := UInt8) [b.getD k 0 ^^^ ((1 : UInt8) <<< UInt8.ofNat j)] H6 rfl rfl rfl rfl rfl rfl (fun j hj => ⟨⟨_, rfl, rfl⟩, trivial⟩) ?_; intro v43
          refine J.shut .hd ?_
          refine Ji H6 rfl rfl rfl (by decide) (by first | exact .hd | exact .tl .hd | exact .tl (.tl .hd) | exact .tl (.tl (.tl .hd)) | exact .tl (.tl (.tl (.tl .hd))) | exact .tl (.tl (.tl (.tl (.tl .hd)))) | exact .tl (.tl (.tl (.tl (.tl (.tl .hd))))) | exact .tl (.tl (.tl (.tl (.tl (.tl (.tl .hd)))))) | exact .tl (.tl (.tl (.tl (.tl (.tl (.tl (.tl .hd)))))))) (.head _) (fun w hs => by have : maxN = 16777216 := rfl; rw [List.length_take, G2]; simp only [List.length_cons, List.length_nil]; omega) ?_; intro v44
          refine Cc rfl ?_
          refine J.nil ?_
          refine Ec ?_
          refine A3 ?_
          refine Aa ?_
          refine E1 rfl rfl (Mb (by omega) (by omega)) ?_
          refine Bx rfl ?_
          refine J.nil ?_
          refine Be (k + 1, v44) (by show k + 1 ≤ b.length; omega) (by show b.length - (k + 1) < b.length - k; omega) ⟨rfl, rfl, rfl, rfl, rfl, trivial⟩ (fun w hs => ?_)
          have hxk : ((Bj b bit)[k]?).toList = [b.getD k 0 ^^^ ((1 : UInt8) <<< UInt8.ofNat j)] := by
            rw [getD_some 0 (show k < (Bj b bit).length by omega)]
            have hg : (Bj b bit).getD k 0 = b.getD k 0 ^^^ ((1 : UInt8) <<< UInt8.ofNat j) := hget
            rw [hg]; rfl
          show St (row 5 v44 ((Bj b bit).take (k + 1)) :: _) _ w
          rw [List.take_add_one, hxk]; exact hs.sub (by repeat (first | exact .refl | exact .nil | refine .cons (by first | exact .hd | exact .tl .hd | exact .tl (.tl .hd) | exact .tl (.tl (.tl .hd)) | exact .tl (.tl (.tl (.tl .hd))) | exact .tl (.tl (.tl (.tl (.tl .hd)))) | exact .tl (.tl (.tl (.tl (.tl (.tl .hd))))) | exact .tl (.tl (.tl (.tl (.tl (.tl (.tl .hd)))))) | exact .tl (.tl (.tl (.tl (.tl (.tl (.tl (.tl .hd)))))))) ?_ | refine .drop ?_)) (by repeat (first | exact FSub.refl | exact FSub.nil | refine FSub.cons (by first | assumption | (repeat (first | assumption | exact List.Mem.head _ | refine .tail _ ?_))) ?_ | refine FSub.drop ?_))
      · -- t26 False
        try simp only [decide_eq_true_eq, decide_eq_false_iff_not, beq_iff_eq, bne_iff_ne, beq_eq_false_iff_ne, bne_eq_false_iff_eq, Int.not_lt, Int.not_le, Bool.not_eq_true, ne_eq, Bool.not_eq_eq_eq_not, Bool.not_true, Bool.not_false] at ht26
        have hget : (Bj b bit).getD k 0 = b.getD k 0 := by
          unfold Bj
          split
          · rw [Cy _ _ _ _ _ (by omega), if_neg (by omega)]
          · rfl
        refine Fe ?_
        refine A3 ?_
        refine Aa ?_
        refine Bx rfl ?_
        refine Bx rfl ?_
        refine Q4 (α := UInt8) [b.getD k 0] H6 rfl rfl rfl rfl rfl rfl (fun j hj => ⟨⟨_, rfl, rfl⟩, trivial⟩) ?_; intro v43
        refine J.shut .hd ?_
        refine Ji H6 rfl rfl rfl (by decide) (by first | exact .hd | exact .tl .hd | exact .tl (.tl .hd) | exact .tl (.tl (.tl .hd)) | exact .tl (.tl (.tl (.tl .hd))) | exact .tl (.tl (.tl (.tl (.tl .hd)))) | exact .tl (.tl (.tl (.tl (.tl (.tl .hd))))) | exact .tl (.tl (.tl (.tl (.tl (.tl (.tl .hd)))))) | exact .tl (.tl (.tl (.tl (.tl (.tl (.tl (.tl .hd)))))))) (.head _) (fun w hs => by have : maxN = 16777216 := rfl; rw [List.length_take, G2]; simp only [List.length_cons, List.length_nil]; omega) ?_; intro v44
        refine Cc rfl ?_
        refine J.nil ?_
        refine Ec ?_
        refine A3 ?_
        refine Aa ?_
        refine E1 rfl rfl (Mb (by omega) (by omega)) ?_
        refine Bx rfl ?_
        refine J.nil ?_
        refine Be (k + 1, v44) (by show k + 1 ≤ b.length; omega) (by show b.length - (k + 1) < b.length - k; omega) ⟨rfl, rfl, rfl, rfl, rfl, trivial⟩ (fun w hs => ?_)
        have hxk : ((Bj b bit)[k]?).toList = [b.getD k 0] := by
          rw [getD_some 0 (show k < (Bj b bit).length by omega)]
          have hg : (Bj b bit).getD k 0 = b.getD k 0 := hget
          rw [hg]; rfl
        show St (row 5 v44 ((Bj b bit).take (k + 1)) :: _) _ w
        rw [List.take_add_one, hxk]; exact hs.sub (by repeat (first | exact .refl | exact .nil | refine .cons (by first | exact .hd | exact .tl .hd | exact .tl (.tl .hd) | exact .tl (.tl (.tl .hd)) | exact .tl (.tl (.tl (.tl .hd))) | exact .tl (.tl (.tl (.tl (.tl .hd)))) | exact .tl (.tl (.tl (.tl (.tl (.tl .hd))))) | exact .tl (.tl (.tl (.tl (.tl (.tl (.tl .hd)))))) | exact .tl (.tl (.tl (.tl (.tl (.tl (.tl (.tl .hd)))))))) ?_ | refine .drop ?_)) (by repeat (first | exact FSub.refl | exact FSub.nil | refine FSub.cons (by first | assumption | (repeat (first | assumption | exact List.Mem.head _ | refine .tail _ ?_))) ?_ | refine FSub.drop ?_))
    · -- t20 False
      intro ht20
      try simp only [decide_eq_true_eq, decide_eq_false_iff_not, beq_iff_eq, bne_iff_ne, beq_eq_false_iff_ne, bne_eq_false_iff_eq, Int.not_lt, Int.not_le, Bool.not_eq_true, ne_eq, Bool.not_eq_eq_eq_not, Bool.not_true, Bool.not_false] at ht20
      have hget : (Bj b bit).getD k 0 = b.getD k 0 := by
        unfold Bj
        split
        · rw [Cy _ _ _ _ _ (by omega), if_neg (by omega)]
        · rfl
      refine J.guardNo ?_ ?_
      · exact rfl
      refine J.guardNo ?_ ?_
      · exact rfl
      refine J.guardNo ?_ ?_
      · exact rfl
      refine J.guardNo ?_ ?_
      · exact rfl
      refine J.guardNo ?_ ?_
      · exact rfl
      refine Vg rfl rfl ?_
      refine J.nil ?_
      refine A3 ?_
      repeat refine Bz ?_
      refine Lr rfl ?_
      refine Fe ?_
      refine A3 ?_
      refine Aa ?_
      refine Bx rfl ?_
      refine Bx rfl ?_
      refine Q4 (α := UInt8) [b.getD k 0] H6 rfl rfl rfl rfl rfl rfl (fun j hj => ⟨⟨_, rfl, rfl⟩, trivial⟩) ?_; intro v43
      refine J.shut .hd ?_
      refine Ji H6 rfl rfl rfl (by decide) (by first | exact .hd | exact .tl .hd | exact .tl (.tl .hd) | exact .tl (.tl (.tl .hd)) | exact .tl (.tl (.tl (.tl .hd))) | exact .tl (.tl (.tl (.tl (.tl .hd)))) | exact .tl (.tl (.tl (.tl (.tl (.tl .hd))))) | exact .tl (.tl (.tl (.tl (.tl (.tl (.tl .hd)))))) | exact .tl (.tl (.tl (.tl (.tl (.tl (.tl (.tl .hd)))))))) (.head _) (fun w hs => by have : maxN = 16777216 := rfl; rw [List.length_take, G2]; simp only [List.length_cons, List.length_nil]; omega) ?_; intro v44
      refine Cc rfl ?_
      refine J.nil ?_
      refine Ec ?_
      refine A3 ?_
      refine Aa ?_
      refine E1 rfl rfl (Mb (by omega) (by omega)) ?_
      refine Bx rfl ?_
      refine J.nil ?_
      refine Be (k + 1, v44) (by show k + 1 ≤ b.length; omega) (by show b.length - (k + 1) < b.length - k; omega) ⟨rfl, rfl, rfl, rfl, rfl, trivial⟩ (fun w hs => ?_)
      have hxk : ((Bj b bit)[k]?).toList = [b.getD k 0] := by
        rw [getD_some 0 (show k < (Bj b bit).length by omega)]
        have hg : (Bj b bit).getD k 0 = b.getD k 0 := hget
        rw [hg]; rfl
      show St (row 5 v44 ((Bj b bit).take (k + 1)) :: _) _ w
      rw [List.take_add_one, hxk]; exact hs.sub (by repeat (first | exact .refl | exact .nil | refine .cons (by first | exact .hd | exact .tl .hd | exact .tl (.tl .hd) | exact .tl (.tl (.tl .hd)) | exact .tl (.tl (.tl (.tl .hd))) | exact .tl (.tl (.tl (.tl (.tl .hd)))) | exact .tl (.tl (.tl (.tl (.tl (.tl .hd))))) | exact .tl (.tl (.tl (.tl (.tl (.tl (.tl .hd)))))) | exact .tl (.tl (.tl (.tl (.tl (.tl (.tl (.tl .hd)))))))) ?_ | refine .drop ?_)) (by repeat (first | exact FSub.refl | exact FSub.nil | refine FSub.cons (by first | assumption | (repeat (first | assumption | exact List.Mem.head _ | refine .tail _ ?_))) ?_ | refine FSub.drop ?_))
  · -- t12 False
    try simp only [decide_eq_true_eq, decide_eq_false_iff_not, beq_iff_eq, bne_iff_ne, beq_eq_false_iff_ne, bne_eq_false_iff_eq, Int.not_lt, Int.not_le, Bool.not_eq_true, ne_eq, Bool.not_eq_eq_eq_not, Bool.not_true, Bool.not_false] at ht12
    refine Gw ?_
    repeat (first | refine Dj ?_ | refine Ez rfl ?_)
    refine Dk ?_
    refine A3 ?_
    repeat refine Bz ?_
    refine Aa ?_
    refine Bx rfl ?_
    refine Cc rfl ?_
    refine J.nil ?_
    refine A3 ?_
    refine K3 ?_
    repeat (first | refine E9 ?_ | refine Eo ?_)
    have hkl : k = b.length := by omega
    refine Co (.inr rfl) (fun B w hs => res1 rfl rfl B w) (fun w hs => ?_)
    refine ⟨v5, rfl, ?_⟩
    have h := St.shut (hs.pick (by first | exact .hd | exact .tl .hd | exact .tl (.tl .hd) | exact .tl (.tl (.tl .hd)) | exact .tl (.tl (.tl (.tl .hd))) | exact .tl (.tl (.tl (.tl (.tl .hd)))) | exact .tl (.tl (.tl (.tl (.tl (.tl .hd))))) | exact .tl (.tl (.tl (.tl (.tl (.tl (.tl .hd)))))) | exact .tl (.tl (.tl (.tl (.tl (.tl (.tl (.tl .hd)))))))))
    rw [List.take_of_length_le (by omega)] at h
    exact h.sub (by repeat (first | exact .refl | exact .nil | refine .cons (by first | exact .hd | exact .tl .hd | exact .tl (.tl .hd) | exact .tl (.tl (.tl .hd)) | exact .tl (.tl (.tl (.tl .hd))) | exact .tl (.tl (.tl (.tl (.tl .hd)))) | exact .tl (.tl (.tl (.tl (.tl (.tl .hd))))) | exact .tl (.tl (.tl (.tl (.tl (.tl (.tl .hd)))))) | exact .tl (.tl (.tl (.tl (.tl (.tl (.tl (.tl .hd)))))))) ?_ | refine .drop ?_)) (by repeat (first | exact FSub.refl | exact FSub.nil | refine FSub.cons (by first | assumption | (repeat (first | assumption | exact List.Mem.head _ | refine .tail _ ?_))) ?_ | refine FSub.drop ?_))
end Go.Proofs.Ytofgpimoekhfaaa

/- This file proves what net.Take, Twice, Spoil and their twins compute. No conditions. -/
set_option linter.unusedVariables false
set_option linter.unusedSimpArgs false
set_option maxHeartbeats 1000000
set_option maxRecDepth 8000
namespace Go.Proofs.Ytofgpimoekhfaaa
open Go
theorem Oi {α : Type} {l : List α} {i : Nat} : l.eraseIdx i = l.take i ++ l.drop (i + 1) := List.eraseIdx_eq_take_drop_succ ..
theorem RdL.erase {α : Type} [Enc α] {m : Mem} {xs : List α} {cs : List Value} {i : Nat} (hz : Enc.sz α = 1) (hi : i < xs.length) (h : RdL xs cs m) : RdL (xs.eraseIdx i) (cs.take i ++ cs.drop (i + 1)) m := by
 have h1 : xs = xs.take i ++ xs.drop i := (List.take_append_drop i xs).symm
 rw [h1] at h
 obtain ⟨a, b, e1, e2, e3⟩ := RdL.split h
 have la : a.length = i := by rw [e2.len, hz, List.length_take]; omega
 rw [List.drop_eq_getElem_cons hi] at e3
 obtain ⟨c1, c2, g1, g2, g3⟩ := e3
 have lc : c1.length = 1 := by rw [Enc.len _ _ _ g2, hz]
 rw [Oi]
 have ea : cs.take i = a := by rw [e1, ← la]; simp
 have eb : cs.drop (i + 1) = c2 := by
  rw [e1, g1, ← la, List.drop_append, show a.length + 1 - a.length = 1 by omega, List.drop_append, lc]
  simp [List.drop_of_length_le, lc]
 rw [ea, eb]
 exact RdL.append g3 e2
end Go.Proofs.Ytofgpimoekhfaaa

/- This file proves what small functions of the document's answer compute: comparing, what is put on the way, and new chips. No conditions. -/
set_option linter.unusedVariables false
set_option linter.unusedSimpArgs false
set_option maxHeartbeats 1000000
set_option maxRecDepth 8000
namespace Go.Proofs.Ytofgpimoekhfaaa
open Go
theorem Ut {L : List Chunk} {R : List Fact} {w : World} {f : Fact} (hs : St L R w) (h : f ∈ R) : St L (f :: R) w := hs.sub .refl (fun g hg => by
  rcases List.mem_cons.1 hg with e | e
  · rw [e]; exact h
  · exact e)
theorem Mm {L : List Chunk} {R : List Fact} {w : World} {v0 v1 : Value} {fs : Frames} {ms : List Msg} (hs : St (L) R w) (h0 : sl v0 fs ∈ R) (h1 : sl v1 ms ∈ R) (hm : ∀ m ∈ ms, MsgIn m) : Calls Try.prog 97 [v0, v1].toArray w (Ch (fun v : Value => v) (fun v => L) (fun v => sl v (way fs ms) :: R)) := by
  have hlen := Bk h1 hs
  refine Aj Try.func97 rfl Try.ntmps97 rfl hs ?_
  clear hs
  refine Gm ?_
  refine Gb1 ?_
  refine Ga3 ?_
  refine Cu (γ := Nat × Value) (fun g => g.1 ≤ ms.length) (fun _ => L) (fun g => sl g.2 (way fs (ms.take g.1)) :: R) (fun g => [(0, g.2), (7, v1), (8, vi (ms.length : Int)), (9, vi (g.1 : Int))]) (fun g => ms.length - g.1) (0, v0) (Nat.zero_le _) alT (fun w hs => Ut hs h0) ?_
  rintro ⟨k, vs⟩ hk
  try simp only at hk ⊢
  refine Gm ?_
  refine Ga1 ?_
  refine cdx (p := ?p1) (hd := ?d1) ?e1 ?_ ?_; case e1 => exact rfl
  ·
   intro ht10
   refine Gl ?_
   refine JC.open0 (xs := ms) (v := v1) k mm (by omega) (fun _ => ?_)
   have hin : MsgIn (ms.getD k zMsg) := hm _ (by rw [List.getD_eq_getElem?_getD, List.getElem?_eq_getElem (by omega)]; exact List.getElem_mem _)
   refine Aa ?_
   refine rn2 ?_
   refine al_ (cs := zMsg.cells) Try.zeroValue42 ?_; intro b6
   refine s_B (cs := (ms.getD k zMsg).cells) Try.sizeOf42 ?_
   refine Gm ?_
   refine rn2 ?_
   refine Aq Try.call105 rfl (fun w hs => Tb hs hin) ?_; intro v15
   refine Aq Try.call21 rfl (fun w hs => Qz hs (l := way fs (ms.take k)) (b := By (ms.getD k zMsg)) mm mm) ?_; intro v16
   refine Gb1 ?_
   refine Ga2 ?_
   refine Be (k + 1, v16) (by show k + 1 ≤ ms.length; omega) (by show ms.length - (k + 1) < ms.length - k; omega) alT (fun w hs => ?_)
   try simp only
   rw [Ft zMsg (by omega), Ij]; exact Al hs
  ·
   intro ht10
   refine Gm ?_
   refine Ga2 ?_
   have hkl : k = ms.length := by omega
   subst hkl
   rw [List.take_length]
   exact Cb vs
theorem Im {L : List Chunk} {R : List Fact} {w : World} {e : Int} (hs : St (L) R w) : Calls Try.prog 95 [vi e].toArray w (Ch (fun _ : Unit => .tuple #[.agg #[.slice none 0 0, .slice none 0 0, .slice none 0 0], .slice none 0 0, vi e]) (fun _ => L) (fun _ => R)) := by
 refine Aj Try.func95 rfl Try.ntmps95 rfl hs ?_
 clear hs
 refine Gm ?_
 refine al_ (cs := [.slice none 0 0, .slice none 0 0, .slice none 0 0]) Try.zeroValue46 ?_; intro b2
 refine Gb2 ?_
 refine ob (E2 (cs := [.slice none 0 0, .slice none 0 0, .slice none 0 0]) Po) ?_
 refine rn1 ?_
 refine s_B Try.sizeOf46 ?_
 refine Ga2 ?_
 exact Cg () Try.isAgg46 Try.sizeOf46
theorem Su {L : List Chunk} {R : List Fact} {w : World} {v0 v1 : Value} {a b : List Done} (hs : St (L) R w) (h0 : sl v0 a ∈ R) (h1 : sl v1 b ∈ R) : Calls Try.prog 42 [v0, v1].toArray w (Ch (fun _ : Unit => .bool (decide (a = b))) (fun _ => L) (fun _ => R)) := by
  have hla := Bk h0 hs
  have hlb := Bk h1 hs
  refine Aj Try.func42 rfl Try.ntmps42 rfl hs ?_
  clear hs
  refine Gm ?_
  refine Gb1 ?_
  refine Ga5 ?_
  refine cdx (p := ?p1) (hd := ?d1) ?e1 ?_ ?_; case e1 => exact rfl
  ·
   intro ht10
   refine Gm ?_
   refine Ga1 ?_
   have e : a ≠ b := by intro h; apply ht10; rw [h]
   refine Cb () (hv := ?_)
   simp [e]
  ·
   intro ht10
   refine Gm ?_
   refine Ga3 ?_
   refine Cu (γ := Nat) (fun k => k ≤ a.length ∧ a.take k = b.take k) (fun _ => L) (fun _ => R) (fun k => [(0, v0), (1, v1), (12, vi (a.length : Int)), (13, vi (k : Int))]) (fun k => a.length - k) 0 ⟨Nat.zero_le _, rfl⟩ alT (fun w hs => hs) ?_
   rintro k ⟨hk, hab⟩
   refine Gm ?_
   refine Ga1 ?_
   refine cdx (p := ?p2) (hd := ?d2) ?e2 ?_ ?_; case e2 => exact rfl
   ·
    intro ht14
    refine Gm ?_
    refine Ga2 ?_
    refine JC.open0 (xs := a) (v := v0) k h0 (by omega) (fun _ => ?_)
    refine JC.open0 (xs := b) (v := v1) k (.tail _ h1) (by omega) (fun _ => ?_)
    refine Dv ?_
    refine dn8 ?_
    refine djc (fun _ _ => Hf rfl rfl (Xy _ _ _) (Uh _ _)) ?_
    refine dnl ?_; intro ρ
    refine Gl ?_
    refine cdx (p := ?p3) (hd := ?d3) ?e3 ?_ ?_; case e3 => exact rfl
    ·
     intro ht24
     refine Gm ?_
     refine Ga1 ?_
     have e : a ≠ b := by intro h; apply ht24; rw [h]
     refine Cb () (hv := ?_)
     simp [e]
    ·
     intro ht24
     refine Gm ?_
     refine Ga2 ?_
     refine Be (k + 1) ⟨by omega, ?_⟩ (by omega) alT (fun w hs => Al hs)
     rw [Ft (El0.df : Done) (by omega), Ft (El0.df : Done) (by omega), hab]
     exact congrArg (fun z => b.take k ++ [z]) (Classical.byContradiction ht24)
   ·
    intro ht14
    refine Gm ?_
    refine Ga1 ?_
    have e : a = b := by
     have hkl : k = a.length := by omega
     rw [hkl, List.take_length, show a.length = b.length by omega, List.take_length] at hab
     exact hab
    refine Cb () (hv := ?_)
    simp [e]
theorem Sv {L : List Chunk} {R : List Fact} {w : World} {u0 u1 : Value} {a b : Core} (hs : St (L) R w) (h0 : sl u0 a.lines ∈ R) (h1 : sl u1 b.lines ∈ R) : Calls Try.prog 41 [.agg (a.cells u0).toArray, .agg (b.cells u1).toArray].toArray w (Ch (fun _ : Unit => .bool (decide (a = b))) (fun _ => L) (fun _ => R)) := by
  have hla := Bk h0 hs
  have hlb := Bk h1 hs
  have hone0 : u0.oneCell' = true := isSlice.one (hs.fact h0)
  have hone1 : u1.oneCell' = true := isSlice.one (hs.fact h1)
  refine Aj Try.func41 rfl Try.ntmps41 rfl hs ?_
  clear hs
  refine Gm ?_
  refine bx ?_; intro b2
  refine bx ?_; intro b3
  refine Ga1 ?_
  refine kp [2, 3, 4, 6, 7, 8, 9, 10, 11, 12, 13, 14, 15, 16, 17, 18, 19] ?_
  refine Di 19 (.bool (decide (¬ (a.wait = b.wait ∧ a.lines.length = b.lines.length)))) ?_ ?_
  ·
   rcases (show (¬ a.wait = b.wait) ∨ (a.wait = b.wait ∧ ¬ a.lines.length = b.lines.length) ∨ (a.wait = b.wait ∧ a.lines.length = b.lines.length) from by by_cases h1 : a.wait = b.wait <;> by_cases h2 : a.lines.length = b.lines.length <;> simp [h1, h2]) with hm | hm | hm
   ·
    refine Aa ?_
    refine rn1 ?_
    refine ob (Dy 3 Try.isAgg66 Try.sizeOf66) ?_
    refine rn2 ?_
    refine ob (Hf rfl rfl (Ql a.wait b.wait _) (Xn (x := a.wait) (y := b.wait) hm)) ?_
    refine Ga9 ?_
    refine Aw ?_ (fun w hs => hs)
    refine ⟨by first | exact congrArg (fun b => some (Value.bool b)) (decide_eq_true (by first | exact fun h => hm h.1 | exact fun h => hm.2 h.2 | exact fun h => h hm)).symm | exact congrArg (fun b => some (Value.bool b)) (by simp; omega), alT⟩
   ·
    refine Aa ?_
    refine rn1 ?_
    refine ob (Dy 3 Try.isAgg66 Try.sizeOf66) ?_
    refine rn2 ?_
    refine ob (Hf rfl rfl (Ql a.wait b.wait _) (R8 (x := a.wait) (y := b.wait) (by simpa using hm.1))) ?_
    refine rn7 ?_
    refine gy ?_
    refine ob (Af rfl rfl (Cz (by omega))) ?_
    refine Ga1 ?_
    refine Aw ?_ (fun w hs => hs)
    refine ⟨by first | exact congrArg (fun b => some (Value.bool b)) (decide_eq_true (by first | exact fun h => hm h.1 | exact fun h => hm.2 h.2 | exact fun h => h hm)).symm | exact congrArg (fun b => some (Value.bool b)) (by simp; omega), alT⟩
   ·
    refine Aa ?_
    refine rn1 ?_
    refine ob (Dy 3 Try.isAgg66 Try.sizeOf66) ?_
    refine rn2 ?_
    refine ob (Hf rfl rfl (Ql a.wait b.wait _) (R8 (x := a.wait) (y := b.wait) (by simpa using hm.1))) ?_
    refine rn7 ?_
    refine gy ?_
    refine ob (Af rfl rfl (Bv (by omega))) ?_
    refine Ga1 ?_
    refine Aw ?_ (fun w hs => hs)
    refine ⟨by first | exact congrArg (fun b => some (Value.bool b)) (decide_eq_false (by first | exact fun h => hm h.1 | exact fun h => hm.2 h.2 | exact fun h => h hm)).symm | exact congrArg (fun b => some (Value.bool b)) (by simp; omega), alT⟩
  ·
   refine A3 ?_
   refine Gl ?_
   first | (refine cdx (p := ?p1) (hd := ?d1) ?e1 ?_ ?_; case e1 => exact rfl) | (refine Bp (b := ?b1) ?e1 ?_ ?_; case e1 => exact rfl)
   ·
    intro ht19
    refine Gl ?_
    refine kp [2, 3, 4] ?_
    refine Aa ?_
    refine Ga1 ?_
    have e : a ≠ b := by
     intro h
     have hw : a.wait = b.wait := by rw [h]
     have hl : a.lines.length = b.lines.length := by rw [h]
     first | exact ht19 ⟨hw, hl⟩ | omega
    refine Cb () (hv := ?_)
    simp [e]
   ·
    intro ht19
    refine Gl ?_
    refine kp [2, 3, 4, 20, 21, 22, 23] ?_
    refine Aa ?_
    refine Ga4 ?_
    refine Cu (γ := Nat) (fun k => k ≤ a.lines.length ∧ a.lines.take k = b.lines.take k) (fun _ => blk b2 69 (a.cells u0) :: blk b3 69 (b.cells u1) :: L) (fun _ => R) (fun k => [(2, bp b2 0), (3, bp b3 0), (22, vi (a.lines.length : Int)), (23, vi (k : Int))]) (fun k => a.lines.length - k) 0 ⟨Nat.zero_le _, rfl⟩ alT (fun w hs => Al hs) ?_
    rintro k ⟨hk, hab⟩
    refine Gm ?_
    refine Ga1 ?_
    refine cdx (p := ?p2) (hd := ?d2) ?e2 ?_ ?_; case e2 => exact rfl
    ·
     intro ht24
     refine Gm ?_
     refine Ga2 ?_
     refine JC.open0 (xs := a.lines) (v := u0) k mm (by omega) (fun _ => ?_)
     refine JC.open0 (xs := b.lines) (v := u1) k mm (by omega) (fun _ => ?_)
     refine Dv ?_
     refine Si ?_
     refine djc (fun _ _ => Hf rfl rfl (Xx _ _ _) (Ug _ _)) ?_
     refine dnl ?_; intro ρ
     refine Gl ?_
     refine cdx (p := ?p3) (hd := ?d3) ?e3 ?_ ?_; case e3 => exact rfl
     ·
      intro ht36
      refine Gm ?_
      refine Ga1 ?_
      have e : a ≠ b := by intro h; apply ht36; rw [h]
      refine Cb () (hv := ?_)
      simp [e]
     ·
      intro ht36
      refine Gm ?_
      refine Ga2 ?_
      refine Be (k + 1) ⟨by omega, ?_⟩ (by omega) alT (fun w hs => Al hs)
      rw [Ft zLine (by omega), Ft zLine (by omega), hab]
      exact congrArg (fun z => b.lines.take k ++ [z]) (Classical.byContradiction ht36)
    ·
     intro ht24
     refine Gm ?_
     refine Ga1 ?_
     have e : a = b := by
      have hkl : k = a.lines.length := by omega
      obtain ⟨hw, hl⟩ := Decidable.not_not.1 ht19
      rw [hkl, List.take_length, hl, List.take_length] at hab
      cases a; cases b; simp only at hab hw; rw [hab, hw]
     refine Cb () (hv := ?_)
     simp [e]
theorem Ti {P : Program} {n : Nat} {Q : Exit → Act → World → Prop} {L : List Chunk} {R : List Fact} {al : List (Nat × Value)} {c : Code} {v : Value} {l : List Entry} (i : Nat) (hm : sl v l ∈ R) (hi : i < l.length) (k : (l.getD i Bc).wf → ∀ u, JC P n c Q L (cF v 10 i (Entry.cells u (l.getD i Bc)) :: sl u (l.getD i Bc).last :: R) al) : JC P n c Q L R al := JC.open1 i hm hi k
end Go.Proofs.Ytofgpimoekhfaaa

/- This file proves what a new chip is, by the document's answer. No conditions. -/
set_option linter.unusedVariables false
set_option linter.unusedSimpArgs false
set_option maxHeartbeats 1000000
set_option maxRecDepth 8000
namespace Go.Proofs.Ytofgpimoekhfaaa
open Go
def Hg (c : Config) : Entry := { Bc with last := List.replicate c.cores.toNat 0 }
def I5 (c : Config) : Core := ⟨List.replicate c.lines.toNat zLine, zOp⟩
theorem Ox {α : Type} (k : Nat) (a : α) : List.replicate (k + 1) a = List.replicate k a ++ [a] := List.replicate_succ' ..
theorem Q8 (c : Config) : (Hg c).wf := by unfold Hg Bc Entry.wf Am; simp only; omega
theorem Ge {c : Config} (h : c.cores < 1 ∨ 4 < c.cores ∨ c.lines < 1 ∨ 4 < c.lines) : Br c = (Dw, 3) := by unfold Br Ic; rw [if_pos h, if_pos (by decide)]
theorem Nm {c : Config} (h : ¬ (c.cores < 1 ∨ 4 < c.cores ∨ c.lines < 1 ∨ 4 < c.lines)) : Br c = (⟨List.replicate c.cores.toNat (I5 c), List.replicate c.lines.toNat (Hg c), []⟩, 0) := by unfold Br Ic; rw [if_neg h, if_neg (by decide)]; rfl
theorem refNew {L : List Chunk} {R : List Fact} {w : World} {c : Config} (hs : St (L) R w) (hc : c.wf) : Calls Try.prog 35 [.agg c.cells.toArray].toArray w (Ch (fun v : Value × Value => .tuple #[.agg #[v.1, v.2, .slice none 0 0], vi (Br c).2]) (fun v => L) (fun v => sl v.1 (Br c).1.cores :: sl v.2 (Br c).1.home :: sl (.slice none 0 0) (Br c).1.frames :: R)) := by
  refine Aj Try.func35 rfl Try.ntmps35 rfl hs ?_
  clear hs
  refine Gm ?_
  refine bx ?_; intro b1
  refine al_ (cs := [.slice none 0 0, .slice none 0 0, .slice none 0 0]) Try.zeroValue46 ?_; intro b2
  refine Ga1 ?_
  rcases (show (c.cores < 1) ∨ (¬ c.cores < 1 ∧ 4 < c.cores) ∨ (¬ c.cores < 1 ∧ ¬ 4 < c.cores ∧ c.lines < 1) ∨ (¬ c.cores < 1 ∧ ¬ 4 < c.cores ∧ ¬ c.lines < 1 ∧ 4 < c.lines) ∨ (1 ≤ c.cores ∧ c.cores ≤ 4 ∧ 1 ≤ c.lines ∧ c.lines ≤ 4) from by omega) with hc | hc | hc | hc | hc
  ·
   refine Aa ?_
   refine rn2 ?_
   refine ob (Af rfl rfl (Bt (by omega))) ?_
   refine Gc15 ?_
   refine JC.slNil Core ?_
   refine JC.slNil Entry ?_
   refine JC.slNil (List UInt8) ?_
   refine Aa ?_
   refine ob (E2 (cs := [.slice none 0 0, .slice none 0 0, .slice none 0 0]) Po) ?_
   refine s_B Try.sizeOf46 ?_
   refine Ga1 ?_
   have er : Br c = (Dw, 3) := Ge (by omega)
   rw [er]
   exact Hv (.slice none 0 0, .slice none 0 0) Try.isAgg46 Try.sizeOf46
  ·
   refine Aa ?_
   refine rn2 ?_
   refine ob (Af rfl rfl (An (by omega))) ?_
   refine rn3 ?_
   refine gy ?_
   refine ob (Af rfl rfl (C0 (by omega))) ?_
   refine Gc11 ?_
   refine JC.slNil Core ?_
   refine JC.slNil Entry ?_
   refine JC.slNil (List UInt8) ?_
   refine Aa ?_
   refine ob (E2 (cs := [.slice none 0 0, .slice none 0 0, .slice none 0 0]) Po) ?_
   refine s_B Try.sizeOf46 ?_
   refine Ga1 ?_
   have er : Br c = (Dw, 3) := Ge (by omega)
   rw [er]
   exact Hv (.slice none 0 0, .slice none 0 0) Try.isAgg46 Try.sizeOf46
  ·
   refine Aa ?_
   refine rn2 ?_
   refine ob (Af rfl rfl (An (by omega))) ?_
   refine rn3 ?_
   refine gy ?_
   refine ob (Af rfl rfl (Cp (by omega))) ?_
   refine rn4 ?_
   refine gy ?_
   refine ob (Af rfl rfl (Bt (by omega))) ?_
   refine Gc6 ?_
   refine JC.slNil Core ?_
   refine JC.slNil Entry ?_
   refine JC.slNil (List UInt8) ?_
   refine Aa ?_
   refine ob (E2 (cs := [.slice none 0 0, .slice none 0 0, .slice none 0 0]) Po) ?_
   refine s_B Try.sizeOf46 ?_
   refine Ga1 ?_
   have er : Br c = (Dw, 3) := Ge (by omega)
   rw [er]
   exact Hv (.slice none 0 0, .slice none 0 0) Try.isAgg46 Try.sizeOf46
  ·
   refine Aa ?_
   refine rn2 ?_
   refine ob (Af rfl rfl (An (by omega))) ?_
   refine rn3 ?_
   refine gy ?_
   refine ob (Af rfl rfl (Cp (by omega))) ?_
   refine rn4 ?_
   refine gy ?_
   refine ob (Af rfl rfl (An (by omega))) ?_
   refine rn4 ?_
   refine gy ?_
   refine ob (Af rfl rfl (C0 (by omega))) ?_
   refine Gc1 ?_
   refine JC.slNil Core ?_
   refine JC.slNil Entry ?_
   refine JC.slNil (List UInt8) ?_
   refine Aa ?_
   refine ob (E2 (cs := [.slice none 0 0, .slice none 0 0, .slice none 0 0]) Po) ?_
   refine s_B Try.sizeOf46 ?_
   refine Ga1 ?_
   have er : Br c = (Dw, 3) := Ge (by omega)
   rw [er]
   exact Hv (.slice none 0 0, .slice none 0 0) Try.isAgg46 Try.sizeOf46
  ·
   refine Aa ?_
   refine rn2 ?_
   refine ob (Af rfl rfl (An (by omega))) ?_
   refine rn3 ?_
   refine gy ?_
   refine ob (Af rfl rfl (Cp (by omega))) ?_
   refine rn4 ?_
   refine gy ?_
   refine ob (Af rfl rfl (An (by omega))) ?_
   refine rn4 ?_
   refine gy ?_
   refine ob (Af rfl rfl (Cp (by omega))) ?_
   refine Gd1 ?_
   refine al_ (cs := [.slice none 0 0, .slice none 0 0, .slice none 0 0]) Try.zeroValue46 ?_; intro b4
   refine Gm ?_
   refine Ga3 ?_
   refine JC.rowNil 58 Entry ?_
   refine Cu (γ := Nat × Value) (fun g => (g.1 : Int) ≤ c.lines) (fun g => row 58 g.2 (List.replicate g.1 (Hg c)) :: blk b4 46 [.slice none 0 0, g.2, .slice none 0 0] :: blk b1 39 c.cells :: blk b2 46 [.slice none 0 0, .slice none 0 0, .slice none 0 0] :: L) (fun _ => R) (fun g => [(1, bp b1 0), (2, bp b2 0), (4, bp b4 0), (25, vi c.lines), (26, vi (g.1 : Int))]) (fun g => c.lines.toNat - g.1) (0, .slice none 0 0) (by show (0 : Int) ≤ c.lines; omega) alT (fun w hs => Al hs) ?_
   rintro ⟨k, vh⟩ hk
   try simp only at hk ⊢
   refine Gm ?_
   refine Ga1 ?_
   refine cdx (p := ?p1) (hd := ?d1) ?e1 ?_ ?_; case e1 => exact rfl
   ·
    intro ht27
    refine Gl ?_
    refine cq_ (row 58 vh (List.replicate k (Hg c)) :: blk b4 46 [.slice none 0 0, vh, .slice none 0 0] :: blk b1 39 c.cells :: blk b2 46 [.slice none 0 0, .slice none 0 0, .slice none 0 0] :: L) ?_
    refine jd_ (fun ρ S => row 58 vh (List.replicate k (Hg c)) :: blk b4 46 [.slice none 0 0, vh, .slice none 0 0] :: blk b1 39 c.cells :: blk b2 46 [.slice none 0 0, .slice none 0 0, .slice none 0 0] :: L) ?_
    refine dn4 ?_
    refine Ux (a := c.cores) (x0 := (0 : Int)) (zc := [vi 0]) D9 rfl (by decide) (fun _ => rfl) (fun _ => rfl) rfl (fun j => ⟨rfl, by unfold Am; omega⟩) (by omega) (by omega) (fun _ _ _ _ => rfl) ?_
    refine e_pd (v := fun ρ => .agg ([vi 0, vi (-1), vi 0, vi 0, vi 0, vi 0, .bool false, vi 0, vi 0, (Gh.dec (γ := Value) (ρ 4))]).toArray) (fun ρ S R' L' w hd hs => by have h1 : (Gh.dec (γ := Value) (ρ 4)).oneCell' = true := isSlice.one (hs.fact (hd.dep (it := ⟨4, _, _, _, _⟩) (by repeat (first | exact List.Mem.head _ | refine List.Mem.tail _ ?_)) ⟨9, rfl⟩ (List.Mem.head _))); exact F5 st_58) (Ind.gh (h := fun g => Value.agg ([vi 0, vi (-1), vi 0, vi 0, vi 0, vi 0, .bool false, vi 0, vi 0, (Gh.dec (γ := Value) g)]).toArray) 4 3 rfl) (fun _ _ _ _ _ => rfl) ?_
    refine E7 ([Hg c] : List Entry) T5 rfl (fun _ => rfl) rfl (fun _ => rfl) rfl rfl (fun ρ R hd j hj => ⟨⟨_, rfl, ⟨_, rfl, hj _ (hd.dep (it := ⟨4, _, _, _, _⟩) (by repeat (first | exact List.Mem.head _ | refine List.Mem.tail _ ?_)) ⟨9, rfl⟩ (List.Mem.head _)), Q8 c⟩⟩, trivial⟩) (fun _ _ _ _ _ => rfl) ?_
    refine dtl ?_; intro ρ
    refine J.conseq (L' := row 58 vh (List.replicate k (Hg c)) :: blk b4 46 [.slice none 0 0, vh, .slice none 0 0] :: blk b1 39 c.cells :: blk b2 46 [.slice none 0 0, .slice none 0 0, .slice none 0 0] :: L) (fun w hs => hs) ?_
    generalize (Gh.dec (γ := Value) (ρ 4)) = v32
    generalize (Gh.dec (γ := Value) (ρ 6)) = v34
    refine ap T5 (hb := fun w hs => by have : maxN = 16777216 := rfl; simp only [List.length_cons, List.length_nil, List.length_replicate]; omega) (k := ?_); intro v35
    refine rn1 ?_
    refine J.know (p := v35.oneCell' = true) (fun w hs => De (v := v35) pkk hs) (fun honev35 => ?_)
    refine sc ?_
    refine Gl ?_
    refine kp [1, 2, 3, 4, 25, 26, 27, 28, 29, 30, 31, 32, 33, 34, 35, 36, 37] ?_
    refine Aa ?_
    refine Ga2 ?_
    refine Be (k + 1, v35) (by show ((k + 1 : Nat) : Int) ≤ c.lines; omega) (by show c.lines.toNat - (k + 1) < c.lines.toNat - k; omega) alT (fun w hs => ?_)
    try simp only
    rw [Ox]; exact Al hs
   ·
    intro ht27
    refine Gm ?_
    refine Ga3 ?_
    refine JC.shut (v := vh) pkk ?_
    refine JC.know (p := vh.oneCell' = true) (fun w hs => isSlice.one (hs.fact (List.Mem.head _))) (fun honeh => ?_)
    refine JC.rowNil 69 Core ?_
    refine Cu (γ := Nat × Value) (fun g => (g.1 : Int) ≤ c.cores) (fun g => row 69 g.2 (List.replicate g.1 (I5 c)) :: blk b4 46 [g.2, vh, .slice none 0 0] :: blk b1 39 c.cells :: blk b2 46 [.slice none 0 0, .slice none 0 0, .slice none 0 0] :: L) (fun _ => sl vh (List.replicate k (Hg c)) :: R) (fun g => [(1, bp b1 0), (2, bp b2 0), (4, bp b4 0), (39, vi c.cores), (40, vi (g.1 : Int))]) (fun g => c.cores.toNat - g.1) (0, .slice none 0 0) (by show (0 : Int) ≤ c.cores; omega) alT (fun w hs => Al hs) ?_
    rintro ⟨k2, vc⟩ hk2
    try simp only at hk2 ⊢
    refine Gm ?_
    refine Ga1 ?_
    refine cdx (p := ?p2) (hd := ?d2) ?e2 ?_ ?_; case e2 => exact rfl
    ·
     intro ht41
     refine Gl ?_
     refine cq_ (row 69 vc (List.replicate k2 (I5 c)) :: blk b4 46 [vc, vh, .slice none 0 0] :: blk b1 39 c.cells :: blk b2 46 [.slice none 0 0, .slice none 0 0, .slice none 0 0] :: L) ?_
     refine jd_ (fun ρ S => row 69 vc (List.replicate k2 (I5 c)) :: blk b4 46 [vc, vh, .slice none 0 0] :: blk b1 39 c.cells :: blk b2 46 [.slice none 0 0, .slice none 0 0, .slice none 0 0] :: L) ?_
     refine dn4 ?_
     refine Ux (a := c.lines) (x0 := zLine) (zc := zLine.cells) P6 rfl (by decide) (fun _ => rfl) (fun _ => rfl) rfl (fun j => ⟨rfl, by unfold Line.wf Am zLine; simp only; omega⟩) (by omega) (by omega) (fun _ _ _ _ => rfl) ?_
     refine e_pd (v := fun ρ => .agg ([(Gh.dec (γ := Value) (ρ 4)), vi 0, vi 0, vi 0]).toArray) (fun ρ S R' L' w hd hs => by have h1 : (Gh.dec (γ := Value) (ρ 4)).oneCell' = true := isSlice.one (hs.fact (hd.dep (it := ⟨4, _, _, _, _⟩) (by repeat (first | exact List.Mem.head _ | refine List.Mem.tail _ ?_)) ⟨9, rfl⟩ (List.Mem.head _))); exact F5 F4) (Ind.gh (h := fun g => Value.agg ([(Gh.dec (γ := Value) g), vi 0, vi 0, vi 0]).toArray) 4 3 rfl) (fun _ _ _ _ _ => rfl) ?_
     refine E7 ([I5 c] : List Core) T6 rfl (fun _ => rfl) rfl (fun _ => rfl) rfl rfl (fun ρ R hd j hj => ⟨⟨_, rfl, ⟨_, rfl, hj _ (hd.dep (it := ⟨4, _, _, _, _⟩) (by repeat (first | exact List.Mem.head _ | refine List.Mem.tail _ ?_)) ⟨9, rfl⟩ (List.Mem.head _)), by unfold I5 zOp Op.wf Am; simp only; omega⟩⟩, trivial⟩) (fun _ _ _ _ _ => rfl) ?_
     refine dtl ?_; intro ρ
     refine J.conseq (L' := row 69 vc (List.replicate k2 (I5 c)) :: blk b4 46 [vc, vh, .slice none 0 0] :: blk b1 39 c.cells :: blk b2 46 [.slice none 0 0, .slice none 0 0, .slice none 0 0] :: L) (fun w hs => hs) ?_
     generalize (Gh.dec (γ := Value) (ρ 4)) = v46
     generalize (Gh.dec (γ := Value) (ρ 6)) = v48
     refine ap T6 (hb := fun w hs => by have : maxN = 16777216 := rfl; simp only [List.length_cons, List.length_nil, List.length_replicate]; omega) (k := ?_); intro v49
     refine rn1 ?_
     refine J.know (p := v49.oneCell' = true) (fun w hs => De (v := v49) pkk hs) (fun honev49 => ?_)
     refine sc ?_
     refine Gl ?_
     refine kp [1, 2, 3, 4, 39, 40, 41, 42, 43, 44, 45, 46, 47, 48, 49, 50, 51] ?_
     refine Aa ?_
     refine Ga2 ?_
     refine Be (k2 + 1, v49) (by show ((k2 + 1 : Nat) : Int) ≤ c.cores; omega) (by show c.cores.toNat - (k2 + 1) < c.cores.toNat - k2; omega) alT (fun w hs => ?_)
     try simp only
     rw [Ox]; exact Al hs
    ·
     intro ht41
     refine Gl ?_
     refine JC.shut (v := vc) pkk ?_
     refine JC.know (p := vc.oneCell' = true) (fun w hs => isSlice.one (hs.fact (List.Mem.head _))) (fun honec => ?_)
     refine JC.slNil (List UInt8) ?_
     refine Aa ?_
     refine rn1 ?_
     refine s_B Try.sizeOf46 ?_
     refine Ga1 ?_
     have er : Br c = (⟨List.replicate k2 (I5 c), List.replicate k (Hg c), []⟩, 0) := by rw [Nm (by omega), show c.lines.toNat = k by omega, show c.cores.toNat = k2 by omega]
     rw [er]
     exact Hv (vc, vh) Try.isAgg46 Try.sizeOf46
end Go.Proofs.Ytofgpimoekhfaaa

/- This file proves what the home hears, by the document's answer: some kinds of messages. No conditions. -/
set_option linter.unusedVariables false
set_option linter.unusedSimpArgs false
set_option maxHeartbeats 1000000
set_option maxRecDepth 8000
namespace Go.Proofs.Ytofgpimoekhfaaa
open Go
theorem Mt {L : List Chunk} {R : List Fact} {w : World} {v0 : Value} {l : List Entry} {id : Int} {m : Msg} (hs : St (L) R w) (h0 : sl v0 l ∈ R) (hb : ∀ i, i < l.length → EB (l.getD i Bc)) (hla : ∀ i, i < l.length → (l.getD i Bc).last.length ≤ 4) (hm : m.wf) (hid : Am id) (hk : ¬ (0 ≤ m.line ∧ m.line < (l.length : Int) ∧ 0 ≤ m.src ∧ m.src < ((Ae l m.line).last.length : Int))) : Calls Try.prog 30 [v0, vi id, .agg m.cells.toArray].toArray w (Ch (fun v : Value × Value => .tuple #[v.1, v.2]) (fun v => L) (fun v => sl v.1 (Ao l id m).1 :: sl v.2 (Ao l id m).2 :: R)) := by
  have hlen := Bk h0 hs
  have hm0 := hm
  unfold Msg.wf Am at hm0
  have hid0 := hid
  unfold Am at hid0
  refine Aj Try.func30 rfl Try.ntmps30 rfl hs ?_
  clear hs
  refine Gm ?_
  refine bx ?_; intro b5
  refine Ga2 ?_
  rcases (show (m.line < 0) ∨ (¬ m.line < 0 ∧ (l.length : Int) ≤ m.line) ∨ (¬ m.line < 0 ∧ m.line < (l.length : Int) ∧ m.src < 0) ∨ (¬ m.line < 0 ∧ m.line < (l.length : Int) ∧ 0 ≤ m.src ∧ ((Ae l m.line).last.length : Int) ≤ m.src) from by omega) with hc | hc | hc | hc
  ·
   refine Dv ?_
   refine dn2 ?_
   refine djc (fun _ _ => Af rfl rfl (Bt (by omega))) ?_
   refine djc (fun _ _ => Cx) ?_
   refine dn5 ?_
   refine djc (fun _ _ => Gg) ?_
   refine djc (fun _ _ => Cx) ?_
   refine dn3 ?_
   refine djc (fun _ _ => Gg) ?_
   refine djc (fun _ _ => Cx) ?_
   refine Si ?_
   refine djc (fun _ _ => Gg) ?_
   refine dnl ?_; intro ρ
   refine Gmc ?_
   refine Ga3 ?_
   have er : Ao l id m = (l, []) := by unfold Ao; rw [if_pos (by omega)]
   rw [er]
   exact Df (v0, .slice none 0 0) (hs := fun w hs => Al (St.shut (hs.rowNil 42 Msg)))
  ·
   refine Dv ?_
   refine dn2 ?_
   refine djc (fun _ _ => Af rfl rfl (An (by omega))) ?_
   refine djc (fun _ _ => Cx) ?_
   refine dn4 ?_
   refine dj (dgy ?_)
   refine dc (fun _ _ => Af rfl rfl (Cv (by omega))) ?_
   refine djc (fun _ _ => Em) ?_
   refine djc (fun _ _ => Cx) ?_
   refine dn3 ?_
   refine djc (fun _ _ => Gg) ?_
   refine djc (fun _ _ => Cx) ?_
   refine Si ?_
   refine djc (fun _ _ => Gg) ?_
   refine dnl ?_; intro ρ
   refine Gmc ?_
   refine Ga3 ?_
   have er : Ao l id m = (l, []) := by unfold Ao; rw [if_pos (by omega)]
   rw [er]
   exact Df (v0, .slice none 0 0) (hs := fun w hs => Al (St.shut (hs.rowNil 42 Msg)))
  ·
   refine Dv ?_
   refine dn2 ?_
   refine djc (fun _ _ => Af rfl rfl (An (by omega))) ?_
   refine djc (fun _ _ => Cx) ?_
   refine dn4 ?_
   refine dj (dgy ?_)
   refine dc (fun _ _ => Af rfl rfl (A4 (by omega))) ?_
   refine djc (fun _ _ => Em) ?_
   refine djc (fun _ _ => Cx) ?_
   refine dn2 ?_
   refine dj (dgy ?_)
   refine dc (fun _ _ => Af rfl rfl (Bt (by omega))) ?_
   refine djc (fun _ _ => Em) ?_
   refine djc (fun _ _ => Cx) ?_
   refine Si ?_
   refine djc (fun _ _ => Gg) ?_
   refine dnl ?_; intro ρ
   refine Gmc ?_
   refine Ga3 ?_
   have er : Ao l id m = (l, []) := by unfold Ao; rw [if_pos (by omega)]
   rw [er]
   exact Df (v0, .slice none 0 0) (hs := fun w hs => Al (St.shut (hs.rowNil 42 Msg)))
  ·
   refine Gt (v := v0) m.line mm (by omega) (by omega) (fun hEw u => ?_)
   have hE : EB (Ae l m.line) := hb m.line.toNat (by omega)
   have hE0 := hE
   unfold EB Entry.wf Am at hE0
   have hL : (Ae l m.line).last.length ≤ 4 := hla m.line.toNat (by omega)
   refine JC.know (p := u.oneCell' = true) (fun w hs => isSlice.one (hs.fact (.tail _ (.head _)))) (fun hone => ?_)
   refine JC.know (p := ∀ x ∈ (Ae l m.line).last, Am x) (fun w hs => Gx (.tail _ (.head _)) hs) (fun hlin => ?_)
   refine Dv ?_
   refine dn2 ?_
   refine djc (fun _ _ => Af rfl rfl (An (by omega))) ?_
   refine djc (fun _ _ => Cx) ?_
   refine dn4 ?_
   refine dj (dgy ?_)
   refine dc (fun _ _ => Af rfl rfl (A4 (by omega))) ?_
   refine djc (fun _ _ => Em) ?_
   refine djc (fun _ _ => Cx) ?_
   refine dn2 ?_
   refine dj (dgy ?_)
   refine dc (fun _ _ => Af rfl rfl (An (by omega))) ?_
   refine djc (fun _ _ => Em) ?_
   refine djc (fun _ _ => Cx) ?_
   refine dn9 ?_
   refine dj (dgy ?_)
   refine dc (fun _ _ => Af rfl rfl (Cv (show ((Ae l m.line).last.length : Int) ≤ m.src by omega))) ?_
   refine djc (fun _ _ => Em) ?_
   refine dnl ?_; intro ρ
   refine Gmc ?_
   refine Ga3 ?_
   have er : Ao l id m = (l, []) := by unfold Ao; rw [if_pos (by omega)]
   rw [er]
   exact Df (v0, .slice none 0 0) (hs := fun w hs => Al (St.shut (hs.rowNil 42 Msg)))
theorem Mq {L : List Chunk} {R : List Fact} {w : World} {v0 : Value} {l : List Entry} {id : Int} {m : Msg} (hs : St (L) R w) (h0 : sl v0 l ∈ R) (hb : ∀ i, i < l.length → EB (l.getD i Bc)) (hla : ∀ i, i < l.length → (l.getD i Bc).last.length ≤ 4) (hm : m.wf) (hid : Am id) (hk : 0 ≤ m.line ∧ m.line < (l.length : Int) ∧ 0 ≤ m.src ∧ m.src < ((Ae l m.line).last.length : Int) ∧ m.kind = 3) : Calls Try.prog 30 [v0, vi id, .agg m.cells.toArray].toArray w (Ch (fun v : Value × Value => .tuple #[v.1, v.2]) (fun v => L) (fun v => sl v.1 (Ao l id m).1 :: sl v.2 (Ao l id m).2 :: R)) := by
  have hlen := Bk h0 hs
  have hm0 := hm
  unfold Msg.wf Am at hm0
  have hid0 := hid
  unfold Am at hid0
  refine Aj Try.func30 rfl Try.ntmps30 rfl hs ?_
  clear hs
  refine Gm ?_
  refine bx ?_; intro b5
  refine Ga2 ?_
  refine Gt (v := v0) m.line mm (by omega) (by omega) (fun hEw u => ?_)
  have hE : EB (Ae l m.line) := hb m.line.toNat (by omega)
  have hE0 := hE
  unfold EB Entry.wf Am at hE0
  have hL : (Ae l m.line).last.length ≤ 4 := hla m.line.toNat (by omega)
  refine JC.know (p := u.oneCell' = true) (fun w hs => isSlice.one (hs.fact (.tail _ (.head _)))) (fun hone => ?_)
  refine JC.know (p := ∀ x ∈ (Ae l m.line).last, Am x) (fun w hs => Gx (.tail _ (.head _)) hs) (fun hlin => ?_)
  refine Dv ?_
  refine dn2 ?_
  refine djc (fun _ _ => Af rfl rfl (An (by omega))) ?_
  refine djc (fun _ _ => Cx) ?_
  refine dn4 ?_
  refine dj (dgy ?_)
  refine dc (fun _ _ => Af rfl rfl (A4 (by omega))) ?_
  refine djc (fun _ _ => Em) ?_
  refine djc (fun _ _ => Cx) ?_
  refine dn2 ?_
  refine dj (dgy ?_)
  refine dc (fun _ _ => Af rfl rfl (An (by omega))) ?_
  refine djc (fun _ _ => Em) ?_
  refine djc (fun _ _ => Cx) ?_
  refine dn9 ?_
  refine dj (dgy ?_)
  refine dc (fun _ _ => Af rfl rfl (A4 (show ¬ ((Ae l m.line).last.length : Int) ≤ m.src by omega))) ?_
  refine djc (fun _ _ => Em) ?_
  refine dnl ?_; intro ρ
  refine Gmc ?_
  refine rn5 ?_
  refine al_ (cs := zEC) Try.zeroValue58 ?_; intro b8
  refine s_B (cs := Entry.cells u (Ae l m.line)) Try.sizeOf58 ?_
  refine Gl ?_
  refine kp [0, 1, 5, 6, 7, 8, 9, 43, 44, 45, 46] ?_
  refine Aa ?_
  refine liO ([] : List Int) D9 rfl (fun j h => Fw) ?_; intro v43
  refine rn2 ?_
  refine ap D9 (hb := fun w hs => by have : maxN = 16777216 := rfl; simp only [List.length_nil]; omega) (k := ?_); intro v46
  refine Gb1 ?_
  refine Gb2 ?_
  refine ob (Af rfl rfl (Ak (by omega))) ?_
  refine Gd1 ?_
  refine ob (Af rfl rfl (Ak (by omega))) ?_
  refine Gd1 ?_
  refine ob (Af rfl rfl (As (by omega))) ?_
  refine Gd1 ?_
  refine Ga3 ?_
  refine cdx (p := ?p1) (hd := ?d1) ?e1 ?_ ?_; case e1 => exact rfl
  ·
   intro ht100
   refine Gm ?_
   refine Ga3 ?_
   have er : Ao l id m = (l, []) := Cj (by omega) (by unfold Bf; rw [if_neg (by omega), if_pos (by omega), if_pos ht100])
   rw [er]
   exact Df (v0, .slice none 0 0) (hs := fun w hs => Al (St.shut (hs.rowNil 42 Msg)))
  ·
   intro ht100
   refine Gl ?_
   refine Dv ?_
   refine dn6 ?_
   refine djc (fun _ _ => Dn (hc := Ep (xs := (Ae l m.line).last) pkk (by omega)) Try.isAgg3) ?_
   refine djc (fun _ _ => Gs Oo) ?_
   refine dnl ?_; intro ρ
   refine Gl ?_
   refine cdx (p := ?p2) (hd := ?d2) ?e2 ?_ ?_; case e2 => exact rfl
   ·
    intro ht109
    refine Gm ?_
    refine rn6 ?_
    refine El (xs := (Ae l m.line).last) Try.sizeOf3 rfl rfl pkk (getD_some 0 (by omega)) hm.2.2.2.2.1 ?_
    refine Gl ?_
    refine JC.shut (v := v46) pkk ?_
    refine JC.know (p := v46.oneCell' = true) (fun w hs => isSlice.one (hs.fact (List.Mem.head _))) (fun hone9 => ?_)
    refine kp [0, 1, 5, 6, 7, 8, 9, 48, 116, 117] ?_
    refine Aa ?_
    refine rn2 ?_
    refine sc ?_
    refine Gm ?_
    refine Ga5 ?_
    refine cdx (p := ?p3) (hd := ?d3) ?e3 ?_ ?_; case e3 => exact rfl
    ·
     intro ht122
     refine Aa ?_
     refine rn3 ?_
     refine sc ?_
     refine rn1 ?_
     refine sc ?_
     refine Gl ?_
     have er : Ao l id m = (l.set m.line.toNat ({ (Ae l m.line) with last := ((Ae l m.line).last.set m.src.toNat m.serial), value := m.value, owner := -1 }), [⟨11, id, m.src, m.line, m.serial, 0, 0, false⟩]) := Dz (by omega) (by unfold Bf; rw [if_neg (by omega), if_pos (by omega), if_neg ht100]; unfold Kf; rw [if_pos (by unfold Ek; omega), if_pos ht122])
     refine cq_ (blk b8 58 (Entry.cells v46 ({ (Ae l m.line) with last := ((Ae l m.line).last.set m.src.toNat m.serial), value := m.value, owner := -1 })) :: blk b5 42 m.cells :: L) ?_
     refine jd_ (fun ρ S => blk b8 58 (Entry.cells v46 ({ (Ae l m.line) with last := ((Ae l m.line).last.set m.src.toNat m.serial), value := m.value, owner := -1 })) :: blk b5 42 m.cells :: L) ?_
     refine dn4 ?_
     refine Bn (γ := Value) (val := fun v => v) (F := fun v => [sl v (l.set m.line.toNat ({ (Ae l m.line) with last := ((Ae l m.line).last.set m.src.toNat m.serial), value := m.value, owner := -1 }))]) Try.call69 (fun _ => rfl) (fun ρ L R w hd hs => Bm (e := { (Ae l m.line) with last := ((Ae l m.line).last.set m.src.toNat m.serial), value := m.value, owner := -1 }) (u := v46) hs (hd.base mm) (hd.base mm) (by first | exact hE.1 | (unfold Entry.wf Am; simp only; omega)) (by omega)) (fun _ _ _ _ _ => rfl) ?_
     refine dn8 ?_
     refine E7 ([⟨11, id, m.src, m.line, m.serial, 0, 0, false⟩] : List Msg) Ga rfl (fun _ => rfl) rfl (fun _ => rfl) rfl rfl (fun ρ R hd => Io (by unfold Msg.wf Am; simp only; omega)) (fun _ _ _ _ _ => rfl) ?_
     refine e_p (v := fun ρ => (Gh.dec (γ := Value) (ρ 4))) (fun _ _ => Db) (Ind.gh (h := fun g => ((Gh.dec (γ := Value) g) : Value)) 4 0 rfl) (fun _ _ _ _ _ => rfl) ?_
     refine e_p (v := fun ρ => (Gh.dec (γ := Value) (ρ 13))) (fun _ _ => Db) (Ind.gh (h := fun g => ((Gh.dec (γ := Value) g) : Value)) 13 0 rfl) (fun _ _ _ _ _ => rfl) ?_
     refine dnl ?_; intro ρ
     refine xq_ (blk b8 58 (Entry.cells v46 ({ (Ae l m.line) with last := ((Ae l m.line).last.set m.src.toNat m.serial), value := m.value, owner := -1 })) :: blk b5 42 m.cells :: L) ?_
     generalize (Gh.dec (γ := Value) (ρ 4)) = v131
     generalize (Gh.dec (γ := Value) (ρ 13)) = v140
     refine Gl ?_
     rw [er]
     exact Df (v131, v140)
    ·
     intro ht122
     refine Gl ?_
     have er : Ao l id m = (l.set m.line.toNat ({ (Ae l m.line) with last := ((Ae l m.line).last.set m.src.toNat m.serial) }), [⟨11, id, m.src, m.line, m.serial, 0, 0, false⟩]) := Dz (by omega) (by unfold Bf; rw [if_neg (by omega), if_pos (by omega), if_neg ht100]; unfold Kf; rw [if_pos (by unfold Ek; omega), if_neg ht122])
     refine cq_ (blk b8 58 (Entry.cells v46 ({ (Ae l m.line) with last := ((Ae l m.line).last.set m.src.toNat m.serial) })) :: blk b5 42 m.cells :: L) ?_
     refine jd_ (fun ρ S => blk b8 58 (Entry.cells v46 ({ (Ae l m.line) with last := ((Ae l m.line).last.set m.src.toNat m.serial) })) :: blk b5 42 m.cells :: L) ?_
     refine dn4 ?_
     refine Bn (γ := Value) (val := fun v => v) (F := fun v => [sl v (l.set m.line.toNat ({ (Ae l m.line) with last := ((Ae l m.line).last.set m.src.toNat m.serial) }))]) Try.call69 (fun _ => rfl) (fun ρ L R w hd hs => Bm (e := { (Ae l m.line) with last := ((Ae l m.line).last.set m.src.toNat m.serial) }) (u := v46) hs (hd.base mm) (hd.base mm) (by first | exact hE.1 | (unfold Entry.wf Am; simp only; omega)) (by omega)) (fun _ _ _ _ _ => rfl) ?_
     refine dn8 ?_
     refine E7 ([⟨11, id, m.src, m.line, m.serial, 0, 0, false⟩] : List Msg) Ga rfl (fun _ => rfl) rfl (fun _ => rfl) rfl rfl (fun ρ R hd => Io (by unfold Msg.wf Am; simp only; omega)) (fun _ _ _ _ _ => rfl) ?_
     refine e_p (v := fun ρ => (Gh.dec (γ := Value) (ρ 4))) (fun _ _ => Db) (Ind.gh (h := fun g => ((Gh.dec (γ := Value) g) : Value)) 4 0 rfl) (fun _ _ _ _ _ => rfl) ?_
     refine e_p (v := fun ρ => (Gh.dec (γ := Value) (ρ 13))) (fun _ _ => Db) (Ind.gh (h := fun g => ((Gh.dec (γ := Value) g) : Value)) 13 0 rfl) (fun _ _ _ _ _ => rfl) ?_
     refine dnl ?_; intro ρ
     refine xq_ (blk b8 58 (Entry.cells v46 ({ (Ae l m.line) with last := ((Ae l m.line).last.set m.src.toNat m.serial) })) :: blk b5 42 m.cells :: L) ?_
     generalize (Gh.dec (γ := Value) (ρ 4)) = v131
     generalize (Gh.dec (γ := Value) (ρ 13)) = v140
     refine Gl ?_
     rw [er]
     exact Df (v131, v140)
   ·
    intro ht109
    refine Gl ?_
    have er : Ao l id m = (l.set m.line.toNat ((Ae l m.line)), [⟨11, id, m.src, m.line, m.serial, 0, 0, false⟩]) := Dz (by omega) (by unfold Bf; rw [if_neg (by omega), if_pos (by omega), if_neg ht100]; unfold Kf; rw [if_neg (by unfold Ek; omega)])
    refine cq_ (blk b8 58 (Entry.cells u ((Ae l m.line))) :: blk b5 42 m.cells :: L) ?_
    refine jd_ (fun ρ S => blk b8 58 (Entry.cells u ((Ae l m.line))) :: blk b5 42 m.cells :: L) ?_
    refine dn4 ?_
    refine Bn (γ := Value) (val := fun v => v) (F := fun v => [sl v (l.set m.line.toNat ((Ae l m.line)))]) Try.call69 (fun _ => rfl) (fun ρ L R w hd hs => Bm (e := (Ae l m.line)) (u := u) hs (hd.base mm) (hd.base mm) (by first | exact hE.1 | (unfold Entry.wf Am; simp only; omega)) (by omega)) (fun _ _ _ _ _ => rfl) ?_
    refine dn8 ?_
    refine E7 ([⟨11, id, m.src, m.line, m.serial, 0, 0, false⟩] : List Msg) Ga rfl (fun _ => rfl) rfl (fun _ => rfl) rfl rfl (fun ρ R hd => Io (by unfold Msg.wf Am; simp only; omega)) (fun _ _ _ _ _ => rfl) ?_
    refine e_p (v := fun ρ => (Gh.dec (γ := Value) (ρ 4))) (fun _ _ => Db) (Ind.gh (h := fun g => ((Gh.dec (γ := Value) g) : Value)) 4 0 rfl) (fun _ _ _ _ _ => rfl) ?_
    refine e_p (v := fun ρ => (Gh.dec (γ := Value) (ρ 13))) (fun _ _ => Db) (Ind.gh (h := fun g => ((Gh.dec (γ := Value) g) : Value)) 13 0 rfl) (fun _ _ _ _ _ => rfl) ?_
    refine dnl ?_; intro ρ
    refine xq_ (blk b8 58 (Entry.cells u ((Ae l m.line))) :: blk b5 42 m.cells :: L) ?_
    generalize (Gh.dec (γ := Value) (ρ 4)) = v131
    generalize (Gh.dec (γ := Value) (ρ 13)) = v140
    refine Gl ?_
    rw [er]
    exact Df (v131, v140)
theorem Mn {L : List Chunk} {R : List Fact} {w : World} {v0 : Value} {l : List Entry} {id : Int} {m : Msg} (hs : St (L) R w) (h0 : sl v0 l ∈ R) (hb : ∀ i, i < l.length → EB (l.getD i Bc)) (hla : ∀ i, i < l.length → (l.getD i Bc).last.length ≤ 4) (hm : m.wf) (hid : Am id) (hk : 0 ≤ m.line ∧ m.line < (l.length : Int) ∧ 0 ≤ m.src ∧ m.src < ((Ae l m.line).last.length : Int) ∧ m.kind ≠ 1 ∧ m.kind ≠ 2 ∧ m.kind ≠ 3 ∧ m.kind ≠ 9 ∧ m.kind ≠ 8 ∧ m.kind ≠ 10) : Calls Try.prog 30 [v0, vi id, .agg m.cells.toArray].toArray w (Ch (fun v : Value × Value => .tuple #[v.1, v.2]) (fun v => L) (fun v => sl v.1 (Ao l id m).1 :: sl v.2 (Ao l id m).2 :: R)) := by
 have hlen := Bk h0 hs
 have hm0 := hm
 unfold Msg.wf Am at hm0
 have hid0 := hid
 unfold Am at hid0
 refine Aj Try.func30 rfl Try.ntmps30 rfl hs ?_
 clear hs
 refine Gm ?_
 refine bx ?_; intro b5
 refine Ga2 ?_
 refine Gt (v := v0) m.line mm (by omega) (by omega) (fun hEw u => ?_)
 have hE : EB (Ae l m.line) := hb m.line.toNat (by omega)
 have hE0 := hE
 unfold EB Entry.wf Am at hE0
 have hL : (Ae l m.line).last.length ≤ 4 := hla m.line.toNat (by omega)
 refine JC.know (p := u.oneCell' = true) (fun w hs => isSlice.one (hs.fact (.tail _ (.head _)))) (fun hone => ?_)
 refine JC.know (p := ∀ x ∈ (Ae l m.line).last, Am x) (fun w hs => Gx (.tail _ (.head _)) hs) (fun hlin => ?_)
 refine Dv ?_
 refine dn2 ?_
 refine djc (fun _ _ => Af rfl rfl (An (by omega))) ?_
 refine djc (fun _ _ => Cx) ?_
 refine dn4 ?_
 refine dj (dgy ?_)
 refine dc (fun _ _ => Af rfl rfl (A4 (by omega))) ?_
 refine djc (fun _ _ => Em) ?_
 refine djc (fun _ _ => Cx) ?_
 refine dn2 ?_
 refine dj (dgy ?_)
 refine dc (fun _ _ => Af rfl rfl (An (by omega))) ?_
 refine djc (fun _ _ => Em) ?_
 refine djc (fun _ _ => Cx) ?_
 refine dn9 ?_
 refine dj (dgy ?_)
 refine dc (fun _ _ => Af rfl rfl (A4 (show ¬ ((Ae l m.line).last.length : Int) ≤ m.src by omega))) ?_
 refine djc (fun _ _ => Em) ?_
 refine dnl ?_; intro ρ
 refine Gmc ?_
 refine rn5 ?_
 refine al_ (cs := zEC) Try.zeroValue58 ?_; intro b8
 refine s_B (cs := Entry.cells u (Ae l m.line)) Try.sizeOf58 ?_
 refine Gl ?_
 refine kp [0, 1, 5, 6, 7, 8, 9, 43, 44, 45, 46] ?_
 refine Aa ?_
 refine liO ([] : List Int) D9 rfl (fun j h => Fw) ?_; intro v43
 refine rn2 ?_
 refine ap D9 (hb := fun w hs => by have : maxN = 16777216 := rfl; simp only [List.length_nil]; omega) (k := ?_); intro v46
 refine Gb1 ?_
 refine Gb2 ?_
 refine ob (Af rfl rfl (Ak (by omega))) ?_
 refine Gd1 ?_
 refine ob (Af rfl rfl (Ak (by omega))) ?_
 refine Gd1 ?_
 refine ob (Af rfl rfl (Ak (by omega))) ?_
 refine Gd1 ?_
 refine ob (Af rfl rfl (Ak (by omega))) ?_
 refine Gd1 ?_
 refine ob (Af rfl rfl (Ak (by omega))) ?_
 refine Gd1 ?_
 refine ob (Af rfl rfl (Ak (by omega))) ?_
 refine Gd1 ?_
 refine Ga3 ?_
 have er : Ao l id m = (l, []) := Cj (by omega) (by unfold Bf; rw [if_neg (by omega), if_neg (by omega), if_neg (by omega), if_neg (by omega), if_neg (by omega)])
 rw [er]
 exact Df (v0, .slice none 0 0) (hs := fun w hs => Al (St.shut (hs.rowNil 42 Msg)))
end Go.Proofs.Ytofgpimoekhfaaa

/- This file proves what the home hears, by the document's answer: some kinds of messages. No conditions. -/
set_option linter.unusedVariables false
set_option linter.unusedSimpArgs false
set_option maxHeartbeats 1000000
set_option maxRecDepth 8000
namespace Go.Proofs.Ytofgpimoekhfaaa
open Go
theorem Ms {L : List Chunk} {R : List Fact} {w : World} {v0 : Value} {l : List Entry} {id : Int} {m : Msg} (hs : St (L) R w) (h0 : sl v0 l ∈ R) (hb : ∀ i, i < l.length → EB (l.getD i Bc)) (hla : ∀ i, i < l.length → (l.getD i Bc).last.length ≤ 4) (hm : m.wf) (hid : Am id) (hk : 0 ≤ m.line ∧ m.line < (l.length : Int) ∧ 0 ≤ m.src ∧ m.src < ((Ae l m.line).last.length : Int) ∧ m.kind = 1) : Calls Try.prog 30 [v0, vi id, .agg m.cells.toArray].toArray w (Ch (fun v : Value × Value => .tuple #[v.1, v.2]) (fun v => L) (fun v => sl v.1 (Ao l id m).1 :: sl v.2 (Ao l id m).2 :: R)) := by
  have hlen := Bk h0 hs
  have hm0 := hm
  unfold Msg.wf Am at hm0
  have hid0 := hid
  unfold Am at hid0
  refine Aj Try.func30 rfl Try.ntmps30 rfl hs ?_
  clear hs
  refine Gm ?_
  refine bx ?_; intro b5
  refine Ga2 ?_
  refine Gt (v := v0) m.line mm (by omega) (by omega) (fun hEw u => ?_)
  have hE : EB (Ae l m.line) := hb m.line.toNat (by omega)
  have hE0 := hE
  unfold EB Entry.wf Am at hE0
  have hL : (Ae l m.line).last.length ≤ 4 := hla m.line.toNat (by omega)
  refine JC.know (p := u.oneCell' = true) (fun w hs => isSlice.one (hs.fact (.tail _ (.head _)))) (fun hone => ?_)
  refine JC.know (p := ∀ x ∈ (Ae l m.line).last, Am x) (fun w hs => Gx (.tail _ (.head _)) hs) (fun hlin => ?_)
  refine Dv ?_
  refine dn2 ?_
  refine djc (fun _ _ => Af rfl rfl (An (by omega))) ?_
  refine djc (fun _ _ => Cx) ?_
  refine dn4 ?_
  refine dj (dgy ?_)
  refine dc (fun _ _ => Af rfl rfl (A4 (by omega))) ?_
  refine djc (fun _ _ => Em) ?_
  refine djc (fun _ _ => Cx) ?_
  refine dn2 ?_
  refine dj (dgy ?_)
  refine dc (fun _ _ => Af rfl rfl (An (by omega))) ?_
  refine djc (fun _ _ => Em) ?_
  refine djc (fun _ _ => Cx) ?_
  refine dn9 ?_
  refine dj (dgy ?_)
  refine dc (fun _ _ => Af rfl rfl (A4 (show ¬ ((Ae l m.line).last.length : Int) ≤ m.src by omega))) ?_
  refine djc (fun _ _ => Em) ?_
  refine dnl ?_; intro ρ
  refine Gmc ?_
  refine rn5 ?_
  refine al_ (cs := zEC) Try.zeroValue58 ?_; intro b8
  refine s_B (cs := Entry.cells u (Ae l m.line)) Try.sizeOf58 ?_
  refine Gl ?_
  refine kp [0, 1, 5, 6, 7, 8, 9, 43, 44, 45, 46] ?_
  refine Aa ?_
  refine liO ([] : List Int) D9 rfl (fun j h => Fw) ?_; intro v43
  refine rn2 ?_
  refine ap D9 (hb := fun w hs => by have : maxN = 16777216 := rfl; simp only [List.length_nil]; omega) (k := ?_); intro v46
  refine Gb1 ?_
  refine Gb2 ?_
  refine ob (Af rfl rfl (As (by omega))) ?_
  refine Gc1 ?_
  rcases (show ((Ae l m.line).phase ≠ 0) ∨ ((Ae l m.line).phase = 0 ∧ m.serial ≤ (Ae l m.line).last.getD m.src.toNat 0) ∨ ((Ae l m.line).phase = 0 ∧ (Ae l m.line).last.getD m.src.toNat 0 < m.serial ∧ 65535 ≤ (Ae l m.line).turn) ∨ ((Ae l m.line).phase = 0 ∧ (Ae l m.line).last.getD m.src.toNat 0 < m.serial ∧ (Ae l m.line).turn < 65535) from by omega) with hc | hc | hc | hc
  ·
   refine Dv ?_
   refine dn2 ?_
   refine djc (fun _ _ => Af rfl rfl (Cz (by omega))) ?_
   refine djc (fun _ _ => Cx) ?_
   refine dn8 ?_
   refine djc (fun _ _ => Gg) ?_
   refine djc (fun _ _ => Cx) ?_
   refine dn3 ?_
   refine djc (fun _ _ => Gg) ?_
   refine dnl ?_; intro ρ
   refine Gmc ?_
   refine Ga3 ?_
   have er : Ao l id m = (l, []) := Cj (by omega) (by unfold Bf; rw [if_pos (by omega), if_pos (by unfold Ek; omega)])
   rw [er]
   exact Df (v0, .slice none 0 0) (hs := fun w hs => Al (St.shut (hs.rowNil 42 Msg)))
  ·
   refine Dv ?_
   refine dn2 ?_
   refine djc (fun _ _ => Af rfl rfl (Bv (by omega))) ?_
   refine djc (fun _ _ => Cx) ?_
   refine dn6 ?_
   refine dj (dgy ?_)
   refine dc (fun _ _ => Dn (hc := Ep (xs := (Ae l m.line).last) pkk (by omega)) Try.isAgg3) ?_
   refine dj (dgy ?_)
   refine dc (fun _ _ => Af rfl rfl (Ma (by omega))) ?_
   refine djc (fun _ _ => Em) ?_
   refine djc (fun _ _ => Cx) ?_
   refine dn3 ?_
   refine djc (fun _ _ => Gg) ?_
   refine dnl ?_; intro ρ
   refine Gmc ?_
   refine Ga3 ?_
   have er : Ao l id m = (l, []) := Cj (by omega) (by unfold Bf; rw [if_pos (by omega), if_pos (by unfold Ek; omega)])
   rw [er]
   exact Df (v0, .slice none 0 0) (hs := fun w hs => Al (St.shut (hs.rowNil 42 Msg)))
  ·
   refine Dv ?_
   refine dn2 ?_
   refine djc (fun _ _ => Af rfl rfl (Bv (by omega))) ?_
   refine djc (fun _ _ => Cx) ?_
   refine dn6 ?_
   refine dj (dgy ?_)
   refine dc (fun _ _ => Dn (hc := Ep (xs := (Ae l m.line).last) pkk (by omega)) Try.isAgg3) ?_
   refine dj (dgy ?_)
   refine dc (fun _ _ => Af rfl rfl (Fr (by omega))) ?_
   refine djc (fun _ _ => Em) ?_
   refine djc (fun _ _ => Cx) ?_
   refine dn2 ?_
   refine dj (dgy ?_)
   refine dc (fun _ _ => Af rfl rfl (Cv (by omega))) ?_
   refine djc (fun _ _ => Em) ?_
   refine dnl ?_; intro ρ
   refine Gmc ?_
   refine Ga3 ?_
   have er : Ao l id m = (l, []) := Cj (by omega) (by unfold Bf; rw [if_pos (by omega), if_pos (by unfold Ek; omega)])
   rw [er]
   exact Df (v0, .slice none 0 0) (hs := fun w hs => Al (St.shut (hs.rowNil 42 Msg)))
  ·
   refine Dv ?_
   refine dn2 ?_
   refine djc (fun _ _ => Af rfl rfl (Bv (by omega))) ?_
   refine djc (fun _ _ => Cx) ?_
   refine dn6 ?_
   refine dj (dgy ?_)
   refine dc (fun _ _ => Dn (hc := Ep (xs := (Ae l m.line).last) pkk (by omega)) Try.isAgg3) ?_
   refine dj (dgy ?_)
   refine dc (fun _ _ => Af rfl rfl (Fr (by omega))) ?_
   refine djc (fun _ _ => Em) ?_
   refine djc (fun _ _ => Cx) ?_
   refine dn2 ?_
   refine dj (dgy ?_)
   refine dc (fun _ _ => Af rfl rfl (A4 (by omega))) ?_
   refine djc (fun _ _ => Em) ?_
   refine dnl ?_; intro ρ
   refine Gmc ?_
   refine rn6 ?_
   refine El (xs := (Ae l m.line).last) Try.sizeOf3 rfl rfl pkk (getD_some 0 (by omega)) hm.2.2.2.2.1 ?_
   refine Gl ?_
   refine JC.shut (v := v46) pkk ?_
   refine JC.know (p := v46.oneCell' = true) (fun w hs => isSlice.one (hs.fact (List.Mem.head _))) (fun hone9 => ?_)
   refine kp [0, 1, 5, 6, 7, 8, 9, 48, 78, 79, 80, 81, 82, 83, 84, 85, 86, 87, 88, 89, 90, 91, 92, 93] ?_
   refine cq_ (blk b8 58 [vi (Ae l m.line).value, vi (Ae l m.line).owner, vi (Ae l m.line).sharers, vi (Ae l m.line).phase, vi (Ae l m.line).who, vi (Ae l m.line).serial, .bool (Ae l m.line).alone, vi (Ae l m.line).turn, vi (Ae l m.line).need, u] :: blk b5 42 m.cells :: L) ?_
   refine jd_ (fun ρ S => blk b8 58 (bif S 20 then [vi (Ae l m.line).value, vi (Ae l m.line).owner, vi (Ae l m.line).sharers, vi (Ae l m.line).phase, vi m.src, vi m.serial, .bool (decide (m.kind = 2)), vi ((Ae l m.line).turn + 1), vi (Ae l m.line).need, v46] else (bif S 18 then [vi (Ae l m.line).value, vi (Ae l m.line).owner, vi (Ae l m.line).sharers, vi (Ae l m.line).phase, vi m.src, vi m.serial, .bool (decide (m.kind = 2)), vi (Ae l m.line).turn, vi (Ae l m.line).need, v46] else (bif S 16 then [vi (Ae l m.line).value, vi (Ae l m.line).owner, vi (Ae l m.line).sharers, vi (Ae l m.line).phase, vi m.src, vi m.serial, .bool (Ae l m.line).alone, vi (Ae l m.line).turn, vi (Ae l m.line).need, v46] else (bif S 14 then [vi (Ae l m.line).value, vi (Ae l m.line).owner, vi (Ae l m.line).sharers, vi (Ae l m.line).phase, vi m.src, vi (Ae l m.line).serial, .bool (Ae l m.line).alone, vi (Ae l m.line).turn, vi (Ae l m.line).need, v46] else (bif S 12 then [vi (Ae l m.line).value, vi (Ae l m.line).owner, vi (Ae l m.line).sharers, vi (Ae l m.line).phase, vi (Ae l m.line).who, vi (Ae l m.line).serial, .bool (Ae l m.line).alone, vi (Ae l m.line).turn, vi (Ae l m.line).need, v46] else [vi (Ae l m.line).value, vi (Ae l m.line).owner, vi (Ae l m.line).sharers, vi (Ae l m.line).phase, vi (Ae l m.line).who, vi (Ae l m.line).serial, .bool (Ae l m.line).alone, vi (Ae l m.line).turn, vi (Ae l m.line).need, u]))))) :: blk b5 42 m.cells :: L) ?_
   refine dn9 ?_
   refine Ko (v := vi (Ae l m.line).turn) (fun ρ S hS hB hA => by have h20 : S 20 = false := hA 20 ⟨0, rfl⟩; simp only [h20, cond_false]; exact Dn (hc := A2 pkk (by repeat (first | exact rfl | refine Eh rfl ?_))) Try.isAgg3) (fun _ _ _ _ _ => rfl) ?_
   first | refine epc (fun _ _ => D6) ?_ | refine epc (fun _ _ => Fc) ?_ | refine epp (fun _ _ => D6) ?_ | refine epp (fun _ _ => Fc) ?_
   refine dn1 ?_
   refine es_ 58 9 [] [14, 16, 18, 20] (fun ρ => b8) (fun ρ => [vi (Ae l m.line).value, vi (Ae l m.line).owner, vi (Ae l m.line).sharers, vi (Ae l m.line).phase, vi (Ae l m.line).who, vi (Ae l m.line).serial, .bool (Ae l m.line).alone, vi (Ae l m.line).turn, vi (Ae l m.line).need, u]) (fun ρ => [v46]) Try.sizeOf56 (h1 := (fun ρ R w L' hd hs u hu => by cases List.mem_singleton.1 hu; exact hone9)) (hv := (fun _ => F0 hone9)) ?_
   refine dn1 ?_
   refine es_ 58 4 [12] [16, 18, 20] (fun ρ => b8) (fun ρ => [vi (Ae l m.line).value, vi (Ae l m.line).owner, vi (Ae l m.line).sharers, vi (Ae l m.line).phase, vi (Ae l m.line).who, vi (Ae l m.line).serial, .bool (Ae l m.line).alone, vi (Ae l m.line).turn, vi (Ae l m.line).need, v46]) (fun ρ => [vi m.src]) Try.sizeOf3 ?_
   refine dn1 ?_
   refine es_ 58 5 [12, 14] [18, 20] (fun ρ => b8) (fun ρ => [vi (Ae l m.line).value, vi (Ae l m.line).owner, vi (Ae l m.line).sharers, vi (Ae l m.line).phase, vi m.src, vi (Ae l m.line).serial, .bool (Ae l m.line).alone, vi (Ae l m.line).turn, vi (Ae l m.line).need, v46]) (fun ρ => [vi m.serial]) Try.sizeOf3 ?_
   refine dn1 ?_
   refine es_ 58 6 [12, 14, 16] [20] (fun ρ => b8) (fun ρ => [vi (Ae l m.line).value, vi (Ae l m.line).owner, vi (Ae l m.line).sharers, vi (Ae l m.line).phase, vi m.src, vi m.serial, .bool (Ae l m.line).alone, vi (Ae l m.line).turn, vi (Ae l m.line).need, v46]) (fun ρ => [.bool (decide (m.kind = 2))]) Try.sizeOf4 ?_
   refine dn1 ?_
   refine es_ 58 7 [12, 14, 16, 18] [] (fun ρ => b8) (fun ρ => [vi (Ae l m.line).value, vi (Ae l m.line).owner, vi (Ae l m.line).sharers, vi (Ae l m.line).phase, vi m.src, vi m.serial, .bool (decide (m.kind = 2)), vi (Ae l m.line).turn, vi (Ae l m.line).need, v46]) (fun ρ => [vi ((Ae l m.line).turn + 1)]) Try.sizeOf3 ?_
   refine dnl ?_; intro ρ
   refine xq_ (blk b8 58 [vi (Ae l m.line).value, vi (Ae l m.line).owner, vi (Ae l m.line).sharers, vi (Ae l m.line).phase, vi m.src, vi m.serial, .bool (decide (m.kind = 2)), vi ((Ae l m.line).turn + 1), vi (Ae l m.line).need, v46] :: blk b5 42 m.cells :: L) ?_
   refine Gm ?_
   refine rn1 ?_
   have hX : EB ({ (Ae l m.line) with last := ((Ae l m.line).last.set m.src.toNat m.serial), who := m.src, serial := m.serial, alone := m.kind == 2, turn := (Ae l m.line).turn + 1 }) := by unfold EB Entry.wf Am; simp only; omega
   refine Aq Try.call68 rfl (fun w hs => Hn (e := { (Ae l m.line) with last := ((Ae l m.line).last.set m.src.toNat m.serial), who := m.src, serial := m.serial, alone := m.kind == 2, turn := (Ae l m.line).turn + 1 }) (u := v46) hs hX (by assumption)) ?_; intro _
   refine s_B (cs := (A7 ({ (Ae l m.line) with last := ((Ae l m.line).last.set m.src.toNat m.serial), who := m.src, serial := m.serial, alone := m.kind == 2, turn := (Ae l m.line).turn + 1 })).cells v46) Try.sizeOf58 ?_
   refine Gl ?_
   have er : Ao l id m = (l.set m.line.toNat (A7 ({ (Ae l m.line) with last := ((Ae l m.line).last.set m.src.toNat m.serial), who := m.src, serial := m.serial, alone := m.kind == 2, turn := (Ae l m.line).turn + 1 })), says (A7 ({ (Ae l m.line) with last := ((Ae l m.line).last.set m.src.toNat m.serial), who := m.src, serial := m.serial, alone := m.kind == 2, turn := (Ae l m.line).turn + 1 })) m.line id) := Dz (by omega) (by unfold Bf; rw [if_pos (by omega), if_neg (by unfold Ek; omega)]; rfl)
   refine cq_ (blk b8 58 ((A7 ({ (Ae l m.line) with last := ((Ae l m.line).last.set m.src.toNat m.serial), who := m.src, serial := m.serial, alone := m.kind == 2, turn := (Ae l m.line).turn + 1 })).cells v46) :: blk b5 42 m.cells :: L) ?_
   refine jd_ (fun ρ S => blk b8 58 ((A7 ({ (Ae l m.line) with last := ((Ae l m.line).last.set m.src.toNat m.serial), who := m.src, serial := m.serial, alone := m.kind == 2, turn := (Ae l m.line).turn + 1 })).cells v46) :: blk b5 42 m.cells :: L) ?_
   refine dn4 ?_
   refine Bn (γ := Value) (val := fun v => v) (F := fun v => [sl v (l.set m.line.toNat (A7 ({ (Ae l m.line) with last := ((Ae l m.line).last.set m.src.toNat m.serial), who := m.src, serial := m.serial, alone := m.kind == 2, turn := (Ae l m.line).turn + 1 })))]) Try.call69 (fun _ => rfl) (fun ρ L R w hd hs => Bm (e := A7 ({ (Ae l m.line) with last := ((Ae l m.line).last.set m.src.toNat m.serial), who := m.src, serial := m.serial, alone := m.kind == 2, turn := (Ae l m.line).turn + 1 })) (u := v46) hs (hd.base mm) (by rw [En]; exact hd.base mm) (Dm hX).1 (by omega)) (fun _ _ _ _ _ => rfl) ?_
   refine dn4 ?_
   refine Bn (γ := Value) (val := fun v => v) (F := fun v => [sl v (says (A7 ({ (Ae l m.line) with last := ((Ae l m.line).last.set m.src.toNat m.serial), who := m.src, serial := m.serial, alone := m.kind == 2, turn := (Ae l m.line).turn + 1 })) m.line id)]) Try.call34 (fun _ => rfl) (fun ρ L R w hd hs => Gq (e := A7 ({ (Ae l m.line) with last := ((Ae l m.line).last.set m.src.toNat m.serial), who := m.src, serial := m.serial, alone := m.kind == 2, turn := (Ae l m.line).turn + 1 })) (u := v46) hs (Dm hX) (by assumption) hm.2.2.2.1 hid) (fun _ _ _ _ _ => rfl) ?_
   refine e_p (v := fun ρ => (Gh.dec (γ := Value) (ρ 4))) (fun _ _ => Db) (Ind.gh (h := fun g => ((Gh.dec (γ := Value) g) : Value)) 4 0 rfl) (fun _ _ _ _ _ => rfl) ?_
   refine e_p (v := fun ρ => (Gh.dec (γ := Value) (ρ 9))) (fun _ _ => Db) (Ind.gh (h := fun g => ((Gh.dec (γ := Value) g) : Value)) 9 0 rfl) (fun _ _ _ _ _ => rfl) ?_
   refine dnl ?_; intro ρ
   refine xq_ (blk b8 58 ((A7 ({ (Ae l m.line) with last := ((Ae l m.line).last.set m.src.toNat m.serial), who := m.src, serial := m.serial, alone := m.kind == 2, turn := (Ae l m.line).turn + 1 })).cells v46) :: blk b5 42 m.cells :: L) ?_
   generalize (Gh.dec (γ := Value) (ρ 4)) = v287
   generalize (Gh.dec (γ := Value) (ρ 9)) = v292
   refine Gl ?_
   rw [er]
   exact Df (v287, v292)
end Go.Proofs.Ytofgpimoekhfaaa

/- This file proves what the home hears, by the document's answer: some kinds of messages. No conditions. -/
set_option linter.unusedVariables false
set_option linter.unusedSimpArgs false
set_option maxHeartbeats 1000000
set_option maxRecDepth 8000
namespace Go.Proofs.Ytofgpimoekhfaaa
open Go
theorem Mr {L : List Chunk} {R : List Fact} {w : World} {v0 : Value} {l : List Entry} {id : Int} {m : Msg} (hs : St (L) R w) (h0 : sl v0 l ∈ R) (hb : ∀ i, i < l.length → EB (l.getD i Bc)) (hla : ∀ i, i < l.length → (l.getD i Bc).last.length ≤ 4) (hm : m.wf) (hid : Am id) (hk : 0 ≤ m.line ∧ m.line < (l.length : Int) ∧ 0 ≤ m.src ∧ m.src < ((Ae l m.line).last.length : Int) ∧ m.kind = 2) : Calls Try.prog 30 [v0, vi id, .agg m.cells.toArray].toArray w (Ch (fun v : Value × Value => .tuple #[v.1, v.2]) (fun v => L) (fun v => sl v.1 (Ao l id m).1 :: sl v.2 (Ao l id m).2 :: R)) := by
  have hlen := Bk h0 hs
  have hm0 := hm
  unfold Msg.wf Am at hm0
  have hid0 := hid
  unfold Am at hid0
  refine Aj Try.func30 rfl Try.ntmps30 rfl hs ?_
  clear hs
  refine Gm ?_
  refine bx ?_; intro b5
  refine Ga2 ?_
  refine Gt (v := v0) m.line mm (by omega) (by omega) (fun hEw u => ?_)
  have hE : EB (Ae l m.line) := hb m.line.toNat (by omega)
  have hE0 := hE
  unfold EB Entry.wf Am at hE0
  have hL : (Ae l m.line).last.length ≤ 4 := hla m.line.toNat (by omega)
  refine JC.know (p := u.oneCell' = true) (fun w hs => isSlice.one (hs.fact (.tail _ (.head _)))) (fun hone => ?_)
  refine JC.know (p := ∀ x ∈ (Ae l m.line).last, Am x) (fun w hs => Gx (.tail _ (.head _)) hs) (fun hlin => ?_)
  refine Dv ?_
  refine dn2 ?_
  refine djc (fun _ _ => Af rfl rfl (An (by omega))) ?_
  refine djc (fun _ _ => Cx) ?_
  refine dn4 ?_
  refine dj (dgy ?_)
  refine dc (fun _ _ => Af rfl rfl (A4 (by omega))) ?_
  refine djc (fun _ _ => Em) ?_
  refine djc (fun _ _ => Cx) ?_
  refine dn2 ?_
  refine dj (dgy ?_)
  refine dc (fun _ _ => Af rfl rfl (An (by omega))) ?_
  refine djc (fun _ _ => Em) ?_
  refine djc (fun _ _ => Cx) ?_
  refine dn9 ?_
  refine dj (dgy ?_)
  refine dc (fun _ _ => Af rfl rfl (A4 (show ¬ ((Ae l m.line).last.length : Int) ≤ m.src by omega))) ?_
  refine djc (fun _ _ => Em) ?_
  refine dnl ?_; intro ρ
  refine Gmc ?_
  refine rn5 ?_
  refine al_ (cs := zEC) Try.zeroValue58 ?_; intro b8
  refine s_B (cs := Entry.cells u (Ae l m.line)) Try.sizeOf58 ?_
  refine Gl ?_
  refine kp [0, 1, 5, 6, 7, 8, 9, 43, 44, 45, 46] ?_
  refine Aa ?_
  refine liO ([] : List Int) D9 rfl (fun j h => Fw) ?_; intro v43
  refine rn2 ?_
  refine ap D9 (hb := fun w hs => by have : maxN = 16777216 := rfl; simp only [List.length_nil]; omega) (k := ?_); intro v46
  refine Gb1 ?_
  refine Gb2 ?_
  refine ob (Af rfl rfl (Ak (by omega))) ?_
  refine Gd1 ?_
  refine ob (Af rfl rfl (As (by omega))) ?_
  refine Gc1 ?_
  rcases (show ((Ae l m.line).phase ≠ 0) ∨ ((Ae l m.line).phase = 0 ∧ m.serial ≤ (Ae l m.line).last.getD m.src.toNat 0) ∨ ((Ae l m.line).phase = 0 ∧ (Ae l m.line).last.getD m.src.toNat 0 < m.serial ∧ 65535 ≤ (Ae l m.line).turn) ∨ ((Ae l m.line).phase = 0 ∧ (Ae l m.line).last.getD m.src.toNat 0 < m.serial ∧ (Ae l m.line).turn < 65535) from by omega) with hc | hc | hc | hc
  ·
   refine Dv ?_
   refine dn2 ?_
   refine djc (fun _ _ => Af rfl rfl (Cz (by omega))) ?_
   refine djc (fun _ _ => Cx) ?_
   refine dn8 ?_
   refine djc (fun _ _ => Gg) ?_
   refine djc (fun _ _ => Cx) ?_
   refine dn3 ?_
   refine djc (fun _ _ => Gg) ?_
   refine dnl ?_; intro ρ
   refine Gmc ?_
   refine Ga3 ?_
   have er : Ao l id m = (l, []) := Cj (by omega) (by unfold Bf; rw [if_pos (by omega), if_pos (by unfold Ek; omega)])
   rw [er]
   exact Df (v0, .slice none 0 0) (hs := fun w hs => Al (St.shut (hs.rowNil 42 Msg)))
  ·
   refine Dv ?_
   refine dn2 ?_
   refine djc (fun _ _ => Af rfl rfl (Bv (by omega))) ?_
   refine djc (fun _ _ => Cx) ?_
   refine dn6 ?_
   refine dj (dgy ?_)
   refine dc (fun _ _ => Dn (hc := Ep (xs := (Ae l m.line).last) pkk (by omega)) Try.isAgg3) ?_
   refine dj (dgy ?_)
   refine dc (fun _ _ => Af rfl rfl (Ma (by omega))) ?_
   refine djc (fun _ _ => Em) ?_
   refine djc (fun _ _ => Cx) ?_
   refine dn3 ?_
   refine djc (fun _ _ => Gg) ?_
   refine dnl ?_; intro ρ
   refine Gmc ?_
   refine Ga3 ?_
   have er : Ao l id m = (l, []) := Cj (by omega) (by unfold Bf; rw [if_pos (by omega), if_pos (by unfold Ek; omega)])
   rw [er]
   exact Df (v0, .slice none 0 0) (hs := fun w hs => Al (St.shut (hs.rowNil 42 Msg)))
  ·
   refine Dv ?_
   refine dn2 ?_
   refine djc (fun _ _ => Af rfl rfl (Bv (by omega))) ?_
   refine djc (fun _ _ => Cx) ?_
   refine dn6 ?_
   refine dj (dgy ?_)
   refine dc (fun _ _ => Dn (hc := Ep (xs := (Ae l m.line).last) pkk (by omega)) Try.isAgg3) ?_
   refine dj (dgy ?_)
   refine dc (fun _ _ => Af rfl rfl (Fr (by omega))) ?_
   refine djc (fun _ _ => Em) ?_
   refine djc (fun _ _ => Cx) ?_
   refine dn2 ?_
   refine dj (dgy ?_)
   refine dc (fun _ _ => Af rfl rfl (Cv (by omega))) ?_
   refine djc (fun _ _ => Em) ?_
   refine dnl ?_; intro ρ
   refine Gmc ?_
   refine Ga3 ?_
   have er : Ao l id m = (l, []) := Cj (by omega) (by unfold Bf; rw [if_pos (by omega), if_pos (by unfold Ek; omega)])
   rw [er]
   exact Df (v0, .slice none 0 0) (hs := fun w hs => Al (St.shut (hs.rowNil 42 Msg)))
  ·
   refine Dv ?_
   refine dn2 ?_
   refine djc (fun _ _ => Af rfl rfl (Bv (by omega))) ?_
   refine djc (fun _ _ => Cx) ?_
   refine dn6 ?_
   refine dj (dgy ?_)
   refine dc (fun _ _ => Dn (hc := Ep (xs := (Ae l m.line).last) pkk (by omega)) Try.isAgg3) ?_
   refine dj (dgy ?_)
   refine dc (fun _ _ => Af rfl rfl (Fr (by omega))) ?_
   refine djc (fun _ _ => Em) ?_
   refine djc (fun _ _ => Cx) ?_
   refine dn2 ?_
   refine dj (dgy ?_)
   refine dc (fun _ _ => Af rfl rfl (A4 (by omega))) ?_
   refine djc (fun _ _ => Em) ?_
   refine dnl ?_; intro ρ
   refine Gmc ?_
   refine rn6 ?_
   refine El (xs := (Ae l m.line).last) Try.sizeOf3 rfl rfl pkk (getD_some 0 (by omega)) hm.2.2.2.2.1 ?_
   refine Gl ?_
   refine JC.shut (v := v46) pkk ?_
   refine JC.know (p := v46.oneCell' = true) (fun w hs => isSlice.one (hs.fact (List.Mem.head _))) (fun hone9 => ?_)
   refine kp [0, 1, 5, 6, 7, 8, 9, 48, 78, 79, 80, 81, 82, 83, 84, 85, 86, 87, 88, 89, 90, 91, 92, 93] ?_
   refine cq_ (blk b8 58 [vi (Ae l m.line).value, vi (Ae l m.line).owner, vi (Ae l m.line).sharers, vi (Ae l m.line).phase, vi (Ae l m.line).who, vi (Ae l m.line).serial, .bool (Ae l m.line).alone, vi (Ae l m.line).turn, vi (Ae l m.line).need, u] :: blk b5 42 m.cells :: L) ?_
   refine jd_ (fun ρ S => blk b8 58 (bif S 20 then [vi (Ae l m.line).value, vi (Ae l m.line).owner, vi (Ae l m.line).sharers, vi (Ae l m.line).phase, vi m.src, vi m.serial, .bool (decide (m.kind = 2)), vi ((Ae l m.line).turn + 1), vi (Ae l m.line).need, v46] else (bif S 18 then [vi (Ae l m.line).value, vi (Ae l m.line).owner, vi (Ae l m.line).sharers, vi (Ae l m.line).phase, vi m.src, vi m.serial, .bool (decide (m.kind = 2)), vi (Ae l m.line).turn, vi (Ae l m.line).need, v46] else (bif S 16 then [vi (Ae l m.line).value, vi (Ae l m.line).owner, vi (Ae l m.line).sharers, vi (Ae l m.line).phase, vi m.src, vi m.serial, .bool (Ae l m.line).alone, vi (Ae l m.line).turn, vi (Ae l m.line).need, v46] else (bif S 14 then [vi (Ae l m.line).value, vi (Ae l m.line).owner, vi (Ae l m.line).sharers, vi (Ae l m.line).phase, vi m.src, vi (Ae l m.line).serial, .bool (Ae l m.line).alone, vi (Ae l m.line).turn, vi (Ae l m.line).need, v46] else (bif S 12 then [vi (Ae l m.line).value, vi (Ae l m.line).owner, vi (Ae l m.line).sharers, vi (Ae l m.line).phase, vi (Ae l m.line).who, vi (Ae l m.line).serial, .bool (Ae l m.line).alone, vi (Ae l m.line).turn, vi (Ae l m.line).need, v46] else [vi (Ae l m.line).value, vi (Ae l m.line).owner, vi (Ae l m.line).sharers, vi (Ae l m.line).phase, vi (Ae l m.line).who, vi (Ae l m.line).serial, .bool (Ae l m.line).alone, vi (Ae l m.line).turn, vi (Ae l m.line).need, u]))))) :: blk b5 42 m.cells :: L) ?_
   refine dn9 ?_
   refine Ko (v := vi (Ae l m.line).turn) (fun ρ S hS hB hA => by have h20 : S 20 = false := hA 20 ⟨0, rfl⟩; simp only [h20, cond_false]; exact Dn (hc := A2 pkk (by repeat (first | exact rfl | refine Eh rfl ?_))) Try.isAgg3) (fun _ _ _ _ _ => rfl) ?_
   first | refine epc (fun _ _ => D6) ?_ | refine epc (fun _ _ => Fc) ?_ | refine epp (fun _ _ => D6) ?_ | refine epp (fun _ _ => Fc) ?_
   refine dn1 ?_
   refine es_ 58 9 [] [14, 16, 18, 20] (fun ρ => b8) (fun ρ => [vi (Ae l m.line).value, vi (Ae l m.line).owner, vi (Ae l m.line).sharers, vi (Ae l m.line).phase, vi (Ae l m.line).who, vi (Ae l m.line).serial, .bool (Ae l m.line).alone, vi (Ae l m.line).turn, vi (Ae l m.line).need, u]) (fun ρ => [v46]) Try.sizeOf56 (h1 := (fun ρ R w L' hd hs u hu => by cases List.mem_singleton.1 hu; exact hone9)) (hv := (fun _ => F0 hone9)) ?_
   refine dn1 ?_
   refine es_ 58 4 [12] [16, 18, 20] (fun ρ => b8) (fun ρ => [vi (Ae l m.line).value, vi (Ae l m.line).owner, vi (Ae l m.line).sharers, vi (Ae l m.line).phase, vi (Ae l m.line).who, vi (Ae l m.line).serial, .bool (Ae l m.line).alone, vi (Ae l m.line).turn, vi (Ae l m.line).need, v46]) (fun ρ => [vi m.src]) Try.sizeOf3 ?_
   refine dn1 ?_
   refine es_ 58 5 [12, 14] [18, 20] (fun ρ => b8) (fun ρ => [vi (Ae l m.line).value, vi (Ae l m.line).owner, vi (Ae l m.line).sharers, vi (Ae l m.line).phase, vi m.src, vi (Ae l m.line).serial, .bool (Ae l m.line).alone, vi (Ae l m.line).turn, vi (Ae l m.line).need, v46]) (fun ρ => [vi m.serial]) Try.sizeOf3 ?_
   refine dn1 ?_
   refine es_ 58 6 [12, 14, 16] [20] (fun ρ => b8) (fun ρ => [vi (Ae l m.line).value, vi (Ae l m.line).owner, vi (Ae l m.line).sharers, vi (Ae l m.line).phase, vi m.src, vi m.serial, .bool (Ae l m.line).alone, vi (Ae l m.line).turn, vi (Ae l m.line).need, v46]) (fun ρ => [.bool (decide (m.kind = 2))]) Try.sizeOf4 ?_
   refine dn1 ?_
   refine es_ 58 7 [12, 14, 16, 18] [] (fun ρ => b8) (fun ρ => [vi (Ae l m.line).value, vi (Ae l m.line).owner, vi (Ae l m.line).sharers, vi (Ae l m.line).phase, vi m.src, vi m.serial, .bool (decide (m.kind = 2)), vi (Ae l m.line).turn, vi (Ae l m.line).need, v46]) (fun ρ => [vi ((Ae l m.line).turn + 1)]) Try.sizeOf3 ?_
   refine dnl ?_; intro ρ
   refine xq_ (blk b8 58 [vi (Ae l m.line).value, vi (Ae l m.line).owner, vi (Ae l m.line).sharers, vi (Ae l m.line).phase, vi m.src, vi m.serial, .bool (decide (m.kind = 2)), vi ((Ae l m.line).turn + 1), vi (Ae l m.line).need, v46] :: blk b5 42 m.cells :: L) ?_
   refine Gm ?_
   refine rn1 ?_
   have hX : EB ({ (Ae l m.line) with last := ((Ae l m.line).last.set m.src.toNat m.serial), who := m.src, serial := m.serial, alone := m.kind == 2, turn := (Ae l m.line).turn + 1 }) := by unfold EB Entry.wf Am; simp only; omega
   refine Aq Try.call68 rfl (fun w hs => Hn (e := { (Ae l m.line) with last := ((Ae l m.line).last.set m.src.toNat m.serial), who := m.src, serial := m.serial, alone := m.kind == 2, turn := (Ae l m.line).turn + 1 }) (u := v46) hs hX (by assumption)) ?_; intro _
   refine s_B (cs := (A7 ({ (Ae l m.line) with last := ((Ae l m.line).last.set m.src.toNat m.serial), who := m.src, serial := m.serial, alone := m.kind == 2, turn := (Ae l m.line).turn + 1 })).cells v46) Try.sizeOf58 ?_
   refine Gl ?_
   have er : Ao l id m = (l.set m.line.toNat (A7 ({ (Ae l m.line) with last := ((Ae l m.line).last.set m.src.toNat m.serial), who := m.src, serial := m.serial, alone := m.kind == 2, turn := (Ae l m.line).turn + 1 })), says (A7 ({ (Ae l m.line) with last := ((Ae l m.line).last.set m.src.toNat m.serial), who := m.src, serial := m.serial, alone := m.kind == 2, turn := (Ae l m.line).turn + 1 })) m.line id) := Dz (by omega) (by unfold Bf; rw [if_pos (by omega), if_neg (by unfold Ek; omega)]; rfl)
   refine cq_ (blk b8 58 ((A7 ({ (Ae l m.line) with last := ((Ae l m.line).last.set m.src.toNat m.serial), who := m.src, serial := m.serial, alone := m.kind == 2, turn := (Ae l m.line).turn + 1 })).cells v46) :: blk b5 42 m.cells :: L) ?_
   refine jd_ (fun ρ S => blk b8 58 ((A7 ({ (Ae l m.line) with last := ((Ae l m.line).last.set m.src.toNat m.serial), who := m.src, serial := m.serial, alone := m.kind == 2, turn := (Ae l m.line).turn + 1 })).cells v46) :: blk b5 42 m.cells :: L) ?_
   refine dn4 ?_
   refine Bn (γ := Value) (val := fun v => v) (F := fun v => [sl v (l.set m.line.toNat (A7 ({ (Ae l m.line) with last := ((Ae l m.line).last.set m.src.toNat m.serial), who := m.src, serial := m.serial, alone := m.kind == 2, turn := (Ae l m.line).turn + 1 })))]) Try.call69 (fun _ => rfl) (fun ρ L R w hd hs => Bm (e := A7 ({ (Ae l m.line) with last := ((Ae l m.line).last.set m.src.toNat m.serial), who := m.src, serial := m.serial, alone := m.kind == 2, turn := (Ae l m.line).turn + 1 })) (u := v46) hs (hd.base mm) (by rw [En]; exact hd.base mm) (Dm hX).1 (by omega)) (fun _ _ _ _ _ => rfl) ?_
   refine dn4 ?_
   refine Bn (γ := Value) (val := fun v => v) (F := fun v => [sl v (says (A7 ({ (Ae l m.line) with last := ((Ae l m.line).last.set m.src.toNat m.serial), who := m.src, serial := m.serial, alone := m.kind == 2, turn := (Ae l m.line).turn + 1 })) m.line id)]) Try.call34 (fun _ => rfl) (fun ρ L R w hd hs => Gq (e := A7 ({ (Ae l m.line) with last := ((Ae l m.line).last.set m.src.toNat m.serial), who := m.src, serial := m.serial, alone := m.kind == 2, turn := (Ae l m.line).turn + 1 })) (u := v46) hs (Dm hX) (by assumption) hm.2.2.2.1 hid) (fun _ _ _ _ _ => rfl) ?_
   refine e_p (v := fun ρ => (Gh.dec (γ := Value) (ρ 4))) (fun _ _ => Db) (Ind.gh (h := fun g => ((Gh.dec (γ := Value) g) : Value)) 4 0 rfl) (fun _ _ _ _ _ => rfl) ?_
   refine e_p (v := fun ρ => (Gh.dec (γ := Value) (ρ 9))) (fun _ _ => Db) (Ind.gh (h := fun g => ((Gh.dec (γ := Value) g) : Value)) 9 0 rfl) (fun _ _ _ _ _ => rfl) ?_
   refine dnl ?_; intro ρ
   refine xq_ (blk b8 58 ((A7 ({ (Ae l m.line) with last := ((Ae l m.line).last.set m.src.toNat m.serial), who := m.src, serial := m.serial, alone := m.kind == 2, turn := (Ae l m.line).turn + 1 })).cells v46) :: blk b5 42 m.cells :: L) ?_
   generalize (Gh.dec (γ := Value) (ρ 4)) = v287
   generalize (Gh.dec (γ := Value) (ρ 9)) = v292
   refine Gl ?_
   rw [er]
   exact Df (v287, v292)
end Go.Proofs.Ytofgpimoekhfaaa

/- This file proves what the home hears, by the document's answer: some kinds of messages. No conditions. -/
set_option linter.unusedVariables false
set_option linter.unusedSimpArgs false
set_option maxHeartbeats 1000000
set_option maxRecDepth 8000
namespace Go.Proofs.Ytofgpimoekhfaaa
open Go
theorem Mo {L : List Chunk} {R : List Fact} {w : World} {v0 : Value} {l : List Entry} {id : Int} {m : Msg} (hs : St (L) R w) (h0 : sl v0 l ∈ R) (hb : ∀ i, i < l.length → EB (l.getD i Bc)) (hla : ∀ i, i < l.length → (l.getD i Bc).last.length ≤ 4) (hm : m.wf) (hid : Am id) (hk : 0 ≤ m.line ∧ m.line < (l.length : Int) ∧ 0 ≤ m.src ∧ m.src < ((Ae l m.line).last.length : Int) ∧ m.kind = 9) : Calls Try.prog 30 [v0, vi id, .agg m.cells.toArray].toArray w (Ch (fun v : Value × Value => .tuple #[v.1, v.2]) (fun v => L) (fun v => sl v.1 (Ao l id m).1 :: sl v.2 (Ao l id m).2 :: R)) := by
  have hlen := Bk h0 hs
  have hm0 := hm
  unfold Msg.wf Am at hm0
  have hid0 := hid
  unfold Am at hid0
  refine Aj Try.func30 rfl Try.ntmps30 rfl hs ?_
  clear hs
  refine Gm ?_
  refine bx ?_; intro b5
  refine Ga2 ?_
  refine Gt (v := v0) m.line mm (by omega) (by omega) (fun hEw u => ?_)
  have hE : EB (Ae l m.line) := hb m.line.toNat (by omega)
  have hE0 := hE
  unfold EB Entry.wf Am at hE0
  have hL : (Ae l m.line).last.length ≤ 4 := hla m.line.toNat (by omega)
  refine JC.know (p := u.oneCell' = true) (fun w hs => isSlice.one (hs.fact (.tail _ (.head _)))) (fun hone => ?_)
  refine JC.know (p := ∀ x ∈ (Ae l m.line).last, Am x) (fun w hs => Gx (.tail _ (.head _)) hs) (fun hlin => ?_)
  refine Dv ?_
  refine dn2 ?_
  refine djc (fun _ _ => Af rfl rfl (An (by omega))) ?_
  refine djc (fun _ _ => Cx) ?_
  refine dn4 ?_
  refine dj (dgy ?_)
  refine dc (fun _ _ => Af rfl rfl (A4 (by omega))) ?_
  refine djc (fun _ _ => Em) ?_
  refine djc (fun _ _ => Cx) ?_
  refine dn2 ?_
  refine dj (dgy ?_)
  refine dc (fun _ _ => Af rfl rfl (An (by omega))) ?_
  refine djc (fun _ _ => Em) ?_
  refine djc (fun _ _ => Cx) ?_
  refine dn9 ?_
  refine dj (dgy ?_)
  refine dc (fun _ _ => Af rfl rfl (A4 (show ¬ ((Ae l m.line).last.length : Int) ≤ m.src by omega))) ?_
  refine djc (fun _ _ => Em) ?_
  refine dnl ?_; intro ρ
  refine Gmc ?_
  refine rn5 ?_
  refine al_ (cs := zEC) Try.zeroValue58 ?_; intro b8
  refine s_B (cs := Entry.cells u (Ae l m.line)) Try.sizeOf58 ?_
  refine Gl ?_
  refine kp [0, 1, 5, 6, 7, 8, 9, 43, 44, 45, 46] ?_
  refine Aa ?_
  refine liO ([] : List Int) D9 rfl (fun j h => Fw) ?_; intro v43
  refine rn2 ?_
  refine ap D9 (hb := fun w hs => by have : maxN = 16777216 := rfl; simp only [List.length_nil]; omega) (k := ?_); intro v46
  refine Gb1 ?_
  refine Gb2 ?_
  refine ob (Af rfl rfl (Ak (by omega))) ?_
  refine Gd1 ?_
  refine ob (Af rfl rfl (Ak (by omega))) ?_
  refine Gd1 ?_
  refine ob (Af rfl rfl (Ak (by omega))) ?_
  refine Gd1 ?_
  refine ob (Af rfl rfl (As (by omega))) ?_
  refine Gd1 ?_
  refine rn4 ?_
  refine jgx (t := 146) (p := ?p1) (hd := ?d1) ?e1 ?_ ?_; case e1 => exact rfl
  ·
   intro ht146
   refine Gc13 ?_
   refine kp [0, 1, 5, 6, 7, 8, 48, 160] ?_
   refine Aa ?_
   refine Ga3 ?_
   have er : Ao l id m = (l, []) := Cj (by omega) (by unfold Bf; rw [if_neg (by omega), if_neg (by omega), if_neg (by omega), if_neg (by omega), if_neg (by omega)])
   rw [er]
   exact Df (v0, .slice none 0 0) (hs := fun w hs => Al (St.shut (hs.rowNil 42 Msg)))
  ·
   intro ht146
   refine rn7 ?_
   refine jgx (t := 153) (p := ?p2) (hd := ?d2) ?e2 ?_ ?_; case e2 => exact rfl
   ·
    intro ht153
    refine Gc6 ?_
    refine kp [0, 1, 5, 6, 7, 8, 48, 160] ?_
    refine Aa ?_
    refine Ga3 ?_
    have er : Ao l id m = (l, []) := Cj (by omega) (by unfold Bf; rw [if_neg (by omega), if_neg (by omega), if_neg (by omega), if_neg (by omega), if_neg (by omega)])
    rw [er]
    exact Df (v0, .slice none 0 0) (hs := fun w hs => Al (St.shut (hs.rowNil 42 Msg)))
   ·
    intro ht153
    refine Ga6 ?_
    refine cdx (p := ?p3) (hd := ?d3) ?e3 ?_ ?_; case e3 => exact rfl
    ·
     intro ht159
     refine Gl ?_
     refine kp [0, 1, 5, 6, 7, 8, 48, 160] ?_
     refine Aa ?_
     refine Ga3 ?_
     have er : Ao l id m = (l, []) := Cj (by omega) (by unfold Bf; rw [if_neg (by omega), if_neg (by omega), if_neg (by omega), if_neg (by omega), if_neg (by omega)])
     rw [er]
     exact Df (v0, .slice none 0 0) (hs := fun w hs => Al (St.shut (hs.rowNil 42 Msg)))
    ·
     intro ht159
     refine Gl ?_
     refine kp [0, 1, 5, 6, 7, 8, 48, 161, 162, 163, 164, 165, 166, 167, 168, 169, 170, 171] ?_
     refine Aa ?_
     refine rn4 ?_
     refine Ls (t := 164) (b := ?b4) ?e4 ?_ ?_; case e4 => exact rfl
     ·
      intro ht164
      refine rn4 ?_
      refine gy ?_
      generalize hhas : (Ae l m.line).sharers.toNat.testBit (Ae l m.line).owner.toNat = bh
      refine Aq (val := fun _ => .bool bh) Try.call70 rfl (fun w hs => by have h := Kz (z := (Ae l m.line).sharers.toNat) (k := (Ae l m.line).owner.toNat) hs (by omega) (by omega); rw [Int.toNat_of_nonneg (by omega), Int.toNat_of_nonneg (by omega), hhas] at h; exact h) ?_; intro _
      refine Ga2 ?_
      refine Bp (b := ?b5) ?e5 ?_ ?_; case e5 => exact rfl
      ·
       intro ht171
       have hp2 : ((2 ^ (Ae l m.line).owner.toNat : Nat) : Int) ≤ 8 := Int.ofNat_le.2 (Nat.pow_le_pow_right (n := 2) (by decide) (show (Ae l m.line).owner.toNat ≤ 3 by omega))
       have hp0 : (0 : Int) ≤ ((2 ^ (Ae l m.line).owner.toNat : Nat) : Int) := Int.natCast_nonneg _
       refine cq_ (blk b8 58 [vi (Ae l m.line).value, vi (Ae l m.line).owner, vi (Ae l m.line).sharers, vi (Ae l m.line).phase, vi (Ae l m.line).who, vi (Ae l m.line).serial, .bool (Ae l m.line).alone, vi (Ae l m.line).turn, vi (Ae l m.line).need, u] :: blk b5 42 m.cells :: L) ?_
       refine jd_ (fun ρ S => blk b8 58 [vi (Ae l m.line).value, vi (Ae l m.line).owner, vi (Ae l m.line).sharers, vi (Ae l m.line).phase, vi (Ae l m.line).who, vi (Ae l m.line).serial, .bool (Ae l m.line).alone, vi (Ae l m.line).turn, vi (Ae l m.line).need, u] :: blk b5 42 m.cells :: L) ?_
       refine dn4 ?_
       refine Bn (γ := Unit) (val := fun _ => vi ((2 ^ (Ae l m.line).owner.toNat : Nat) : Int)) (F := fun _ => []) Try.call71 (fun _ => rfl) (fun ρ L R w hd hs => by have h := J0 (k := (Ae l m.line).owner.toNat) hs (by omega); rw [Int.toNat_of_nonneg (by omega)] at h; exact h) (fun _ _ _ _ _ => rfl) ?_
       first | refine epc (fun _ _ => D6) ?_ | refine epc (fun _ _ => Fc) ?_ | refine epp (fun _ _ => D6) ?_ | refine epp (fun _ _ => Fc) ?_
       refine dtl ?_; intro ρ
       refine J.conseq (L' := blk b8 58 [vi (Ae l m.line).value, vi (Ae l m.line).owner, vi (Ae l m.line).sharers, vi (Ae l m.line).phase, vi (Ae l m.line).who, vi (Ae l m.line).serial, .bool (Ae l m.line).alone, vi (Ae l m.line).turn, vi (Ae l m.line).need, u] :: blk b5 42 m.cells :: L) (fun w hs => hs) ?_
       refine rn1 ?_
       refine sc ?_
       refine Gm ?_
       refine rn3 ?_
       refine sc ?_
       refine rn1 ?_
       refine sc ?_
       refine Gm ?_
       refine rn1 ?_
       have hp3 := Uj hE0.2.1.1 hE0.2.1.2 (show 0 ≤ (Ae l m.line).owner by omega) hE0.2.2.2.2.1.2 (by rw [hhas]; simpa using ht171)
       have hX : EB ({ (Ae l m.line) with value := m.value, sharers := ((Ae l m.line).sharers + ((2 ^ (Ae l m.line).owner.toNat : Nat) : Int)), owner := -1 }) := by unfold EB Entry.wf Am; simp only; omega
       refine Aq Try.call68 rfl (fun w hs => Hn (e := { (Ae l m.line) with value := m.value, sharers := ((Ae l m.line).sharers + ((2 ^ (Ae l m.line).owner.toNat : Nat) : Int)), owner := -1 }) (u := u) hs hX (by assumption)) ?_; intro _
       refine s_B (cs := (A7 ({ (Ae l m.line) with value := m.value, sharers := ((Ae l m.line).sharers + ((2 ^ (Ae l m.line).owner.toNat : Nat) : Int)), owner := -1 })).cells u) Try.sizeOf58 ?_
       refine Gl ?_
       have ed : (if (Ae l m.line).alone then (Ae l m.line).sharers else Ht (Ae l m.line).sharers (Ae l m.line).owner) = ((Ae l m.line).sharers + ((2 ^ (Ae l m.line).owner.toNat : Nat) : Int)) := by
        obtain ⟨b1, b2, _⟩ := Cr hE0.2.1.1 hE0.2.1.2 (show 0 ≤ (Ae l m.line).owner by omega) hE0.2.2.2.2.1.2
        rw [if_neg (by simpa using ht164), (b2 (by simpa [hhas] using ht171)).1]
       have er : Ao l id m = (l.set m.line.toNat (A7 ({ (Ae l m.line) with value := m.value, sharers := ((Ae l m.line).sharers + ((2 ^ (Ae l m.line).owner.toNat : Nat) : Int)), owner := -1 })), says (A7 ({ (Ae l m.line) with value := m.value, sharers := ((Ae l m.line).sharers + ((2 ^ (Ae l m.line).owner.toNat : Nat) : Int)), owner := -1 })) m.line id) := Dz (by omega) (by unfold Bf; rw [if_neg (by omega), if_neg (by omega), if_pos (by omega)]; unfold Gy; rw [ed])
       refine cq_ (blk b8 58 ((A7 ({ (Ae l m.line) with value := m.value, sharers := ((Ae l m.line).sharers + ((2 ^ (Ae l m.line).owner.toNat : Nat) : Int)), owner := -1 })).cells u) :: blk b5 42 m.cells :: L) ?_
       refine jd_ (fun ρ S => blk b8 58 ((A7 ({ (Ae l m.line) with value := m.value, sharers := ((Ae l m.line).sharers + ((2 ^ (Ae l m.line).owner.toNat : Nat) : Int)), owner := -1 })).cells u) :: blk b5 42 m.cells :: L) ?_
       refine dn4 ?_
       refine Bn (γ := Value) (val := fun v => v) (F := fun v => [sl v (l.set m.line.toNat (A7 ({ (Ae l m.line) with value := m.value, sharers := ((Ae l m.line).sharers + ((2 ^ (Ae l m.line).owner.toNat : Nat) : Int)), owner := -1 })))]) Try.call69 (fun _ => rfl) (fun ρ L R w hd hs => Bm (e := A7 ({ (Ae l m.line) with value := m.value, sharers := ((Ae l m.line).sharers + ((2 ^ (Ae l m.line).owner.toNat : Nat) : Int)), owner := -1 })) (u := u) hs (hd.base mm) (by rw [En]; exact hd.base mm) (Dm hX).1 (by omega)) (fun _ _ _ _ _ => rfl) ?_
       refine dn4 ?_
       refine Bn (γ := Value) (val := fun v => v) (F := fun v => [sl v (says (A7 ({ (Ae l m.line) with value := m.value, sharers := ((Ae l m.line).sharers + ((2 ^ (Ae l m.line).owner.toNat : Nat) : Int)), owner := -1 })) m.line id)]) Try.call34 (fun _ => rfl) (fun ρ L R w hd hs => Gq (e := A7 ({ (Ae l m.line) with value := m.value, sharers := ((Ae l m.line).sharers + ((2 ^ (Ae l m.line).owner.toNat : Nat) : Int)), owner := -1 })) (u := u) hs (Dm hX) (by assumption) hm.2.2.2.1 hid) (fun _ _ _ _ _ => rfl) ?_
       refine e_p (v := fun ρ => (Gh.dec (γ := Value) (ρ 4))) (fun _ _ => Db) (Ind.gh (h := fun g => ((Gh.dec (γ := Value) g) : Value)) 4 0 rfl) (fun _ _ _ _ _ => rfl) ?_
       refine e_p (v := fun ρ => (Gh.dec (γ := Value) (ρ 9))) (fun _ _ => Db) (Ind.gh (h := fun g => ((Gh.dec (γ := Value) g) : Value)) 9 0 rfl) (fun _ _ _ _ _ => rfl) ?_
       refine dnl ?_; intro ρ
       refine xq_ (blk b8 58 ((A7 ({ (Ae l m.line) with value := m.value, sharers := ((Ae l m.line).sharers + ((2 ^ (Ae l m.line).owner.toNat : Nat) : Int)), owner := -1 })).cells u) :: blk b5 42 m.cells :: L) ?_
       generalize (Gh.dec (γ := Value) (ρ 4)) = v287
       generalize (Gh.dec (γ := Value) (ρ 9)) = v292
       refine Gl ?_
       rw [er]
       exact Df (v287, v292)
      ·
       intro ht171
       refine Gm ?_
       refine rn3 ?_
       refine sc ?_
       refine rn1 ?_
       refine sc ?_
       refine Gm ?_
       refine rn1 ?_
       skip
       have hX : EB ({ (Ae l m.line) with value := m.value, sharers := (Ae l m.line).sharers, owner := -1 }) := by unfold EB Entry.wf Am; simp only; omega
       refine Aq Try.call68 rfl (fun w hs => Hn (e := { (Ae l m.line) with value := m.value, sharers := (Ae l m.line).sharers, owner := -1 }) (u := u) hs hX (by assumption)) ?_; intro _
       refine s_B (cs := (A7 ({ (Ae l m.line) with value := m.value, sharers := (Ae l m.line).sharers, owner := -1 })).cells u) Try.sizeOf58 ?_
       refine Gl ?_
       have ed : (if (Ae l m.line).alone then (Ae l m.line).sharers else Ht (Ae l m.line).sharers (Ae l m.line).owner) = (Ae l m.line).sharers := by
        obtain ⟨b1, b2, _⟩ := Cr hE0.2.1.1 hE0.2.1.2 (show 0 ≤ (Ae l m.line).owner by omega) hE0.2.2.2.2.1.2
        rw [if_neg (by simpa using ht164), (b1 (by simpa [hhas] using ht171)).1]
       have er : Ao l id m = (l.set m.line.toNat (A7 ({ (Ae l m.line) with value := m.value, sharers := (Ae l m.line).sharers, owner := -1 })), says (A7 ({ (Ae l m.line) with value := m.value, sharers := (Ae l m.line).sharers, owner := -1 })) m.line id) := Dz (by omega) (by unfold Bf; rw [if_neg (by omega), if_neg (by omega), if_pos (by omega)]; unfold Gy; rw [ed])
       refine cq_ (blk b8 58 ((A7 ({ (Ae l m.line) with value := m.value, sharers := (Ae l m.line).sharers, owner := -1 })).cells u) :: blk b5 42 m.cells :: L) ?_
       refine jd_ (fun ρ S => blk b8 58 ((A7 ({ (Ae l m.line) with value := m.value, sharers := (Ae l m.line).sharers, owner := -1 })).cells u) :: blk b5 42 m.cells :: L) ?_
       refine dn4 ?_
       refine Bn (γ := Value) (val := fun v => v) (F := fun v => [sl v (l.set m.line.toNat (A7 ({ (Ae l m.line) with value := m.value, sharers := (Ae l m.line).sharers, owner := -1 })))]) Try.call69 (fun _ => rfl) (fun ρ L R w hd hs => Bm (e := A7 ({ (Ae l m.line) with value := m.value, sharers := (Ae l m.line).sharers, owner := -1 })) (u := u) hs (hd.base mm) (by rw [En]; exact hd.base mm) (Dm hX).1 (by omega)) (fun _ _ _ _ _ => rfl) ?_
       refine dn4 ?_
       refine Bn (γ := Value) (val := fun v => v) (F := fun v => [sl v (says (A7 ({ (Ae l m.line) with value := m.value, sharers := (Ae l m.line).sharers, owner := -1 })) m.line id)]) Try.call34 (fun _ => rfl) (fun ρ L R w hd hs => Gq (e := A7 ({ (Ae l m.line) with value := m.value, sharers := (Ae l m.line).sharers, owner := -1 })) (u := u) hs (Dm hX) (by assumption) hm.2.2.2.1 hid) (fun _ _ _ _ _ => rfl) ?_
       refine e_p (v := fun ρ => (Gh.dec (γ := Value) (ρ 4))) (fun _ _ => Db) (Ind.gh (h := fun g => ((Gh.dec (γ := Value) g) : Value)) 4 0 rfl) (fun _ _ _ _ _ => rfl) ?_
       refine e_p (v := fun ρ => (Gh.dec (γ := Value) (ρ 9))) (fun _ _ => Db) (Ind.gh (h := fun g => ((Gh.dec (γ := Value) g) : Value)) 9 0 rfl) (fun _ _ _ _ _ => rfl) ?_
       refine dnl ?_; intro ρ
       refine xq_ (blk b8 58 ((A7 ({ (Ae l m.line) with value := m.value, sharers := (Ae l m.line).sharers, owner := -1 })).cells u) :: blk b5 42 m.cells :: L) ?_
       generalize (Gh.dec (γ := Value) (ρ 4)) = v287
       generalize (Gh.dec (γ := Value) (ρ 9)) = v292
       refine Gl ?_
       rw [er]
       exact Df (v287, v292)
     ·
      intro ht164
      refine Gd7 ?_
      refine rn3 ?_
      refine sc ?_
      refine rn1 ?_
      refine sc ?_
      refine Gm ?_
      refine rn1 ?_
      skip
      have hX : EB ({ (Ae l m.line) with value := m.value, sharers := (Ae l m.line).sharers, owner := -1 }) := by unfold EB Entry.wf Am; simp only; omega
      refine Aq Try.call68 rfl (fun w hs => Hn (e := { (Ae l m.line) with value := m.value, sharers := (Ae l m.line).sharers, owner := -1 }) (u := u) hs hX (by assumption)) ?_; intro _
      refine s_B (cs := (A7 ({ (Ae l m.line) with value := m.value, sharers := (Ae l m.line).sharers, owner := -1 })).cells u) Try.sizeOf58 ?_
      refine Gl ?_
      have ed : (if (Ae l m.line).alone then (Ae l m.line).sharers else Ht (Ae l m.line).sharers (Ae l m.line).owner) = (Ae l m.line).sharers := by
       obtain ⟨b1, b2, _⟩ := Cr hE0.2.1.1 hE0.2.1.2 (show 0 ≤ (Ae l m.line).owner by omega) hE0.2.2.2.2.1.2
       rw [if_pos (by simpa using ht164)]
      have er : Ao l id m = (l.set m.line.toNat (A7 ({ (Ae l m.line) with value := m.value, sharers := (Ae l m.line).sharers, owner := -1 })), says (A7 ({ (Ae l m.line) with value := m.value, sharers := (Ae l m.line).sharers, owner := -1 })) m.line id) := Dz (by omega) (by unfold Bf; rw [if_neg (by omega), if_neg (by omega), if_pos (by omega)]; unfold Gy; rw [ed])
      refine cq_ (blk b8 58 ((A7 ({ (Ae l m.line) with value := m.value, sharers := (Ae l m.line).sharers, owner := -1 })).cells u) :: blk b5 42 m.cells :: L) ?_
      refine jd_ (fun ρ S => blk b8 58 ((A7 ({ (Ae l m.line) with value := m.value, sharers := (Ae l m.line).sharers, owner := -1 })).cells u) :: blk b5 42 m.cells :: L) ?_
      refine dn4 ?_
      refine Bn (γ := Value) (val := fun v => v) (F := fun v => [sl v (l.set m.line.toNat (A7 ({ (Ae l m.line) with value := m.value, sharers := (Ae l m.line).sharers, owner := -1 })))]) Try.call69 (fun _ => rfl) (fun ρ L R w hd hs => Bm (e := A7 ({ (Ae l m.line) with value := m.value, sharers := (Ae l m.line).sharers, owner := -1 })) (u := u) hs (hd.base mm) (by rw [En]; exact hd.base mm) (Dm hX).1 (by omega)) (fun _ _ _ _ _ => rfl) ?_
      refine dn4 ?_
      refine Bn (γ := Value) (val := fun v => v) (F := fun v => [sl v (says (A7 ({ (Ae l m.line) with value := m.value, sharers := (Ae l m.line).sharers, owner := -1 })) m.line id)]) Try.call34 (fun _ => rfl) (fun ρ L R w hd hs => Gq (e := A7 ({ (Ae l m.line) with value := m.value, sharers := (Ae l m.line).sharers, owner := -1 })) (u := u) hs (Dm hX) (by assumption) hm.2.2.2.1 hid) (fun _ _ _ _ _ => rfl) ?_
      refine e_p (v := fun ρ => (Gh.dec (γ := Value) (ρ 4))) (fun _ _ => Db) (Ind.gh (h := fun g => ((Gh.dec (γ := Value) g) : Value)) 4 0 rfl) (fun _ _ _ _ _ => rfl) ?_
      refine e_p (v := fun ρ => (Gh.dec (γ := Value) (ρ 9))) (fun _ _ => Db) (Ind.gh (h := fun g => ((Gh.dec (γ := Value) g) : Value)) 9 0 rfl) (fun _ _ _ _ _ => rfl) ?_
      refine dnl ?_; intro ρ
      refine xq_ (blk b8 58 ((A7 ({ (Ae l m.line) with value := m.value, sharers := (Ae l m.line).sharers, owner := -1 })).cells u) :: blk b5 42 m.cells :: L) ?_
      generalize (Gh.dec (γ := Value) (ρ 4)) = v287
      generalize (Gh.dec (γ := Value) (ρ 9)) = v292
      refine Gl ?_
      rw [er]
      exact Df (v287, v292)
end Go.Proofs.Ytofgpimoekhfaaa

/- This file proves what the home hears, by the document's answer: some kinds of messages. No conditions. -/
set_option linter.unusedVariables false
set_option linter.unusedSimpArgs false
set_option maxHeartbeats 1000000
set_option maxRecDepth 8000
namespace Go.Proofs.Ytofgpimoekhfaaa
open Go
theorem Mp {L : List Chunk} {R : List Fact} {w : World} {v0 : Value} {l : List Entry} {id : Int} {m : Msg} (hs : St (L) R w) (h0 : sl v0 l ∈ R) (hb : ∀ i, i < l.length → EB (l.getD i Bc)) (hla : ∀ i, i < l.length → (l.getD i Bc).last.length ≤ 4) (hm : m.wf) (hid : Am id) (hk : 0 ≤ m.line ∧ m.line < (l.length : Int) ∧ 0 ≤ m.src ∧ m.src < ((Ae l m.line).last.length : Int) ∧ m.kind = 8) : Calls Try.prog 30 [v0, vi id, .agg m.cells.toArray].toArray w (Ch (fun v : Value × Value => .tuple #[v.1, v.2]) (fun v => L) (fun v => sl v.1 (Ao l id m).1 :: sl v.2 (Ao l id m).2 :: R)) := by
  have hlen := Bk h0 hs
  have hm0 := hm
  unfold Msg.wf Am at hm0
  have hid0 := hid
  unfold Am at hid0
  refine Aj Try.func30 rfl Try.ntmps30 rfl hs ?_
  clear hs
  refine Gm ?_
  refine bx ?_; intro b5
  refine Ga2 ?_
  refine Gt (v := v0) m.line mm (by omega) (by omega) (fun hEw u => ?_)
  have hE : EB (Ae l m.line) := hb m.line.toNat (by omega)
  have hE0 := hE
  unfold EB Entry.wf Am at hE0
  have hL : (Ae l m.line).last.length ≤ 4 := hla m.line.toNat (by omega)
  refine JC.know (p := u.oneCell' = true) (fun w hs => isSlice.one (hs.fact (.tail _ (.head _)))) (fun hone => ?_)
  refine JC.know (p := ∀ x ∈ (Ae l m.line).last, Am x) (fun w hs => Gx (.tail _ (.head _)) hs) (fun hlin => ?_)
  refine Dv ?_
  refine dn2 ?_
  refine djc (fun _ _ => Af rfl rfl (An (by omega))) ?_
  refine djc (fun _ _ => Cx) ?_
  refine dn4 ?_
  refine dj (dgy ?_)
  refine dc (fun _ _ => Af rfl rfl (A4 (by omega))) ?_
  refine djc (fun _ _ => Em) ?_
  refine djc (fun _ _ => Cx) ?_
  refine dn2 ?_
  refine dj (dgy ?_)
  refine dc (fun _ _ => Af rfl rfl (An (by omega))) ?_
  refine djc (fun _ _ => Em) ?_
  refine djc (fun _ _ => Cx) ?_
  refine dn9 ?_
  refine dj (dgy ?_)
  refine dc (fun _ _ => Af rfl rfl (A4 (show ¬ ((Ae l m.line).last.length : Int) ≤ m.src by omega))) ?_
  refine djc (fun _ _ => Em) ?_
  refine dnl ?_; intro ρ
  refine Gmc ?_
  refine rn5 ?_
  refine al_ (cs := zEC) Try.zeroValue58 ?_; intro b8
  refine s_B (cs := Entry.cells u (Ae l m.line)) Try.sizeOf58 ?_
  refine Gl ?_
  refine kp [0, 1, 5, 6, 7, 8, 9, 43, 44, 45, 46] ?_
  refine Aa ?_
  refine liO ([] : List Int) D9 rfl (fun j h => Fw) ?_; intro v43
  refine rn2 ?_
  refine ap D9 (hb := fun w hs => by have : maxN = 16777216 := rfl; simp only [List.length_nil]; omega) (k := ?_); intro v46
  refine Gb1 ?_
  refine Gb2 ?_
  refine ob (Af rfl rfl (Ak (by omega))) ?_
  refine Gd1 ?_
  refine ob (Af rfl rfl (Ak (by omega))) ?_
  refine Gd1 ?_
  refine ob (Af rfl rfl (Ak (by omega))) ?_
  refine Gd1 ?_
  refine ob (Af rfl rfl (Ak (by omega))) ?_
  refine Gd1 ?_
  refine ob (Af rfl rfl (As (by omega))) ?_
  refine Gd1 ?_
  refine rn4 ?_
  refine jgx (t := 190) (p := ?p1) (hd := ?d1) ?e1 ?_ ?_; case e1 => exact rfl
  ·
   intro ht190
   refine Gc14 ?_
   refine kp [0, 1, 5, 6, 7, 8, 48, 205] ?_
   refine Aa ?_
   refine Ga3 ?_
   have er : Ao l id m = (l, []) := Cj (by omega) (by unfold Bf; rw [if_neg (by omega), if_neg (by omega), if_neg (by omega), if_neg (by first | omega | (intro h; have h4 := h.2.2.2; unfold Rl at h4; rw [hhas] at h4; rw [h4] at ht204; exact absurd ht204 (by decide))), if_neg (by omega)])
   rw [er]
   exact Df (v0, .slice none 0 0) (hs := fun w hs => Al (St.shut (hs.rowNil 42 Msg)))
  ·
   intro ht190
   refine rn7 ?_
   refine jgx (t := 197) (p := ?p2) (hd := ?d2) ?e2 ?_ ?_; case e2 => exact rfl
   ·
    intro ht197
    refine Gc7 ?_
    refine kp [0, 1, 5, 6, 7, 8, 48, 205] ?_
    refine Aa ?_
    refine Ga3 ?_
    have er : Ao l id m = (l, []) := Cj (by omega) (by unfold Bf; rw [if_neg (by omega), if_neg (by omega), if_neg (by omega), if_neg (by first | omega | (intro h; have h4 := h.2.2.2; unfold Rl at h4; rw [hhas] at h4; rw [h4] at ht204; exact absurd ht204 (by decide))), if_neg (by omega)])
    rw [er]
    exact Df (v0, .slice none 0 0) (hs := fun w hs => Al (St.shut (hs.rowNil 42 Msg)))
   ·
    intro ht197
    refine rn4 ?_
    refine gy ?_
    generalize hhas : (Ae l m.line).need.toNat.testBit m.src.toNat = bh
    refine Aq (val := fun _ => .bool bh) Try.call70 rfl (fun w hs => by have h := Kz (z := (Ae l m.line).need.toNat) (k := m.src.toNat) hs (by omega) (by omega); rw [Int.toNat_of_nonneg (by omega), Int.toNat_of_nonneg (by omega), hhas] at h; exact h) ?_; intro _
    refine Ga2 ?_
    refine Bp (b := ?b3) ?e3 ?_ ?_; case e3 => exact rfl
    ·
     intro ht204
     refine Gl ?_
     refine kp [0, 1, 5, 6, 7, 8, 48, 205] ?_
     refine Aa ?_
     refine Ga3 ?_
     have er : Ao l id m = (l, []) := Cj (by omega) (by unfold Bf; rw [if_neg (by omega), if_neg (by omega), if_neg (by omega), if_neg (by first | omega | (intro h; have h4 := h.2.2.2; unfold Rl at h4; rw [hhas] at h4; rw [h4] at ht204; exact absurd ht204 (by decide))), if_neg (by omega)])
     rw [er]
     exact Df (v0, .slice none 0 0) (hs := fun w hs => Al (St.shut (hs.rowNil 42 Msg)))
    ·
     intro ht204
     refine Gl ?_
     have hp2 : ((2 ^ m.src.toNat : Nat) : Int) ≤ 8 := Int.ofNat_le.2 (Nat.pow_le_pow_right (n := 2) (by decide) (show m.src.toNat ≤ 3 by omega))
     have hp0 : (0 : Int) ≤ ((2 ^ m.src.toNat : Nat) : Int) := Int.natCast_nonneg _
     refine kp [0, 1, 5, 6, 7, 8, 48, 206, 207, 208, 209, 210, 211, 212] ?_
     refine cq_ (blk b8 58 [vi (Ae l m.line).value, vi (Ae l m.line).owner, vi (Ae l m.line).sharers, vi (Ae l m.line).phase, vi (Ae l m.line).who, vi (Ae l m.line).serial, .bool (Ae l m.line).alone, vi (Ae l m.line).turn, vi (Ae l m.line).need, u] :: blk b5 42 m.cells :: L) ?_
     refine jd_ (fun ρ S => blk b8 58 [vi (Ae l m.line).value, vi (Ae l m.line).owner, vi (Ae l m.line).sharers, vi (Ae l m.line).phase, vi (Ae l m.line).who, vi (Ae l m.line).serial, .bool (Ae l m.line).alone, vi (Ae l m.line).turn, vi (Ae l m.line).need, u] :: blk b5 42 m.cells :: L) ?_
     refine dn4 ?_
     refine Bn (γ := Unit) (val := fun _ => vi ((2 ^ m.src.toNat : Nat) : Int)) (F := fun _ => []) Try.call71 (fun _ => rfl) (fun ρ L R w hd hs => by have h := J0 (k := m.src.toNat) hs (by omega); rw [Int.toNat_of_nonneg (by omega)] at h; exact h) (fun _ _ _ _ _ => rfl) ?_
     first | refine epc (fun _ _ => Mv) ?_ | refine epp (fun _ _ => Mv) ?_
     refine dtl ?_; intro ρ
     refine J.conseq (L' := blk b8 58 [vi (Ae l m.line).value, vi (Ae l m.line).owner, vi (Ae l m.line).sharers, vi (Ae l m.line).phase, vi (Ae l m.line).who, vi (Ae l m.line).serial, .bool (Ae l m.line).alone, vi (Ae l m.line).turn, vi (Ae l m.line).need, u] :: blk b5 42 m.cells :: L) (fun w hs => hs) ?_
     refine rn1 ?_
     refine sc ?_
     refine Gm ?_
     refine rn4 ?_
     generalize hhasS : (Ae l m.line).sharers.toNat.testBit m.src.toNat = bhS
     refine Aq (val := fun _ => .bool bhS) Try.call70 rfl (fun w hs => by have h := Kz (z := (Ae l m.line).sharers.toNat) (k := m.src.toNat) hs (by omega) (by omega); rw [Int.toNat_of_nonneg (by omega), Int.toNat_of_nonneg (by omega), hhasS] at h; exact h) ?_; intro _
     refine Gl ?_
     refine Bp (b := ?b4) ?e4 ?_ ?_; case e4 => exact rfl
     ·
      intro ht217
      refine cq_ (blk b8 58 [vi (Ae l m.line).value, vi (Ae l m.line).owner, vi (Ae l m.line).sharers, vi (Ae l m.line).phase, vi (Ae l m.line).who, vi (Ae l m.line).serial, .bool (Ae l m.line).alone, vi (Ae l m.line).turn, vi ((Ae l m.line).need - ((2 ^ m.src.toNat : Nat) : Int)), u] :: blk b5 42 m.cells :: L) ?_
      refine jd_ (fun ρ S => blk b8 58 [vi (Ae l m.line).value, vi (Ae l m.line).owner, vi (Ae l m.line).sharers, vi (Ae l m.line).phase, vi (Ae l m.line).who, vi (Ae l m.line).serial, .bool (Ae l m.line).alone, vi (Ae l m.line).turn, vi ((Ae l m.line).need - ((2 ^ m.src.toNat : Nat) : Int)), u] :: blk b5 42 m.cells :: L) ?_
      refine dn4 ?_
      refine Bn (γ := Unit) (val := fun _ => vi ((2 ^ m.src.toNat : Nat) : Int)) (F := fun _ => []) Try.call71 (fun _ => rfl) (fun ρ L R w hd hs => by have h := J0 (k := m.src.toNat) hs (by omega); rw [Int.toNat_of_nonneg (by omega)] at h; exact h) (fun _ _ _ _ _ => rfl) ?_
      first | refine epc (fun _ _ => Mv) ?_ | refine epp (fun _ _ => Mv) ?_
      refine dtl ?_; intro ρ
      refine J.conseq (L' := blk b8 58 [vi (Ae l m.line).value, vi (Ae l m.line).owner, vi (Ae l m.line).sharers, vi (Ae l m.line).phase, vi (Ae l m.line).who, vi (Ae l m.line).serial, .bool (Ae l m.line).alone, vi (Ae l m.line).turn, vi ((Ae l m.line).need - ((2 ^ m.src.toNat : Nat) : Int)), u] :: blk b5 42 m.cells :: L) (fun w hs => hs) ?_
      refine rn1 ?_
      refine sc ?_
      refine Gm ?_
      refine Ga3 ?_
      refine cdx (p := ?p5) (hd := ?d5) ?e5 ?_ ?_; case e5 => exact rfl
      ·
       intro ht227
       refine Gl ?_
       have hh : (Ae l m.line).need.toNat.testBit m.src.toNat = true := by rw [hhas]; simpa using ht204
       have hhS : (Ae l m.line).sharers.toNat.testBit m.src.toNat = true := by rw [hhasS]; exact ht217
       have eg : C6 (Ae l m.line) m = { (Ae l m.line) with need := ((Ae l m.line).need - ((2 ^ m.src.toNat : Nat) : Int)), sharers := ((Ae l m.line).sharers - ((2 ^ m.src.toNat : Nat) : Int)) } := by
        obtain ⟨b1, b2, _⟩ := Cr hE0.2.1.1 hE0.2.1.2 (show 0 ≤ m.src by omega) (show m.src < 4 by omega)
        obtain ⟨c1, _⟩ := Cr hE0.2.2.1.1 hE0.2.2.1.2 (show 0 ≤ m.src by omega) (show m.src < 4 by omega)
        unfold C6
        rw [(c1 hh).2, (b1 hhS).2]
       refine JC.slNil Msg ?_
       have er : Ao l id m = (l.set m.line.toNat ({ (Ae l m.line) with need := ((Ae l m.line).need - ((2 ^ m.src.toNat : Nat) : Int)), sharers := ((Ae l m.line).sharers - ((2 ^ m.src.toNat : Nat) : Int)) }), []) := Dz (by omega) (by unfold Bf; rw [if_neg (by omega), if_neg (by omega), if_neg (by omega), if_pos ⟨by omega, by omega, by omega, hh⟩, eg, if_neg (by simp only; omega)])
       refine Aa ?_
       refine rn4 ?_
       refine Aq Try.call69 rfl (fun w hs => Bm (e := { (Ae l m.line) with need := ((Ae l m.line).need - ((2 ^ m.src.toNat : Nat) : Int)), sharers := ((Ae l m.line).sharers - ((2 ^ m.src.toNat : Nat) : Int)) }) (u := u) hs mm mm (by unfold Entry.wf Am; simp only; omega) (by omega)) ?_; intro v232
       refine Ga2 ?_
       rw [er]
       exact Df (v232, .slice none 0 0)
      ·
       intro ht227
       refine Gm ?_
       refine rn1 ?_
       have hp3 := L7 hE0.2.2.1.1 hE0.2.2.1.2 (show 0 ≤ m.src by omega) (show m.src < 4 by omega) (by rw [hhas]; simpa using ht204)
       have hp4 := L7 hE0.2.1.1 hE0.2.1.2 (show 0 ≤ m.src by omega) (show m.src < 4 by omega) (by rw [hhasS]; exact ht217)
       have hX : EB ({ (Ae l m.line) with need := ((Ae l m.line).need - ((2 ^ m.src.toNat : Nat) : Int)), sharers := ((Ae l m.line).sharers - ((2 ^ m.src.toNat : Nat) : Int)) }) := by unfold EB Entry.wf Am; simp only; omega
       refine Aq Try.call68 rfl (fun w hs => Hn (e := { (Ae l m.line) with need := ((Ae l m.line).need - ((2 ^ m.src.toNat : Nat) : Int)), sharers := ((Ae l m.line).sharers - ((2 ^ m.src.toNat : Nat) : Int)) }) (u := u) hs hX (by assumption)) ?_; intro _
       refine s_B (cs := (A7 ({ (Ae l m.line) with need := ((Ae l m.line).need - ((2 ^ m.src.toNat : Nat) : Int)), sharers := ((Ae l m.line).sharers - ((2 ^ m.src.toNat : Nat) : Int)) })).cells u) Try.sizeOf58 ?_
       refine Gl ?_
       have hh : (Ae l m.line).need.toNat.testBit m.src.toNat = true := by rw [hhas]; simpa using ht204
       have hhS : (Ae l m.line).sharers.toNat.testBit m.src.toNat = true := by rw [hhasS]; exact ht217
       have eg : C6 (Ae l m.line) m = { (Ae l m.line) with need := ((Ae l m.line).need - ((2 ^ m.src.toNat : Nat) : Int)), sharers := ((Ae l m.line).sharers - ((2 ^ m.src.toNat : Nat) : Int)) } := by
        obtain ⟨b1, b2, _⟩ := Cr hE0.2.1.1 hE0.2.1.2 (show 0 ≤ m.src by omega) (show m.src < 4 by omega)
        obtain ⟨c1, _⟩ := Cr hE0.2.2.1.1 hE0.2.2.1.2 (show 0 ≤ m.src by omega) (show m.src < 4 by omega)
        unfold C6
        rw [(c1 hh).2, (b1 hhS).2]
       have er : Ao l id m = (l.set m.line.toNat (A7 ({ (Ae l m.line) with need := ((Ae l m.line).need - ((2 ^ m.src.toNat : Nat) : Int)), sharers := ((Ae l m.line).sharers - ((2 ^ m.src.toNat : Nat) : Int)) })), says (A7 ({ (Ae l m.line) with need := ((Ae l m.line).need - ((2 ^ m.src.toNat : Nat) : Int)), sharers := ((Ae l m.line).sharers - ((2 ^ m.src.toNat : Nat) : Int)) })) m.line id) := Dz (by omega) (by unfold Bf; rw [if_neg (by omega), if_neg (by omega), if_neg (by omega), if_pos ⟨by omega, by omega, by omega, hh⟩, eg, if_pos (by simp only; omega)])
       refine cq_ (blk b8 58 ((A7 ({ (Ae l m.line) with need := ((Ae l m.line).need - ((2 ^ m.src.toNat : Nat) : Int)), sharers := ((Ae l m.line).sharers - ((2 ^ m.src.toNat : Nat) : Int)) })).cells u) :: blk b5 42 m.cells :: L) ?_
       refine jd_ (fun ρ S => blk b8 58 ((A7 ({ (Ae l m.line) with need := ((Ae l m.line).need - ((2 ^ m.src.toNat : Nat) : Int)), sharers := ((Ae l m.line).sharers - ((2 ^ m.src.toNat : Nat) : Int)) })).cells u) :: blk b5 42 m.cells :: L) ?_
       refine dn4 ?_
       refine Bn (γ := Value) (val := fun v => v) (F := fun v => [sl v (l.set m.line.toNat (A7 ({ (Ae l m.line) with need := ((Ae l m.line).need - ((2 ^ m.src.toNat : Nat) : Int)), sharers := ((Ae l m.line).sharers - ((2 ^ m.src.toNat : Nat) : Int)) })))]) Try.call69 (fun _ => rfl) (fun ρ L R w hd hs => Bm (e := A7 ({ (Ae l m.line) with need := ((Ae l m.line).need - ((2 ^ m.src.toNat : Nat) : Int)), sharers := ((Ae l m.line).sharers - ((2 ^ m.src.toNat : Nat) : Int)) })) (u := u) hs (hd.base mm) (by rw [En]; exact hd.base mm) (Dm hX).1 (by omega)) (fun _ _ _ _ _ => rfl) ?_
       refine dn4 ?_
       refine Bn (γ := Value) (val := fun v => v) (F := fun v => [sl v (says (A7 ({ (Ae l m.line) with need := ((Ae l m.line).need - ((2 ^ m.src.toNat : Nat) : Int)), sharers := ((Ae l m.line).sharers - ((2 ^ m.src.toNat : Nat) : Int)) })) m.line id)]) Try.call34 (fun _ => rfl) (fun ρ L R w hd hs => Gq (e := A7 ({ (Ae l m.line) with need := ((Ae l m.line).need - ((2 ^ m.src.toNat : Nat) : Int)), sharers := ((Ae l m.line).sharers - ((2 ^ m.src.toNat : Nat) : Int)) })) (u := u) hs (Dm hX) (by assumption) hm.2.2.2.1 hid) (fun _ _ _ _ _ => rfl) ?_
       refine e_p (v := fun ρ => (Gh.dec (γ := Value) (ρ 4))) (fun _ _ => Db) (Ind.gh (h := fun g => ((Gh.dec (γ := Value) g) : Value)) 4 0 rfl) (fun _ _ _ _ _ => rfl) ?_
       refine e_p (v := fun ρ => (Gh.dec (γ := Value) (ρ 9))) (fun _ _ => Db) (Ind.gh (h := fun g => ((Gh.dec (γ := Value) g) : Value)) 9 0 rfl) (fun _ _ _ _ _ => rfl) ?_
       refine dnl ?_; intro ρ
       refine xq_ (blk b8 58 ((A7 ({ (Ae l m.line) with need := ((Ae l m.line).need - ((2 ^ m.src.toNat : Nat) : Int)), sharers := ((Ae l m.line).sharers - ((2 ^ m.src.toNat : Nat) : Int)) })).cells u) :: blk b5 42 m.cells :: L) ?_
       generalize (Gh.dec (γ := Value) (ρ 4)) = v287
       generalize (Gh.dec (γ := Value) (ρ 9)) = v292
       refine Gl ?_
       rw [er]
       exact Df (v287, v292)
     ·
      intro ht217
      refine Gm ?_
      refine Ga3 ?_
      refine cdx (p := ?p6) (hd := ?d6) ?e6 ?_ ?_; case e6 => exact rfl
      ·
       intro ht227
       refine Gl ?_
       have hh : (Ae l m.line).need.toNat.testBit m.src.toNat = true := by rw [hhas]; simpa using ht204
       have hhS : (Ae l m.line).sharers.toNat.testBit m.src.toNat = false := by rw [hhasS]; simpa using ht217
       have eg : C6 (Ae l m.line) m = { (Ae l m.line) with need := ((Ae l m.line).need - ((2 ^ m.src.toNat : Nat) : Int)), sharers := (Ae l m.line).sharers } := by
        obtain ⟨b1, b2, _⟩ := Cr hE0.2.1.1 hE0.2.1.2 (show 0 ≤ m.src by omega) (show m.src < 4 by omega)
        obtain ⟨c1, _⟩ := Cr hE0.2.2.1.1 hE0.2.2.1.2 (show 0 ≤ m.src by omega) (show m.src < 4 by omega)
        unfold C6
        rw [(c1 hh).2, (b2 hhS).2]
       refine JC.slNil Msg ?_
       have er : Ao l id m = (l.set m.line.toNat ({ (Ae l m.line) with need := ((Ae l m.line).need - ((2 ^ m.src.toNat : Nat) : Int)), sharers := (Ae l m.line).sharers }), []) := Dz (by omega) (by unfold Bf; rw [if_neg (by omega), if_neg (by omega), if_neg (by omega), if_pos ⟨by omega, by omega, by omega, hh⟩, eg, if_neg (by simp only; omega)])
       refine Aa ?_
       refine rn4 ?_
       refine Aq Try.call69 rfl (fun w hs => Bm (e := { (Ae l m.line) with need := ((Ae l m.line).need - ((2 ^ m.src.toNat : Nat) : Int)), sharers := (Ae l m.line).sharers }) (u := u) hs mm mm (by unfold Entry.wf Am; simp only; omega) (by omega)) ?_; intro v232
       refine Ga2 ?_
       rw [er]
       exact Df (v232, .slice none 0 0)
      ·
       intro ht227
       refine Gm ?_
       refine rn1 ?_
       have hp3 := L7 hE0.2.2.1.1 hE0.2.2.1.2 (show 0 ≤ m.src by omega) (show m.src < 4 by omega) (by rw [hhas]; simpa using ht204)
       have hX : EB ({ (Ae l m.line) with need := ((Ae l m.line).need - ((2 ^ m.src.toNat : Nat) : Int)), sharers := (Ae l m.line).sharers }) := by unfold EB Entry.wf Am; simp only; omega
       refine Aq Try.call68 rfl (fun w hs => Hn (e := { (Ae l m.line) with need := ((Ae l m.line).need - ((2 ^ m.src.toNat : Nat) : Int)), sharers := (Ae l m.line).sharers }) (u := u) hs hX (by assumption)) ?_; intro _
       refine s_B (cs := (A7 ({ (Ae l m.line) with need := ((Ae l m.line).need - ((2 ^ m.src.toNat : Nat) : Int)), sharers := (Ae l m.line).sharers })).cells u) Try.sizeOf58 ?_
       refine Gl ?_
       have hh : (Ae l m.line).need.toNat.testBit m.src.toNat = true := by rw [hhas]; simpa using ht204
       have hhS : (Ae l m.line).sharers.toNat.testBit m.src.toNat = false := by rw [hhasS]; simpa using ht217
       have eg : C6 (Ae l m.line) m = { (Ae l m.line) with need := ((Ae l m.line).need - ((2 ^ m.src.toNat : Nat) : Int)), sharers := (Ae l m.line).sharers } := by
        obtain ⟨b1, b2, _⟩ := Cr hE0.2.1.1 hE0.2.1.2 (show 0 ≤ m.src by omega) (show m.src < 4 by omega)
        obtain ⟨c1, _⟩ := Cr hE0.2.2.1.1 hE0.2.2.1.2 (show 0 ≤ m.src by omega) (show m.src < 4 by omega)
        unfold C6
        rw [(c1 hh).2, (b2 hhS).2]
       have er : Ao l id m = (l.set m.line.toNat (A7 ({ (Ae l m.line) with need := ((Ae l m.line).need - ((2 ^ m.src.toNat : Nat) : Int)), sharers := (Ae l m.line).sharers })), says (A7 ({ (Ae l m.line) with need := ((Ae l m.line).need - ((2 ^ m.src.toNat : Nat) : Int)), sharers := (Ae l m.line).sharers })) m.line id) := Dz (by omega) (by unfold Bf; rw [if_neg (by omega), if_neg (by omega), if_neg (by omega), if_pos ⟨by omega, by omega, by omega, hh⟩, eg, if_pos (by simp only; omega)])
       refine cq_ (blk b8 58 ((A7 ({ (Ae l m.line) with need := ((Ae l m.line).need - ((2 ^ m.src.toNat : Nat) : Int)), sharers := (Ae l m.line).sharers })).cells u) :: blk b5 42 m.cells :: L) ?_
       refine jd_ (fun ρ S => blk b8 58 ((A7 ({ (Ae l m.line) with need := ((Ae l m.line).need - ((2 ^ m.src.toNat : Nat) : Int)), sharers := (Ae l m.line).sharers })).cells u) :: blk b5 42 m.cells :: L) ?_
       refine dn4 ?_
       refine Bn (γ := Value) (val := fun v => v) (F := fun v => [sl v (l.set m.line.toNat (A7 ({ (Ae l m.line) with need := ((Ae l m.line).need - ((2 ^ m.src.toNat : Nat) : Int)), sharers := (Ae l m.line).sharers })))]) Try.call69 (fun _ => rfl) (fun ρ L R w hd hs => Bm (e := A7 ({ (Ae l m.line) with need := ((Ae l m.line).need - ((2 ^ m.src.toNat : Nat) : Int)), sharers := (Ae l m.line).sharers })) (u := u) hs (hd.base mm) (by rw [En]; exact hd.base mm) (Dm hX).1 (by omega)) (fun _ _ _ _ _ => rfl) ?_
       refine dn4 ?_
       refine Bn (γ := Value) (val := fun v => v) (F := fun v => [sl v (says (A7 ({ (Ae l m.line) with need := ((Ae l m.line).need - ((2 ^ m.src.toNat : Nat) : Int)), sharers := (Ae l m.line).sharers })) m.line id)]) Try.call34 (fun _ => rfl) (fun ρ L R w hd hs => Gq (e := A7 ({ (Ae l m.line) with need := ((Ae l m.line).need - ((2 ^ m.src.toNat : Nat) : Int)), sharers := (Ae l m.line).sharers })) (u := u) hs (Dm hX) (by assumption) hm.2.2.2.1 hid) (fun _ _ _ _ _ => rfl) ?_
       refine e_p (v := fun ρ => (Gh.dec (γ := Value) (ρ 4))) (fun _ _ => Db) (Ind.gh (h := fun g => ((Gh.dec (γ := Value) g) : Value)) 4 0 rfl) (fun _ _ _ _ _ => rfl) ?_
       refine e_p (v := fun ρ => (Gh.dec (γ := Value) (ρ 9))) (fun _ _ => Db) (Ind.gh (h := fun g => ((Gh.dec (γ := Value) g) : Value)) 9 0 rfl) (fun _ _ _ _ _ => rfl) ?_
       refine dnl ?_; intro ρ
       refine xq_ (blk b8 58 ((A7 ({ (Ae l m.line) with need := ((Ae l m.line).need - ((2 ^ m.src.toNat : Nat) : Int)), sharers := (Ae l m.line).sharers })).cells u) :: blk b5 42 m.cells :: L) ?_
       generalize (Gh.dec (γ := Value) (ρ 4)) = v287
       generalize (Gh.dec (γ := Value) (ρ 9)) = v292
       refine Gl ?_
       rw [er]
       exact Df (v287, v292)
end Go.Proofs.Ytofgpimoekhfaaa

/- This file proves what the home hears, by the document's answer: some kinds of messages. No conditions. -/
set_option linter.unusedVariables false
set_option linter.unusedSimpArgs false
set_option maxHeartbeats 1000000
set_option maxRecDepth 8000
namespace Go.Proofs.Ytofgpimoekhfaaa
open Go
theorem Lh {L : List Chunk} {R : List Fact} {w : World} {v0 : Value} {l : List Entry} {id : Int} {m : Msg} (hs : St (L) R w) (h0 : sl v0 l ∈ R) (hb : ∀ i, i < l.length → EB (l.getD i Bc)) (hla : ∀ i, i < l.length → (l.getD i Bc).last.length ≤ 4) (hm : m.wf) (hid : Am id) (hk : 0 ≤ m.line ∧ m.line < (l.length : Int) ∧ 0 ≤ m.src ∧ m.src < ((Ae l m.line).last.length : Int) ∧ m.kind = 10) : Calls Try.prog 30 [v0, vi id, .agg m.cells.toArray].toArray w (Ch (fun v : Value × Value => .tuple #[v.1, v.2]) (fun v => L) (fun v => sl v.1 (Ao l id m).1 :: sl v.2 (Ao l id m).2 :: R)) := by
  have hlen := Bk h0 hs
  have hm0 := hm
  unfold Msg.wf Am at hm0
  have hid0 := hid
  unfold Am at hid0
  refine Aj Try.func30 rfl Try.ntmps30 rfl hs ?_
  clear hs
  refine Gm ?_
  refine bx ?_; intro b5
  refine Ga2 ?_
  refine Gt (v := v0) m.line mm (by omega) (by omega) (fun hEw u => ?_)
  have hE : EB (Ae l m.line) := hb m.line.toNat (by omega)
  have hE0 := hE
  unfold EB Entry.wf Am at hE0
  have hL : (Ae l m.line).last.length ≤ 4 := hla m.line.toNat (by omega)
  refine JC.know (p := u.oneCell' = true) (fun w hs => isSlice.one (hs.fact (.tail _ (.head _)))) (fun hone => ?_)
  refine JC.know (p := ∀ x ∈ (Ae l m.line).last, Am x) (fun w hs => Gx (.tail _ (.head _)) hs) (fun hlin => ?_)
  refine Dv ?_
  refine dn2 ?_
  refine djc (fun _ _ => Af rfl rfl (An (by omega))) ?_
  refine djc (fun _ _ => Cx) ?_
  refine dn4 ?_
  refine dj (dgy ?_)
  refine dc (fun _ _ => Af rfl rfl (A4 (by omega))) ?_
  refine djc (fun _ _ => Em) ?_
  refine djc (fun _ _ => Cx) ?_
  refine dn2 ?_
  refine dj (dgy ?_)
  refine dc (fun _ _ => Af rfl rfl (An (by omega))) ?_
  refine djc (fun _ _ => Em) ?_
  refine djc (fun _ _ => Cx) ?_
  refine dn9 ?_
  refine dj (dgy ?_)
  refine dc (fun _ _ => Af rfl rfl (A4 (show ¬ ((Ae l m.line).last.length : Int) ≤ m.src by omega))) ?_
  refine djc (fun _ _ => Em) ?_
  refine dnl ?_; intro ρ
  refine Gmc ?_
  refine rn5 ?_
  refine al_ (cs := zEC) Try.zeroValue58 ?_; intro b8
  refine s_B (cs := Entry.cells u (Ae l m.line)) Try.sizeOf58 ?_
  refine Gl ?_
  refine kp [0, 1, 5, 6, 7, 8, 9, 43, 44, 45, 46] ?_
  refine Aa ?_
  refine liO ([] : List Int) D9 rfl (fun j h => Fw) ?_; intro v43
  refine rn2 ?_
  refine ap D9 (hb := fun w hs => by have : maxN = 16777216 := rfl; simp only [List.length_nil]; omega) (k := ?_); intro v46
  refine Gb1 ?_
  refine Gb2 ?_
  refine ob (Af rfl rfl (Ak (by omega))) ?_
  refine Gd1 ?_
  refine ob (Af rfl rfl (Ak (by omega))) ?_
  refine Gd1 ?_
  refine ob (Af rfl rfl (Ak (by omega))) ?_
  refine Gd1 ?_
  refine ob (Af rfl rfl (Ak (by omega))) ?_
  refine Gd1 ?_
  refine ob (Af rfl rfl (Ak (by omega))) ?_
  refine Gd1 ?_
  refine ob (Af rfl rfl (As (by omega))) ?_
  refine Gd1 ?_
  refine rn4 ?_
  refine jgx (t := 240) (p := ?p1) (hd := ?d1) ?e1 ?_ ?_; case e1 => exact rfl
  ·
   intro ht240
   refine Gc13 ?_
   refine kp [0, 1, 5, 6, 7, 8, 254] ?_
   refine Aa ?_
   refine Ga3 ?_
   have er : Ao l id m = (l, []) := Cj (by omega) (by unfold Bf; rw [if_neg (by omega), if_neg (by omega), if_neg (by omega), if_neg (by omega), if_neg (by omega)])
   rw [er]
   exact Df (v0, .slice none 0 0) (hs := fun w hs => Al (St.shut (hs.rowNil 42 Msg)))
  ·
   intro ht240
   refine rn7 ?_
   refine jgx (t := 247) (p := ?p2) (hd := ?d2) ?e2 ?_ ?_; case e2 => exact rfl
   ·
    intro ht247
    refine Gc6 ?_
    refine kp [0, 1, 5, 6, 7, 8, 254] ?_
    refine Aa ?_
    refine Ga3 ?_
    have er : Ao l id m = (l, []) := Cj (by omega) (by unfold Bf; rw [if_neg (by omega), if_neg (by omega), if_neg (by omega), if_neg (by omega), if_neg (by omega)])
    rw [er]
    exact Df (v0, .slice none 0 0) (hs := fun w hs => Al (St.shut (hs.rowNil 42 Msg)))
   ·
    intro ht247
    refine Ga6 ?_
    refine cdx (p := ?p3) (hd := ?d3) ?e3 ?_ ?_; case e3 => exact rfl
    ·
     intro ht253
     refine Gl ?_
     refine kp [0, 1, 5, 6, 7, 8, 254] ?_
     refine Aa ?_
     refine Ga3 ?_
     have er : Ao l id m = (l, []) := Cj (by omega) (by unfold Bf; rw [if_neg (by omega), if_neg (by omega), if_neg (by omega), if_neg (by omega), if_neg (by omega)])
     rw [er]
     exact Df (v0, .slice none 0 0) (hs := fun w hs => Al (St.shut (hs.rowNil 42 Msg)))
    ·
     intro ht253
     refine Gl ?_
     refine kp [0, 1, 5, 6, 7, 8, 255, 256] ?_
     refine Aa ?_
     refine Ga2 ?_
     refine Bp (b := ?b4) ?e4 ?_ ?_; case e4 => exact rfl
     ·
      intro ht256
      refine Aa ?_
      refine rn3 ?_
      refine sc ?_
      refine rn1 ?_
      refine sc ?_
      refine Gm ?_
      refine rn1 ?_
      refine sc ?_
      refine rn1 ?_
      refine sc ?_
      refine rn1 ?_
      refine sc ?_
      refine rn1 ?_
      refine sc ?_
      refine Gl ?_
      have et : Ee (Ae l m.line) = { (Ae l m.line) with owner := (Ae l m.line).who, sharers := 0, phase := 0, who := 0, serial := 0, alone := false } := by unfold Ee; rw [if_pos ht256]
      refine JC.slNil Msg ?_
      have er : Ao l id m = (l.set m.line.toNat ({ (Ae l m.line) with owner := (Ae l m.line).who, sharers := 0, phase := 0, who := 0, serial := 0, alone := false }), []) := Dz (by omega) (by unfold Bf; rw [if_neg (by omega), if_neg (by omega), if_neg (by omega), if_neg (by omega), if_pos (by omega), et])
      refine Aa ?_
      refine rn4 ?_
      refine Aq Try.call69 rfl (fun w hs => Bm (e := { (Ae l m.line) with owner := (Ae l m.line).who, sharers := 0, phase := 0, who := 0, serial := 0, alone := false }) (u := u) hs mm mm (by unfold Entry.wf Am; simp only; omega) (by omega)) ?_; intro v282
      refine Ga2 ?_
      rw [er]
      exact Df (v282, .slice none 0 0)
     ·
      intro ht256
      refine Gm ?_
      refine rn4 ?_
      generalize hhasT : (Ae l m.line).sharers.toNat.testBit (Ae l m.line).who.toNat = bhT
      refine Aq (val := fun _ => .bool bhT) Try.call70 rfl (fun w hs => by have h := Kz (z := (Ae l m.line).sharers.toNat) (k := (Ae l m.line).who.toNat) hs (by omega) (by omega); rw [Int.toNat_of_nonneg (by omega), Int.toNat_of_nonneg (by omega), hhasT] at h; exact h) ?_; intro _
      refine Ga1 ?_
      refine Bp (b := ?b5) ?e5 ?_ ?_; case e5 => exact rfl
      ·
       intro ht266
       have hp2 : ((2 ^ (Ae l m.line).who.toNat : Nat) : Int) ≤ 8 := Int.ofNat_le.2 (Nat.pow_le_pow_right (n := 2) (by decide) (show (Ae l m.line).who.toNat ≤ 3 by omega))
       have hp0 : (0 : Int) ≤ ((2 ^ (Ae l m.line).who.toNat : Nat) : Int) := Int.natCast_nonneg _
       refine cq_ (blk b8 58 [vi (Ae l m.line).value, vi (Ae l m.line).owner, vi (Ae l m.line).sharers, vi (Ae l m.line).phase, vi (Ae l m.line).who, vi (Ae l m.line).serial, .bool (Ae l m.line).alone, vi (Ae l m.line).turn, vi (Ae l m.line).need, u] :: blk b5 42 m.cells :: L) ?_
       refine jd_ (fun ρ S => blk b8 58 [vi (Ae l m.line).value, vi (Ae l m.line).owner, vi (Ae l m.line).sharers, vi (Ae l m.line).phase, vi (Ae l m.line).who, vi (Ae l m.line).serial, .bool (Ae l m.line).alone, vi (Ae l m.line).turn, vi (Ae l m.line).need, u] :: blk b5 42 m.cells :: L) ?_
       refine dn4 ?_
       refine Bn (γ := Unit) (val := fun _ => vi ((2 ^ (Ae l m.line).who.toNat : Nat) : Int)) (F := fun _ => []) Try.call71 (fun _ => rfl) (fun ρ L R w hd hs => by have h := J0 (k := (Ae l m.line).who.toNat) hs (by omega); rw [Int.toNat_of_nonneg (by omega)] at h; exact h) (fun _ _ _ _ _ => rfl) ?_
       first | refine epc (fun _ _ => D6) ?_ | refine epc (fun _ _ => Fc) ?_ | refine epp (fun _ _ => D6) ?_ | refine epp (fun _ _ => Fc) ?_
       refine dtl ?_; intro ρ
       refine J.conseq (L' := blk b8 58 [vi (Ae l m.line).value, vi (Ae l m.line).owner, vi (Ae l m.line).sharers, vi (Ae l m.line).phase, vi (Ae l m.line).who, vi (Ae l m.line).serial, .bool (Ae l m.line).alone, vi (Ae l m.line).turn, vi (Ae l m.line).need, u] :: blk b5 42 m.cells :: L) (fun w hs => hs) ?_
       refine rn1 ?_
       refine sc ?_
       refine Gm ?_
       refine rn1 ?_
       refine sc ?_
       refine rn1 ?_
       refine sc ?_
       refine rn1 ?_
       refine sc ?_
       refine rn1 ?_
       refine sc ?_
       refine Gl ?_
       have et : Ee (Ae l m.line) = { (Ae l m.line) with sharers := ((Ae l m.line).sharers + ((2 ^ (Ae l m.line).who.toNat : Nat) : Int)), phase := 0, who := 0, serial := 0, alone := false } := by
        obtain ⟨b1, b2, _⟩ := Cr hE0.2.1.1 hE0.2.1.2 hE0.2.2.2.1.1 hE0.2.2.2.1.2
        unfold Ee
        rw [if_neg (by rw [ht256]; decide), (b2 (by simpa [hhasT] using ht266)).1]
       refine JC.slNil Msg ?_
       have er : Ao l id m = (l.set m.line.toNat ({ (Ae l m.line) with sharers := ((Ae l m.line).sharers + ((2 ^ (Ae l m.line).who.toNat : Nat) : Int)), phase := 0, who := 0, serial := 0, alone := false }), []) := Dz (by omega) (by unfold Bf; rw [if_neg (by omega), if_neg (by omega), if_neg (by omega), if_neg (by omega), if_pos (by omega), et])
       refine Aa ?_
       refine rn4 ?_
       refine Aq Try.call69 rfl (fun w hs => Bm (e := { (Ae l m.line) with sharers := ((Ae l m.line).sharers + ((2 ^ (Ae l m.line).who.toNat : Nat) : Int)), phase := 0, who := 0, serial := 0, alone := false }) (u := u) hs mm mm (by unfold Entry.wf Am; simp only; omega) (by omega)) ?_; intro v282
       refine Ga2 ?_
       rw [er]
       exact Df (v282, .slice none 0 0)
      ·
       intro ht266
       refine Gm ?_
       refine rn1 ?_
       refine sc ?_
       refine rn1 ?_
       refine sc ?_
       refine rn1 ?_
       refine sc ?_
       refine rn1 ?_
       refine sc ?_
       refine Gl ?_
       have et : Ee (Ae l m.line) = { (Ae l m.line) with sharers := (Ae l m.line).sharers, phase := 0, who := 0, serial := 0, alone := false } := by
        obtain ⟨b1, b2, _⟩ := Cr hE0.2.1.1 hE0.2.1.2 hE0.2.2.2.1.1 hE0.2.2.2.1.2
        unfold Ee
        rw [if_neg (by rw [ht256]; decide), (b1 (by simpa [hhasT] using ht266)).1]
       refine JC.slNil Msg ?_
       have er : Ao l id m = (l.set m.line.toNat ({ (Ae l m.line) with sharers := (Ae l m.line).sharers, phase := 0, who := 0, serial := 0, alone := false }), []) := Dz (by omega) (by unfold Bf; rw [if_neg (by omega), if_neg (by omega), if_neg (by omega), if_neg (by omega), if_pos (by omega), et])
       refine Aa ?_
       refine rn4 ?_
       refine Aq Try.call69 rfl (fun w hs => Bm (e := { (Ae l m.line) with sharers := (Ae l m.line).sharers, phase := 0, who := 0, serial := 0, alone := false }) (u := u) hs mm mm (by unfold Entry.wf Am; simp only; omega) (by omega)) ?_; intro v282
       refine Ga2 ?_
       rw [er]
       exact Df (v282, .slice none 0 0)
end Go.Proofs.Ytofgpimoekhfaaa

/- This file proves what the home hears, by the document's answer. No conditions. -/
set_option linter.unusedVariables false
set_option linter.unusedSimpArgs false
set_option maxHeartbeats 1000000
set_option maxRecDepth 8000
namespace Go.Proofs.Ytofgpimoekhfaaa
open Go
theorem N5 {L : List Chunk} {R : List Fact} {w : World} {v0 : Value} {l : List Entry} {id : Int} {m : Msg} (hs : St (L) R w) (h0 : sl v0 l ∈ R) (hb : ∀ i, i < l.length → EB (l.getD i Bc)) (hla : ∀ i, i < l.length → (l.getD i Bc).last.length ≤ 4) (hm : m.wf) (hid : Am id) : Calls Try.prog 30 [v0, vi id, .agg m.cells.toArray].toArray w (Ch (fun v : Value × Value => .tuple #[v.1, v.2]) (fun v => L) (fun v => sl v.1 (Ao l id m).1 :: sl v.2 (Ao l id m).2 :: R)) := by
  by_cases h : 0 ≤ m.line ∧ m.line < (l.length : Int) ∧ 0 ≤ m.src ∧ m.src < ((Ae l m.line).last.length : Int)
  · by_cases h1 : m.kind = 1
    · exact Ms hs h0 hb hla hm hid (by omega)
    by_cases h2 : m.kind = 2
    · exact Mr hs h0 hb hla hm hid (by omega)
    by_cases h3 : m.kind = 3
    · exact Mq hs h0 hb hla hm hid (by omega)
    by_cases h9 : m.kind = 9
    · exact Mo hs h0 hb hla hm hid (by omega)
    by_cases h8 : m.kind = 8
    · exact Mp hs h0 hb hla hm hid (by omega)
    by_cases h10 : m.kind = 10
    · exact Lh hs h0 hb hla hm hid (by omega)
    exact Mn hs h0 hb hla hm hid (by omega)
  · exact Mt hs h0 hb hla hm hid h
end Go.Proofs.Ytofgpimoekhfaaa

/- This file proves what a core hears, by the document's answer: some kinds of messages. No conditions. -/
set_option linter.unusedVariables false
set_option linter.unusedSimpArgs false
set_option maxHeartbeats 1000000
set_option maxRecDepth 8000
namespace Go.Proofs.Ytofgpimoekhfaaa
open Go
theorem S3 {L : List Chunk} {R : List Fact} {w : World} {u : Value} {c : Core} {id home : Int} {m : Msg} (hs : St (L) R w) (hu : sl u c.lines ∈ R) (hk : KB c) (hid : Am id) (hhome : Am home) (hm : m.wf) (hg : ¬ (0 ≤ m.line ∧ m.line < (c.lines.length : Int))) : Calls Try.prog 47 [.agg (c.cells u).toArray, vi id, vi home, .agg m.cells.toArray].toArray w (Ch (fun v : Value × Value × Value => .tuple #[.agg (Core.cells v.1 (Ad c id home m).1).toArray, v.2.1, v.2.2]) (fun v => L) (fun v => sl v.1 (Ad c id home m).1.lines :: sl v.2.1 (Ad c id home m).2.1 :: sl v.2.2 (Ad c id home m).2.2 :: R)) := by
  have hlen := Bk hu hs
  have hone0 : u.oneCell' = true := isSlice.one (hs.fact hu)
  have hn4 := hk.n
  have hm0 := hm
  unfold Msg.wf Am at hm0
  refine Aj Try.func47 rfl Try.ntmps47 rfl hs ?_
  clear hs
  refine Gm ?_
  refine bx ?_; intro b4
  refine bx ?_; intro b5
  refine bx ?_; intro b6
  refine bx ?_; intro b7
  refine al_ (cs := [.slice none 0 0, vi 0, vi 0, vi 0]) Try.zeroValue69 ?_; intro b8
  refine Ga2 ?_
  rcases (show (m.line < 0) ∨ (¬ m.line < 0 ∧ (c.lines.length : Int) ≤ m.line) from by omega) with hc | hc
  ·
   refine Aa ?_
   refine rn2 ?_
   refine ob (Af rfl rfl (Bt (by omega))) ?_
   refine Gc8 ?_
   refine JC.slNil Msg ?_
   refine JC.slNil Done ?_
   refine Aa ?_
   refine rn1 ?_
   refine s_B Try.sizeOf69 ?_
   refine Ga2 ?_
   have er : Ad c id home m = (c, [], []) := Jl (by omega)
   rw [er]
   exact Cg (u, .slice none 0 0, .slice none 0 0) Try.isAgg69 Try.sizeOf69
  ·
   refine Aa ?_
   refine rn2 ?_
   refine ob (Af rfl rfl (An (by omega))) ?_
   refine rn6 ?_
   refine gy ?_
   refine ob (Af rfl rfl (Cv (by omega))) ?_
   refine Gc1 ?_
   refine JC.slNil Msg ?_
   refine JC.slNil Done ?_
   refine Aa ?_
   refine rn1 ?_
   refine s_B Try.sizeOf69 ?_
   refine Ga2 ?_
   have er : Ad c id home m = (c, [], []) := Jl (by omega)
   rw [er]
   exact Cg (u, .slice none 0 0, .slice none 0 0) Try.isAgg69 Try.sizeOf69
theorem S2 {L : List Chunk} {R : List Fact} {w : World} {u : Value} {c : Core} {id home : Int} {m : Msg} (hs : St (L) R w) (hu : sl u c.lines ∈ R) (hk : KB c) (hid : Am id) (hhome : Am home) (hm : m.wf) (hg : 0 ≤ m.line ∧ m.line < (c.lines.length : Int) ∧ m.kind = 4) : Calls Try.prog 47 [.agg (c.cells u).toArray, vi id, vi home, .agg m.cells.toArray].toArray w (Ch (fun v : Value × Value × Value => .tuple #[.agg (Core.cells v.1 (Ad c id home m).1).toArray, v.2.1, v.2.2]) (fun v => L) (fun v => sl v.1 (Ad c id home m).1.lines :: sl v.2.1 (Ad c id home m).2.1 :: sl v.2.2 (Ad c id home m).2.2 :: R)) := by
  have hlen := Bk hu hs
  have hone0 : u.oneCell' = true := isSlice.one (hs.fact hu)
  have hn4 := hk.n
  have hm0 := hm
  unfold Msg.wf Am at hm0
  refine Aj Try.func47 rfl Try.ntmps47 rfl hs ?_
  clear hs
  refine Gm ?_
  refine bx ?_; intro b4
  refine bx ?_; intro b5
  refine bx ?_; intro b6
  refine bx ?_; intro b7
  refine al_ (cs := [.slice none 0 0, vi 0, vi 0, vi 0]) Try.zeroValue69 ?_; intro b8
  refine Gb2 ?_
  refine rn2 ?_
  refine ob (Af rfl rfl (An (by omega))) ?_
  refine rn6 ?_
  refine gy ?_
  refine ob (Af rfl rfl (A4 (by omega))) ?_
  refine Gc1 ?_
  refine Fl (c := c) (v := u) m.line mm (by omega) (by omega) (fun hlw => ?_)
  refine Aa ?_
  refine rn6 ?_
  refine al_ (cs := zLine.cells) Try.zeroValue82 ?_; intro b11
  refine s_B (cs := (Ac c m.line).cells) Try.sizeOf82 ?_
  refine Gm ?_
  refine C1 (vs := [bp b5 0, bp b6 0, bp b7 0]) rfl ?_
  refine Gb1 ?_
  refine C1 (vs := [bp b5 0, bp b4 0]) rfl ?_
  refine Gb1 ?_
  refine Ga2 ?_
  refine kp [4, 5, 7, 8, 9, 10, 11, 12, 13, 43, 44, 45] ?_
  refine Aa ?_
  refine ob (Af rfl rfl (As (by omega))) ?_
  refine Gd1 ?_
  refine Ga5 ?_
  refine cdx (p := ?p1) (hd := ?d1) ?e1 ?_ ?_; case e1 => exact rfl
  ·
   intro ht50
   refine Gm ?_
   refine rn3 ?_
   refine sc ?_
   refine Gm ?_
   refine Ga3 ?_
   refine cdx (p := ?p2) (hd := ?d2) ?e2 ?_ ?_; case e2 => exact rfl
   ·
    intro ht56
    refine Aa ?_
    refine rn1 ?_
    refine sc ?_
    refine rn1 ?_
    refine sc ?_
    refine Gl ?_
    refine JC.slNil Done ?_
    have hXw : ({ (Ac c m.line) with seen := m.turn, state := 0, value := 0 } : Line).wf := by first | exact hlw | (unfold Line.wf Am at hlw ⊢; simp only; omega)
    refine cq_ (blk b8 69 [.slice none 0 0, vi 0, vi 0, vi 0] :: blk b4 69 (c.cells u) :: blk b11 82 [vi 0, vi 0, vi (Ac c m.line).want, vi (Ac c m.line).serial, vi m.turn, vi (Ac c m.line).gave, vi (Ac c m.line).given] :: blk b5 3 [vi id] :: blk b6 3 [vi home] :: blk b7 42 m.cells :: L) ?_
    refine jd_ (fun ρ S => blk b8 69 (bif S 9 then [Gh.dec (γ := Value) (ρ 4), vi c.wait.kind, vi c.wait.line, vi c.wait.value] else [.slice none 0 0, vi 0, vi 0, vi 0]) :: blk b4 69 (c.cells u) :: blk b11 82 [vi 0, vi 0, vi (Ac c m.line).want, vi (Ac c m.line).serial, vi m.turn, vi (Ac c m.line).gave, vi (Ac c m.line).given] :: blk b5 3 [vi id] :: blk b6 3 [vi home] :: blk b7 42 m.cells :: L) ?_
    refine dn4 ?_
    refine Bn (γ := Value) (val := fun v => .agg (Core.cells v (Ap c m.line ({ (Ac c m.line) with seen := m.turn, state := 0, value := 0 }) c.wait)).toArray) (F := fun v => [sl v (c.lines.set m.line.toNat ({ (Ac c m.line) with seen := m.turn, state := 0, value := 0 }))]) Try.call77 (fun _ => rfl) (fun ρ L R w hd hs => Bb (l := { (Ac c m.line) with seen := m.turn, state := 0, value := 0 }) hs (hd.base mm) hXw (by omega)) (fun ρ g S hS hA => by have u9 : upS S 4 9 = S 9 := rfl; have h9 : S 9 = false := hA 9 ⟨0, rfl⟩; simp only [u9, h9, cond_false]) ?_
    refine dn3 ?_
    refine Gz (γ := Value) (val := fun v => v) (F := fun v => [sl v [A5 8 id home m.line m.turn 0]]) (caps := [bp b5 0, bp b6 0, bp b7 0]) (vs := [vi 8, vi m.turn, vi 0]) (fun _ => rfl) Try.call85 (fun _ => rfl) (fun ρ S L R w hs hd => M8 hs (A2 pkk rfl) (A2 pkk rfl) (A2 pkk rfl) (by unfold Am; omega) hm.2.2.2.2.2.1 (by unfold Am; omega) hid hhome hm.2.2.2.1) (fun _ _ _ _ _ => rfl) ?_
    refine es_ 69 0 [] [] (fun ρ => b8) (fun ρ => [.slice none 0 0, vi 0, vi 0, vi 0]) (fun ρ => [Gh.dec (γ := Value) (ρ 4), vi c.wait.kind, vi c.wait.line, vi c.wait.value]) Try.sizeOf69 (h1 := (fun ρ R w L' hd hs => A6 (isSlice.one (hs.fact (hd.dep (it := ⟨4, _, _, _, _⟩) (by repeat (first | exact List.Mem.head _ | refine List.Mem.tail _ ?_)) ⟨9, rfl⟩ (List.Mem.head _)))) (by repeat (first | exact C3 | refine A6 rfl ?_)))) ?_
    refine e_p (v := fun ρ => (Gh.dec (γ := Value) (ρ 8))) (fun _ _ => Db) (Ind.gh (h := fun g => ((Gh.dec (γ := Value) g) : Value)) 8 0 rfl) (fun _ _ _ _ _ => rfl) ?_
    refine dn1 ?_
    refine dnl ?_; intro ρ
    refine xq_ (blk b8 69 [Gh.dec (γ := Value) (ρ 4), vi c.wait.kind, vi c.wait.line, vi c.wait.value] :: blk b4 69 (c.cells u) :: blk b11 82 [vi 0, vi 0, vi (Ac c m.line).want, vi (Ac c m.line).serial, vi m.turn, vi (Ac c m.line).gave, vi (Ac c m.line).given] :: blk b5 3 [vi id] :: blk b6 3 [vi home] :: blk b7 42 m.cells :: L) ?_
    generalize (Gh.dec (γ := Value) (ρ 4)) = v63
    generalize (Gh.dec (γ := Value) (ρ 8)) = v67
    refine Gl ?_
    have eh : Bh (Ac c m.line) m.turn = { (Ac c m.line) with seen := m.turn, state := 0, value := 0 } := by unfold Bh; rw [if_pos (by omega), if_pos (by omega)]
    have er : Ad c id home m = (Ap c m.line ({ (Ac c m.line) with seen := m.turn, state := 0, value := 0 }) c.wait, [A5 8 id home m.line m.turn 0], []) := by unfold Ad; rw [if_neg (by omega)]; rw [if_pos (by omega), eh]
    rw [er]
    exact Cg (v63, v67, .slice none 0 0) Try.isAgg69 Try.sizeOf69
   ·
    intro ht56
    refine Gl ?_
    refine JC.slNil Done ?_
    have hXw : ({ (Ac c m.line) with seen := m.turn } : Line).wf := by first | exact hlw | (unfold Line.wf Am at hlw ⊢; simp only; omega)
    refine cq_ (blk b8 69 [.slice none 0 0, vi 0, vi 0, vi 0] :: blk b4 69 (c.cells u) :: blk b11 82 [vi (Ac c m.line).state, vi (Ac c m.line).value, vi (Ac c m.line).want, vi (Ac c m.line).serial, vi m.turn, vi (Ac c m.line).gave, vi (Ac c m.line).given] :: blk b5 3 [vi id] :: blk b6 3 [vi home] :: blk b7 42 m.cells :: L) ?_
    refine jd_ (fun ρ S => blk b8 69 (bif S 9 then [Gh.dec (γ := Value) (ρ 4), vi c.wait.kind, vi c.wait.line, vi c.wait.value] else [.slice none 0 0, vi 0, vi 0, vi 0]) :: blk b4 69 (c.cells u) :: blk b11 82 [vi (Ac c m.line).state, vi (Ac c m.line).value, vi (Ac c m.line).want, vi (Ac c m.line).serial, vi m.turn, vi (Ac c m.line).gave, vi (Ac c m.line).given] :: blk b5 3 [vi id] :: blk b6 3 [vi home] :: blk b7 42 m.cells :: L) ?_
    refine dn4 ?_
    refine Bn (γ := Value) (val := fun v => .agg (Core.cells v (Ap c m.line ({ (Ac c m.line) with seen := m.turn }) c.wait)).toArray) (F := fun v => [sl v (c.lines.set m.line.toNat ({ (Ac c m.line) with seen := m.turn }))]) Try.call77 (fun _ => rfl) (fun ρ L R w hd hs => Bb (l := { (Ac c m.line) with seen := m.turn }) hs (hd.base mm) hXw (by omega)) (fun ρ g S hS hA => by have u9 : upS S 4 9 = S 9 := rfl; have h9 : S 9 = false := hA 9 ⟨0, rfl⟩; simp only [u9, h9, cond_false]) ?_
    refine dn3 ?_
    refine Gz (γ := Value) (val := fun v => v) (F := fun v => [sl v [A5 8 id home m.line m.turn 0]]) (caps := [bp b5 0, bp b6 0, bp b7 0]) (vs := [vi 8, vi m.turn, vi 0]) (fun _ => rfl) Try.call85 (fun _ => rfl) (fun ρ S L R w hs hd => M8 hs (A2 pkk rfl) (A2 pkk rfl) (A2 pkk rfl) (by unfold Am; omega) hm.2.2.2.2.2.1 (by unfold Am; omega) hid hhome hm.2.2.2.1) (fun _ _ _ _ _ => rfl) ?_
    refine es_ 69 0 [] [] (fun ρ => b8) (fun ρ => [.slice none 0 0, vi 0, vi 0, vi 0]) (fun ρ => [Gh.dec (γ := Value) (ρ 4), vi c.wait.kind, vi c.wait.line, vi c.wait.value]) Try.sizeOf69 (h1 := (fun ρ R w L' hd hs => A6 (isSlice.one (hs.fact (hd.dep (it := ⟨4, _, _, _, _⟩) (by repeat (first | exact List.Mem.head _ | refine List.Mem.tail _ ?_)) ⟨9, rfl⟩ (List.Mem.head _)))) (by repeat (first | exact C3 | refine A6 rfl ?_)))) ?_
    refine e_p (v := fun ρ => (Gh.dec (γ := Value) (ρ 8))) (fun _ _ => Db) (Ind.gh (h := fun g => ((Gh.dec (γ := Value) g) : Value)) 8 0 rfl) (fun _ _ _ _ _ => rfl) ?_
    refine dn1 ?_
    refine dnl ?_; intro ρ
    refine xq_ (blk b8 69 [Gh.dec (γ := Value) (ρ 4), vi c.wait.kind, vi c.wait.line, vi c.wait.value] :: blk b4 69 (c.cells u) :: blk b11 82 [vi (Ac c m.line).state, vi (Ac c m.line).value, vi (Ac c m.line).want, vi (Ac c m.line).serial, vi m.turn, vi (Ac c m.line).gave, vi (Ac c m.line).given] :: blk b5 3 [vi id] :: blk b6 3 [vi home] :: blk b7 42 m.cells :: L) ?_
    generalize (Gh.dec (γ := Value) (ρ 4)) = v63
    generalize (Gh.dec (γ := Value) (ρ 8)) = v67
    refine Gl ?_
    have eh : Bh (Ac c m.line) m.turn = { (Ac c m.line) with seen := m.turn } := by unfold Bh; rw [if_pos (by omega), if_neg (by omega)]
    have er : Ad c id home m = (Ap c m.line ({ (Ac c m.line) with seen := m.turn }) c.wait, [A5 8 id home m.line m.turn 0], []) := by unfold Ad; rw [if_neg (by omega)]; rw [if_pos (by omega), eh]
    rw [er]
    exact Cg (v63, v67, .slice none 0 0) Try.isAgg69 Try.sizeOf69
  ·
   intro ht50
   refine Gl ?_
   refine JC.slNil Done ?_
   have hXw : ((Ac c m.line) : Line).wf := by first | exact hlw | (unfold Line.wf Am at hlw ⊢; simp only; omega)
   refine cq_ (blk b8 69 [.slice none 0 0, vi 0, vi 0, vi 0] :: blk b4 69 (c.cells u) :: blk b11 82 (Ac c m.line).cells :: blk b5 3 [vi id] :: blk b6 3 [vi home] :: blk b7 42 m.cells :: L) ?_
   refine jd_ (fun ρ S => blk b8 69 (bif S 9 then [Gh.dec (γ := Value) (ρ 4), vi c.wait.kind, vi c.wait.line, vi c.wait.value] else [.slice none 0 0, vi 0, vi 0, vi 0]) :: blk b4 69 (c.cells u) :: blk b11 82 (Ac c m.line).cells :: blk b5 3 [vi id] :: blk b6 3 [vi home] :: blk b7 42 m.cells :: L) ?_
   refine dn4 ?_
   refine Bn (γ := Value) (val := fun v => .agg (Core.cells v (Ap c m.line ((Ac c m.line)) c.wait)).toArray) (F := fun v => [sl v (c.lines.set m.line.toNat ((Ac c m.line)))]) Try.call77 (fun _ => rfl) (fun ρ L R w hd hs => Bb (l := (Ac c m.line)) hs (hd.base mm) hXw (by omega)) (fun ρ g S hS hA => by have u9 : upS S 4 9 = S 9 := rfl; have h9 : S 9 = false := hA 9 ⟨0, rfl⟩; simp only [u9, h9, cond_false]) ?_
   refine dn3 ?_
   refine Gz (γ := Value) (val := fun v => v) (F := fun v => [sl v [A5 8 id home m.line m.turn 0]]) (caps := [bp b5 0, bp b6 0, bp b7 0]) (vs := [vi 8, vi m.turn, vi 0]) (fun _ => rfl) Try.call85 (fun _ => rfl) (fun ρ S L R w hs hd => M8 hs (A2 pkk rfl) (A2 pkk rfl) (A2 pkk rfl) (by unfold Am; omega) hm.2.2.2.2.2.1 (by unfold Am; omega) hid hhome hm.2.2.2.1) (fun _ _ _ _ _ => rfl) ?_
   refine es_ 69 0 [] [] (fun ρ => b8) (fun ρ => [.slice none 0 0, vi 0, vi 0, vi 0]) (fun ρ => [Gh.dec (γ := Value) (ρ 4), vi c.wait.kind, vi c.wait.line, vi c.wait.value]) Try.sizeOf69 (h1 := (fun ρ R w L' hd hs => A6 (isSlice.one (hs.fact (hd.dep (it := ⟨4, _, _, _, _⟩) (by repeat (first | exact List.Mem.head _ | refine List.Mem.tail _ ?_)) ⟨9, rfl⟩ (List.Mem.head _)))) (by repeat (first | exact C3 | refine A6 rfl ?_)))) ?_
   refine e_p (v := fun ρ => (Gh.dec (γ := Value) (ρ 8))) (fun _ _ => Db) (Ind.gh (h := fun g => ((Gh.dec (γ := Value) g) : Value)) 8 0 rfl) (fun _ _ _ _ _ => rfl) ?_
   refine dn1 ?_
   refine dnl ?_; intro ρ
   refine xq_ (blk b8 69 [Gh.dec (γ := Value) (ρ 4), vi c.wait.kind, vi c.wait.line, vi c.wait.value] :: blk b4 69 (c.cells u) :: blk b11 82 (Ac c m.line).cells :: blk b5 3 [vi id] :: blk b6 3 [vi home] :: blk b7 42 m.cells :: L) ?_
   generalize (Gh.dec (γ := Value) (ρ 4)) = v63
   generalize (Gh.dec (γ := Value) (ρ 8)) = v67
   refine Gl ?_
   have eh : Bh (Ac c m.line) m.turn = (Ac c m.line) := by unfold Bh; rw [if_neg (by omega)]
   have er : Ad c id home m = (Ap c m.line ((Ac c m.line)) c.wait, [A5 8 id home m.line m.turn 0], []) := by unfold Ad; rw [if_neg (by omega)]; rw [if_pos (by omega), eh]
   rw [er]
   exact Cg (v63, v67, .slice none 0 0) Try.isAgg69 Try.sizeOf69
theorem Q0 {L : List Chunk} {R : List Fact} {w : World} {u : Value} {c : Core} {id home : Int} {m : Msg} (hs : St (L) R w) (hu : sl u c.lines ∈ R) (hk : KB c) (hid : Am id) (hhome : Am home) (hm : m.wf) (hg : 0 ≤ m.line ∧ m.line < (c.lines.length : Int) ∧ m.kind = 11) : Calls Try.prog 47 [.agg (c.cells u).toArray, vi id, vi home, .agg m.cells.toArray].toArray w (Ch (fun v : Value × Value × Value => .tuple #[.agg (Core.cells v.1 (Ad c id home m).1).toArray, v.2.1, v.2.2]) (fun v => L) (fun v => sl v.1 (Ad c id home m).1.lines :: sl v.2.1 (Ad c id home m).2.1 :: sl v.2.2 (Ad c id home m).2.2 :: R)) := by
  have hlen := Bk hu hs
  have hone0 : u.oneCell' = true := isSlice.one (hs.fact hu)
  have hn4 := hk.n
  have hm0 := hm
  unfold Msg.wf Am at hm0
  refine Aj Try.func47 rfl Try.ntmps47 rfl hs ?_
  clear hs
  refine Gm ?_
  refine bx ?_; intro b4
  refine bx ?_; intro b5
  refine bx ?_; intro b6
  refine bx ?_; intro b7
  refine al_ (cs := [.slice none 0 0, vi 0, vi 0, vi 0]) Try.zeroValue69 ?_; intro b8
  refine Gb2 ?_
  refine rn2 ?_
  refine ob (Af rfl rfl (An (by omega))) ?_
  refine rn6 ?_
  refine gy ?_
  refine ob (Af rfl rfl (A4 (by omega))) ?_
  refine Gc1 ?_
  refine Fl (c := c) (v := u) m.line mm (by omega) (by omega) (fun hlw => ?_)
  refine Aa ?_
  refine rn6 ?_
  refine al_ (cs := zLine.cells) Try.zeroValue82 ?_; intro b11
  refine s_B (cs := (Ac c m.line).cells) Try.sizeOf82 ?_
  refine Gm ?_
  refine C1 (vs := [bp b5 0, bp b6 0, bp b7 0]) rfl ?_
  refine Gb1 ?_
  refine C1 (vs := [bp b5 0, bp b4 0]) rfl ?_
  refine Gb1 ?_
  refine Ga2 ?_
  refine kp [4, 5, 7, 8, 9, 10, 11, 12, 13, 43, 44, 45] ?_
  refine Aa ?_
  refine ob (Af rfl rfl (Ak (by omega))) ?_
  refine Gd1 ?_
  refine ob (Af rfl rfl (Ak (by omega))) ?_
  refine Gd1 ?_
  refine ob (Af rfl rfl (Ak (by omega))) ?_
  refine Gd1 ?_
  refine ob (Af rfl rfl (Ak (by omega))) ?_
  refine Gd1 ?_
  refine ob (Af rfl rfl (As (by omega))) ?_
  refine Gd1 ?_
  refine rn4 ?_
  refine jgx (t := 227) (p := ?p1) (hd := ?d1) ?e1 ?_ ?_; case e1 => exact rfl
  ·
   intro ht227
   refine Ga6 ?_
   refine cdx (p := ?p2) (hd := ?d2) ?e2 ?_ ?_; case e2 => exact rfl
   ·
    intro ht233
    refine Gm ?_
    refine rn1 ?_
    refine sc ?_
    refine rn1 ?_
    refine sc ?_
    refine rn1 ?_
    refine sc ?_
    refine Gm ?_
    refine rn4 ?_
    have hXw : ({ (Ac c m.line) with state := 0, value := 0, want := 0 } : Line).wf := by first | exact hlw | (unfold Line.wf Am at hlw ⊢; simp only; omega)
    refine Aq Try.call77 rfl (fun w hs => Bb (l := { (Ac c m.line) with state := 0, value := 0, want := 0 }) hs mm hXw (by omega)) ?_; intro v241
    refine J.know (p := v241.oneCell' = true) (fun w hs => isSlice.one (hs.fact (List.Mem.head _))) (fun hone241 => ?_)
    refine al_ (cs := [.slice none 0 0, vi 0, vi 0, vi 0]) Try.zeroValue69 ?_; intro b21
    refine s_B (cs := [v241, vi c.wait.kind, vi c.wait.line, vi c.wait.value]) Try.sizeOf69 ?_
    refine Gl ?_
    refine kp [4, 8, 9, 10, 13, 21, 242, 243] ?_
    refine Aa ?_
    refine ob (E2 (cs := zOp.cells) Kl) ?_
    refine rn1 ?_
    refine s_N [v241, vi 0, vi 0, vi 0] Try.sizeOf66 ?_
    refine Gl ?_
    refine JC.slNil Msg ?_
    refine cq_ (blk b8 69 [.slice none 0 0, vi 0, vi 0, vi 0] :: blk b21 69 [v241, vi 0, vi 0, vi 0] :: blk b4 69 (c.cells u) :: blk b5 3 [vi id] :: L) ?_
    refine jd_ (fun ρ S => blk b8 69 (bif S 3 then [v241, vi 0, vi 0, vi 0] else [.slice none 0 0, vi 0, vi 0, vi 0]) :: blk b21 69 [v241, vi 0, vi 0, vi 0] :: blk b4 69 (c.cells u) :: blk b5 3 [vi id] :: L) ?_
    refine dn2 ?_
    refine Gz (γ := Value) (val := fun v => v) (F := fun v => [sl v [(⟨id, c.wait, 0⟩ : Done)]]) (caps := [bp b5 0, bp b4 0]) (vs := []) (fun _ => rfl) Try.call86 (fun _ => rfl) (fun ρ S L R w hs hd => Vv hs (A2 pkk rfl) (Mc (f := 1) (sz := 3) (vs := c.cells u) pkk) hid hk.wwf) (fun _ _ _ _ _ => rfl) ?_
    refine es_ 69 0 [] [] (fun ρ => b8) (fun ρ => [.slice none 0 0, vi 0, vi 0, vi 0]) (fun ρ => [v241, vi 0, vi 0, vi 0]) Try.sizeOf69 ?_
    refine dn1 ?_
    refine e_p (v := fun ρ => (Gh.dec (γ := Value) (ρ 2))) (fun _ _ => Db) (Ind.gh (h := fun g => ((Gh.dec (γ := Value) g) : Value)) 2 0 rfl) (fun _ _ _ _ _ => rfl) ?_
    refine dnl ?_; intro ρ
    refine xq_ (blk b8 69 [v241, vi 0, vi 0, vi 0] :: blk b21 69 [v241, vi 0, vi 0, vi 0] :: blk b4 69 (c.cells u) :: blk b5 3 [vi id] :: L) ?_
    generalize (Gh.dec (γ := Value) (ρ 2)) = v246
    refine Gl ?_
    have er : Ad c id home m = (Ap c m.line ({ (Ac c m.line) with state := 0, value := 0, want := 0 }) zOp, [], [⟨id, c.wait, 0⟩]) := by unfold Ad; rw [if_neg (by omega)]; rw [if_neg (by omega), if_neg (by omega), if_neg (by omega)]; rw [if_pos (by omega)]
    rw [er]
    exact Cg (v241, .slice none 0 0, v246) Try.isAgg69 Try.sizeOf69
   ·
    intro ht233
    refine Gl ?_
    refine JC.slNil Msg ?_
    refine JC.slNil Done ?_
    refine Aa ?_
    refine rn1 ?_
    refine s_B Try.sizeOf69 ?_
    refine Ga2 ?_
    have er : Ad c id home m = (c, [], []) := by unfold Ad; rw [if_neg (by omega)]; rw [if_neg (by omega), if_neg (by omega), if_neg (by omega)]; rw [if_neg (by omega)]
    rw [er]
    exact Cg (u, .slice none 0 0, .slice none 0 0) Try.isAgg69 Try.sizeOf69
  ·
   intro ht227
   refine Gc6 ?_
   refine JC.slNil Msg ?_
   refine JC.slNil Done ?_
   refine Aa ?_
   refine rn1 ?_
   refine s_B Try.sizeOf69 ?_
   refine Ga2 ?_
   have er : Ad c id home m = (c, [], []) := by unfold Ad; rw [if_neg (by omega)]; rw [if_neg (by omega), if_neg (by omega), if_neg (by omega)]; rw [if_neg (by omega)]
   rw [er]
   exact Cg (u, .slice none 0 0, .slice none 0 0) Try.isAgg69 Try.sizeOf69
theorem Sy {L : List Chunk} {R : List Fact} {w : World} {u : Value} {c : Core} {id home : Int} {m : Msg} (hs : St (L) R w) (hu : sl u c.lines ∈ R) (hk : KB c) (hid : Am id) (hhome : Am home) (hm : m.wf) (hg : 0 ≤ m.line ∧ m.line < (c.lines.length : Int) ∧ m.kind ≠ 4 ∧ m.kind ≠ 5 ∧ m.kind ≠ 6 ∧ m.kind ≠ 7 ∧ m.kind ≠ 11) : Calls Try.prog 47 [.agg (c.cells u).toArray, vi id, vi home, .agg m.cells.toArray].toArray w (Ch (fun v : Value × Value × Value => .tuple #[.agg (Core.cells v.1 (Ad c id home m).1).toArray, v.2.1, v.2.2]) (fun v => L) (fun v => sl v.1 (Ad c id home m).1.lines :: sl v.2.1 (Ad c id home m).2.1 :: sl v.2.2 (Ad c id home m).2.2 :: R)) := by
 have hlen := Bk hu hs
 have hone0 : u.oneCell' = true := isSlice.one (hs.fact hu)
 have hn4 := hk.n
 have hm0 := hm
 unfold Msg.wf Am at hm0
 refine Aj Try.func47 rfl Try.ntmps47 rfl hs ?_
 clear hs
 refine Gm ?_
 refine bx ?_; intro b4
 refine bx ?_; intro b5
 refine bx ?_; intro b6
 refine bx ?_; intro b7
 refine al_ (cs := [.slice none 0 0, vi 0, vi 0, vi 0]) Try.zeroValue69 ?_; intro b8
 refine Gb2 ?_
 refine rn2 ?_
 refine ob (Af rfl rfl (An (by omega))) ?_
 refine rn6 ?_
 refine gy ?_
 refine ob (Af rfl rfl (A4 (by omega))) ?_
 refine Gc1 ?_
 refine Fl (c := c) (v := u) m.line mm (by omega) (by omega) (fun hlw => ?_)
 refine Aa ?_
 refine rn6 ?_
 refine al_ (cs := zLine.cells) Try.zeroValue82 ?_; intro b11
 refine s_B (cs := (Ac c m.line).cells) Try.sizeOf82 ?_
 refine Gm ?_
 refine C1 (vs := [bp b5 0, bp b6 0, bp b7 0]) rfl ?_
 refine Gb1 ?_
 refine C1 (vs := [bp b5 0, bp b4 0]) rfl ?_
 refine Gb1 ?_
 refine Ga2 ?_
 refine kp [4, 5, 7, 8, 9, 10, 11, 12, 13, 43, 44, 45] ?_
 refine Aa ?_
 refine ob (Af rfl rfl (Ak (by omega))) ?_
 refine Gd1 ?_
 refine ob (Af rfl rfl (Ak (by omega))) ?_
 refine Gd1 ?_
 refine ob (Af rfl rfl (Ak (by omega))) ?_
 refine Gd1 ?_
 refine ob (Af rfl rfl (Ak (by omega))) ?_
 refine Gd1 ?_
 refine ob (Af rfl rfl (Ak (by omega))) ?_
 refine Gc1 ?_
 refine JC.slNil Msg ?_
 refine JC.slNil Done ?_
 refine Aa ?_
 refine rn1 ?_
 refine s_B Try.sizeOf69 ?_
 refine Ga2 ?_
 have er : Ad c id home m = (c, [], []) := by unfold Ad; rw [if_neg (by omega)]; rw [if_neg (by omega), if_neg (by omega), if_neg (by omega)]; rw [if_neg (by omega)]
 rw [er]
 exact Cg (u, .slice none 0 0, .slice none 0 0) Try.isAgg69 Try.sizeOf69
end Go.Proofs.Ytofgpimoekhfaaa
