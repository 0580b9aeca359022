/- This file proves parts of what its law needs: each part is told ahead of it. No conditions. -/
import Derived.Test.YtofgpimoekhfaaaCoM2
/- This file proves how a core begins an operation, by the document's answer. No conditions. -/
set_option linter.unusedVariables false
set_option linter.unusedSimpArgs false
set_option maxHeartbeats 1000000
set_option maxRecDepth 8000
namespace Go.Proofs.Ytofgpimoekhfaaa
open Go
structure KB (c : Core) : Prop where
 n : c.lines.length ≤ 4
 v : ∀ i, i < c.lines.length → 0 ≤ (c.lines.getD i zLine).value ∧ (c.lines.getD i zLine).value ≤ 255
 w : CW c c.lines.length
theorem Fl {P : Program} {n : Nat} {Q : Exit → Act → World → Prop} {L : List Chunk} {R : List Fact} {al : List (Nat × Value)} {cd : Code} {v : Value} {c : Core} (i : Int) (hm : sl v c.lines ∈ R) (h0 : 0 ≤ i) (hi : i < c.lines.length) (k : (Ac c i).wf → JC P n cd Q L (cF v 7 i.toNat (Ac c i).cells :: R) al) : JC P n cd Q L R al := JC.open0 i.toNat hm (by omega) k
theorem Oz {L : List Chunk} {R : List Fact} {w : World} {u : Value} {c : Core} {id home : Int} {q : Op} (hs : St (L) R w) (hu : sl u c.lines ∈ R) (hk : KB c) (hid : Am id) (hhome : Am home) (hq : q.wf) : Calls Try.prog 40 [.agg (c.cells u).toArray, vi id, vi home, .agg q.cells.toArray].toArray w (Ch (fun v : Value × Value × Value => .tuple #[.agg (Core.cells v.1 (Ag c id home q).1).toArray, v.2.1, v.2.2, vi (Ag c id home q).2.2.2]) (fun v => L) (fun v => sl v.1 (Ag c id home q).1.lines :: sl v.2.1 (Ag c id home q).2.1 :: sl v.2.2 (Ag c id home q).2.2.1 :: R)) := by
  have hlen := Bk hu hs
  have hone0 : u.oneCell' = true := isSlice.one (hs.fact hu)
  have hn4 := hk.n
  refine Aj Try.func40 rfl Try.ntmps40 rfl hs ?_
  clear hs
  refine Gm ?_
  refine bx ?_; intro b4
  refine bx ?_; intro b7
  refine al_ (cs := [.slice none 0 0, vi 0, vi 0, vi 0]) Try.zeroValue69 ?_; intro b8
  refine Ga3 ?_
  rcases (show (q.kind < 1) ∨ (¬ q.kind < 1 ∧ 4 < q.kind) ∨ (1 ≤ q.kind ∧ q.kind ≤ 4) from by omega) with hc | hc | hc
  ·
   refine Aa ?_
   refine rn2 ?_
   refine ob (Af rfl rfl (Bt (by omega))) ?_
   refine Gc5 ?_
   refine JC.slNil Line ?_
   refine JC.slNil Msg ?_
   refine JC.slNil Done ?_
   refine Aa ?_
   refine ob (E2 (cs := [.slice none 0 0, vi 0, vi 0, vi 0]) F4) ?_
   refine s_B Try.sizeOf69 ?_
   refine Ga3 ?_
   have er : Ag c id home q = (E0, [], [], 1) := by unfold Ag; rw [if_pos (by omega)]
   rw [er]
   exact D2 (.slice none 0 0, .slice none 0 0, .slice none 0 0) Try.isAgg69 Try.sizeOf69
  ·
   refine Aa ?_
   refine rn2 ?_
   refine ob (Af rfl rfl (An (by omega))) ?_
   refine rn3 ?_
   refine gy ?_
   refine ob (Af rfl rfl (C0 (by omega))) ?_
   refine Gc1 ?_
   refine JC.slNil Line ?_
   refine JC.slNil Msg ?_
   refine JC.slNil Done ?_
   refine Aa ?_
   refine ob (E2 (cs := [.slice none 0 0, vi 0, vi 0, vi 0]) F4) ?_
   refine s_B Try.sizeOf69 ?_
   refine Ga3 ?_
   have er : Ag c id home q = (E0, [], [], 1) := by unfold Ag; rw [if_pos (by omega)]
   rw [er]
   exact D2 (.slice none 0 0, .slice none 0 0, .slice none 0 0) Try.isAgg69 Try.sizeOf69
  ·
   refine Aa ?_
   refine rn2 ?_
   refine ob (Af rfl rfl (An (by omega))) ?_
   refine rn3 ?_
   refine gy ?_
   refine ob (Af rfl rfl (Cp (by omega))) ?_
   refine Gc1 ?_
   rcases (show (q.line < 0) ∨ (0 ≤ q.line ∧ (c.lines.length : Int) ≤ q.line) ∨ (0 ≤ q.line ∧ q.line < (c.lines.length : Int) ∧ q.value < 0) ∨ (0 ≤ q.line ∧ q.line < (c.lines.length : Int) ∧ 255 < q.value) ∨ (0 ≤ q.line ∧ q.line < (c.lines.length : Int) ∧ 0 ≤ q.value ∧ q.value ≤ 255) from by omega) with hc | hc | hc | hc | hc
   ·
    refine Aa ?_
    refine rn2 ?_
    refine ob (Af rfl rfl (Bt (by omega))) ?_
    refine Gc18 ?_
    refine JC.slNil Line ?_
    refine JC.slNil Msg ?_
    refine JC.slNil Done ?_
    refine kp [1, 2, 4, 7, 8, 9, 10, 11, 46] ?_
    refine Aa ?_
    refine ob (E2 (cs := [.slice none 0 0, vi 0, vi 0, vi 0]) F4) ?_
    refine s_B Try.sizeOf69 ?_
    refine Ga3 ?_
    have er : Ag c id home q = (E0, [], [], 3) := by unfold Ag; rw [if_neg (by omega), if_pos (by omega)]
    rw [er]
    exact D2 (.slice none 0 0, .slice none 0 0, .slice none 0 0) Try.isAgg69 Try.sizeOf69
   ·
    refine Aa ?_
    refine rn2 ?_
    refine ob (Af rfl rfl (An (by omega))) ?_
    refine rn6 ?_
    refine gy ?_
    refine ob (Af rfl rfl (Cv (by omega))) ?_
    refine Gc11 ?_
    refine JC.slNil Line ?_
    refine JC.slNil Msg ?_
    refine JC.slNil Done ?_
    refine kp [1, 2, 4, 7, 8, 9, 10, 11, 46] ?_
    refine Aa ?_
    refine ob (E2 (cs := [.slice none 0 0, vi 0, vi 0, vi 0]) F4) ?_
    refine s_B Try.sizeOf69 ?_
    refine Ga3 ?_
    have er : Ag c id home q = (E0, [], [], 3) := by unfold Ag; rw [if_neg (by omega), if_pos (by omega)]
    rw [er]
    exact D2 (.slice none 0 0, .slice none 0 0, .slice none 0 0) Try.isAgg69 Try.sizeOf69
   ·
    refine Aa ?_
    refine rn2 ?_
    refine ob (Af rfl rfl (An (by omega))) ?_
    refine rn6 ?_
    refine gy ?_
    refine ob (Af rfl rfl (A4 (by omega))) ?_
    refine rn4 ?_
    refine gy ?_
    refine ob (Af rfl rfl (Bt (by omega))) ?_
    refine Gc6 ?_
    refine JC.slNil Line ?_
    refine JC.slNil Msg ?_
    refine JC.slNil Done ?_
    refine kp [1, 2, 4, 7, 8, 9, 10, 11, 46] ?_
    refine Aa ?_
    refine ob (E2 (cs := [.slice none 0 0, vi 0, vi 0, vi 0]) F4) ?_
    refine s_B Try.sizeOf69 ?_
    refine Ga3 ?_
    have er : Ag c id home q = (E0, [], [], 3) := by unfold Ag; rw [if_neg (by omega), if_pos (by omega)]
    rw [er]
    exact D2 (.slice none 0 0, .slice none 0 0, .slice none 0 0) Try.isAgg69 Try.sizeOf69
   ·
    refine Aa ?_
    refine rn2 ?_
    refine ob (Af rfl rfl (An (by omega))) ?_
    refine rn6 ?_
    refine gy ?_
    refine ob (Af rfl rfl (A4 (by omega))) ?_
    refine rn4 ?_
    refine gy ?_
    refine ob (Af rfl rfl (An (by omega))) ?_
    refine rn4 ?_
    refine gy ?_
    refine ob (Af rfl rfl (C0 (by omega))) ?_
    refine Gc1 ?_
    refine JC.slNil Line ?_
    refine JC.slNil Msg ?_
    refine JC.slNil Done ?_
    refine kp [1, 2, 4, 7, 8, 9, 10, 11, 46] ?_
    refine Aa ?_
    refine ob (E2 (cs := [.slice none 0 0, vi 0, vi 0, vi 0]) F4) ?_
    refine s_B Try.sizeOf69 ?_
    refine Ga3 ?_
    have er : Ag c id home q = (E0, [], [], 3) := by unfold Ag; rw [if_neg (by omega), if_pos (by omega)]
    rw [er]
    exact D2 (.slice none 0 0, .slice none 0 0, .slice none 0 0) Try.isAgg69 Try.sizeOf69
   ·
    refine Aa ?_
    refine rn2 ?_
    refine ob (Af rfl rfl (An (by omega))) ?_
    refine rn6 ?_
    refine gy ?_
    refine ob (Af rfl rfl (A4 (by omega))) ?_
    refine rn4 ?_
    refine gy ?_
    refine ob (Af rfl rfl (An (by omega))) ?_
    refine rn4 ?_
    refine gy ?_
    refine ob (Af rfl rfl (Cp (by omega))) ?_
    refine Gc1 ?_
    refine Fl (c := c) (v := u) q.line mm (by omega) (by omega) (fun hlw => ?_)
    refine kp [1, 2, 4, 7, 8, 9, 10, 11, 12, 47, 48, 49, 50, 51, 52] ?_
    refine Aa ?_
    refine rn6 ?_
    refine al_ (cs := zLine.cells) Try.zeroValue82 ?_; intro b12
    refine s_B (cs := (Ac c q.line).cells) Try.sizeOf82 ?_
    refine Gl ?_
    rcases (show (c.wait.kind ≠ 0) ∨ (c.wait.kind = 0 ∧ 65535 ≤ (Ac c q.line).serial) ∨ (c.wait.kind = 0 ∧ (Ac c q.line).serial < 65535) from by omega) with hc | hc | hc
    ·
     refine Aa ?_
     refine rn3 ?_
     refine ob (Af rfl rfl (Cz (by omega))) ?_
     refine Gc5 ?_
     refine JC.slNil Line ?_
     refine JC.slNil Msg ?_
     refine JC.slNil Done ?_
     refine Aa ?_
     refine ob (E2 (cs := [.slice none 0 0, vi 0, vi 0, vi 0]) F4) ?_
     refine s_B Try.sizeOf69 ?_
     refine Ga3 ?_
     have er : Ag c id home q = (E0, [], [], 8) := by unfold Ag; rw [if_neg (by omega), if_neg (by omega), if_pos (by omega)]
     rw [er]
     exact D2 (.slice none 0 0, .slice none 0 0, .slice none 0 0) Try.isAgg69 Try.sizeOf69
    ·
     refine Aa ?_
     refine rn3 ?_
     refine ob (Af rfl rfl (Bv (by omega))) ?_
     refine rn3 ?_
     refine gy ?_
     refine ob (Af rfl rfl (Cv (by omega))) ?_
     refine Gc1 ?_
     refine JC.slNil Line ?_
     refine JC.slNil Msg ?_
     refine JC.slNil Done ?_
     refine Aa ?_
     refine ob (E2 (cs := [.slice none 0 0, vi 0, vi 0, vi 0]) F4) ?_
     refine s_B Try.sizeOf69 ?_
     refine Ga3 ?_
     have er : Ag c id home q = (E0, [], [], 8) := by unfold Ag; rw [if_neg (by omega), if_neg (by omega), if_pos (by omega)]
     rw [er]
     exact D2 (.slice none 0 0, .slice none 0 0, .slice none 0 0) Try.isAgg69 Try.sizeOf69
    ·
     refine Aa ?_
     refine rn3 ?_
     refine ob (Af rfl rfl (Bv (by omega))) ?_
     refine rn3 ?_
     refine gy ?_
     refine ob (Af rfl rfl (A4 (by omega))) ?_
     refine Gd1 ?_
     refine Gb1 ?_
     refine Gb2 ?_
     refine Ga2 ?_
     refine cdx (p := ?p1) (hd := ?d1) ?e1 ?_ ?_; case e1 => exact rfl
     ·
      intro ht68
      refine Gm ?_
      refine Ga3 ?_
      refine cdx (p := ?p2) (hd := ?d2) ?e2 ?_ ?_; case e2 => exact rfl
      ·
       intro ht72
       refine Aa ?_
       refine Gb1 ?_
       refine Ga2 ?_
       refine cTp (p := (3 : Int) ≠ 0) (by decide) ?_
       refine Gm ?_
       refine rn3 ?_
       refine ob (Fc (by exact rfl) (by exact rfl) (by unfold Line.wf Am at hlw; omega) (by unfold Line.wf Am at hlw; omega)) ?_
       refine rn1 ?_
       refine sc ?_
       refine rn1 ?_
       refine sc ?_
       refine Gl ?_
       refine kp [1, 2, 4, 7, 8, 9, 10, 11, 12, 13, 91, 92] ?_
       refine Aa ?_
       refine Ga2 ?_
       refine cTp (p := (3 : Int) = 3) (by decide) ?_
       refine Aa ?_
       refine rn1 ?_
       refine sc ?_
       refine Gm ?_
       refine rn4 ?_
       have hXw : ({ (Ac c q.line) with state := 3, want := 3, serial := (Ac c q.line).serial + 1 } : Line).wf := by unfold Line.wf Am at hlw ⊢; simp only; omega
       refine Aq Try.call77 rfl (fun w hs => Bb (l := { (Ac c q.line) with state := 3, want := 3, serial := (Ac c q.line).serial + 1 }) hs mm hXw (by omega)) ?_; intro v98
       refine J.know (p := v98.oneCell' = true) (fun w hs => isSlice.one (hs.fact (List.Mem.head _))) (fun hone98 => ?_)
       refine al_ (cs := [.slice none 0 0, vi 0, vi 0, vi 0]) Try.zeroValue69 ?_; intro b14
       refine s_B (cs := [v98, vi c.wait.kind, vi c.wait.line, vi c.wait.value]) Try.sizeOf69 ?_
       refine Gm ?_
       refine rn2 ?_
       refine s_N [v98, vi q.kind, vi q.line, vi q.value] Try.sizeOf66 ?_
       refine Gl ?_
       refine JC.slNil Done ?_
       refine cq_ (blk b8 69 [.slice none 0 0, vi 0, vi 0, vi 0] :: blk b14 69 [v98, vi q.kind, vi q.line, vi q.value] :: blk b12 82 [vi 3, vi (Ac c q.line).value, vi 3, vi ((Ac c q.line).serial + 1), vi (Ac c q.line).seen, vi (Ac c q.line).gave, vi (Ac c q.line).given] :: blk b7 66 q.cells :: L) ?_
       refine jd_ (fun ρ S => blk b8 69 (bif S 8 then [v98, vi q.kind, vi q.line, vi q.value] else [.slice none 0 0, vi 0, vi 0, vi 0]) :: blk b14 69 [v98, vi q.kind, vi q.line, vi q.value] :: blk b12 82 [vi 3, vi (Ac c q.line).value, vi 3, vi ((Ac c q.line).serial + 1), vi (Ac c q.line).seen, vi (Ac c q.line).gave, vi (Ac c q.line).given] :: blk b7 66 q.cells :: L) ?_
       refine dn6 ?_
       refine Bn (γ := Unit) (val := fun _ => .agg (Bl ({ (Ac c q.line) with state := 3, want := 3, serial := (Ac c q.line).serial + 1 }) id home q.line).cells.toArray) (F := fun _ => []) Try.call78 (fun _ => rfl) (fun ρ L R w hd hs => Li (l := { (Ac c q.line) with state := 3, want := 3, serial := (Ac c q.line).serial + 1 }) (id := id) (home := home) (i := q.line) hs ) (fun _ _ _ _ _ => rfl) ?_
       refine E7 ([Bl ({ (Ac c q.line) with state := 3, want := 3, serial := (Ac c q.line).serial + 1 }) id home q.line] : List Msg) Ga rfl (fun _ => rfl) rfl (fun _ => rfl) rfl rfl (fun ρ R hd => Io (Pi hXw hid hhome hq.2.1)) (fun _ _ _ _ _ => rfl) ?_
       refine es_ 69 0 [] [] (fun ρ => b8) (fun ρ => [.slice none 0 0, vi 0, vi 0, vi 0]) (fun ρ => [v98, vi q.kind, vi q.line, vi q.value]) Try.sizeOf69 ?_
       refine e_p (v := fun ρ => (Gh.dec (γ := Value) (ρ 7))) (fun _ _ => Db) (Ind.gh (h := fun g => ((Gh.dec (γ := Value) g) : Value)) 7 0 rfl) (fun _ _ _ _ _ => rfl) ?_
       refine dn2 ?_
       refine dnl ?_; intro ρ
       refine xq_ (blk b8 69 [v98, vi q.kind, vi q.line, vi q.value] :: blk b14 69 [v98, vi q.kind, vi q.line, vi q.value] :: blk b12 82 [vi 3, vi (Ac c q.line).value, vi 3, vi ((Ac c q.line).serial + 1), vi (Ac c q.line).seen, vi (Ac c q.line).gave, vi (Ac c q.line).given] :: blk b7 66 q.cells :: L) ?_
       generalize (Gh.dec (γ := Value) (ρ 7)) = v108
       refine Gl ?_
       have eb : Av (Ac c q.line) q = { (Ac c q.line) with state := 3, want := 3, serial := (Ac c q.line).serial + 1 } := by unfold Av; rw [if_pos (by omega), if_pos (by omega)]
       have ed : A1 (Ac c q.line) q = false := by unfold A1; split <;> simp <;> omega
       have er : Ag c id home q = (Ap c q.line ({ (Ac c q.line) with state := 3, want := 3, serial := (Ac c q.line).serial + 1 }) q, [Bl ({ (Ac c q.line) with state := 3, want := 3, serial := (Ac c q.line).serial + 1 }) id home q.line], [], 0) := by unfold Ag; rw [if_neg (by omega), if_neg (by omega), if_neg (by omega), ed, if_neg (by decide), eb]
       rw [er]
       exact D2 (v98, v108, .slice none 0 0) Try.isAgg69 Try.sizeOf69
      ·
       intro ht72
       refine Gm ?_
       refine Ga2 ?_
       refine cFp (p := (0 : Int) ≠ 0) (by decide) ?_
       refine Gm ?_
       refine Gb1 ?_
       refine Ga3 ?_
       refine cdx (p := ?p3) (hd := ?d3) ?e3 ?_ ?_; case e3 => exact rfl
       ·
        intro ht111
        refine kp [1, 4, 7, 8, 9, 10, 11, 12, 15, 112, 113] ?_
        refine Aa ?_
        refine rn1 ?_
        refine sc ?_
        refine rn1 ?_
        refine sc ?_
        refine Gl ?_
        have hXw : ({ (Ac c q.line) with state := 0, value := 0 } : Line).wf := by unfold Line.wf Am at hlw ⊢; simp only; omega
        have hvb := E3 (v := (Ac c q.line).value) (o := q) (hk.v q.line.toNat (by omega)) (by omega)
        refine JC.slNil Msg ?_
        refine cq_ (blk b8 69 [.slice none 0 0, vi 0, vi 0, vi 0] :: blk b4 69 (c.cells u) :: blk b12 82 [vi 0, vi 0, vi (Ac c q.line).want, vi (Ac c q.line).serial, vi (Ac c q.line).seen, vi (Ac c q.line).gave, vi (Ac c q.line).given] :: blk b7 66 q.cells :: L) ?_
        refine jd_ (fun ρ S => blk b8 69 (bif S 10 then [Gh.dec (γ := Value) (ρ 4), vi c.wait.kind, vi c.wait.line, vi c.wait.value] else [.slice none 0 0, vi 0, vi 0, vi 0]) :: blk b4 69 (c.cells u) :: blk b12 82 [vi 0, vi 0, vi (Ac c q.line).want, vi (Ac c q.line).serial, vi (Ac c q.line).seen, vi (Ac c q.line).gave, vi (Ac c q.line).given] :: blk b7 66 q.cells :: L) ?_
        refine dn4 ?_
        refine Bn (γ := Value) (val := fun v => .agg (Core.cells v (Ap c q.line ({ (Ac c q.line) with state := 0, value := 0 }) c.wait)).toArray) (F := fun v => [sl v (c.lines.set q.line.toNat ({ (Ac c q.line) with state := 0, value := 0 }))]) Try.call77 (fun _ => rfl) (fun ρ L R w hd hs => Bb (l := { (Ac c q.line) with state := 0, value := 0 }) hs (hd.base mm) hXw (by omega)) (fun ρ g S hS hA => by have u10 : upS S 4 10 = S 10 := rfl; have h10 : S 10 = false := hA 10 ⟨0, rfl⟩; simp only [u10, h10, cond_false]) ?_
        refine dn4 ?_
        refine E7 ([⟨id, q, 0⟩] : List Done) Fj rfl (fun _ => rfl) rfl (fun _ => rfl) rfl rfl (fun ρ R hd => E5 ⟨hid, hq.1, hq.2.1, hq.2.2, by unfold Am; simp only; omega⟩) (fun _ _ _ _ _ => rfl) ?_
        refine es_ 69 0 [] [] (fun ρ => b8) (fun ρ => [.slice none 0 0, vi 0, vi 0, vi 0]) (fun ρ => [Gh.dec (γ := Value) (ρ 4), vi c.wait.kind, vi c.wait.line, vi c.wait.value]) Try.sizeOf69 (h1 := (fun ρ R w L' hd hs => A6 (isSlice.one (hs.fact (hd.dep (it := ⟨4, _, _, _, _⟩) (by repeat (first | exact List.Mem.head _ | refine List.Mem.tail _ ?_)) ⟨9, rfl⟩ (List.Mem.head _)))) (by repeat (first | exact C3 | refine A6 rfl ?_)))) ?_
        refine dn1 ?_
        refine e_p (v := fun ρ => (Gh.dec (γ := Value) (ρ 9))) (fun _ _ => Db) (Ind.gh (h := fun g => ((Gh.dec (γ := Value) g) : Value)) 9 0 rfl) (fun _ _ _ _ _ => rfl) ?_
        refine dn1 ?_
        refine dnl ?_; intro ρ
        refine xq_ (blk b8 69 [Gh.dec (γ := Value) (ρ 4), vi c.wait.kind, vi c.wait.line, vi c.wait.value] :: blk b4 69 (c.cells u) :: blk b12 82 [vi 0, vi 0, vi (Ac c q.line).want, vi (Ac c q.line).serial, vi (Ac c q.line).seen, vi (Ac c q.line).gave, vi (Ac c q.line).given] :: blk b7 66 q.cells :: L) ?_
        generalize (Gh.dec (γ := Value) (ρ 4)) = v126
        generalize (Gh.dec (γ := Value) (ρ 9)) = v131
        refine Gl ?_
        have eb : Av (Ac c q.line) q = { (Ac c q.line) with state := 0, value := 0 } := by unfold Av; rw [if_pos (by omega), if_neg (by omega)]
        have ed : A1 (Ac c q.line) q = true := by unfold A1; split <;> simp <;> omega
        have hz : c.wait = zOp := (hk.w.free (by omega)).1
        have et : Bd (Ac c q.line) q = 0 := by unfold Bd; rw [if_pos (by omega)]
        have er : Ag c id home q = (Ap c q.line ({ (Ac c q.line) with state := 0, value := 0 }) c.wait, [], [⟨id, q, 0⟩], 0) := by unfold Ag; rw [if_neg (by omega), if_neg (by omega), if_neg (by omega), ed, if_pos rfl, eb, et, hz]
        rw [er]
        exact D2 (v126, .slice none 0 0, v131) Try.isAgg69 Try.sizeOf69
       ·
        intro ht111
        refine kp [1, 4, 7, 8, 9, 10, 11, 12, 15, 114, 115, 116, 117, 118, 119, 120, 121] ?_
        refine Aa ?_
        refine rn3 ?_
        refine Aq Try.call79 rfl (fun w hs => Jz (v := (Ac c q.line).value) (o := q) hs (by unfold Line.wf at hlw; exact hlw.2.1) (by omega) (by omega) (by omega)) ?_; intro _
        refine rn4 ?_
        refine sc ?_
        refine Ga1 ?_
        have hvb := E3 (v := (Ac c q.line).value) (o := q) (hk.v q.line.toNat (by omega)) (by omega)
        have hXw : ({ (Ac c q.line) with value := (Au (Ac c q.line).value q).1 } : Line).wf := by unfold Line.wf Am at hlw ⊢; simp only; omega
        have hvb := E3 (v := (Ac c q.line).value) (o := q) (hk.v q.line.toNat (by omega)) (by omega)
        refine JC.slNil Msg ?_
        refine cq_ (blk b8 69 [.slice none 0 0, vi 0, vi 0, vi 0] :: blk b4 69 (c.cells u) :: blk b12 82 [vi (Ac c q.line).state, vi (Au (Ac c q.line).value q).1, vi (Ac c q.line).want, vi (Ac c q.line).serial, vi (Ac c q.line).seen, vi (Ac c q.line).gave, vi (Ac c q.line).given] :: blk b7 66 q.cells :: L) ?_
        refine jd_ (fun ρ S => blk b8 69 (bif S 10 then [Gh.dec (γ := Value) (ρ 4), vi c.wait.kind, vi c.wait.line, vi c.wait.value] else [.slice none 0 0, vi 0, vi 0, vi 0]) :: blk b4 69 (c.cells u) :: blk b12 82 [vi (Ac c q.line).state, vi (Au (Ac c q.line).value q).1, vi (Ac c q.line).want, vi (Ac c q.line).serial, vi (Ac c q.line).seen, vi (Ac c q.line).gave, vi (Ac c q.line).given] :: blk b7 66 q.cells :: L) ?_
        refine dn4 ?_
        refine Bn (γ := Value) (val := fun v => .agg (Core.cells v (Ap c q.line ({ (Ac c q.line) with value := (Au (Ac c q.line).value q).1 }) c.wait)).toArray) (F := fun v => [sl v (c.lines.set q.line.toNat ({ (Ac c q.line) with value := (Au (Ac c q.line).value q).1 }))]) Try.call77 (fun _ => rfl) (fun ρ L R w hd hs => Bb (l := { (Ac c q.line) with value := (Au (Ac c q.line).value q).1 }) hs (hd.base mm) hXw (by omega)) (fun ρ g S hS hA => by have u10 : upS S 4 10 = S 10 := rfl; have h10 : S 10 = false := hA 10 ⟨0, rfl⟩; simp only [u10, h10, cond_false]) ?_
        refine dn4 ?_
        refine E7 ([⟨id, q, (Au (Ac c q.line).value q).2⟩] : List Done) Fj rfl (fun _ => rfl) rfl (fun _ => rfl) rfl rfl (fun ρ R hd => E5 ⟨hid, hq.1, hq.2.1, hq.2.2, by unfold Am; simp only; omega⟩) (fun _ _ _ _ _ => rfl) ?_
        refine es_ 69 0 [] [] (fun ρ => b8) (fun ρ => [.slice none 0 0, vi 0, vi 0, vi 0]) (fun ρ => [Gh.dec (γ := Value) (ρ 4), vi c.wait.kind, vi c.wait.line, vi c.wait.value]) Try.sizeOf69 (h1 := (fun ρ R w L' hd hs => A6 (isSlice.one (hs.fact (hd.dep (it := ⟨4, _, _, _, _⟩) (by repeat (first | exact List.Mem.head _ | refine List.Mem.tail _ ?_)) ⟨9, rfl⟩ (List.Mem.head _)))) (by repeat (first | exact C3 | refine A6 rfl ?_)))) ?_
        refine dn1 ?_
        refine e_p (v := fun ρ => (Gh.dec (γ := Value) (ρ 9))) (fun _ _ => Db) (Ind.gh (h := fun g => ((Gh.dec (γ := Value) g) : Value)) 9 0 rfl) (fun _ _ _ _ _ => rfl) ?_
        refine dn1 ?_
        refine dnl ?_; intro ρ
        refine xq_ (blk b8 69 [Gh.dec (γ := Value) (ρ 4), vi c.wait.kind, vi c.wait.line, vi c.wait.value] :: blk b4 69 (c.cells u) :: blk b12 82 [vi (Ac c q.line).state, vi (Au (Ac c q.line).value q).1, vi (Ac c q.line).want, vi (Ac c q.line).serial, vi (Ac c q.line).seen, vi (Ac c q.line).gave, vi (Ac c q.line).given] :: blk b7 66 q.cells :: L) ?_
        generalize (Gh.dec (γ := Value) (ρ 4)) = v126
        generalize (Gh.dec (γ := Value) (ρ 9)) = v131
        refine Gl ?_
        have eb : Av (Ac c q.line) q = { (Ac c q.line) with value := (Au (Ac c q.line).value q).1 } := by unfold Av; rw [if_neg (by omega), if_pos (by omega)]
        have ed : A1 (Ac c q.line) q = true := by unfold A1; split <;> simp <;> omega
        have hz : c.wait = zOp := (hk.w.free (by omega)).1
        have et : Bd (Ac c q.line) q = (Au (Ac c q.line).value q).2 := by unfold Bd; rw [if_neg (by omega)]
        have er : Ag c id home q = (Ap c q.line ({ (Ac c q.line) with value := (Au (Ac c q.line).value q).1 }) c.wait, [], [⟨id, q, (Au (Ac c q.line).value q).2⟩], 0) := by unfold Ag; rw [if_neg (by omega), if_neg (by omega), if_neg (by omega), ed, if_pos rfl, eb, et, hz]
        rw [er]
        exact D2 (v126, .slice none 0 0, v131) Try.isAgg69 Try.sizeOf69
     ·
      intro ht68
      refine Gm ?_
      refine Ga2 ?_
      refine cdx (p := ?p4) (hd := ?d4) ?e4 ?_ ?_; case e4 => exact rfl
      ·
       intro ht73
       refine Gm ?_
       refine rn4 ?_
       refine jgx (t := 78) (p := ?p5) (hd := ?d5) ?e5 ?_ ?_; case e5 => exact rfl
       ·
        intro ht78
        refine Ga4 ?_
        refine cdx (p := ?p6) (hd := ?d6) ?e6 ?_ ?_; case e6 => exact rfl
        ·
         intro ht82
         refine kp [1, 2, 4, 7, 8, 9, 10, 11, 12, 13] ?_
         refine Aa ?_
         refine Gb1 ?_
         refine Ga2 ?_
         refine cTp (p := (1 : Int) ≠ 0) (by decide) ?_
         refine Gm ?_
         refine rn3 ?_
         refine ob (Fc (by exact rfl) (by exact rfl) (by unfold Line.wf Am at hlw; omega) (by unfold Line.wf Am at hlw; omega)) ?_
         refine rn1 ?_
         refine sc ?_
         refine rn1 ?_
         refine sc ?_
         refine Gm ?_
         refine Ga2 ?_
         refine cFp (p := (1 : Int) = 3) (by decide) ?_
         refine Gm ?_
         refine rn4 ?_
         have hXw : ({ (Ac c q.line) with want := 1, serial := (Ac c q.line).serial + 1 } : Line).wf := by unfold Line.wf Am at hlw ⊢; simp only; omega
         refine Aq Try.call77 rfl (fun w hs => Bb (l := { (Ac c q.line) with want := 1, serial := (Ac c q.line).serial + 1 }) hs mm hXw (by omega)) ?_; intro v98
         refine J.know (p := v98.oneCell' = true) (fun w hs => isSlice.one (hs.fact (List.Mem.head _))) (fun hone98 => ?_)
         refine al_ (cs := [.slice none 0 0, vi 0, vi 0, vi 0]) Try.zeroValue69 ?_; intro b14
         refine s_B (cs := [v98, vi c.wait.kind, vi c.wait.line, vi c.wait.value]) Try.sizeOf69 ?_
         refine Gm ?_
         refine rn2 ?_
         refine s_N [v98, vi q.kind, vi q.line, vi q.value] Try.sizeOf66 ?_
         refine Gl ?_
         refine JC.slNil Done ?_
         refine cq_ (blk b8 69 [.slice none 0 0, vi 0, vi 0, vi 0] :: blk b14 69 [v98, vi q.kind, vi q.line, vi q.value] :: blk b12 82 [vi (Ac c q.line).state, vi (Ac c q.line).value, vi 1, vi ((Ac c q.line).serial + 1), vi (Ac c q.line).seen, vi (Ac c q.line).gave, vi (Ac c q.line).given] :: blk b7 66 q.cells :: L) ?_
         refine jd_ (fun ρ S => blk b8 69 (bif S 8 then [v98, vi q.kind, vi q.line, vi q.value] else [.slice none 0 0, vi 0, vi 0, vi 0]) :: blk b14 69 [v98, vi q.kind, vi q.line, vi q.value] :: blk b12 82 [vi (Ac c q.line).state, vi (Ac c q.line).value, vi 1, vi ((Ac c q.line).serial + 1), vi (Ac c q.line).seen, vi (Ac c q.line).gave, vi (Ac c q.line).given] :: blk b7 66 q.cells :: L) ?_
         refine dn6 ?_
         refine Bn (γ := Unit) (val := fun _ => .agg (Bl ({ (Ac c q.line) with want := 1, serial := (Ac c q.line).serial + 1 }) id home q.line).cells.toArray) (F := fun _ => []) Try.call78 (fun _ => rfl) (fun ρ L R w hd hs => Li (l := { (Ac c q.line) with want := 1, serial := (Ac c q.line).serial + 1 }) (id := id) (home := home) (i := q.line) hs ) (fun _ _ _ _ _ => rfl) ?_
         refine E7 ([Bl ({ (Ac c q.line) with want := 1, serial := (Ac c q.line).serial + 1 }) id home q.line] : List Msg) Ga rfl (fun _ => rfl) rfl (fun _ => rfl) rfl rfl (fun ρ R hd => Io (Pi hXw hid hhome hq.2.1)) (fun _ _ _ _ _ => rfl) ?_
         refine es_ 69 0 [] [] (fun ρ => b8) (fun ρ => [.slice none 0 0, vi 0, vi 0, vi 0]) (fun ρ => [v98, vi q.kind, vi q.line, vi q.value]) Try.sizeOf69 ?_
         refine e_p (v := fun ρ => (Gh.dec (γ := Value) (ρ 7))) (fun _ _ => Db) (Ind.gh (h := fun g => ((Gh.dec (γ := Value) g) : Value)) 7 0 rfl) (fun _ _ _ _ _ => rfl) ?_
         refine dn2 ?_
         refine dnl ?_; intro ρ
         refine xq_ (blk b8 69 [v98, vi q.kind, vi q.line, vi q.value] :: blk b14 69 [v98, vi q.kind, vi q.line, vi q.value] :: blk b12 82 [vi (Ac c q.line).state, vi (Ac c q.line).value, vi 1, vi ((Ac c q.line).serial + 1), vi (Ac c q.line).seen, vi (Ac c q.line).gave, vi (Ac c q.line).given] :: blk b7 66 q.cells :: L) ?_
         generalize (Gh.dec (γ := Value) (ρ 7)) = v108
         refine Gl ?_
         have eb : Av (Ac c q.line) q = { (Ac c q.line) with want := 1, serial := (Ac c q.line).serial + 1 } := by unfold Av; rw [if_neg (by omega), if_neg (by omega), if_pos (by omega)]
         have ed : A1 (Ac c q.line) q = false := by unfold A1; split <;> simp <;> omega
         have er : Ag c id home q = (Ap c q.line ({ (Ac c q.line) with want := 1, serial := (Ac c q.line).serial + 1 }) q, [Bl ({ (Ac c q.line) with want := 1, serial := (Ac c q.line).serial + 1 }) id home q.line], [], 0) := by unfold Ag; rw [if_neg (by omega), if_neg (by omega), if_neg (by omega), ed, if_neg (by decide), eb]
         rw [er]
         exact D2 (v98, v108, .slice none 0 0) Try.isAgg69 Try.sizeOf69
        ·
         intro ht82
         refine Gl ?_
         refine kp [1, 2, 4, 7, 8, 9, 10, 11, 12, 13, 83, 84] ?_
         refine Aa ?_
         refine Ga2 ?_
         refine cFp (p := (0 : Int) ≠ 0) (by decide) ?_
         refine Gm ?_
         refine Gb1 ?_
         refine Ga3 ?_
         refine cdx (p := ?p7) (hd := ?d7) ?e7 ?_ ?_; case e7 => exact rfl
         ·
          intro ht111
          refine Aa ?_
          refine rn1 ?_
          refine sc ?_
          refine rn1 ?_
          refine sc ?_
          refine Gl ?_
          have hXw : ({ (Ac c q.line) with state := 0, value := 0 } : Line).wf := by unfold Line.wf Am at hlw ⊢; simp only; omega
          have hvb := E3 (v := (Ac c q.line).value) (o := q) (hk.v q.line.toNat (by omega)) (by omega)
          refine JC.slNil Msg ?_
          refine cq_ (blk b8 69 [.slice none 0 0, vi 0, vi 0, vi 0] :: blk b4 69 (c.cells u) :: blk b12 82 [vi 0, vi 0, vi (Ac c q.line).want, vi (Ac c q.line).serial, vi (Ac c q.line).seen, vi (Ac c q.line).gave, vi (Ac c q.line).given] :: blk b7 66 q.cells :: L) ?_
          refine jd_ (fun ρ S => blk b8 69 (bif S 10 then [Gh.dec (γ := Value) (ρ 4), vi c.wait.kind, vi c.wait.line, vi c.wait.value] else [.slice none 0 0, vi 0, vi 0, vi 0]) :: blk b4 69 (c.cells u) :: blk b12 82 [vi 0, vi 0, vi (Ac c q.line).want, vi (Ac c q.line).serial, vi (Ac c q.line).seen, vi (Ac c q.line).gave, vi (Ac c q.line).given] :: blk b7 66 q.cells :: L) ?_
          refine dn4 ?_
          refine Bn (γ := Value) (val := fun v => .agg (Core.cells v (Ap c q.line ({ (Ac c q.line) with state := 0, value := 0 }) c.wait)).toArray) (F := fun v => [sl v (c.lines.set q.line.toNat ({ (Ac c q.line) with state := 0, value := 0 }))]) Try.call77 (fun _ => rfl) (fun ρ L R w hd hs => Bb (l := { (Ac c q.line) with state := 0, value := 0 }) hs (hd.base mm) hXw (by omega)) (fun ρ g S hS hA => by have u10 : upS S 4 10 = S 10 := rfl; have h10 : S 10 = false := hA 10 ⟨0, rfl⟩; simp only [u10, h10, cond_false]) ?_
          refine dn4 ?_
          refine E7 ([⟨id, q, 0⟩] : List Done) Fj rfl (fun _ => rfl) rfl (fun _ => rfl) rfl rfl (fun ρ R hd => E5 ⟨hid, hq.1, hq.2.1, hq.2.2, by unfold Am; simp only; omega⟩) (fun _ _ _ _ _ => rfl) ?_
          refine es_ 69 0 [] [] (fun ρ => b8) (fun ρ => [.slice none 0 0, vi 0, vi 0, vi 0]) (fun ρ => [Gh.dec (γ := Value) (ρ 4), vi c.wait.kind, vi c.wait.line, vi c.wait.value]) Try.sizeOf69 (h1 := (fun ρ R w L' hd hs => A6 (isSlice.one (hs.fact (hd.dep (it := ⟨4, _, _, _, _⟩) (by repeat (first | exact List.Mem.head _ | refine List.Mem.tail _ ?_)) ⟨9, rfl⟩ (List.Mem.head _)))) (by repeat (first | exact C3 | refine A6 rfl ?_)))) ?_
          refine dn1 ?_
          refine e_p (v := fun ρ => (Gh.dec (γ := Value) (ρ 9))) (fun _ _ => Db) (Ind.gh (h := fun g => ((Gh.dec (γ := Value) g) : Value)) 9 0 rfl) (fun _ _ _ _ _ => rfl) ?_
          refine dn1 ?_
          refine dnl ?_; intro ρ
          refine xq_ (blk b8 69 [Gh.dec (γ := Value) (ρ 4), vi c.wait.kind, vi c.wait.line, vi c.wait.value] :: blk b4 69 (c.cells u) :: blk b12 82 [vi 0, vi 0, vi (Ac c q.line).want, vi (Ac c q.line).serial, vi (Ac c q.line).seen, vi (Ac c q.line).gave, vi (Ac c q.line).given] :: blk b7 66 q.cells :: L) ?_
          generalize (Gh.dec (γ := Value) (ρ 4)) = v126
          generalize (Gh.dec (γ := Value) (ρ 9)) = v131
          refine Gl ?_
          have eb : Av (Ac c q.line) q = { (Ac c q.line) with state := 0, value := 0 } := by unfold Av; rw [if_pos (by omega), if_neg (by omega)]
          have ed : A1 (Ac c q.line) q = true := by unfold A1; split <;> simp <;> omega
          have hz : c.wait = zOp := (hk.w.free (by omega)).1
          have et : Bd (Ac c q.line) q = 0 := by unfold Bd; rw [if_pos (by omega)]
          have er : Ag c id home q = (Ap c q.line ({ (Ac c q.line) with state := 0, value := 0 }) c.wait, [], [⟨id, q, 0⟩], 0) := by unfold Ag; rw [if_neg (by omega), if_neg (by omega), if_neg (by omega), ed, if_pos rfl, eb, et, hz]
          rw [er]
          exact D2 (v126, .slice none 0 0, v131) Try.isAgg69 Try.sizeOf69
         ·
          intro ht111
          refine Aa ?_
          refine rn3 ?_
          refine Aq Try.call79 rfl (fun w hs => Jz (v := (Ac c q.line).value) (o := q) hs (by unfold Line.wf at hlw; exact hlw.2.1) (by omega) (by omega) (by omega)) ?_; intro _
          refine rn4 ?_
          refine sc ?_
          refine Ga1 ?_
          have hvb := E3 (v := (Ac c q.line).value) (o := q) (hk.v q.line.toNat (by omega)) (by omega)
          have hXw : ({ (Ac c q.line) with value := (Au (Ac c q.line).value q).1 } : Line).wf := by unfold Line.wf Am at hlw ⊢; simp only; omega
          have hvb := E3 (v := (Ac c q.line).value) (o := q) (hk.v q.line.toNat (by omega)) (by omega)
          refine JC.slNil Msg ?_
          refine cq_ (blk b8 69 [.slice none 0 0, vi 0, vi 0, vi 0] :: blk b4 69 (c.cells u) :: blk b12 82 [vi (Ac c q.line).state, vi (Au (Ac c q.line).value q).1, vi (Ac c q.line).want, vi (Ac c q.line).serial, vi (Ac c q.line).seen, vi (Ac c q.line).gave, vi (Ac c q.line).given] :: blk b7 66 q.cells :: L) ?_
          refine jd_ (fun ρ S => blk b8 69 (bif S 10 then [Gh.dec (γ := Value) (ρ 4), vi c.wait.kind, vi c.wait.line, vi c.wait.value] else [.slice none 0 0, vi 0, vi 0, vi 0]) :: blk b4 69 (c.cells u) :: blk b12 82 [vi (Ac c q.line).state, vi (Au (Ac c q.line).value q).1, vi (Ac c q.line).want, vi (Ac c q.line).serial, vi (Ac c q.line).seen, vi (Ac c q.line).gave, vi (Ac c q.line).given] :: blk b7 66 q.cells :: L) ?_
          refine dn4 ?_
          refine Bn (γ := Value) (val := fun v => .agg (Core.cells v (Ap c q.line ({ (Ac c q.line) with value := (Au (Ac c q.line).value q).1 }) c.wait)).toArray) (F := fun v => [sl v (c.lines.set q.line.toNat ({ (Ac c q.line) with value := (Au (Ac c q.line).value q).1 }))]) Try.call77 (fun _ => rfl) (fun ρ L R w hd hs => Bb (l := { (Ac c q.line) with value := (Au (Ac c q.line).value q).1 }) hs (hd.base mm) hXw (by omega)) (fun ρ g S hS hA => by have u10 : upS S 4 10 = S 10 := rfl; have h10 : S 10 = false := hA 10 ⟨0, rfl⟩; simp only [u10, h10, cond_false]) ?_
          refine dn4 ?_
          refine E7 ([⟨id, q, (Au (Ac c q.line).value q).2⟩] : List Done) Fj rfl (fun _ => rfl) rfl (fun _ => rfl) rfl rfl (fun ρ R hd => E5 ⟨hid, hq.1, hq.2.1, hq.2.2, by unfold Am; simp only; omega⟩) (fun _ _ _ _ _ => rfl) ?_
          refine es_ 69 0 [] [] (fun ρ => b8) (fun ρ => [.slice none 0 0, vi 0, vi 0, vi 0]) (fun ρ => [Gh.dec (γ := Value) (ρ 4), vi c.wait.kind, vi c.wait.line, vi c.wait.value]) Try.sizeOf69 (h1 := (fun ρ R w L' hd hs => A6 (isSlice.one (hs.fact (hd.dep (it := ⟨4, _, _, _, _⟩) (by repeat (first | exact List.Mem.head _ | refine List.Mem.tail _ ?_)) ⟨9, rfl⟩ (List.Mem.head _)))) (by repeat (first | exact C3 | refine A6 rfl ?_)))) ?_
          refine dn1 ?_
          refine e_p (v := fun ρ => (Gh.dec (γ := Value) (ρ 9))) (fun _ _ => Db) (Ind.gh (h := fun g => ((Gh.dec (γ := Value) g) : Value)) 9 0 rfl) (fun _ _ _ _ _ => rfl) ?_
          refine dn1 ?_
          refine dnl ?_; intro ρ
          refine xq_ (blk b8 69 [Gh.dec (γ := Value) (ρ 4), vi c.wait.kind, vi c.wait.line, vi c.wait.value] :: blk b4 69 (c.cells u) :: blk b12 82 [vi (Ac c q.line).state, vi (Au (Ac c q.line).value q).1, vi (Ac c q.line).want, vi (Ac c q.line).serial, vi (Ac c q.line).seen, vi (Ac c q.line).gave, vi (Ac c q.line).given] :: blk b7 66 q.cells :: L) ?_
          generalize (Gh.dec (γ := Value) (ρ 4)) = v126
          generalize (Gh.dec (γ := Value) (ρ 9)) = v131
          refine Gl ?_
          have eb : Av (Ac c q.line) q = { (Ac c q.line) with value := (Au (Ac c q.line).value q).1 } := by unfold Av; rw [if_neg (by omega), if_pos (by omega)]
          have ed : A1 (Ac c q.line) q = true := by unfold A1; split <;> simp <;> omega
          have hz : c.wait = zOp := (hk.w.free (by omega)).1
          have et : Bd (Ac c q.line) q = (Au (Ac c q.line).value q).2 := by unfold Bd; rw [if_neg (by omega)]
          have er : Ag c id home q = (Ap c q.line ({ (Ac c q.line) with value := (Au (Ac c q.line).value q).1 }) c.wait, [], [⟨id, q, (Au (Ac c q.line).value q).2⟩], 0) := by unfold Ag; rw [if_neg (by omega), if_neg (by omega), if_neg (by omega), ed, if_pos rfl, eb, et, hz]
          rw [er]
          exact D2 (v126, .slice none 0 0, v131) Try.isAgg69 Try.sizeOf69
       ·
        intro ht78
        refine Gc4 ?_
        refine kp [1, 2, 4, 7, 8, 9, 10, 11, 12, 13, 83, 84] ?_
        refine Aa ?_
        refine Ga2 ?_
        refine cFp (p := (0 : Int) ≠ 0) (by decide) ?_
        refine Gm ?_
        refine Gb1 ?_
        refine Ga3 ?_
        refine cdx (p := ?p8) (hd := ?d8) ?e8 ?_ ?_; case e8 => exact rfl
        ·
         intro ht111
         refine Aa ?_
         refine rn1 ?_
         refine sc ?_
         refine rn1 ?_
         refine sc ?_
         refine Gl ?_
         have hXw : ({ (Ac c q.line) with state := 0, value := 0 } : Line).wf := by unfold Line.wf Am at hlw ⊢; simp only; omega
         have hvb := E3 (v := (Ac c q.line).value) (o := q) (hk.v q.line.toNat (by omega)) (by omega)
         refine JC.slNil Msg ?_
         refine cq_ (blk b8 69 [.slice none 0 0, vi 0, vi 0, vi 0] :: blk b4 69 (c.cells u) :: blk b12 82 [vi 0, vi 0, vi (Ac c q.line).want, vi (Ac c q.line).serial, vi (Ac c q.line).seen, vi (Ac c q.line).gave, vi (Ac c q.line).given] :: blk b7 66 q.cells :: L) ?_
         refine jd_ (fun ρ S => blk b8 69 (bif S 10 then [Gh.dec (γ := Value) (ρ 4), vi c.wait.kind, vi c.wait.line, vi c.wait.value] else [.slice none 0 0, vi 0, vi 0, vi 0]) :: blk b4 69 (c.cells u) :: blk b12 82 [vi 0, vi 0, vi (Ac c q.line).want, vi (Ac c q.line).serial, vi (Ac c q.line).seen, vi (Ac c q.line).gave, vi (Ac c q.line).given] :: blk b7 66 q.cells :: L) ?_
         refine dn4 ?_
         refine Bn (γ := Value) (val := fun v => .agg (Core.cells v (Ap c q.line ({ (Ac c q.line) with state := 0, value := 0 }) c.wait)).toArray) (F := fun v => [sl v (c.lines.set q.line.toNat ({ (Ac c q.line) with state := 0, value := 0 }))]) Try.call77 (fun _ => rfl) (fun ρ L R w hd hs => Bb (l := { (Ac c q.line) with state := 0, value := 0 }) hs (hd.base mm) hXw (by omega)) (fun ρ g S hS hA => by have u10 : upS S 4 10 = S 10 := rfl; have h10 : S 10 = false := hA 10 ⟨0, rfl⟩; simp only [u10, h10, cond_false]) ?_
         refine dn4 ?_
         refine E7 ([⟨id, q, 0⟩] : List Done) Fj rfl (fun _ => rfl) rfl (fun _ => rfl) rfl rfl (fun ρ R hd => E5 ⟨hid, hq.1, hq.2.1, hq.2.2, by unfold Am; simp only; omega⟩) (fun _ _ _ _ _ => rfl) ?_
         refine es_ 69 0 [] [] (fun ρ => b8) (fun ρ => [.slice none 0 0, vi 0, vi 0, vi 0]) (fun ρ => [Gh.dec (γ := Value) (ρ 4), vi c.wait.kind, vi c.wait.line, vi c.wait.value]) Try.sizeOf69 (h1 := (fun ρ R w L' hd hs => A6 (isSlice.one (hs.fact (hd.dep (it := ⟨4, _, _, _, _⟩) (by repeat (first | exact List.Mem.head _ | refine List.Mem.tail _ ?_)) ⟨9, rfl⟩ (List.Mem.head _)))) (by repeat (first | exact C3 | refine A6 rfl ?_)))) ?_
         refine dn1 ?_
         refine e_p (v := fun ρ => (Gh.dec (γ := Value) (ρ 9))) (fun _ _ => Db) (Ind.gh (h := fun g => ((Gh.dec (γ := Value) g) : Value)) 9 0 rfl) (fun _ _ _ _ _ => rfl) ?_
         refine dn1 ?_
         refine dnl ?_; intro ρ
         refine xq_ (blk b8 69 [Gh.dec (γ := Value) (ρ 4), vi c.wait.kind, vi c.wait.line, vi c.wait.value] :: blk b4 69 (c.cells u) :: blk b12 82 [vi 0, vi 0, vi (Ac c q.line).want, vi (Ac c q.line).serial, vi (Ac c q.line).seen, vi (Ac c q.line).gave, vi (Ac c q.line).given] :: blk b7 66 q.cells :: L) ?_
         generalize (Gh.dec (γ := Value) (ρ 4)) = v126
         generalize (Gh.dec (γ := Value) (ρ 9)) = v131
         refine Gl ?_
         have eb : Av (Ac c q.line) q = { (Ac c q.line) with state := 0, value := 0 } := by unfold Av; rw [if_pos (by omega), if_neg (by omega)]
         have ed : A1 (Ac c q.line) q = true := by unfold A1; split <;> simp <;> omega
         have hz : c.wait = zOp := (hk.w.free (by omega)).1
         have et : Bd (Ac c q.line) q = 0 := by unfold Bd; rw [if_pos (by omega)]
         have er : Ag c id home q = (Ap c q.line ({ (Ac c q.line) with state := 0, value := 0 }) c.wait, [], [⟨id, q, 0⟩], 0) := by unfold Ag; rw [if_neg (by omega), if_neg (by omega), if_neg (by omega), ed, if_pos rfl, eb, et, hz]
         rw [er]
         exact D2 (v126, .slice none 0 0, v131) Try.isAgg69 Try.sizeOf69
        ·
         intro ht111
         refine Aa ?_
         refine rn3 ?_
         refine Aq Try.call79 rfl (fun w hs => Jz (v := (Ac c q.line).value) (o := q) hs (by unfold Line.wf at hlw; exact hlw.2.1) (by omega) (by omega) (by omega)) ?_; intro _
         refine rn4 ?_
         refine sc ?_
         refine Ga1 ?_
         have hvb := E3 (v := (Ac c q.line).value) (o := q) (hk.v q.line.toNat (by omega)) (by omega)
         have hXw : ({ (Ac c q.line) with value := (Au (Ac c q.line).value q).1 } : Line).wf := by unfold Line.wf Am at hlw ⊢; simp only; omega
         have hvb := E3 (v := (Ac c q.line).value) (o := q) (hk.v q.line.toNat (by omega)) (by omega)
         refine JC.slNil Msg ?_
         refine cq_ (blk b8 69 [.slice none 0 0, vi 0, vi 0, vi 0] :: blk b4 69 (c.cells u) :: blk b12 82 [vi (Ac c q.line).state, vi (Au (Ac c q.line).value q).1, vi (Ac c q.line).want, vi (Ac c q.line).serial, vi (Ac c q.line).seen, vi (Ac c q.line).gave, vi (Ac c q.line).given] :: blk b7 66 q.cells :: L) ?_
         refine jd_ (fun ρ S => blk b8 69 (bif S 10 then [Gh.dec (γ := Value) (ρ 4), vi c.wait.kind, vi c.wait.line, vi c.wait.value] else [.slice none 0 0, vi 0, vi 0, vi 0]) :: blk b4 69 (c.cells u) :: blk b12 82 [vi (Ac c q.line).state, vi (Au (Ac c q.line).value q).1, vi (Ac c q.line).want, vi (Ac c q.line).serial, vi (Ac c q.line).seen, vi (Ac c q.line).gave, vi (Ac c q.line).given] :: blk b7 66 q.cells :: L) ?_
         refine dn4 ?_
         refine Bn (γ := Value) (val := fun v => .agg (Core.cells v (Ap c q.line ({ (Ac c q.line) with value := (Au (Ac c q.line).value q).1 }) c.wait)).toArray) (F := fun v => [sl v (c.lines.set q.line.toNat ({ (Ac c q.line) with value := (Au (Ac c q.line).value q).1 }))]) Try.call77 (fun _ => rfl) (fun ρ L R w hd hs => Bb (l := { (Ac c q.line) with value := (Au (Ac c q.line).value q).1 }) hs (hd.base mm) hXw (by omega)) (fun ρ g S hS hA => by have u10 : upS S 4 10 = S 10 := rfl; have h10 : S 10 = false := hA 10 ⟨0, rfl⟩; simp only [u10, h10, cond_false]) ?_
         refine dn4 ?_
         refine E7 ([⟨id, q, (Au (Ac c q.line).value q).2⟩] : List Done) Fj rfl (fun _ => rfl) rfl (fun _ => rfl) rfl rfl (fun ρ R hd => E5 ⟨hid, hq.1, hq.2.1, hq.2.2, by unfold Am; simp only; omega⟩) (fun _ _ _ _ _ => rfl) ?_
         refine es_ 69 0 [] [] (fun ρ => b8) (fun ρ => [.slice none 0 0, vi 0, vi 0, vi 0]) (fun ρ => [Gh.dec (γ := Value) (ρ 4), vi c.wait.kind, vi c.wait.line, vi c.wait.value]) Try.sizeOf69 (h1 := (fun ρ R w L' hd hs => A6 (isSlice.one (hs.fact (hd.dep (it := ⟨4, _, _, _, _⟩) (by repeat (first | exact List.Mem.head _ | refine List.Mem.tail _ ?_)) ⟨9, rfl⟩ (List.Mem.head _)))) (by repeat (first | exact C3 | refine A6 rfl ?_)))) ?_
         refine dn1 ?_
         refine e_p (v := fun ρ => (Gh.dec (γ := Value) (ρ 9))) (fun _ _ => Db) (Ind.gh (h := fun g => ((Gh.dec (γ := Value) g) : Value)) 9 0 rfl) (fun _ _ _ _ _ => rfl) ?_
         refine dn1 ?_
         refine dnl ?_; intro ρ
         refine xq_ (blk b8 69 [Gh.dec (γ := Value) (ρ 4), vi c.wait.kind, vi c.wait.line, vi c.wait.value] :: blk b4 69 (c.cells u) :: blk b12 82 [vi (Ac c q.line).state, vi (Au (Ac c q.line).value q).1, vi (Ac c q.line).want, vi (Ac c q.line).serial, vi (Ac c q.line).seen, vi (Ac c q.line).gave, vi (Ac c q.line).given] :: blk b7 66 q.cells :: L) ?_
         generalize (Gh.dec (γ := Value) (ρ 4)) = v126
         generalize (Gh.dec (γ := Value) (ρ 9)) = v131
         refine Gl ?_
         have eb : Av (Ac c q.line) q = { (Ac c q.line) with value := (Au (Ac c q.line).value q).1 } := by unfold Av; rw [if_neg (by omega), if_pos (by omega)]
         have ed : A1 (Ac c q.line) q = true := by unfold A1; split <;> simp <;> omega
         have hz : c.wait = zOp := (hk.w.free (by omega)).1
         have et : Bd (Ac c q.line) q = (Au (Ac c q.line).value q).2 := by unfold Bd; rw [if_neg (by omega)]
         have er : Ag c id home q = (Ap c q.line ({ (Ac c q.line) with value := (Au (Ac c q.line).value q).1 }) c.wait, [], [⟨id, q, (Au (Ac c q.line).value q).2⟩], 0) := by unfold Ag; rw [if_neg (by omega), if_neg (by omega), if_neg (by omega), ed, if_pos rfl, eb, et, hz]
         rw [er]
         exact D2 (v126, .slice none 0 0, v131) Try.isAgg69 Try.sizeOf69
      ·
       intro ht73
       refine Gm ?_
       refine Ga3 ?_
       refine cdx (p := ?p9) (hd := ?d9) ?e9 ?_ ?_; case e9 => exact rfl
       ·
        intro ht67
        refine Aa ?_
        refine Gb1 ?_
        refine Ga2 ?_
        refine cTp (p := (2 : Int) ≠ 0) (by decide) ?_
        refine Gm ?_
        refine rn3 ?_
        refine ob (Fc (by exact rfl) (by exact rfl) (by unfold Line.wf Am at hlw; omega) (by unfold Line.wf Am at hlw; omega)) ?_
        refine rn1 ?_
        refine sc ?_
        refine rn1 ?_
        refine sc ?_
        refine Gl ?_
        refine kp [1, 2, 4, 7, 8, 9, 10, 11, 12, 13, 91, 92] ?_
        refine Aa ?_
        refine Ga2 ?_
        refine cFp (p := (2 : Int) = 3) (by decide) ?_
        refine Gm ?_
        refine rn4 ?_
        have hXw : ({ (Ac c q.line) with want := 2, serial := (Ac c q.line).serial + 1 } : Line).wf := by unfold Line.wf Am at hlw ⊢; simp only; omega
        refine Aq Try.call77 rfl (fun w hs => Bb (l := { (Ac c q.line) with want := 2, serial := (Ac c q.line).serial + 1 }) hs mm hXw (by omega)) ?_; intro v98
        refine J.know (p := v98.oneCell' = true) (fun w hs => isSlice.one (hs.fact (List.Mem.head _))) (fun hone98 => ?_)
        refine al_ (cs := [.slice none 0 0, vi 0, vi 0, vi 0]) Try.zeroValue69 ?_; intro b14
        refine s_B (cs := [v98, vi c.wait.kind, vi c.wait.line, vi c.wait.value]) Try.sizeOf69 ?_
        refine Gm ?_
        refine rn2 ?_
        refine s_N [v98, vi q.kind, vi q.line, vi q.value] Try.sizeOf66 ?_
        refine Gl ?_
        refine JC.slNil Done ?_
        refine cq_ (blk b8 69 [.slice none 0 0, vi 0, vi 0, vi 0] :: blk b14 69 [v98, vi q.kind, vi q.line, vi q.value] :: blk b12 82 [vi (Ac c q.line).state, vi (Ac c q.line).value, vi 2, vi ((Ac c q.line).serial + 1), vi (Ac c q.line).seen, vi (Ac c q.line).gave, vi (Ac c q.line).given] :: blk b7 66 q.cells :: L) ?_
        refine jd_ (fun ρ S => blk b8 69 (bif S 8 then [v98, vi q.kind, vi q.line, vi q.value] else [.slice none 0 0, vi 0, vi 0, vi 0]) :: blk b14 69 [v98, vi q.kind, vi q.line, vi q.value] :: blk b12 82 [vi (Ac c q.line).state, vi (Ac c q.line).value, vi 2, vi ((Ac c q.line).serial + 1), vi (Ac c q.line).seen, vi (Ac c q.line).gave, vi (Ac c q.line).given] :: blk b7 66 q.cells :: L) ?_
        refine dn6 ?_
        refine Bn (γ := Unit) (val := fun _ => .agg (Bl ({ (Ac c q.line) with want := 2, serial := (Ac c q.line).serial + 1 }) id home q.line).cells.toArray) (F := fun _ => []) Try.call78 (fun _ => rfl) (fun ρ L R w hd hs => Li (l := { (Ac c q.line) with want := 2, serial := (Ac c q.line).serial + 1 }) (id := id) (home := home) (i := q.line) hs ) (fun _ _ _ _ _ => rfl) ?_
        refine E7 ([Bl ({ (Ac c q.line) with want := 2, serial := (Ac c q.line).serial + 1 }) id home q.line] : List Msg) Ga rfl (fun _ => rfl) rfl (fun _ => rfl) rfl rfl (fun ρ R hd => Io (Pi hXw hid hhome hq.2.1)) (fun _ _ _ _ _ => rfl) ?_
        refine es_ 69 0 [] [] (fun ρ => b8) (fun ρ => [.slice none 0 0, vi 0, vi 0, vi 0]) (fun ρ => [v98, vi q.kind, vi q.line, vi q.value]) Try.sizeOf69 ?_
        refine e_p (v := fun ρ => (Gh.dec (γ := Value) (ρ 7))) (fun _ _ => Db) (Ind.gh (h := fun g => ((Gh.dec (γ := Value) g) : Value)) 7 0 rfl) (fun _ _ _ _ _ => rfl) ?_
        refine dn2 ?_
        refine dnl ?_; intro ρ
        refine xq_ (blk b8 69 [v98, vi q.kind, vi q.line, vi q.value] :: blk b14 69 [v98, vi q.kind, vi q.line, vi q.value] :: blk b12 82 [vi (Ac c q.line).state, vi (Ac c q.line).value, vi 2, vi ((Ac c q.line).serial + 1), vi (Ac c q.line).seen, vi (Ac c q.line).gave, vi (Ac c q.line).given] :: blk b7 66 q.cells :: L) ?_
        generalize (Gh.dec (γ := Value) (ρ 7)) = v108
        refine Gl ?_
        have eb : Av (Ac c q.line) q = { (Ac c q.line) with want := 2, serial := (Ac c q.line).serial + 1 } := by unfold Av; rw [if_neg (by omega), if_neg (by omega), if_neg (by omega)]
        have ed : A1 (Ac c q.line) q = false := by unfold A1; split <;> simp <;> omega
        have er : Ag c id home q = (Ap c q.line ({ (Ac c q.line) with want := 2, serial := (Ac c q.line).serial + 1 }) q, [Bl ({ (Ac c q.line) with want := 2, serial := (Ac c q.line).serial + 1 }) id home q.line], [], 0) := by unfold Ag; rw [if_neg (by omega), if_neg (by omega), if_neg (by omega), ed, if_neg (by decide), eb]
        rw [er]
        exact D2 (v98, v108, .slice none 0 0) Try.isAgg69 Try.sizeOf69
       ·
        intro ht67
        refine Gm ?_
        refine Ga2 ?_
        refine cFp (p := (0 : Int) ≠ 0) (by decide) ?_
        refine Gm ?_
        refine Gb1 ?_
        refine Ga3 ?_
        refine cdx (p := ?p10) (hd := ?d10) ?e10 ?_ ?_; case e10 => exact rfl
        ·
         intro ht111
         refine kp [1, 4, 7, 8, 9, 10, 11, 12, 15, 112, 113] ?_
         refine Aa ?_
         refine rn1 ?_
         refine sc ?_
         refine rn1 ?_
         refine sc ?_
         refine Gl ?_
         have hXw : ({ (Ac c q.line) with state := 0, value := 0 } : Line).wf := by unfold Line.wf Am at hlw ⊢; simp only; omega
         have hvb := E3 (v := (Ac c q.line).value) (o := q) (hk.v q.line.toNat (by omega)) (by omega)
         refine JC.slNil Msg ?_
         refine cq_ (blk b8 69 [.slice none 0 0, vi 0, vi 0, vi 0] :: blk b4 69 (c.cells u) :: blk b12 82 [vi 0, vi 0, vi (Ac c q.line).want, vi (Ac c q.line).serial, vi (Ac c q.line).seen, vi (Ac c q.line).gave, vi (Ac c q.line).given] :: blk b7 66 q.cells :: L) ?_
         refine jd_ (fun ρ S => blk b8 69 (bif S 10 then [Gh.dec (γ := Value) (ρ 4), vi c.wait.kind, vi c.wait.line, vi c.wait.value] else [.slice none 0 0, vi 0, vi 0, vi 0]) :: blk b4 69 (c.cells u) :: blk b12 82 [vi 0, vi 0, vi (Ac c q.line).want, vi (Ac c q.line).serial, vi (Ac c q.line).seen, vi (Ac c q.line).gave, vi (Ac c q.line).given] :: blk b7 66 q.cells :: L) ?_
         refine dn4 ?_
         refine Bn (γ := Value) (val := fun v => .agg (Core.cells v (Ap c q.line ({ (Ac c q.line) with state := 0, value := 0 }) c.wait)).toArray) (F := fun v => [sl v (c.lines.set q.line.toNat ({ (Ac c q.line) with state := 0, value := 0 }))]) Try.call77 (fun _ => rfl) (fun ρ L R w hd hs => Bb (l := { (Ac c q.line) with state := 0, value := 0 }) hs (hd.base mm) hXw (by omega)) (fun ρ g S hS hA => by have u10 : upS S 4 10 = S 10 := rfl; have h10 : S 10 = false := hA 10 ⟨0, rfl⟩; simp only [u10, h10, cond_false]) ?_
         refine dn4 ?_
         refine E7 ([⟨id, q, 0⟩] : List Done) Fj rfl (fun _ => rfl) rfl (fun _ => rfl) rfl rfl (fun ρ R hd => E5 ⟨hid, hq.1, hq.2.1, hq.2.2, by unfold Am; simp only; omega⟩) (fun _ _ _ _ _ => rfl) ?_
         refine es_ 69 0 [] [] (fun ρ => b8) (fun ρ => [.slice none 0 0, vi 0, vi 0, vi 0]) (fun ρ => [Gh.dec (γ := Value) (ρ 4), vi c.wait.kind, vi c.wait.line, vi c.wait.value]) Try.sizeOf69 (h1 := (fun ρ R w L' hd hs => A6 (isSlice.one (hs.fact (hd.dep (it := ⟨4, _, _, _, _⟩) (by repeat (first | exact List.Mem.head _ | refine List.Mem.tail _ ?_)) ⟨9, rfl⟩ (List.Mem.head _)))) (by repeat (first | exact C3 | refine A6 rfl ?_)))) ?_
         refine dn1 ?_
         refine e_p (v := fun ρ => (Gh.dec (γ := Value) (ρ 9))) (fun _ _ => Db) (Ind.gh (h := fun g => ((Gh.dec (γ := Value) g) : Value)) 9 0 rfl) (fun _ _ _ _ _ => rfl) ?_
         refine dn1 ?_
         refine dnl ?_; intro ρ
         refine xq_ (blk b8 69 [Gh.dec (γ := Value) (ρ 4), vi c.wait.kind, vi c.wait.line, vi c.wait.value] :: blk b4 69 (c.cells u) :: blk b12 82 [vi 0, vi 0, vi (Ac c q.line).want, vi (Ac c q.line).serial, vi (Ac c q.line).seen, vi (Ac c q.line).gave, vi (Ac c q.line).given] :: blk b7 66 q.cells :: L) ?_
         generalize (Gh.dec (γ := Value) (ρ 4)) = v126
         generalize (Gh.dec (γ := Value) (ρ 9)) = v131
         refine Gl ?_
         have eb : Av (Ac c q.line) q = { (Ac c q.line) with state := 0, value := 0 } := by unfold Av; rw [if_pos (by omega), if_neg (by omega)]
         have ed : A1 (Ac c q.line) q = true := by unfold A1; split <;> simp <;> omega
         have hz : c.wait = zOp := (hk.w.free (by omega)).1
         have et : Bd (Ac c q.line) q = 0 := by unfold Bd; rw [if_pos (by omega)]
         have er : Ag c id home q = (Ap c q.line ({ (Ac c q.line) with state := 0, value := 0 }) c.wait, [], [⟨id, q, 0⟩], 0) := by unfold Ag; rw [if_neg (by omega), if_neg (by omega), if_neg (by omega), ed, if_pos rfl, eb, et, hz]
         rw [er]
         exact D2 (v126, .slice none 0 0, v131) Try.isAgg69 Try.sizeOf69
        ·
         intro ht111
         refine kp [1, 4, 7, 8, 9, 10, 11, 12, 15, 114, 115, 116, 117, 118, 119, 120, 121] ?_
         refine Aa ?_
         refine rn3 ?_
         refine Aq Try.call79 rfl (fun w hs => Jz (v := (Ac c q.line).value) (o := q) hs (by unfold Line.wf at hlw; exact hlw.2.1) (by omega) (by omega) (by omega)) ?_; intro _
         refine rn4 ?_
         refine sc ?_
         refine Ga1 ?_
         have hvb := E3 (v := (Ac c q.line).value) (o := q) (hk.v q.line.toNat (by omega)) (by omega)
         have hXw : ({ (Ac c q.line) with value := (Au (Ac c q.line).value q).1 } : Line).wf := by unfold Line.wf Am at hlw ⊢; simp only; omega
         have hvb := E3 (v := (Ac c q.line).value) (o := q) (hk.v q.line.toNat (by omega)) (by omega)
         refine JC.slNil Msg ?_
         refine cq_ (blk b8 69 [.slice none 0 0, vi 0, vi 0, vi 0] :: blk b4 69 (c.cells u) :: blk b12 82 [vi (Ac c q.line).state, vi (Au (Ac c q.line).value q).1, vi (Ac c q.line).want, vi (Ac c q.line).serial, vi (Ac c q.line).seen, vi (Ac c q.line).gave, vi (Ac c q.line).given] :: blk b7 66 q.cells :: L) ?_
         refine jd_ (fun ρ S => blk b8 69 (bif S 10 then [Gh.dec (γ := Value) (ρ 4), vi c.wait.kind, vi c.wait.line, vi c.wait.value] else [.slice none 0 0, vi 0, vi 0, vi 0]) :: blk b4 69 (c.cells u) :: blk b12 82 [vi (Ac c q.line).state, vi (Au (Ac c q.line).value q).1, vi (Ac c q.line).want, vi (Ac c q.line).serial, vi (Ac c q.line).seen, vi (Ac c q.line).gave, vi (Ac c q.line).given] :: blk b7 66 q.cells :: L) ?_
         refine dn4 ?_
         refine Bn (γ := Value) (val := fun v => .agg (Core.cells v (Ap c q.line ({ (Ac c q.line) with value := (Au (Ac c q.line).value q).1 }) c.wait)).toArray) (F := fun v => [sl v (c.lines.set q.line.toNat ({ (Ac c q.line) with value := (Au (Ac c q.line).value q).1 }))]) Try.call77 (fun _ => rfl) (fun ρ L R w hd hs => Bb (l := { (Ac c q.line) with value := (Au (Ac c q.line).value q).1 }) hs (hd.base mm) hXw (by omega)) (fun ρ g S hS hA => by have u10 : upS S 4 10 = S 10 := rfl; have h10 : S 10 = false := hA 10 ⟨0, rfl⟩; simp only [u10, h10, cond_false]) ?_
         refine dn4 ?_
         refine E7 ([⟨id, q, (Au (Ac c q.line).value q).2⟩] : List Done) Fj rfl (fun _ => rfl) rfl (fun _ => rfl) rfl rfl (fun ρ R hd => E5 ⟨hid, hq.1, hq.2.1, hq.2.2, by unfold Am; simp only; omega⟩) (fun _ _ _ _ _ => rfl) ?_
         refine es_ 69 0 [] [] (fun ρ => b8) (fun ρ => [.slice none 0 0, vi 0, vi 0, vi 0]) (fun ρ => [Gh.dec (γ := Value) (ρ 4), vi c.wait.kind, vi c.wait.line, vi c.wait.value]) Try.sizeOf69 (h1 := (fun ρ R w L' hd hs => A6 (isSlice.one (hs.fact (hd.dep (it := ⟨4, _, _, _, _⟩) (by repeat (first | exact List.Mem.head _ | refine List.Mem.tail _ ?_)) ⟨9, rfl⟩ (List.Mem.head _)))) (by repeat (first | exact C3 | refine A6 rfl ?_)))) ?_
         refine dn1 ?_
         refine e_p (v := fun ρ => (Gh.dec (γ := Value) (ρ 9))) (fun _ _ => Db) (Ind.gh (h := fun g => ((Gh.dec (γ := Value) g) : Value)) 9 0 rfl) (fun _ _ _ _ _ => rfl) ?_
         refine dn1 ?_
         refine dnl ?_; intro ρ
         refine xq_ (blk b8 69 [Gh.dec (γ := Value) (ρ 4), vi c.wait.kind, vi c.wait.line, vi c.wait.value] :: blk b4 69 (c.cells u) :: blk b12 82 [vi (Ac c q.line).state, vi (Au (Ac c q.line).value q).1, vi (Ac c q.line).want, vi (Ac c q.line).serial, vi (Ac c q.line).seen, vi (Ac c q.line).gave, vi (Ac c q.line).given] :: blk b7 66 q.cells :: L) ?_
         generalize (Gh.dec (γ := Value) (ρ 4)) = v126
         generalize (Gh.dec (γ := Value) (ρ 9)) = v131
         refine Gl ?_
         have eb : Av (Ac c q.line) q = { (Ac c q.line) with value := (Au (Ac c q.line).value q).1 } := by unfold Av; rw [if_neg (by omega), if_pos (by omega)]
         have ed : A1 (Ac c q.line) q = true := by unfold A1; split <;> simp <;> omega
         have hz : c.wait = zOp := (hk.w.free (by omega)).1
         have et : Bd (Ac c q.line) q = (Au (Ac c q.line).value q).2 := by unfold Bd; rw [if_neg (by omega)]
         have er : Ag c id home q = (Ap c q.line ({ (Ac c q.line) with value := (Au (Ac c q.line).value q).1 }) c.wait, [], [⟨id, q, (Au (Ac c q.line).value q).2⟩], 0) := by unfold Ag; rw [if_neg (by omega), if_neg (by omega), if_neg (by omega), ed, if_pos rfl, eb, et, hz]
         rw [er]
         exact D2 (v126, .slice none 0 0, v131) Try.isAgg69 Try.sizeOf69
end Go.Proofs.Ytofgpimoekhfaaa

/- This file proves what small functions within a core's hearing make, by the document's answer. No conditions. -/
set_option linter.unusedVariables false
set_option linter.unusedSimpArgs false
set_option maxHeartbeats 1000000
set_option maxRecDepth 8000
namespace Go.Proofs.Ytofgpimoekhfaaa
open Go
theorem M8 {L : List Chunk} {R : List Fact} {w : World} {b5 b6 b7 : Nat} {kind turn v id home line : Int} (hs : St (L) R w) (c5 : Cw L R (bp b5 0) [vi id]) (c6 : Cw L R (bp b6 0) [vi home]) (c7 : Cw L R (bp b7 3) [vi line]) (hkd : Am kind) (ht : Am turn) (hv : Am v) (hid : Am id) (hhome : Am home) (hl : Am line) : Calls Try.prog 85 [vi kind, vi turn, vi v, bp b5 0, bp b6 0, bp b7 0].toArray w (Ch (fun u : Value => u) (fun u => L) (fun u => sl u [A5 kind id home line turn v] :: R)) := by
 refine Aj Try.func85 rfl Try.ntmps85 rfl hs ?_
 clear hs
 refine Gm ?_
 refine Gb1 ?_
 refine rn1 ?_
 refine ob (Dn Try.isAgg3 (hc := c5)) ?_
 refine ob (Dn Try.isAgg3 (hc := c6)) ?_
 refine rn1 ?_
 refine ob (Dn Try.isAgg3 (hc := c7)) ?_
 refine rn3 ?_
 refine li ([A5 kind id home line turn v] : List Msg) Ga rfl (Io (by unfold Msg.wf A5 Am at *; simp only; omega)) ?_; intro v18
 refine Ga1 ?_
 exact Cb v18
theorem Vv {L : List Chunk} {R : List Fact} {w : World} {b5 b4 : Nat} {id : Int} {q : Op} (hs : St (L) R w) (c5 : Cw L R (bp b5 0) [vi id]) (c4 : Cw L R (bp b4 1) q.cells) (hid : Am id) (hq : q.wf) : Calls Try.prog 86 [bp b5 0, bp b4 0].toArray w (Ch (fun u : Value => u) (fun u => L) (fun u => sl u [(⟨id, q, 0⟩ : Done)] :: R)) := by
 refine Aj Try.func86 rfl Try.ntmps86 rfl hs ?_
 clear hs
 refine Gm ?_
 refine Gb1 ?_
 refine ob (Dn Try.isAgg3 (hc := c5)) ?_
 refine rn1 ?_
 refine ob (Se Try.isAgg66 Try.sizeOf66 (hc := c4)) ?_
 refine rn1 ?_
 refine li ([⟨id, q, 0⟩] : List Done) Fj rfl (E5 ⟨hid, hq.1, hq.2.1, hq.2.2, by unfold Am; simp only; omega⟩) ?_; intro v7
 refine Ga1 ?_
 exact Cb v7
theorem J5 {v : Int} {o : Op} (hv : Am v) : Am (Au v o).2 := by
  unfold Au; split
  · exact hv
  split
  · unfold Am; simp only; omega
  split
  · exact hv
  · unfold Am; simp only; omega
theorem KB.wait {c : Core} (h : KB c) (i : Int) (hi : i.toNat < c.lines.length) (hw : (Ac c i).want ≠ 0) : (1 ≤ c.wait.kind ∧ c.wait.kind ≤ 4) ∧ (0 ≤ c.wait.line ∧ c.wait.line < c.lines.length) ∧ (0 ≤ c.wait.value ∧ c.wait.value ≤ 255) := by
 have hb := h.w.busy (fun h0 => hw ((h.w.free h0).2 i.toNat hi))
 exact ⟨hb.1, hb.2.1, hb.2.2.1⟩
theorem KB.wwf {c : Core} (h : KB c) : c.wait.wf := by
  by_cases h0 : c.wait.kind = 0
  · rw [(h.w.free h0).1]; unfold Op.wf Am zOp; simp only; omega
  · obtain ⟨h1, h2, h3, _⟩ := h.w.busy h0
    have := h.n
    unfold Op.wf Am; omega
theorem Jl {c : Core} {id home : Int} {m : Msg} (h : m.line < 0 ∨ (c.lines.length : Int) ≤ m.line) : Ad c id home m = (c, [], []) := by unfold Ad; rw [if_pos h]
end Go.Proofs.Ytofgpimoekhfaaa

/- This file proves that each step of a chip keeps what must hold, and that what is done by it is as of memory that is one. No program in sight. No conditions. -/
set_option linter.unusedVariables false
set_option linter.unusedSimpArgs false
namespace Go.Proofs.Ytofgpimoekhfaaa
open Abs
def D8 (M : List Int) : List Done → List Int → Prop
 | [], M' => M' = M
 | d :: r, M' => (1 ≤ d.op.kind ∧ d.op.kind ≤ 4) ∧ (0 ≤ d.op.line ∧ d.op.line < M.length) ∧ (0 ≤ d.op.value ∧ d.op.value ≤ 255) ∧
   d.value = (if d.op.kind = 4 then 0 else (Au (M.getD d.op.line.toNat 0) d.op).2) ∧ D8 (M.set d.op.line.toNat (Au (M.getD d.op.line.toNat 0) d.op).1) r M'
theorem J4 {v : Int} {o : Op} (hv : 0 ≤ v ∧ v ≤ 255) (ho : 0 ≤ o.value ∧ o.value ≤ 255) : 0 ≤ (Au v o).1 ∧ (Au v o).1 ≤ 255 := by
  unfold Au
  split
  · exact hv
  · split
    · exact ho
    · split
      · simp only; omega
      · exact hv
theorem Fx {v : Int} {o : Op} (h : o.kind = 1 ∨ o.kind = 4) : (Au v o).1 = v := by
 unfold Au
 rcases h with h | h <;> simp [h]
section
variable {n nl : Nat} {x : Chip} {M : List Int}
theorem Ea {α : Type} (l : List α) (i : Nat) (d : α) (h : i < l.length) : l.set i (l.getD i d) = l := by
  apply List.ext_getElem?
  intro j
  by_cases hj : j = i
  · subst hj; rw [List.getElem?_set_self h, List.getD_eq_getElem?_getD, List.getElem?_eq_getElem h]; rfl
  · rw [List.getElem?_set_ne (Ne.symm hj)]
theorem Inv.same (h : Inv n nl x M) (i : Nat) (hi : i < nl) : M.set i (M.getD i 0) = M := Ea _ _ _ (by rw [h.ml]; exact hi)
theorem Gk (h : Inv n nl x M) {p i : Nat} (hp : p < n) (hi : i < nl) {kind serial turn value : Int} {al : Bool} (hk : 1 ≤ kind ∧ kind ≤ 11) (hs : 0 ≤ serial ∧ serial ≤ 65535) (ht : 0 ≤ turn ∧ turn ≤ 65535) (hv : 0 ≤ value ∧ value ≤ 255) :
  Bg (Fz n nl) ⟨kind, p, n, i, serial, turn, value, al⟩ = 0 :=
 Ot hk (by simp only [Fz]; omega) (by simp only [Fz]; omega) hs ht hv (by simp only [Fz]; intro h; have h' := h.2 trivial; omega)
theorem Lc (h : Inv n nl x M) {p i : Nat} (hp : p < n) (hi : i < nl) {kind serial turn value : Int} {al : Bool} (hk : 1 ≤ kind ∧ kind ≤ 11) (hs : 0 ≤ serial ∧ serial ≤ 65535) (ht : 0 ≤ turn ∧ turn ≤ 65535) (hv : 0 ≤ value ∧ value ≤ 255) :
  Bg (Fz n nl) ⟨kind, n, p, i, serial, turn, value, al⟩ = 0 :=
 Ot hk (by simp only [Fz]; omega) (by simp only [Fz]; omega) hs ht hv (by simp only [Fz]; intro h; have h' := h.1 trivial; omega)
theorem J3 {p i : Nat} {kind serial turn value : Int} {al : Bool} : Px n ⟨kind, p, n, i, serial, turn, value, al⟩ = p := by simp [Px]
theorem Mx {p i : Nat} (hp : p < n) {kind serial turn value : Int} {al : Bool} : Px n ⟨kind, n, p, i, serial, turn, value, al⟩ = p := by
 unfold Px
 rw [if_neg (by simp only; omega)]; simp
theorem O3 {p i : Nat} {l' : Line} {w' : Op} (h : Inv n nl x M) (hp : p < n) (hi : i < nl) {fr : Frames} : lin ⟨x.cores.set p (Ap (cor x p) i l' w'), x.home, fr⟩ i p = l' := by
 unfold lin cor
 rw [Cy _ _ _ _ _ (by rw [h.nc]; exact hp), if_pos rfl]
 show ((cor x p).lines.set _ l').getD i zLine = l'
 rw [Int.toNat_natCast, Cy _ _ _ _ _ (by rw [h.ncl p hp]; exact hi), if_pos rfl]
theorem Xc {k : Core} {i : Nat} {l' : Line} {o : Op} (hl : k.lines.length = nl) (h : CW k nl) (h0 : k.wait.kind = 0) (hi : i < nl) (ho : (1 ≤ o.kind ∧ o.kind ≤ 4) ∧ o.line = i ∧ (0 ≤ o.value ∧ o.value ≤ 255)) (hw : l'.want = Fb o.kind) : CW (Ap k i l' o) nl := by
  constructor
  · intro h'; exact absurd h' (by show o.kind ≠ 0; omega)
  · intro _
    refine ⟨ho.1, ?_, ho.2.2, fun j hj => ?_⟩
    · show 0 ≤ o.line ∧ o.line < nl; omega
    · show ((k.lines.set _ l').getD j zLine).want = if (j : Int) = o.line then _ else _
      rw [Int.toNat_natCast, Cy _ _ _ _ _ (by rw [hl]; exact hi), ho.2.1]
      by_cases hj' : j = i
      · rw [if_pos hj', if_pos (by rw [hj'])]; exact hw
      · rw [if_neg hj', if_neg (by omega)]; exact (h.free h0).2 j hj
theorem Gd {k : Core} {i : Nat} {l' : Line} (hl : k.lines.length = nl) (h : CW k nl) (hi : i < nl) (h0 : k.wait.kind = 0 ∨ k.wait.line = i) (hw : l'.want = 0) : CW (Ap k i l' zOp) nl := by
  constructor
  · intro _
    refine ⟨rfl, fun j hj => ?_⟩
    show ((k.lines.set _ l').getD j zLine).want = 0
    rw [Int.toNat_natCast, Cy _ _ _ _ _ (by rw [hl]; exact hi)]
    by_cases hj' : j = i
    · rw [if_pos hj']; exact hw
    · rw [if_neg hj']
      by_cases h00 : k.wait.kind = 0
      · exact (h.free h00).2 j hj
      · have := (h.busy h00).2.2.2 j hj
        rw [this, if_neg (by omega)]
  · intro h'; exact absurd rfl h'
theorem L0 {k : Core} {i : Nat} {l' : Line} (hl : k.lines.length = nl) (h : CW k nl) (hi : i < nl) (hw : l'.want = (k.lines.getD i zLine).want) : CW (Ap k i l' k.wait) nl := by
  have hg : ∀ j, ((Ap k i l' k.wait).lines.getD j zLine).want = (k.lines.getD j zLine).want := by
    intro j
    show ((k.lines.set _ l').getD j zLine).want = _
    rw [Int.toNat_natCast, Cy _ _ _ _ _ (by rw [hl]; exact hi)]
    by_cases hj' : j = i
    · rw [if_pos hj', hj']; exact hw
    · rw [if_neg hj']
  constructor
  · intro h0
    exact ⟨(h.free h0).1, fun j hj => by rw [hg]; exact (h.free h0).2 j hj⟩
  · intro h0
    obtain ⟨h1, h2, h3, h4⟩ := h.busy h0
    exact ⟨h1, h2, h3, fun j hj => by rw [hg]; exact h4 j hj⟩
theorem Oj {k : Core} {i : Nat} (h : CW k nl) (hi : i < nl) (hw : (k.lines.getD i zLine).want ≠ 0) : k.wait.kind ≠ 0 ∧ k.wait.line = i ∧ (k.lines.getD i zLine).want = Fb k.wait.kind := by
  have h0 : k.wait.kind ≠ 0 := fun h0 => hw ((h.free h0).2 i hi)
  have h1 := (h.busy h0).2.2.2 i hi
  by_cases he : (i : Int) = k.wait.line
  · rw [if_pos he] at h1; exact ⟨h0, he.symm, h1⟩
  · rw [if_neg he] at h1; exact absurd h1 hw
theorem Rh {p : Nat} {o : Op} (h : Inv n nl x M) (hp : p < n) (hok : (Ag (cor x p) p n o).2.2.2 = 0) :
    ∃ M', Inv n nl (C4 x p (Ag (cor x p) p n o).1 (Ag (cor x p) p n o).2.1) M' ∧ D8 M (Ag (cor x p) p n o).2.2.1 M' := by
  have hcl := h.ncl p hp
  have hcw := h.cw p hp
  unfold Ag at hok ⊢
  split at hok
  · cases hok
  split at hok
  · cases hok
  split at hok
  · cases hok
  rename_i k1 k2 k3
  rw [if_neg k1, if_neg k2, if_neg k3]
  obtain ⟨i, hi⟩ : ∃ i : Nat, o.line = i := ⟨o.line.toNat, by omega⟩
  have hin : i < nl := by omega
  have hlat : Ac (cor x p) o.line = lin x i p := by unfold Ac lin; rw [hi, Int.toNat_natCast]
  rw [hlat] at k3 ⊢
  have hci := h.ci i hin p hp
  have hgi := h.gi i hin
  have hw0 : (lin x i p).want = 0 := (hcw.free (by omega)).2 i hin
  have hval := h.mv i hin
  have hov : 0 ≤ o.value ∧ o.value ≤ 255 := by omega
  by_cases hd : A1 (lin x i p) o = true
  · rw [if_pos hd]
    unfold C4
    simp only [Int.toNat_natCast, way, hi]
    by_cases h4 : o.kind = 4
    · have hs : (lin x i p).state ≠ 2 := by unfold A1 at hd; rw [if_pos h4] at hd; simpa using hd
      have hb : Av (lin x i p) o = { lin x i p with state := 0, value := 0 } := by unfold Av; rw [if_pos h4, if_neg hs]
      have ht : Bd (lin x i p) o = 0 := by unfold Bd; rw [if_pos h4]
      rw [hb, ht]
      obtain ⟨c1, c2⟩ := Ue hgi hci hw0 hs
      have hI := h.core (w' := zOp) hp hin c1 (fun _ _ _ hh => hh) c2 (Gd hcl hcw hin (.inl (by omega)) hw0) hval
      refine ⟨_, hI, ?_, ?_, hov, ?_, ?_⟩
      · show 1 ≤ o.kind ∧ o.kind ≤ 4; omega
      · show 0 ≤ o.line ∧ o.line < M.length; rw [h.ml]; omega
      · show (0 : Int) = _; rw [if_pos h4]
      · show D8 _ [] _
        simp only [D8, hi, Int.toNat_natCast]
        rw [Fx (.inr h4)]
    · have hs : (lin x i p).state = 2 ∨ (lin x i p).state = 1 ∧ o.kind = 1 := by unfold A1 at hd; rw [if_neg h4] at hd; simpa using hd
      have hb : Av (lin x i p) o = { lin x i p with value := (Au (lin x i p).value o).1 } := by unfold Av; rw [if_neg h4, if_pos hs]
      have ht : Bd (lin x i p) o = (Au (lin x i p).value o).2 := by unfold Bd; rw [if_neg h4]
      have hV : (lin x i p).value = M.getD i 0 := by
        rcases hs with hs | hs
        · exact (hci.alo (.inl hs)).2
        · exact (hci.cop hs.1).2
      rw [hb, ht]
      have hr := J4 (o := o) hci.va hov
      have hI : Inv n nl ⟨x.cores.set p (Ap (cor x p) i { lin x i p with value := (Au (lin x i p).value o).1 } zOp), x.home, x.frames⟩ (M.set i (Au (lin x i p).value o).1) := by
        rcases hs with hs | hs
        · obtain ⟨c1, c2⟩ := Xg hgi hci hs hr
          exact h.core (w' := zOp) hp hin c1 (fun q hq hqp hh => Ud hgi hci (by omega) (by omega) hqp hh) c2 (Gd hcl hcw hin (.inl (by omega)) hw0) hr
        · have e : (Au (lin x i p).value o).1 = (lin x i p).value := Fx (.inl hs.2)
          rw [e]
          exact h.core (w' := zOp) hp hin (by show CI _ p (lin x i p) (lin x i p).value; rw [hV]; exact hci) (fun _ _ _ hh => by rw [hV]; exact hh) (fun _ hm => hm) (Gd hcl hcw hin (.inl (by omega)) hw0) hci.va
      refine ⟨_, hI, ?_, ?_, hov, ?_, ?_⟩
      · show 1 ≤ o.kind ∧ o.kind ≤ 4; omega
      · show 0 ≤ o.line ∧ o.line < M.length; rw [h.ml]; omega
      · show (Au (lin x i p).value o).2 = _; rw [if_neg h4]; simp only [hi, Int.toNat_natCast]; rw [hV]
      · show D8 _ [] _
        simp only [D8, hi, Int.toNat_natCast]
        rw [hV]
  · rw [if_neg hd]
    unfold C4
    simp only [Int.toNat_natCast, hi]
    -- it asks
    have key : ∃ l', Av (lin x i p) o = l' ∧ CI (ab (ent x i)) p l' (M.getD i 0) ∧ (∀ m, MI (ab (ent x i)) p (lin x i p) m → MI (ab (ent x i)) p l' m) ∧ l'.want = Fb o.kind ∧ l'.serial = (lin x i p).serial + 1 := by
      by_cases h4 : o.kind = 4
      · have hs : (lin x i p).state = 2 := by unfold A1 at hd; rw [if_pos h4] at hd; simpa using hd
        obtain ⟨c1, c2⟩ := c_put hgi hci hw0 hs (by omega)
        refine ⟨_, rfl, ?_⟩
        have hb : Av (lin x i p) o = { lin x i p with state := 3, want := 3, serial := (lin x i p).serial + 1 } := by unfold Av; rw [if_pos h4, if_pos hs]
        rw [hb]
        exact ⟨c1, c2, by simp [Fb, h4], rfl⟩
      · have hs : ¬ ((lin x i p).state = 2 ∨ (lin x i p).state = 1 ∧ o.kind = 1) := by unfold A1 at hd; rw [if_neg h4] at hd; simpa using hd
        have hst := hci.st
        have hlv := hci.leav
        have hkk : (if o.kind = 1 then (1 : Int) else 2) = Fb o.kind := by unfold Fb; split <;> first | rfl | rw [if_neg h4]
        obtain ⟨c1, c2⟩ := c_ask (k := if o.kind = 1 then 1 else 2) hgi hci hw0 (by split <;> omega) (by omega)
        refine ⟨_, rfl, ?_⟩
        have hb : Av (lin x i p) o = { lin x i p with want := if o.kind = 1 then 1 else 2, serial := (lin x i p).serial + 1 } := by unfold Av; rw [if_neg h4, if_neg hs]
        rw [hb]
        exact ⟨c1, c2, hkk, rfl⟩
    obtain ⟨l', hb, c1, c2, c3, c4⟩ := key
    rw [hb]
    have hI := h.core (w' := o) hp hin c1 (fun _ _ _ hh => hh) c2 (Xc hcl hcw (by omega) hin ⟨by omega, hi, hov⟩ c3) hval
    rw [h.same i hin] at hI
    refine ⟨M, ?_, rfl⟩
    refine hI.way fun m hm => ?_
    rw [List.mem_singleton.1 hm]
    have hwr : 1 ≤ l'.want ∧ l'.want ≤ 3 := by rw [c3]; unfold Fb; split <;> (try split) <;> omega
    refine ⟨Gk h hp hin (by omega) c1.se ⟨by omega, by omega⟩ (by have := c1.va; split <;> omega), ?_⟩
    unfold MX
    have hpe : Px n (Bl l' p n i) = p := J3
    rw [hpe]
    show MI (ab (ent x _)) p (lin _ _ p) _
    rw [show ((Bl l' p n i).line).toNat = i from Int.toNat_natCast i, O3 h hp hin]
    have hla := hci.la
    have e1 : (Bl l' p n i).kind = l'.want := rfl
    have e2 : (Bl l' p n i).serial = l'.serial := rfl
    have e3 : (Bl l' p n i).value = if l'.want = 3 then l'.value else 0 := rfl
    constructor <;> rw [e1] <;> (try rw [e2]) <;> (try rw [e3])
    · intro hk; exact ⟨Int.le_refl _, fun _ => ⟨rfl, rfl⟩⟩
    · intro hk; exact ⟨Int.le_refl _, fun _ => .inl ⟨rfl, hk, by rw [if_pos hk]⟩⟩
    all_goals intro hk; omega
theorem MX.said {p i : Nat} {l' : Line} {w' : Op} (h : Inv n nl x M) (hp : p < n) (hi : i < nl) {kind serial turn value : Int} {al : Bool} (hm : MI (ab (ent x i)) p l' ⟨kind, p, n, i, serial, turn, value, al⟩) {fr : Frames} :
  MX n ⟨x.cores.set p (Ap (cor x p) i l' w'), x.home, fr⟩ ⟨kind, p, n, i, serial, turn, value, al⟩ := by
 unfold MX
 rw [J3]
 show MI (ab (ent x ((i : Int).toNat))) p (lin _ ((i : Int).toNat) p) _
 rw [Int.toNat_natCast, O3 h hp hi]
 exact hm
theorem MX.saidSame {p i : Nat} (hp : p < n) {kind serial turn value : Int} {al : Bool} (hm : MI (ab (ent x i)) p (lin x i p) ⟨kind, p, n, i, serial, turn, value, al⟩) : MX n x ⟨kind, p, n, i, serial, turn, value, al⟩ := by
 unfold MX
 rw [J3]
 show MI (ab (ent x ((i : Int).toNat))) p (lin _ ((i : Int).toNat) p) _
 rw [Int.toNat_natCast]
 exact hm
theorem MX.told {p i : Nat} {e' : Entry} (h : Inv n nl x M) (hp : p < n) (hi : i < nl) {kind serial turn value : Int} {al : Bool} (hm : MI (ab e') p (lin x i p) ⟨kind, n, p, i, serial, turn, value, al⟩) {fr : Frames} :
  MX n ⟨x.cores, x.home.set i e', fr⟩ ⟨kind, n, p, i, serial, turn, value, al⟩ := by
 unfold MX
 rw [Mx hp]
 show MI (ab ((x.home.set i e').getD ((i : Int).toNat) Bc)) p (lin x ((i : Int).toNat) p) _
 rw [Int.toNat_natCast, Cy _ _ _ _ _ (by rw [h.nh]; exact hi), if_pos rfl]
 exact hm
theorem Tr {p : Nat} {m : Msg} (h : Inv n nl x M) (hp : p < n) (hd : m.dst = p) (hs : m.src = n) (hl : 0 ≤ m.line ∧ m.line < nl) (hr : (0 ≤ m.serial ∧ m.serial ≤ 65535) ∧ (0 ≤ m.turn ∧ m.turn ≤ 65535) ∧ (0 ≤ m.value ∧ m.value ≤ 255)) (hm : MX n x m) :
    ∃ M', Inv n nl (C4 x p (Ad (cor x p) p n m).1 (Ad (cor x p) p n m).2.1) M' ∧ D8 M (Ad (cor x p) p n m).2.2 M' := by
  have hcl := h.ncl p hp
  have hcw := h.cw p hp
  obtain ⟨i, hi⟩ : ∃ i : Nat, m.line = i := ⟨m.line.toNat, by omega⟩
  have hin : i < nl := by omega
  have hlat : Ac (cor x p) m.line = lin x i p := by unfold Ac lin; rw [hi, Int.toNat_natCast]
  have hci := h.ci i hin p hp
  have hgi := h.gi i hin
  have hval := h.mv i hin
  have hMI : MI (ab (ent x i)) p (lin x i p) m := by
    unfold MX at hm
    have : Px n m = p := by unfold Px; rw [if_neg (by omega), hd]; simp
    rw [this, hi, Int.toNat_natCast] at hm
    exact hm
  have hsame : Inv n nl (C4 x p (cor x p) []) M := by
    unfold C4
    simp only [Int.toNat_natCast, way]
    have : x.cores.set p (cor x p) = x.cores := Ea _ _ _ (by rw [h.nc]; exact hp)
    rw [this]; exact h
  have hsaid : ∀ m', Bg (Fz n nl) m' = 0 → MX n x m' → Inv n nl (C4 x p (cor x p) [m']) M := by
    intro m' h1 h2
    unfold C4
    simp only [Int.toNat_natCast]
    have : x.cores.set p (cor x p) = x.cores := Ea _ _ _ (by rw [h.nc]; exact hp)
    rw [this]
    exact h.way fun m'' hm'' => by rw [List.mem_singleton.1 hm'']; exact ⟨h1, h2⟩
  unfold Ad
  rw [if_neg (by rw [hcl]; omega)]
  rw [hlat]
  by_cases k4 : m.kind = 4
  · rw [if_pos k4]
    obtain ⟨c1, c2⟩ := c_inv hgi hci hMI k4
    have hwant : (Bh (lin x i p) m.turn).want = (lin x i p).want := by unfold Bh; split <;> (try split) <;> rfl
    have hI := h.core (w' := (cor x p).wait) hp hin c1 (fun _ _ _ hh => hh) c2 (L0 hcl hcw hin hwant) hval
    rw [h.same i hin] at hI
    refine ⟨M, ?_, rfl⟩
    unfold C4
    simp only [Int.toNat_natCast, hi]
    refine hI.way fun m' hm' => ?_
    rw [List.mem_singleton.1 hm']
    refine ⟨Gk h hp hin (by omega) (by omega) hr.2.1 (by omega), MX.said h hp hin ?_⟩
    have hseen : m.turn ≤ (Bh (lin x i p) m.turn).seen := by unfold Bh; split <;> (try split) <;> first | exact Int.le_refl _ | omega
    constructor <;> simp only <;> intro hk <;> first | omega | exact hseen
  rw [if_neg k4]
  by_cases k5 : m.kind = 5 ∨ m.kind = 6
  · rw [if_pos k5]
    by_cases hf : Cq (lin x i p) m.turn
    · rw [if_pos hf]
      obtain ⟨c1, c2, c3, c4⟩ := Xj hgi hci hMI k5 hf
      by_cases hw : (lin x i p).want = 3
      · rw [if_pos hw, if_pos hw]
        obtain ⟨w1, w2, w3⟩ := Oj hcw hin (by show (lin x i p).want ≠ 0; omega)
        have hwant : (Bq (lin x i p) m.kind m.turn).want = 0 := by unfold Bq; rw [if_pos hw]
        have hI := h.core (w' := zOp) hp hin c1 (fun _ _ _ hh => hh) c2 (Gd hcl hcw hin (.inr w2) hwant) hval
        rw [h.same i hin] at hI
        obtain ⟨b1, b2, b3, b4⟩ := hcw.busy w1
        have hk4 : (cor x p).wait.kind = 4 := by
          have : (3 : Int) = Fb (cor x p).wait.kind := by rw [← w3]; exact hw.symm
          unfold Fb at this; split at this <;> (try split at this) <;> omega
        refine ⟨M, ?_, b1, by rw [h.ml]; exact b2, b3, by show (0 : Int) = _; rw [if_pos hk4], ?_⟩
        · unfold C4
          simp only [Int.toNat_natCast, hi]
          refine hI.way fun m' hm' => ?_
          rw [List.mem_singleton.1 hm']
          exact ⟨Gk h hp hin (by omega) (by omega) hr.2.1 hci.va, MX.said h hp hin (c4 _ rfl rfl rfl)⟩
        · show D8 _ [] M
          simp only [D8]
          rw [Fx (.inr hk4), w2, Int.toNat_natCast, h.same i hin]
      · rw [if_neg hw, if_neg hw]
        have hwant : (Bq (lin x i p) m.kind m.turn).want = (lin x i p).want := by unfold Bq; rw [if_neg hw]; split <;> rfl
        have hI := h.core (w' := (cor x p).wait) hp hin c1 (fun _ _ _ hh => hh) c2 (L0 hcl hcw hin hwant) hval
        rw [h.same i hin] at hI
        refine ⟨M, ?_, rfl⟩
        unfold C4
        simp only [Int.toNat_natCast, hi]
        refine hI.way fun m' hm' => ?_
        rw [List.mem_singleton.1 hm']
        exact ⟨Gk h hp hin (by omega) (by omega) hr.2.1 hci.va, MX.said h hp hin (c4 _ rfl rfl rfl)⟩
    · rw [if_neg hf]
      split
      · rename_i hg
        refine ⟨M, hsaid _ ?_ ?_, rfl⟩
        · rw [hi]; exact Gk h hp hin (by omega) (by omega) (by rw [← hg.1]; exact hr.2.1) hci.gi
        · rw [hi]; refine MX.saidSame hp ?_
          have := hci.ga
          constructor <;> simp only <;> intro hk <;> first | omega | exact ⟨this.2.1, fun a b c => ⟨a, trivial⟩⟩
      · exact ⟨M, hsame, rfl⟩
  rw [if_neg k5]
  by_cases k7 : m.kind = 7
  · rw [if_pos k7]
    by_cases hse : (lin x i p).serial < m.serial
    · rw [if_pos hse]; exact ⟨M, hsame, rfl⟩
    rw [if_neg hse]
    by_cases ha : Er (lin x i p) m
    · rw [if_pos ha]
      have hwne : (lin x i p).want ≠ 0 := by have := ha.2; omega
      obtain ⟨w1, w2, w3⟩ := Oj hcw hin hwne
      obtain ⟨b1, b2, b3, b4⟩ := hcw.busy w1
      have w3' : (lin x i p).want = Fb (cor x p).wait.kind := w3
      have hnk4 : (cor x p).wait.kind ≠ 4 := by
        intro e; rw [e] at w3'; simp [Fb] at w3'; have := ha.2; omega
      have hload : m.alone = false → (Au m.value (cor x p).wait).1 = m.value := by
        intro hal
        have h2 := ha.2
        rw [hal] at h2
        have : (lin x i p).want = 1 := by simpa using h2
        refine Fx (.inl ?_)
        rw [this] at w3'
        unfold Fb at w3'; split at w3' <;> (try split at w3') <;> first | assumption | omega
      have hv := J4 (o := (cor x p).wait) hr.2.2 b3
      obtain ⟨c1, c2, c3, c4, c5⟩ := Xi (v := (Au m.value (cor x p).wait).1) hgi hci hMI k7 ha hv hload
      have hI := h.core (w' := zOp) hp hin c1 (fun q _ hq hh => c4 q _ hq hh) c2 (Gd hcl hcw hin (.inr w2) rfl) hv
      refine ⟨M.set i (Au m.value (cor x p).wait).1, ?_, b1, by rw [h.ml]; exact b2, b3, ?_, ?_⟩
      · unfold C4
        simp only [Int.toNat_natCast, hi]
        refine hI.way fun m' hm' => ?_
        rw [List.mem_singleton.1 hm']
        exact ⟨Gk h hp hin (by omega) (by omega) hr.2.1 (by omega), MX.said h hp hin (c5 _ rfl rfl)⟩
      · show (Au m.value (cor x p).wait).2 = _
        rw [if_neg hnk4, w2, Int.toNat_natCast, c3]
      · show D8 _ [] _
        simp only [D8]
        rw [w2, Int.toNat_natCast, c3]
    · rw [if_neg ha]
      refine ⟨M, hsaid _ ?_ ?_, rfl⟩
      · rw [hi]; exact Gk h hp hin (by omega) (by omega) hr.2.1 (by omega)
      · rw [hi]; refine MX.saidSame hp ?_
        have hg := hMI.gra k7
        have hseen : m.turn ≤ (lin x i p).seen := by
          by_cases hc : m.serial = (lin x i p).serial ∧ (lin x i p).want ≠ 0
          · obtain ⟨g1, g2, g3, g4, g5⟩ := hg.2.1 hc.1 hc.2
            have hcur := hci.cur (by omega) g2
            exfalso
            apply ha
            refine ⟨hc.1, ?_⟩
            have hse' : (ab (ent x i)).serial = (lin x i p).serial := by have := hci.la; omega
            cases hal : m.alone with
            | true => right; have := g4.1 hal; exact ⟨by omega, rfl⟩
            | false =>
              left
              have hnot : ¬ (ab (ent x i)).alone = 1 := fun h1 => by have := g4.2 h1; rw [hal] at this; cases this
              have := hgi.al
              exact ⟨by omega, rfl⟩
          · exact hg.2.2 (by omega)
        constructor <;> simp only <;> intro hk <;> first | omega | exact hseen
  rw [if_neg k7]
  split
  · rename_i hk
    obtain ⟨k11, hw, hse⟩ := hk
    obtain ⟨c1, c2⟩ := Xh hgi hci hMI k11 hw hse
    obtain ⟨w1, w2, w3⟩ := Oj hcw hin (by show (lin x i p).want ≠ 0; omega)
    obtain ⟨b1, b2, b3, b4⟩ := hcw.busy w1
    have hk4 : (cor x p).wait.kind = 4 := by
      have : (3 : Int) = Fb (cor x p).wait.kind := by rw [← w3]; exact hw.symm
      unfold Fb at this; split at this <;> (try split at this) <;> omega
    have hI := h.core (w' := zOp) hp hin c1 (fun _ _ _ hh => hh) c2 (Gd hcl hcw hin (.inr w2) rfl) hval
    rw [h.same i hin] at hI
    refine ⟨M, ?_, b1, by rw [h.ml]; exact b2, b3, by show (0 : Int) = _; rw [if_pos hk4], ?_⟩
    · unfold C4
      simp only [Int.toNat_natCast, hi, way]
      exact hI
    · show D8 _ [] M
      simp only [D8]
      rw [Fx (.inr hk4), w2, Int.toNat_natCast, h.same i hin]
  · exact ⟨M, hsame, rfl⟩
end
end Go.Proofs.Ytofgpimoekhfaaa

/- This file proves that the home, when it hears a message or says what its turns say, keeps what must hold; and so for each step of a chip. No program in sight. No conditions. -/
set_option linter.unusedVariables false
set_option linter.unusedSimpArgs false
namespace Go.Proofs.Ytofgpimoekhfaaa
open Abs
theorem Xd : ∀ (s : Fin 16) (p q : Fin 4), (Hk (s.val : Int) (p.val : Int)).toNat.testBit q.val = (decide (q ≠ p) && s.val.testBit q.val) := by decide
theorem R7 : ∀ (s : Fin 16) (p : Fin 4), 0 ≤ Hk (s.val : Int) (p.val : Int) ∧ Hk (s.val : Int) (p.val : Int) ≤ s.val := by decide
theorem U8 : ∀ (s : Fin 16) (p q : Fin 4), (Ht (s.val : Int) (p.val : Int)).toNat.testBit q.val = (decide (q = p) || s.val.testBit q.val) := by decide
theorem Qv : ∀ (n : Fin 5) (s : Fin 16) (p : Fin 4), p.val < n.val → s.val < 2 ^ n.val → 0 ≤ Ht (s.val : Int) (p.val : Int) ∧ Ht (s.val : Int) (p.val : Int) < (2 ^ n.val : Nat) := by decide
theorem Sj : ∀ (s : Fin 16), (∀ q : Fin 4, s.val.testBit q.val = false) → s.val = 0 := by decide
theorem high (s : Int) (h : 0 ≤ s ∧ s < 16) (q : Nat) (hq : 4 ≤ q) : s.toNat.testBit q = false := by
 apply Nat.testBit_lt_two_pow
 have : 2 ^ 4 ≤ 2 ^ q := Nat.pow_le_pow_right (by omega) hq
 omega
theorem Hb (s : Int) (h : 0 ≤ s ∧ s < 16) (q : Nat) (hq : 4 ≤ q) : D1 s q = 0 := by unfold D1; rw [high s h q hq]; rfl
theorem Dr (q : Nat) : D1 0 q = 0 := by simp [D1]
theorem Qq {s : Int} (h : 0 ≤ s ∧ s < 16) : ∃ f : Fin 16, (f.val : Int) = s := ⟨⟨s.toNat, by omega⟩, by simp only; omega⟩
theorem Ig {s : Int} {p : Nat} (h : 0 ≤ s ∧ s < 16) (hp : p < 4) : D1 (Hk s p) = upd (D1 s) p 0 := by
  obtain ⟨f, rfl⟩ := Qq h
  funext q
  have hr := R7 f ⟨p, hp⟩
  simp only at hr
  by_cases hq : q < 4
  · have := Xd f ⟨p, hp⟩ ⟨q, hq⟩
    simp only at this
    unfold D1 upd
    rw [this]
    by_cases hqp : q = p
    · subst hqp; simp
    · simp [hqp]
  · rw [Hb _ (by omega) _ (by omega)]
    unfold upd
    rw [if_neg (by omega), Hb _ (by omega) _ (by omega)]
theorem Nq {s : Int} {p : Nat} (h : 0 ≤ s ∧ s < 16) (hp : p < 4) (q : Nat) : D1 (Ht s p) q = if q = p then 1 else D1 s q := by
  obtain ⟨f, rfl⟩ := Qq h
  have hr : 0 ≤ Ht (f.val : Int) (p : Int) ∧ Ht (f.val : Int) (p : Int) < 16 := Qv 4 f ⟨p, hp⟩ hp f.isLt
  by_cases hq : q < 4
  · have := U8 f ⟨p, hp⟩ ⟨q, hq⟩
    simp only at this
    unfold D1
    rw [this]
    by_cases hqp : q = p
    · subst hqp; simp
    · simp [hqp]
  · rw [Hb _ (by omega) _ (by omega), if_neg (by omega), Hb _ (by omega) _ (by omega)]
theorem Pe {s : Int} {p n : Nat} (hn : n ≤ 4) (h : 0 ≤ s ∧ s < (2 ^ n : Nat)) (hp : p < 4) : 0 ≤ Hk s p ∧ Hk s p < (2 ^ n : Nat) := by
 have : (2 ^ n : Nat) ≤ 2 ^ 4 := Nat.pow_le_pow_right (by omega) hn
 obtain ⟨f, rfl⟩ := Qq (s := s) (by omega)
 have hr := R7 f ⟨p, hp⟩
 simp only at hr
 omega
theorem Uu {s : Int} {p n : Nat} (hn : n ≤ 4) (h : 0 ≤ s ∧ s < (2 ^ n : Nat)) (hp : p < n) : 0 ≤ Ht s p ∧ Ht s p < (2 ^ n : Nat) := by
 have : (2 ^ n : Nat) ≤ 2 ^ 4 := Nat.pow_le_pow_right (by omega) hn
 obtain ⟨f, rfl⟩ := Qq (s := s) (by omega)
 exact Qv ⟨n, by omega⟩ f ⟨p, by omega⟩ hp (by simp only; omega)
theorem J6 {s : Int} {n : Nat} (hn : n ≤ 4) (h : 0 ≤ s ∧ s < (2 ^ n : Nat)) : 0 ≤ s ∧ s < 16 := by
 have : (2 ^ n : Nat) ≤ 2 ^ 4 := Nat.pow_le_pow_right (by omega) hn
 omega
theorem Ki {s : Int} (h : 0 ≤ s ∧ s < 16) (hb : ∀ q, q < 4 → D1 s q = 0) : s = 0 := by
 obtain ⟨f, rfl⟩ := Qq h
 have := Sj f fun q => by
  have := hb q.val q.isLt
  unfold D1 at this
  simp only [Int.toNat_natCast] at this
  cases ht : f.val.testBit q.val with
  | false => rfl
  | true => simp [ht] at this
 omega
theorem Np {s : Int} {n : Nat} (hn : n ≤ 4) (h : 0 ≤ s ∧ s < (2 ^ n : Nat)) (h0 : s ≠ 0) : ∃ q : Nat, q < n ∧ D1 s q = 1 := by
  apply Classical.byContradiction
  intro hno
  apply h0
  refine Ki (J6 hn h) fun q _ => ?_
  by_cases hq : q < n
  · have : ¬ D1 s q = 1 := fun he => hno ⟨q, hq, he⟩
    unfold D1 at this ⊢
    split <;> rename_i hb
    · rw [if_pos hb] at this; exact absurd rfl this
    · rfl
  · unfold D1
    rw [Nat.testBit_lt_two_pow (show s.toNat < 2 ^ q by have : 2 ^ n ≤ 2 ^ q := Nat.pow_le_pow_right (by omega) (by omega); omega)]
    rfl
theorem Rk (s : Int) (p : Nat) : Rl s p = true ↔ D1 s p = 1 := by
 unfold Rl D1
 rw [Int.toNat_natCast]
 cases s.toNat.testBit p <;> simp
section
variable {n nl : Nat} {x : Chip} {M : List Int}
theorem N1 (h : Inv n nl x M) {i : Nat} (hi : i < nl) : ∀ m ∈ says (ent x i) i n, Bg (Fz n nl) m = 0 ∧ MX n x m := by
  intro m hm
  have hg := h.gi i hi
  have hn := h.n1
  have hto : ∀ {p : Nat} {kind serial turn value : Int} {al : Bool}, p < n → MI (ab (ent x i)) p (lin x i p) ⟨kind, n, p, i, serial, turn, value, al⟩ → MX n x ⟨kind, n, p, i, serial, turn, value, al⟩ := by
    intro p kind serial turn value al hp hmi
    unfold MX
    rw [Mx hp]
    show MI (ab (ent x ((i : Int).toNat))) p (lin x ((i : Int).toNat) p) _
    rw [Int.toNat_natCast]; exact hmi
  unfold says at hm
  by_cases h1 : (ent x i).phase = 1
  · rw [if_pos h1] at hm
    rw [List.mem_singleton.1 hm]
    have hf := hg.f1 h1
    have how := hg.own
    obtain ⟨p, hp⟩ : ∃ p : Nat, (ent x i).owner = p := ⟨(ent x i).owner.toNat, by show _ = _; have := hf.1; show (ent x i).owner = _; simp only [ab] at this; omega⟩
    have hpn : p < n := by have := how.2; simp only [ab] at this; omega
    rw [hp]
    refine ⟨Lc h hpn hi (by split <;> omega) (by omega) hg.tu (by omega), hto hpn ?_⟩
    have ha : (if (ent x i).alone = true then (6 : Int) else 5) = 5 + (ab (ent x i)).alone := by simp only [ab]; split <;> rfl
    rw [ha]
    have hal := hg.al
    constructor <;> simp only <;> intro hk <;> first | omega | exact ⟨Int.le_refl _, fun _ => ⟨rfl, h1, hp, trivial⟩⟩
  rw [if_neg h1] at hm
  by_cases h2 : (ent x i).phase = 2
  · rw [if_pos h2] at hm
    obtain ⟨q, hq, rfl⟩ := List.mem_map.1 hm
    obtain ⟨hq1, hq2⟩ := List.mem_filter.1 hq
    obtain ⟨p, rfl⟩ : ∃ p : Nat, q = p := ⟨q.toNat, by simp at hq1; omega⟩
    have hb := (Rk _ _).1 hq2
    have hpn : p < n := by
      apply Classical.byContradiction
      intro hge
      have hbit := (h.bit i hi).2
      unfold D1 at hb
      rw [Nat.testBit_lt_two_pow (show (ent x i).need.toNat < 2 ^ p by have : 2 ^ n ≤ 2 ^ p := Nat.pow_le_pow_right (by omega) (by omega); omega)] at hb
      simp at hb
    refine ⟨Lc h hpn hi (by omega) (by omega) hg.tu (by omega), hto hpn ?_⟩
    constructor <;> simp only <;> intro hk <;> first | omega | exact ⟨Int.le_refl _, fun _ => ⟨rfl, h2, hb⟩⟩
  rw [if_neg h2] at hm
  by_cases h3 : (ent x i).phase = 3
  · rw [if_pos h3] at hm
    rw [List.mem_singleton.1 hm]
    have hw := hg.whor (by show (ent x i).phase ≠ 0; omega)
    simp only [ab] at hw
    obtain ⟨p, hp⟩ : ∃ p : Nat, (ent x i).who = p := ⟨(ent x i).who.toNat, by omega⟩
    have hpn : p < n := by omega
    have hci := h.ci i hi p hpn
    have hcur := hci.cur (by show (ent x i).phase ≠ 0; omega) hp
    rw [hp]
    refine ⟨Lc h hpn hi (by omega) hg.se hg.tu hg.va, hto hpn ?_⟩
    constructor <;> simp only <;> intro hk <;> first | omega | skip
    refine ⟨by have := hcur.1; simp only [ab] at this ⊢; omega, fun e1 e2 => ⟨h3, hp, rfl, ?_, rfl⟩, fun hn' => ?_⟩
    · simp only [ab]; cases (ent x i).alone <;> simp
    · rcases hcur.2 with ⟨d1, d2, d3⟩ | ⟨d1, d2, d3, d4⟩
      · have hal := hg.al
        simp only [ab] at d1 d2 hal
        omega
      · simp only [ab] at d3 ⊢; omega
  · rw [if_neg h3] at hm; cases hm
theorem N2 (h : Inv n nl x M) : ∀ (k : Nat) (l : List Entry), x.home.drop k = l → ∀ m ∈ Dq n k l, Bg (Fz n nl) m = 0 ∧ MX n x m := by
  intro k l
  induction l generalizing k with
  | nil => intro _ m hm; cases hm
  | cons e l ih =>
    intro hd m hm
    have hk : k < x.home.length := by
      apply Classical.byContradiction
      intro hge
      rw [List.drop_of_length_le (by omega)] at hd; cases hd
    rw [List.drop_eq_getElem_cons hk] at hd
    injection hd with he hd
    simp only [Dq] at hm
    rcases List.mem_append.1 hm with hm | hm
    · have : ent x k = e := by unfold ent; rw [List.getD_eq_getElem?_getD, List.getElem?_eq_getElem hk, he]; rfl
      rw [← this] at hm
      exact N1 h (by rw [← h.nh]; exact hk) m hm
    · exact ih (k + 1) hd m (by push_cast; exact hm)
theorem Lt (h : Inv n nl x M) : Inv n nl ⟨x.cores, x.home, way x.frames (M6 x.home n)⟩ M :=
 h.way fun m hm => N2 h 0 x.home rfl m hm
theorem ask_ok (h : Inv n nl x M) {p i : Nat} (hp : p < n) (hi : i < nl) (hw : (lin x i p).want ≠ 0) : Bg (Fz n nl) (Bl (lin x i p) p n i) = 0 ∧ MX n x (Bl (lin x i p) p n i) := by
 have hci := h.ci i hi p hp
 have hwa := hci.wa
 refine ⟨Gk h hp hi (by omega) hci.se ⟨by omega, by omega⟩ (by have := hci.va; split <;> omega), MX.saidSame hp ?_⟩
 constructor <;> simp only <;> intro hk <;> first | exact ⟨Int.le_refl _, fun _ => ⟨trivial, trivial⟩⟩ | exact ⟨Int.le_refl _, fun _ => .inl ⟨trivial, hk, by rw [if_pos hk]⟩⟩ | omega
theorem Mg (h : Inv n nl x M) {p : Nat} (hp : p < n) : ∀ (k : Nat) (l : List Line), (cor x p).lines.drop k = l → ∀ m ∈ Bw p n k l, Bg (Fz n nl) m = 0 ∧ MX n x m := by
  intro k l
  induction l generalizing k with
  | nil => intro _ m hm; cases hm
  | cons e l ih =>
    intro hd m hm
    have hk : k < (cor x p).lines.length := by
      apply Classical.byContradiction
      intro hge
      rw [List.drop_of_length_le (by omega)] at hd; cases hd
    rw [List.drop_eq_getElem_cons hk] at hd
    injection hd with he hd
    have hlin : lin x k p = e := by unfold lin; rw [List.getD_eq_getElem?_getD, List.getElem?_eq_getElem hk, he]; rfl
    simp only [Bw] at hm
    split at hm
    · rename_i hw
      rcases List.mem_cons.1 hm with hm | hm
      · rw [hm, ← hlin]
        exact ask_ok h hp (by rw [← h.ncl p hp]; exact hk) (by rw [hlin]; exact hw)
      · exact ih (k + 1) hd m (by push_cast; exact hm)
    · exact ih (k + 1) hd m (by push_cast; exact hm)
theorem Lu (h : Inv n nl x M) {p : Nat} (hp : p < n) : Inv n nl ⟨x.cores, x.home, way x.frames (C7 (cor x p) p n)⟩ M :=
 h.way fun m hm => Mg h hp 0 _ rfl m hm
theorem W6 (h : Inv n nl x M) {i : Nat} (hi : i < nl) (e' : Entry) (fr : Frames) : ent ⟨x.cores, x.home.set i e', fr⟩ i = e' := by
 unfold ent
 rw [Cy _ _ _ _ _ (by rw [h.nh]; exact hi), if_pos rfl]
theorem Inv.homeSays {i : Nat} {e' : Entry} (h : Inv n nl x M) (hi : i < nl) (hI : Inv n nl ⟨x.cores, x.home.set i e', x.frames⟩ M) : Inv n nl ⟨x.cores, x.home.set i e', Go.Proofs.Ytofgpimoekhfaaa.way x.frames (says e' i n)⟩ M := by
 have := N1 hI hi
 rw [W6 h hi] at this
 exact hI.way this
end
end Go.Proofs.Ytofgpimoekhfaaa

/- This file proves that the home, when it hears a message that may be on the way, keeps what must hold; and so for each step of a chip. No program in sight. No conditions. -/
set_option linter.unusedVariables false
set_option linter.unusedSimpArgs false
namespace Go.Proofs.Ytofgpimoekhfaaa
open Abs
section
variable {n nl : Nat} {x : Chip} {M : List Int}
theorem Pj (e : Entry) : (ab e).alone = 1 ↔ e.alone = true := by simp only [ab]; cases e.alone <;> simp
theorem Nw (e : Entry) : (ab e).alone = 0 ↔ e.alone = false := by simp only [ab]; cases e.alone <;> simp
theorem Vs {p i : Nat} {m : Msg} (h : Inv n nl x M) (hp : p < n) (hi : i < nl) (hs : m.src = p) (hms : 0 ≤ m.serial ∧ m.serial ≤ 65535) (hM : MI (ab (ent x i)) p (lin x i p) m) (hk : m.kind = 1 ∨ m.kind = 2) (h0 : (ent x i).phase = 0)
    (hl : Ek (ent x i) m.src < m.serial) (ht : (ent x i).turn < 65535) : Inv n nl ⟨x.cores, x.home.set i (Nd (ent x i) m), x.frames⟩ M := by
  have hn := h.n1
  have hb := h.bit i hi
  have hgi := h.gi i hi
  have hlast : (ent x i).last.getD p 0 < m.serial := by unfold Ek at hl; rw [hs, Int.toNat_natCast] at hl; exact hl
  have hla := h.nla i hi
  have hlu : (fun q => ((ent x i).last.set p m.serial).getD q 0) = upd (ab (ent x i)).last p m.serial := by
    funext q; rw [Cy _ _ _ _ _ (by rw [hla]; exact hp)]; rfl
  have hclr := Pe (by omega) hb.1 (show p < 4 by omega)
  have hbc := Ig (J6 (by omega) hb.1) (show p < 4 by omega)
  have hal : (if (m.kind == 2) = true then (1 : Int) else 0) = m.kind - 1 := by rcases hk with hk | hk <;> simp [hk]
  unfold Nd A7
  simp only [hs, Int.toNat_natCast]
  by_cases ho : 0 ≤ (ent x i).owner
  · rw [if_pos ho]
    refine h.home hi (by simpa using hla) ⟨hb.1, ⟨by simp only; omega, by have : 0 < 2 ^ n := Nat.two_pow_pos n; simp only; omega⟩⟩ ?_
    exact Vw hgi (h.ci i hi) hp hM hk hms h0 hlast ht rfl rfl rfl rfl rfl hal rfl hlu (.inl ⟨ho, rfl, fun q => Dr q⟩)
  · rw [if_neg ho]
    by_cases hc : (m.kind == 2) = true ∧ Hk (ent x i).sharers p ≠ 0
    · rw [if_pos hc]
      refine h.home hi (by simpa using hla) ⟨hb.1, hclr⟩ ?_
      refine Vw hgi (h.ci i hi) hp hM hk hms h0 hlast ht rfl rfl rfl rfl rfl hal rfl hlu (.inr (.inl ⟨by simp only [ab]; omega, by simpa using hc.1, rfl, Np (by omega) hclr hc.2, fun q => ?_⟩))
      show D1 (Hk (ent x i).sharers p) q = _
      rw [hbc]; rfl
    · rw [if_neg hc]
      refine h.home hi (by simpa using hla) ⟨hb.1, ⟨by simp only; omega, by have : 0 < 2 ^ n := Nat.two_pow_pos n; simp only; omega⟩⟩ ?_
      refine Vw hgi (h.ci i hi) hp hM hk hms h0 hlast ht rfl rfl rfl rfl rfl hal rfl hlu (.inr (.inr ⟨by simp only [ab]; omega, rfl, fun q => Dr q, fun hk2 q hq hqp => ?_⟩))
      have hz : Hk (ent x i).sharers p = 0 := Classical.byContradiction fun hz => hc ⟨by simp [hk2], hz⟩
      have := congrFun hbc q
      rw [hz, Dr] at this
      unfold upd at this
      rw [if_neg hqp] at this
      exact this.symm
theorem Vr {p i : Nat} {m : Msg} (h : Inv n nl x M) (hp : p < n) (hi : i < nl) (hs : m.src = p) (hms : 0 ≤ m.serial ∧ m.serial ≤ 65535) (hmv : 0 ≤ m.value ∧ m.value ≤ 255) (hM : MI (ab (ent x i)) p (lin x i p) m) (hk : m.kind = 3) (h0 : (ent x i).phase = 0) :
    Inv n nl ⟨x.cores, x.home.set i (Kf (ent x i) m), x.frames⟩ M ∧ m.serial ≤ (Kf (ent x i) m).last.getD p 0 := by
  have hb := h.bit i hi
  have hgi := h.gi i hi
  have hla := h.nla i hi
  have hlu : (fun q => ((ent x i).last.set p m.serial).getD q 0) = upd (ab (ent x i)).last p m.serial := by
    funext q; rw [Cy _ _ _ _ _ (by rw [hla]; exact hp)]; rfl
  have hlast : Ek (ent x i) m.src = (ent x i).last.getD p 0 := by unfold Ek; rw [hs, Int.toNat_natCast]
  unfold Kf
  simp only [hs, Int.toNat_natCast] at hlast ⊢
  rw [hlast]
  by_cases hl : (ent x i).last.getD p 0 < m.serial
  · rw [if_pos hl]
    by_cases ho : (ent x i).owner = p
    · rw [if_pos ho]
      refine ⟨h.home hi (by simpa using hla) hb ?_, ?_⟩
      · exact h_put hgi (h.ci i hi) hp hM hk hmv h0 hl rfl rfl rfl rfl rfl hlu rfl rfl (.inl ⟨ho, rfl, rfl⟩)
      · simp only; rw [Cy _ _ _ _ _ (by rw [hla]; exact hp), if_pos rfl]; exact Int.le_refl _
    · rw [if_neg ho]
      refine ⟨h.home hi (by simpa using hla) hb ?_, ?_⟩
      · exact h_put hgi (h.ci i hi) hp hM hk hmv h0 hl rfl rfl rfl rfl rfl hlu rfl rfl (.inr ⟨ho, rfl, rfl⟩)
      · simp only; rw [Cy _ _ _ _ _ (by rw [hla]; exact hp), if_pos rfl]; exact Int.le_refl _
  · rw [if_neg hl]
    have : x.home.set i (ent x i) = x.home := Ea _ _ _ (by rw [h.nh]; exact hi)
    rw [this]
    exact ⟨h, by omega⟩
theorem Tt {p i : Nat} {m : Msg} (h : Inv n nl x M) (hp : p < n) (hi : i < nl) (hs : m.src = p) (hmv : 0 ≤ m.value ∧ m.value ≤ 255) (hM : MI (ab (ent x i)) p (lin x i p) m) (hk : m.kind = 9) (h0 : (ent x i).phase = 1) (ht : m.turn = (ent x i).turn) (ho : m.src = (ent x i).owner) :
    Inv n nl ⟨x.cores, x.home.set i (Gy (ent x i) m), x.frames⟩ M := by
  have hn := h.n1
  have hb := h.bit i hi
  have hgi := h.gi i hi
  have hla := h.nla i hi
  have hop : (ent x i).owner = p := by rw [← ho]; exact hs
  have hf := hgi.f1 h0
  have hsh0 : ∀ q, q < n → D1 (ent x i).sharers q = 0 := by
    intro q hq
    have h1 := (h.ci i hi q hq).shs
    have h2 := (h.ci i hi q hq).bits
    simp only [ab] at h1 h2 hf
    omega
  have hz : (ent x i).sharers = 0 := by
    refine Ki (J6 (by omega) hb.1) fun q _ => ?_
    by_cases hq : q < n
    · exact hsh0 q hq
    · unfold D1
      rw [Nat.testBit_lt_two_pow (show (ent x i).sharers.toNat < 2 ^ q by have : 2 ^ n ≤ 2 ^ q := Nat.pow_le_pow_right (by omega) (by omega); omega)]
      rfl
  have hpos : 0 < 2 ^ n := Nat.two_pow_pos n
  unfold Gy A7
  simp only
  rw [if_neg (by omega)]
  have hclr0 : ∀ w : Int, Hk 0 w = 0 := by intro w; unfold Hk Rl; simp
  have hc : ¬ ((ent x i).alone = true ∧ Hk (if (ent x i).alone = true then (ent x i).sharers else Ht (ent x i).sharers (ent x i).owner) (ent x i).who ≠ 0) := by
    rintro ⟨h1, h2⟩
    rw [if_pos h1, hz, hclr0] at h2
    exact h2 rfl
  rw [if_neg hc]
  refine h.home hi hla ⟨?_, ⟨by simp only; omega, by simp only; omega⟩⟩ ?_
  · simp only
    split
    · exact hb.1
    · rw [hop]; exact Uu (by omega) hb.1 hp
  · refine h_data hgi (h.ci i hi) hp hM hk hmv h0 ht hop rfl rfl (fun q => ?_) rfl rfl rfl rfl rfl rfl (fun q => Dr q)
    show D1 (if (ent x i).alone = true then (ent x i).sharers else Ht (ent x i).sharers (ent x i).owner) q = if q = p ∧ (ab (ent x i)).alone = 0 then 1 else D1 (ent x i).sharers q
    have ha0 := Nw (ent x i)
    have hbs := Nq (J6 (by omega) hb.1) (show p < 4 by omega) q
    rw [hop]
    cases hal : (ent x i).alone with
    | true => rw [hal] at ha0; simp only [Bool.true_eq_false, iff_false] at ha0; simp [ha0]
    | false => rw [hal] at ha0; simp only [iff_true] at ha0; simp [ha0, hbs]
theorem Ts {p i : Nat} {m : Msg} (h : Inv n nl x M) (hp : p < n) (hi : i < nl) (hs : m.src = p) (hM : MI (ab (ent x i)) p (lin x i p) m) (hk : m.kind = 8) (h0 : (ent x i).phase = 2) (ht : m.turn = (ent x i).turn) (ho : Rl (ent x i).need m.src = true) :
    Inv n nl ⟨x.cores, x.home.set i (if (C6 (ent x i) m).need = 0 then A7 (C6 (ent x i) m) else C6 (ent x i) m), x.frames⟩ M := by
  have hn := h.n1
  have hb := h.bit i hi
  have hgi := h.gi i hi
  have hla := h.nla i hi
  have hnd : D1 (ent x i).need p = 1 := by rw [hs] at ho; exact (Rk _ _).1 ho
  have hc1 := Pe (by omega) hb.1 (show p < 4 by omega)
  have hc2 := Pe (by omega) hb.2 (show p < 4 by omega)
  have hb1 := Ig (J6 (by omega) hb.1) (show p < 4 by omega)
  have hb2 := Ig (J6 (by omega) hb.2) (show p < 4 by omega)
  have hown := hgi.f23 (by show 2 ≤ (ent x i).phase; omega)
  simp only [ab] at hown
  have hal := (hgi.c2 h0).1
  rw [Pj] at hal
  unfold C6
  simp only [hs]
  by_cases hz : Hk (ent x i).need p = 0
  · rw [if_pos hz]
    have hrest : ∀ q : Nat, q ≠ p → q < n → D1 (ent x i).need q = 0 := by
      intro q hqp hq
      have := congrFun hb2 q
      rw [hz, Dr] at this
      unfold upd at this
      rw [if_neg hqp] at this
      exact this.symm
    have hpw : (ent x i).who ≠ p := ((h.ci i hi p hp).ned hnd).2.1
    have hsh : ∀ q, q < n → (ent x i).who ≠ q → q ≠ p → D1 (ent x i).sharers q = 0 := by
      intro q hq hqw hqp
      have := (h.ci i hi q hq).cle h0 hqw
      simp only [ab] at this
      rw [← this]; exact hrest q hqp hq
    have hw := hgi.whor (by show (ent x i).phase ≠ 0; omega)
    simp only [ab] at hw
    obtain ⟨w, hw'⟩ : ∃ w : Nat, (ent x i).who = w := ⟨(ent x i).who.toNat, by omega⟩
    have hcc : Hk (Hk (ent x i).sharers p) (ent x i).who = 0 := by
      rw [hw']
      have hc3 := Pe (by omega) hc1 (show w < 4 by omega)
      refine Ki (J6 (by omega) hc3) fun q hq4 => ?_
      rw [Ig (J6 (by omega) hc1) (by omega), hb1]
      unfold upd
      split
      · rfl
      · split
        · rfl
        · by_cases hq : q < n
          · exact hsh q hq (by omega) (by assumption)
          · unfold D1
            rw [Nat.testBit_lt_two_pow (show (ent x i).sharers.toNat < 2 ^ q by have : 2 ^ n ≤ 2 ^ q := Nat.pow_le_pow_right (by omega) (by omega); omega)]
            rfl
    have hne : A7 { ent x i with need := Hk (ent x i).need p, sharers := Hk (ent x i).sharers p } = { ent x i with need := 0, sharers := Hk (ent x i).sharers p, phase := 3 } := by
      unfold A7
      simp only
      rw [if_neg (by omega), if_neg (by rintro ⟨_, h2⟩; exact h2 hcc)]
    rw [hne]
    refine h.home hi hla ⟨hc1, ⟨by simp only; omega, by have : 0 < 2 ^ n := Nat.two_pow_pos n; simp only; omega⟩⟩ ?_
    exact Uw hgi (h.ci i hi) hp hM hk h0 ht hnd rfl rfl hb1 rfl rfl rfl rfl rfl (.inr ⟨rfl, fun q => Dr q, fun q h1 h2 => hrest q h1 h2⟩)
  · rw [if_neg hz]
    refine h.home hi hla ⟨hc1, hc2⟩ ?_
    exact Uw hgi (h.ci i hi) hp hM hk h0 ht hnd rfl rfl hb1 rfl rfl rfl rfl rfl (.inl ⟨h0, hb2, Np (by omega) hc2 hz⟩)
theorem P1 {p i : Nat} {m : Msg} (h : Inv n nl x M) (hp : p < n) (hi : i < nl) (hs : m.src = p) (hM : MI (ab (ent x i)) p (lin x i p) m) (hk : m.kind = 10) (h0 : (ent x i).phase = 3) (ht : m.turn = (ent x i).turn) (ho : m.src = (ent x i).who) :
    Inv n nl ⟨x.cores, x.home.set i (Ee (ent x i)), x.frames⟩ M := by
  have hn := h.n1
  have hb := h.bit i hi
  have hgi := h.gi i hi
  have hla := h.nla i hi
  have hwp : (ent x i).who = p := by rw [← ho]; exact hs
  have hpos : 0 < 2 ^ n := Nat.two_pow_pos n
  unfold Ee
  split
  · rename_i hal
    refine h.home hi hla ⟨⟨by simp only; omega, by simp only; omega⟩, hb.2⟩ ?_
    exact O6 hgi (h.ci i hi) hp hM hk h0 ht hwp rfl rfl rfl rfl rfl rfl rfl (fun q => rfl) (.inl ⟨(Pj _).2 hal, hwp, fun q => Dr q⟩)
  · rename_i hal
    refine h.home hi hla ⟨by simp only; rw [hwp]; exact Uu (by omega) hb.1 hp, hb.2⟩ ?_
    refine O6 hgi (h.ci i hi) hp hM hk h0 ht hwp rfl rfl rfl rfl rfl rfl rfl (fun q => rfl) (.inr ⟨(Nw _).2 (by simpa using hal), rfl, fun q => ?_⟩)
    show D1 (Ht (ent x i).sharers (ent x i).who) q = _
    rw [hwp, Nq (J6 (by omega) hb.1) (by omega)]; rfl
theorem M4 {p : Nat} {m : Msg} (h : Inv n nl x M) (hp : p < n) (hs : m.src = p) (hd : m.dst = n) (hl : 0 ≤ m.line ∧ m.line < nl) (hr : (0 ≤ m.serial ∧ m.serial ≤ 65535) ∧ (0 ≤ m.turn ∧ m.turn ≤ 65535) ∧ (0 ≤ m.value ∧ m.value ≤ 255)) (hm : MX n x m) :
    Inv n nl ⟨x.cores, (Ao x.home n m).1, way x.frames (Ao x.home n m).2⟩ M := by
  obtain ⟨i, hi⟩ : ∃ i : Nat, m.line = i := ⟨m.line.toNat, by omega⟩
  have hin : i < nl := by omega
  have hen : Ae x.home m.line = ent x i := by unfold Ae ent; rw [hi, Int.toNat_natCast]
  have hla := h.nla i hin
  have hMI : MI (ab (ent x i)) p (lin x i p) m := by
    unfold MX at hm
    have : Px n m = p := by unfold Px; rw [if_pos hd, hs]; simp
    rw [this, hi, Int.toNat_natCast] at hm
    exact hm
  have hsame : x.home.set i (ent x i) = x.home := Ea _ _ _ (by rw [h.nh]; exact hin)
  unfold Ao
  rw [hen, if_neg (by rw [h.nh, hla]; omega)]
  simp only [hi, Int.toNat_natCast]
  unfold Bf
  by_cases k1 : m.kind = 1 ∨ m.kind = 2
  · rw [if_pos k1]
    by_cases hc : (ent x i).phase ≠ 0 ∨ m.serial ≤ Ek (ent x i) m.src ∨ 65535 ≤ (ent x i).turn
    · rw [if_pos hc]; simp only [way]; rw [hsame]; exact h
    · rw [if_neg hc, hi]
      exact h.homeSays hin (Vs h hp hin hs hr.1 hMI k1 (by omega) (by omega) (by omega))
  rw [if_neg k1]
  by_cases k3 : m.kind = 3
  · rw [if_pos k3]
    by_cases hc : (ent x i).phase ≠ 0
    · rw [if_pos hc]; simp only [way]; rw [hsame]; exact h
    · rw [if_neg hc]
      obtain ⟨hI, hle⟩ := Vr h hp hin hs hr.1 hr.2.2 hMI k3 (by omega)
      refine hI.way fun m' hm' => ?_
      rw [List.mem_singleton.1 hm', hs, hi]
      refine ⟨Lc h hp hin (by omega) hr.1 (by omega) (by omega), MX.told h hp hin ?_⟩
      constructor <;> simp only <;> intro hk <;> first | omega | exact hle
  rw [if_neg k3]
  by_cases k9 : m.kind = 9 ∧ m.turn = (ent x i).turn ∧ (ent x i).phase = 1 ∧ m.src = (ent x i).owner
  · rw [if_pos k9, hi]
    exact h.homeSays hin (Tt h hp hin hs hr.2.2 hMI k9.1 k9.2.2.1 k9.2.1 k9.2.2.2)
  rw [if_neg k9]
  by_cases k8 : m.kind = 8 ∧ m.turn = (ent x i).turn ∧ (ent x i).phase = 2 ∧ Rl (ent x i).need m.src = true
  · rw [if_pos k8]
    have hI := Ts h hp hin hs hMI k8.1 k8.2.2.1 k8.2.1 k8.2.2.2
    by_cases hz : (C6 (ent x i) m).need = 0
    · rw [if_pos hz] at hI ⊢; rw [hi]; exact h.homeSays hin hI
    · rw [if_neg hz] at hI ⊢; exact hI
  rw [if_neg k8]
  by_cases k10 : m.kind = 10 ∧ m.turn = (ent x i).turn ∧ (ent x i).phase = 3 ∧ m.src = (ent x i).who
  · rw [if_pos k10]
    exact P1 h hp hin hs hMI k10.1 k10.2.2.1 k10.2.1 k10.2.2.2
  · rw [if_neg k10]; simp only [way]; rw [hsame]; exact h
theorem U0 (h : Inv n nl x M) : Az x = Fz n nl := by unfold Az Fz Ca; rw [h.nc, h.nh]
theorem L5 {p : Nat} : Ah x p = cor x p := by unfold Ah cor; rw [Int.toNat_natCast]
theorem M5 {b : List UInt8} (h : Inv n nl x M) (hb : b.length = 12 ∧ ∀ m, Ai (Fz n nl) b = (m, 0) → MX n x m) :
    ∃ M', Inv n nl (Eg x b).1 M' ∧ D8 M (Eg x b).2 M' := by
  unfold Eg
  rw [U0 h]
  have hnc : Ca x = n := by unfold Ca; rw [h.nc]
  rw [hnc]
  by_cases he : (Ai (Fz n nl) b).2 ≠ 0
  · rw [if_pos he]; exact ⟨M, h, rfl⟩
  rw [if_neg he]
  have hpar : Ai (Fz n nl) b = ((Ai (Fz n nl) b).1, 0) := by
    have : (Ai (Fz n nl) b).2 = 0 := Classical.byContradiction he
    rw [← this]
  have hm := hb.2 _ hpar
  obtain ⟨w1, w2, w3, w4, w5, w6, w7⟩ := Hq (Jj hpar).2.2.2.2.1
  generalize (Ai (Fz n nl) b).1 = m at hm w1 w2 w3 w4 w5 w6 w7 ⊢
  simp only [Fz] at w2 w3 w7
  by_cases hd : m.dst = (n : Int)
  · rw [if_pos hd]
    have hs : ¬ m.src = (n : Int) := fun hs => w7 ⟨fun _ => hd, fun _ => hs⟩
    obtain ⟨p, hp⟩ : ∃ p : Nat, m.src = p := ⟨m.src.toNat, by omega⟩
    exact ⟨M, M4 h (by omega) hp hd w3 ⟨w4, w5, w6⟩ hm, rfl⟩
  · rw [if_neg hd]
    have hs : m.src = (n : Int) := Classical.byContradiction fun hs => w7 ⟨fun h => absurd h hs, fun h => absurd h hd⟩
    obtain ⟨p, hp⟩ : ∃ p : Nat, m.dst = p := ⟨m.dst.toNat, by omega⟩
    rw [hp, L5]
    exact Tr h (by omega) hp hs w3 ⟨w4, w5, w6⟩ hm
theorem inv_do {s : Step} (h : Inv n nl x M) (hok : (Ar x s).2.2 = 0) : ∃ M', Inv n nl (Ar x s).1 M' ∧ D8 M (Ar x s).2.1 M' := by
  have hnc : Ca x = n := by unfold Ca; rw [h.nc]
  have hcf := U0 h
  unfold Ar at hok ⊢
  rw [hnc] at hok ⊢
  rw [hcf] at hok ⊢
  by_cases k1 : s.kind = 1
  · rw [if_pos k1] at hok ⊢
    split at hok
    · cases hok
    rename_i hnode
    rw [if_neg hnode]
    obtain ⟨p, hp⟩ : ∃ p : Nat, s.node = p := ⟨s.node.toNat, by omega⟩
    have hpn : p < n := by omega
    rw [hp, L5] at hok ⊢
    split at hok
    · rename_i hz; exact absurd hok hz
    rename_i hz
    rw [if_neg hz]
    exact Rh h hpn (Classical.byContradiction hz)
  rw [if_neg k1] at hok ⊢
  by_cases k2 : s.kind = 2
  · rw [if_pos k2] at hok ⊢
    split at hok
    · cases hok
    rename_i hf
    rw [if_neg hf]
    exact M5 (h.erase _) (h.mi _ (Hz hf))
  rw [if_neg k2] at hok ⊢
  by_cases k3 : s.kind = 3
  · rw [if_pos k3] at hok ⊢
    split at hok
    · cases hok
    rename_i hf
    rw [if_neg hf]
    exact ⟨M, h.erase _, rfl⟩
  rw [if_neg k3] at hok ⊢
  by_cases k4 : s.kind = 4
  · rw [if_pos k4] at hok ⊢
    split at hok
    · cases hok
    rename_i hf
    rw [if_neg hf]
    exact ⟨M, h.send (h.mi _ (Hz hf)), rfl⟩
  rw [if_neg k4] at hok ⊢
  by_cases k5 : s.kind = 5
  · rw [if_pos k5] at hok ⊢
    split at hok
    · cases hok
    rename_i hf
    rw [if_neg hf]
    split at hok
    · cases hok
    rename_i hq
    rw [if_neg hq]
    split at hok
    · rename_i hz; exact absurd hok hz
    rename_i hz
    rw [if_neg hz]
    have hf' : ¬ (s.n < 0 ∨ (x.frames.length : Int) ≤ s.n) := hf
    unfold Ev at hz ⊢
    rw [if_neg hf'] at hz ⊢
    split at hz
    · exact absurd (show (3 : Int) ≠ 0 by decide) hz
    rename_i hbit
    rw [if_neg hbit]
    exact ⟨M, h.spoil hf' (Classical.byContradiction hq) (by omega) (by omega), rfl⟩
  rw [if_neg k5] at hok ⊢
  by_cases k6 : s.kind = 6
  · rw [if_pos k6] at hok ⊢
    split at hok
    · cases hok
    rename_i hnode
    rw [if_neg hnode]
    by_cases hh : s.node = (n : Int)
    · rw [if_pos hh, hh]; exact ⟨M, Lt h, rfl⟩
    · rw [if_neg hh]
      obtain ⟨p, hp⟩ : ∃ p : Nat, s.node = p := ⟨s.node.toNat, by omega⟩
      rw [hp, L5]
      exact ⟨M, Lu h (by omega), rfl⟩
  · rw [if_neg k6] at hok; cases hok
end
end Go.Proofs.Ytofgpimoekhfaaa

/- This file proves that whatever steps there were a chip is as it must be, and all that is done is as of memory that is one. No program in sight. No conditions. -/
set_option linter.unusedVariables false
set_option linter.unusedSimpArgs false
namespace Go.Proofs.Ytofgpimoekhfaaa
open Abs
section
variable {n nl : Nat} {x : Chip} {M : List Int}
theorem Ew {α : Type} (k i : Nat) (a d : α) (h : i < k) : (List.replicate k a).getD i d = a := by
 rw [List.getD_eq_getElem?_getD, List.getElem?_replicate, if_pos h]; rfl
theorem Eu {α : Type} (k i : Nat) (a : α) : (List.replicate k a).getD i a = a := by
 rw [List.getD_eq_getElem?_getD, List.getElem?_replicate]; split <;> rfl
def Gu (n nl : Nat) : Chip := ⟨List.replicate n ⟨List.replicate nl zLine, zOp⟩, List.replicate nl { Bc with last := List.replicate n 0 }, []⟩
theorem Re (hn : 1 ≤ n ∧ n ≤ 4) (hl : 1 ≤ nl ∧ nl ≤ 4) : Inv n nl (Gu n nl) (List.replicate nl 0) := by
  have hcor : ∀ p, p < n → cor (Gu n nl) p = ⟨List.replicate nl zLine, zOp⟩ := fun p hp => Ew _ _ _ _ hp
  have hlin : ∀ i p, i < nl → p < n → lin (Gu n nl) i p = zLine := by
    intro i p hi hp; unfold lin; rw [hcor p hp]; exact Ew _ _ _ _ hi
  have hent : ∀ i, i < nl → ent (Gu n nl) i = { Bc with last := List.replicate n 0 } := fun i hi => Ew _ _ _ _ hi
  have hpos : 0 < 2 ^ n := Nat.two_pow_pos n
  have hM : ∀ i, (List.replicate nl (0 : Int)).getD i 0 = 0 := fun i => Eu _ _ _
  refine ⟨hn, hl, by simp [Gu], by simp [Gu], ?_, ?_, by simp, ?_, ?_, ?_, ?_, ?_, by simp [Gu], ?_⟩
  · intro p hp; rw [hcor p hp]; simp
  · intro i hi; rw [hent i hi]; simp
  · intro i hi; rw [hM]; omega
  · intro i hi; rw [hent i hi]; simp only [Bc]; omega
  · intro i hi; rw [hent i hi]
    have h1 : ∀ q, D1 0 q = 0 := fun q => Dr q
    constructor <;> simp only [ab, Bc] <;> first | omega | (intro h; omega) | simp
  · intro i hi p hp
    rw [hent i hi, hlin i p hi hp, hM]
    have h1 : D1 0 p = 0 := Dr p
    have h2 : (List.replicate n (0 : Int)).getD p 0 = 0 := Eu _ _ _
    constructor <;> simp only [ab, Bc, zLine] <;> (try rw [h1]) <;> (try rw [h2]) <;> first | omega | simp
  · intro p hp
    rw [hcor p hp]
    constructor
    · intro _; exact ⟨rfl, fun i hi => by rw [Ew _ _ _ _ hi]; rfl⟩
    · intro h; exact absurd rfl h
  · intro b hb; cases hb
theorem K8 {c : Config} (h : (Br c).2 = 0) : ∃ n nl : Nat, (1 ≤ n ∧ n ≤ 4) ∧ (1 ≤ nl ∧ nl ≤ 4) ∧ c = Fz n nl ∧ Br c = (Gu n nl, 0) := by
  unfold Br at h ⊢
  split at h
  · cases h
  rename_i hc
  have hc0 : Ic c = 0 := Classical.byContradiction hc
  unfold Ic at hc0
  split at hc0
  · cases hc0
  rename_i hr
  refine ⟨c.cores.toNat, c.lines.toNat, by omega, by omega, ?_, ?_⟩
  · unfold Fz; cases c; simp only [Config.mk.injEq]; simp only at hr; omega
  · rw [if_neg hc]; rfl
theorem H7 {M M' M'' : List Int} : ∀ {a b : List Done}, D8 M a M' → D8 M' b M'' → D8 M (a ++ b) M''
 | [], b, h1, h2 => by rw [show M' = M from h1] at h2; exact h2
 | d :: a, b, ⟨h1, h2, h3, h4, h5⟩, h6 => ⟨h1, h2, h3, h4, H7 h5 h6⟩
theorem H2 : ∀ (l : List Step) {x : Chip} {M : List Int}, Inv n nl x M → ∃ M', Inv n nl (Ej x l).1 M' ∧ D8 M (Ej x l).2 M'
  | [], x, M, h => ⟨M, h, rfl⟩
  | s :: r, x, M, h => by
    simp only [Ej]
    split
    · rename_i hok
      obtain ⟨M1, h1, d1⟩ := inv_do h hok
      obtain ⟨M2, h2, d2⟩ := H2 r h1
      exact ⟨M2, h2, H7 d1 d2⟩
    · exact H2 r h
theorem Rg {c : Config} {l : List Step} (h : (Br c).2 = 0) : ∃ n nl : Nat, c = Fz n nl ∧ ∃ M, Inv n nl (build c l).1 M ∧ D8 (List.replicate nl 0) (build c l).2 M := by
 obtain ⟨n, nl, h1, h2, h3, h4⟩ := K8 h
 refine ⟨n, nl, h3, ?_⟩
 unfold build
 rw [if_neg (by rw [h]; simp), h4]
 exact H2 _ (Re h1 h2)
end
end Go.Proofs.Ytofgpimoekhfaaa

/- This file proves that numbers in chips that come of steps, and in what is said there, lie within bounds. No program in sight. No conditions. -/
set_option linter.unusedVariables false
set_option linter.unusedSimpArgs false
set_option maxHeartbeats 1000000
set_option maxRecDepth 8000
namespace Go.Proofs.Ytofgpimoekhfaaa
open Go
theorem Tx {α : Type} {l : List α} {d : α} {P : α → Prop} (h : ∀ i, i < l.length → P (l.getD i d)) : ∀ x ∈ l, P x := by
 intro x hx
 obtain ⟨i, hi, rfl⟩ := List.getElem_of_mem hx
 have := h i hi
 rwa [List.getD_eq_getElem?_getD, List.getElem?_eq_getElem hi] at this
section
variable {n nl : Nat} {x : Chip} {M : List Int}
open Abs
theorem Inv.kb (h : Inv n nl x M) {p : Nat} (hp : p < n) : KB (cor x p) := by
 have h1 := h.ncl p hp
 have h2 := h.l1
 refine ⟨by omega, fun i hi => (h.ci i (by omega) p hp).va, by rw [h1]; exact h.cw p hp⟩
theorem Inv.eb (h : Inv n nl x M) {i : Nat} (hi : i < nl) : EB (ent x i) := by
  have hg := h.gi i hi
  have hb := h.bit i hi
  have hn := h.n1
  have b1 := J6 hn.2 hb.1
  have b2 := J6 hn.2 hb.2
  have w : 0 ≤ (ent x i).who ∧ (ent x i).who < 4 := by
    by_cases h0 : (ent x i).phase = 0
    · have := (hg.idle h0).1; simp only [ab] at this; omega
    · have := hg.whor h0; simp only [ab] at this; omega
  have o := hg.own; have ph := hg.ph; have tu := hg.tu; have va := hg.va; have se := hg.se
  simp only [ab] at o ph tu va se
  unfold EB Entry.wf Am
  omega
theorem Inv.ebd (h : Inv n nl x M) {i : Nat} (hi : i < nl) : ((ent x i).turn ≤ 65535) ∧ (0 ≤ (ent x i).serial ∧ (ent x i).serial ≤ 65535) ∧ (0 ≤ (ent x i).value ∧ (ent x i).value ≤ 255) := by
 have hg := h.gi i hi
 exact ⟨hg.tu.2, hg.se, hg.va⟩
def LB (l : Line) : Prop := (0 ≤ l.value ∧ l.value ≤ 255) ∧ (0 ≤ l.want ∧ l.want ≤ 3) ∧ (0 ≤ l.serial ∧ l.serial ≤ 65535) ∧ (0 ≤ l.gave ∧ l.gave ≤ 65535) ∧ (0 ≤ l.given ∧ l.given ≤ 255) ∧ (0 ≤ l.seen ∧ l.seen ≤ 65535) ∧ (0 ≤ l.state ∧ l.state ≤ 3)
theorem Inv.lb (h : Inv n nl x M) {i p : Nat} (hi : i < nl) (hp : p < n) : LB (lin x i p) := by
 have hc := h.ci i hi p hp
 have ht := (h.gi i hi).tu
 have h1 := hc.ga
 exact ⟨hc.va, hc.wa, hc.se, by omega, hc.gi, by omega, hc.st⟩
end
theorem U4 {l : Line} (h : LB l) {id home i : Int} (h1 : 0 ≤ id ∧ id ≤ 15) (h2 : 0 ≤ home ∧ home ≤ 15) (h3 : 0 ≤ i ∧ i ≤ 255) : MsgIn (Bl l id home i) := by
 unfold Bl MsgIn; unfold LB at h; simp only; split <;> omega
theorem Jp {kind id home i t v : Int} (h1 : 0 ≤ id ∧ id ≤ 15) (h2 : 0 ≤ home ∧ home ≤ 15) (h3 : 0 ≤ i ∧ i ≤ 255) (hk : 0 ≤ kind ∧ kind ≤ 255) (ht : 0 ≤ t ∧ t ≤ 65535) (hv : 0 ≤ v ∧ v ≤ 255) : MsgIn (A5 kind id home i t v) := by
 unfold A5 MsgIn; simp only; omega
theorem Uk {c : Core} {id home : Int} {o : Op} (h1 : 0 ≤ id ∧ id ≤ 15) (h2 : 0 ≤ home ∧ home ≤ 15) (hl : c.lines.length ≤ 4) (hb : ∀ i, i < c.lines.length → LB (c.lines.getD i zLine)) : ∀ m ∈ (Ag c id home o).2.1, MsgIn m := by
  unfold Ag
  split
  · intro m hm; cases hm
  split
  · intro m hm; cases hm
  split
  · intro m hm; cases hm
  rename_i k1 k2 k3
  split
  · intro m hm; cases hm
  · intro m hm
    rw [List.mem_singleton.1 hm]
    have hL : LB (Ac c o.line) := hb o.line.toNat (by omega)
    refine U4 ?_ h1 h2 (by omega)
    unfold LB at hL ⊢
    unfold Av
    split
    · split <;> simp only <;> omega
    split
    · exfalso
      rename_i h3 h4 h5
      apply h3
      unfold A1
      rw [if_neg h4]
      simp; omega
    · split <;> simp only <;> omega
theorem Vu {c : Core} {id home : Int} {m : Msg} (h1 : 0 ≤ id ∧ id ≤ 15) (h2 : 0 ≤ home ∧ home ≤ 15) (hl : c.lines.length ≤ 4) (hb : ∀ i, i < c.lines.length → LB (c.lines.getD i zLine)) (ht : 0 ≤ m.turn ∧ m.turn ≤ 65535) : ∀ a ∈ (Ad c id home m).2.1, MsgIn a := by
  unfold Ad
  split
  · intro a ha; cases ha
  rename_i k1
  have hL : LB (Ac c m.line) := hb m.line.toNat (by omega)
  have h3 : 0 ≤ m.line ∧ m.line ≤ 255 := by omega
  unfold LB at hL
  split
  · intro a ha; rw [List.mem_singleton.1 ha]; exact Jp h1 h2 h3 (by omega) ht (by omega)
  split
  · split
    · intro a ha; rw [List.mem_singleton.1 ha]; exact Jp h1 h2 h3 (by omega) ht (by omega)
    split
    · intro a ha; rw [List.mem_singleton.1 ha]; exact Jp h1 h2 h3 (by omega) (by omega) (by omega)
    · intro a ha; cases ha
  split
  · split
    · intro a ha; cases ha
    split
    · intro a ha; rw [List.mem_singleton.1 ha]; exact Jp h1 h2 h3 (by omega) ht (by omega)
    · intro a ha; rw [List.mem_singleton.1 ha]; exact Jp h1 h2 h3 (by omega) ht (by omega)
  split
  · intro a ha; cases ha
  · intro a ha; cases ha
theorem says_in {e : Entry} {i id : Int} (he : EB e) (ht : e.turn ≤ 65535) (hs : 0 ≤ e.serial ∧ e.serial ≤ 65535) (hv : 0 ≤ e.value ∧ e.value ≤ 255) (hp : e.phase = 1 → 0 ≤ e.owner) (hi : 0 ≤ i ∧ i ≤ 255) (hd : 0 ≤ id ∧ id ≤ 15) : ∀ a ∈ says e i id, MsgIn a := by
  unfold says
  unfold EB at he
  split
  · rename_i h1
    have := hp h1
    intro a ha; rw [List.mem_singleton.1 ha]; unfold MsgIn; simp only; split <;> omega
  split
  · intro a ha
    obtain ⟨p, hp, rfl⟩ := List.mem_map.1 ha
    have h4 := (List.mem_filter.1 hp).1
    have : 0 ≤ p ∧ p ≤ 3 := by
      simp only [List.mem_cons, List.not_mem_nil, or_false] at h4; omega
    unfold MsgIn; simp only; omega
  split
  · intro a ha; rw [List.mem_singleton.1 ha]; unfold MsgIn; simp only; omega
  · intro a ha; cases ha
theorem Lp {e : Entry} : (A7 e).phase = 1 → 0 ≤ (A7 e).owner := by
  unfold A7; split
  · intro _; assumption
  split
  · intro h; simp at h
  · intro h; simp at h
theorem Ir (e : Entry) : (A7 e).turn = e.turn ∧ (A7 e).serial = e.serial ∧ (A7 e).value = e.value ∧ (A7 e).owner = e.owner ∧ (A7 e).last = e.last := by
  unfold A7; split
  · simp
  split <;> simp
theorem Og {l : List Entry} {id : Int} {m : Msg} (hd : 0 ≤ id ∧ id ≤ 15) (hl : l.length ≤ 4) (hb : ∀ i, i < l.length → EB (l.getD i Bc) ∧ (l.getD i Bc).turn ≤ 65535 ∧ (0 ≤ (l.getD i Bc).serial ∧ (l.getD i Bc).serial ≤ 65535) ∧ (0 ≤ (l.getD i Bc).value ∧ (l.getD i Bc).value ≤ 255) ∧ (l.getD i Bc).last.length ≤ 4)
    (hs : 0 ≤ m.serial ∧ m.serial ≤ 65535) (hv : 0 ≤ m.value ∧ m.value ≤ 255) : ∀ a ∈ (Ao l id m).2, MsgIn a := by
  unfold Ao
  split
  · intro a ha; cases ha
  rename_i k
  obtain ⟨h1, h2, h3, h4, h5⟩ := hb m.line.toNat (by omega)
  change EB (Ae l m.line) at h1
  change (Ae l m.line).turn ≤ 65535 at h2
  change 0 ≤ (Ae l m.line).serial ∧ (Ae l m.line).serial ≤ 65535 at h3
  change 0 ≤ (Ae l m.line).value ∧ (Ae l m.line).value ≤ 255 at h4
  change (Ae l m.line).last.length ≤ 4 at h5
  have hi : 0 ≤ m.line ∧ m.line ≤ 255 := by omega
  have hE := h1
  unfold EB Entry.wf Am at hE
  simp only
  generalize Ae l m.line = e at h1 h2 h3 h4 h5 hE k
  unfold Bf
  split
  · split
    · intro a ha; cases ha
    · rename_i k2
      have hX : EB { e with last := e.last.set m.src.toNat m.serial, who := m.src, serial := m.serial, alone := m.kind == 2, turn := e.turn + 1 } := by unfold EB Entry.wf Am; simp only; omega
      have hr := Ir { e with last := e.last.set m.src.toNat m.serial, who := m.src, serial := m.serial, alone := m.kind == 2, turn := e.turn + 1 }
      simp only at hr
      unfold Nd
      exact says_in (Dm hX) (by rw [hr.1]; omega) (by rw [hr.2.1]; exact hs) (by rw [hr.2.2.1]; exact h4) Lp hi hd
  split
  · split
    · intro a ha; cases ha
    · intro a ha; rw [List.mem_singleton.1 ha]; unfold MsgIn; simp only; omega
  split
  · rename_i k3
    have hs4 : 0 ≤ (if e.alone = true then e.sharers else Ht e.sharers e.owner) ∧ (if e.alone = true then e.sharers else Ht e.sharers e.owner) < 16 := by
      split
      · omega
      · obtain ⟨_, _, r, _⟩ := Cr hE.2.1.1 hE.2.1.2 (show 0 ≤ e.owner by omega) hE.2.2.2.2.1.2; exact r
    have hX : EB { e with value := m.value, sharers := if e.alone then e.sharers else Ht e.sharers e.owner, owner := -1 } := by
      generalize (if e.alone = true then e.sharers else Ht e.sharers e.owner) = z at hs4 ⊢
      unfold EB Entry.wf Am; simp only; omega
    have hr := Ir { e with value := m.value, sharers := if e.alone then e.sharers else Ht e.sharers e.owner, owner := -1 }
    simp only at hr
    unfold Gy
    exact says_in (Dm hX) (by rw [hr.1]; exact h2) (by rw [hr.2.1]; exact h3) (by rw [hr.2.2.1]; exact hv) Lp hi hd
  split
  · split
    · have c1 := (Cr hE.2.1.1 hE.2.1.2 (show 0 ≤ m.src by omega) (show m.src < 4 by omega)).2.2.2
      have c2 := (Cr hE.2.2.1.1 hE.2.2.1.2 (show 0 ≤ m.src by omega) (show m.src < 4 by omega)).2.2.2
      have hX : EB (C6 e m) := by
        unfold C6 EB Entry.wf Am; simp only; omega
      have hr := Ir (C6 e m)
      exact says_in (Dm hX) (by rw [hr.1]; exact h2) (by rw [hr.2.1]; exact h3) (by rw [hr.2.2.1]; exact h4) Lp hi hd
    · intro a ha; cases ha
  split
  · intro a ha; cases ha
  · intro a ha; cases ha
theorem Ou {id home : Int} (h1 : 0 ≤ id ∧ id ≤ 15) (h2 : 0 ≤ home ∧ home ≤ 15) : ∀ (l : List Line) (i : Int), 0 ≤ i → i + l.length ≤ 256 → (∀ x ∈ l, LB x) → ∀ a ∈ Bw id home i l, MsgIn a
  | [], _, _, _, _ => fun a ha => by cases ha
  | x :: l, i, h0, hn, hb => by
    intro a ha
    simp only [List.length_cons] at hn
    have ih := Ou h1 h2 l (i + 1) (by omega) (by omega) (fun y hy => hb y (.tail _ hy))
    simp only [Bw] at ha
    split at ha
    · rcases List.mem_cons.1 ha with e | e
      · rw [e]; exact U4 (hb x (.head _)) h1 h2 (by omega)
      · exact ih a e
    · exact ih a ha
theorem Ij : ∀ (a b : List Msg) (f : Frames), way f (a ++ b) = way (way f a) b
 | [], _, _ => rfl
 | _ :: a, b, _ => Ij a b _
theorem Hu (id : Int) : ∀ (l : List Entry) (i : Int) (x : Entry), Dq id i (l ++ [x]) = Dq id i l ++ says x (i + l.length) id
 | [], i, x => by simp [Dq]
 | a :: l, i, x => by
  have ih := Hu id l (i + 1) x
  have e : i + 1 + (l.length : Int) = i + ((a :: l).length : Int) := by simp only [List.length_cons]; omega
  rw [e] at ih
  simp only [List.cons_append, Dq, ih, List.append_assoc]
end Go.Proofs.Ytofgpimoekhfaaa

/- This file proves what small functions of the program's core and of its plain memory compute. No conditions. -/
set_option linter.unusedVariables false
set_option linter.unusedSimpArgs false
set_option maxHeartbeats 1000000
set_option maxRecDepth 8000
namespace Go.Proofs.Ytofgpimoekhfaaa
open Go
theorem Je {α : Type} {l : List α} {i : Nat} {d : α} : l.set i (l.getD i d) = l := by
  by_cases h : i < l.length
  · rw [List.getD_eq_getElem?_getD, List.getElem?_eq_getElem h]; exact List.set_getElem_self h
  · exact List.set_eq_of_length_le (by omega)
theorem q_mx {P : Program} {n : Nat} {L : List Chunk} {R : List Fact} {al : List (Nat × Value)} {d : Nat} {x : Operand} {T ty : TypeId} {pos : String} {aft : Array Edge} {a : Int} (hx : ev n al x = some (vi a)) (h0 : 0 ≤ a) : Ax P n al L R ⟨some d, .call { callee := .builtin .max, args := #[x, .const (.int .i64 0)], argTypes := #[T, T] }, ty, pos, aft, none⟩ (vi a) :=
 ⟨rfl, fun ρ w h _ => by
  have hx' := h x (by simp [Op.operands, Call.operands]) _ hx
  have hc' := h (.const (.int .i64 0)) (by simp [Op.operands, Call.operands]) _ rfl
  simp [execOp, resolve, invoke, builtin, hx', hc', Builtin.max_, Builtin.max2, show ¬ (a < 0) from by omega]⟩
theorem W0 {L : List Chunk} {R : List Fact} {w : World} {a : Int} (hs : St (L) R w) (h0 : 0 ≤ a) (h1 : a ≤ 16777216) : Calls Try.prog 100 [vi a].toArray w (Ch (fun v : Value => v) (fun v => row 3 v (List.replicate a.toNat (0 : Int)) :: L) (fun v => R)) := by
 refine Aj Try.func100 rfl Try.ntmps100 rfl hs ?_
 clear hs
 refine Gm ?_
 refine Gb1 ?_
 refine rn1 ?_
 refine ob (q_mx (a := a) rfl h0) ?_
 refine Q3 (α := Int) (x0 := 0) (zc := [vi 0]) D9 rfl (by decide) rfl rfl rfl (fun j => ⟨rfl, by unfold Am; omega⟩) h0 h1 ?_; intro v5
 refine Ga1 ?_
 exact Cb v5
theorem W1 {L : List Chunk} {R : List Fact} {w : World} {v0 : Value} {m : List Int} {o : Op} (hs : St (L) R w) (h0 : sl v0 m ∈ R) : Calls Try.prog 101 [v0, .agg o.cells.toArray].toArray w (Ch (fun v : Value => .tuple #[v, vi (Cl m o).2.1, vi (Cl m o).2.2]) (fun v => L) (fun v => sl v (Cl m o).1 :: R)) := by
  have hlen := Bk h0 hs
  refine Aj Try.func101 rfl Try.ntmps101 rfl hs ?_
  clear hs
  refine Gm ?_
  refine bx ?_; intro b3
  refine Ga3 ?_
  rcases (show (o.kind < 1) ∨ (¬ o.kind < 1 ∧ 4 < o.kind) ∨ (1 ≤ o.kind ∧ o.kind ≤ 4) from by omega) with hc | hc | hc
  ·
   refine Aa ?_
   refine rn2 ?_
   refine ob (Af rfl rfl (Bt (by omega))) ?_
   refine Gd6 ?_
   refine Ga3 ?_
   have er : Cl m o = ([], 0, 1) := F9 (by omega)
   rw [er]
   exact Fv (.slice none 0 0) (hs := fun w hs => Al (St.shut (hs.rowNil 3 Int)))
  ·
   refine Aa ?_
   refine rn2 ?_
   refine ob (Af rfl rfl (An (by omega))) ?_
   refine rn3 ?_
   refine gy ?_
   refine ob (Af rfl rfl (C0 (by omega))) ?_
   refine Gd2 ?_
   refine Ga3 ?_
   have er : Cl m o = ([], 0, 1) := F9 (by omega)
   rw [er]
   exact Fv (.slice none 0 0) (hs := fun w hs => Al (St.shut (hs.rowNil 3 Int)))
  ·
   refine Aa ?_
   refine rn2 ?_
   refine ob (Af rfl rfl (An (by omega))) ?_
   refine rn3 ?_
   refine gy ?_
   refine ob (Af rfl rfl (Cp (by omega))) ?_
   refine Gc2 ?_
   rcases (show (o.line < 0) ∨ (0 ≤ o.line ∧ (m.length : Int) ≤ o.line) ∨ (0 ≤ o.line ∧ o.line < (m.length : Int) ∧ o.value < 0) ∨ (0 ≤ o.line ∧ o.line < (m.length : Int) ∧ 255 < o.value) ∨ (0 ≤ o.line ∧ o.line < (m.length : Int) ∧ 0 ≤ o.value ∧ o.value ≤ 255) from by omega) with hc | hc | hc | hc | hc
   ·
    refine Aa ?_
    refine rn2 ?_
    refine ob (Af rfl rfl (Bt (by omega))) ?_
    refine Gc18 ?_
    refine kp [0, 3, 4, 5, 6] ?_
    refine Aa ?_
    refine Ga3 ?_
    have er : Cl m o = ([], 0, 3) := C8 (by omega) (by omega)
    rw [er]
    exact Fv (.slice none 0 0) (hs := fun w hs => Al (St.shut (hs.rowNil 3 Int)))
   ·
    refine Aa ?_
    refine rn2 ?_
    refine ob (Af rfl rfl (An (by omega))) ?_
    refine rn5 ?_
    refine gy ?_
    refine ob (Af rfl rfl (Cv (by omega))) ?_
    refine Gc12 ?_
    refine kp [0, 3, 4, 5, 6] ?_
    refine Aa ?_
    refine Ga3 ?_
    have er : Cl m o = ([], 0, 3) := C8 (by omega) (by omega)
    rw [er]
    exact Fv (.slice none 0 0) (hs := fun w hs => Al (St.shut (hs.rowNil 3 Int)))
   ·
    refine Aa ?_
    refine rn2 ?_
    refine ob (Af rfl rfl (An (by omega))) ?_
    refine rn5 ?_
    refine gy ?_
    refine ob (Af rfl rfl (A4 (by omega))) ?_
    refine rn4 ?_
    refine gy ?_
    refine ob (Af rfl rfl (Bt (by omega))) ?_
    refine Gc7 ?_
    refine kp [0, 3, 4, 5, 6] ?_
    refine Aa ?_
    refine Ga3 ?_
    have er : Cl m o = ([], 0, 3) := C8 (by omega) (by omega)
    rw [er]
    exact Fv (.slice none 0 0) (hs := fun w hs => Al (St.shut (hs.rowNil 3 Int)))
   ·
    refine Aa ?_
    refine rn2 ?_
    refine ob (Af rfl rfl (An (by omega))) ?_
    refine rn5 ?_
    refine gy ?_
    refine ob (Af rfl rfl (A4 (by omega))) ?_
    refine rn4 ?_
    refine gy ?_
    refine ob (Af rfl rfl (An (by omega))) ?_
    refine rn4 ?_
    refine gy ?_
    refine ob (Af rfl rfl (C0 (by omega))) ?_
    refine Gc2 ?_
    refine kp [0, 3, 4, 5, 6] ?_
    refine Aa ?_
    refine Ga3 ?_
    have er : Cl m o = ([], 0, 3) := C8 (by omega) (by omega)
    rw [er]
    exact Fv (.slice none 0 0) (hs := fun w hs => Al (St.shut (hs.rowNil 3 Int)))
   ·
    refine Aa ?_
    refine rn2 ?_
    refine ob (Af rfl rfl (An (by omega))) ?_
    refine rn5 ?_
    refine gy ?_
    refine ob (Af rfl rfl (A4 (by omega))) ?_
    refine rn4 ?_
    refine gy ?_
    refine ob (Af rfl rfl (An (by omega))) ?_
    refine rn4 ?_
    refine gy ?_
    refine ob (Af rfl rfl (Cp (by omega))) ?_
    refine Gc2 ?_
    refine JC.rowNil 3 Int ?_
    refine kp [0, 3, 4, 5, 6, 7, 39, 40] ?_
    refine Aa ?_
    refine rn1 ?_
    refine ap D9 (hb := fun w hs => by have := Bk h0 hs; have : maxN = 16777216 := rfl; simp; omega) (k := ?_); intro v40
    refine Ga1 ?_
    refine JC.open0 (xs := m) (v := v0) o.line.toNat mm (by omega) (fun hw => ?_)
    have hw9 : Am (m.getD o.line.toNat 0) := hw
    refine Aa ?_
    refine Gb6 ?_
    refine Ga2 ?_
    rcases (show (o.kind = 1) ∨ (o.kind = 2) ∨ (o.kind = 3) ∨ (o.kind = 4) from by omega) with hc | hc | hc | hc
    ·
     refine Aa ?_
     refine ob (Af rfl rfl (As (by omega))) ?_
     refine Gd1 ?_
     refine Ga5 ?_
     have er : Cl m o = (m, m.getD o.line.toNat 0, 0) := by unfold Cl; rw [if_neg (by omega), if_neg (by omega), opv1 hc]; exact congrArg (·, _) Je
     rw [er]
     exact Fv v40 (hs := fun w hs => Al (St.shut (hs.pick pkk)))
    ·
     refine Aa ?_
     refine ob (Af rfl rfl (Ak (by omega))) ?_
     refine Gd1 ?_
     refine ob (Af rfl rfl (As (by omega))) ?_
     refine Gd1 ?_
     refine rn6 ?_
     refine El (xs := m) Try.sizeOf3 rfl rfl pkk (getD_some 0 (by omega)) (by unfold Am at hw9 ⊢; omega) ?_
     refine Gm ?_
     refine Ga4 ?_
     have er : Cl m o = ((m.set o.line.toNat o.value), 0, 0) := by unfold Cl; rw [if_neg (by omega), if_neg (by omega), opv2 hc]
     rw [er]
     exact Fv v40 (hs := fun w hs => Al (St.shut (hs.pick pkk)))
    ·
     refine Aa ?_
     refine ob (Af rfl rfl (Ak (by omega))) ?_
     refine Gd1 ?_
     refine ob (Af rfl rfl (Ak (by omega))) ?_
     refine Gd1 ?_
     refine ob (Af rfl rfl (As (by omega))) ?_
     refine Gd1 ?_
     refine rn6 ?_
     refine ob (Gs (a := m.getD o.line.toNat 0) (b := o.value) U2) ?_
     refine ob (Gs (b := 255) Up) ?_
     rw [Kw]
     refine rn1 ?_
     refine El (xs := m) Try.sizeOf3 rfl rfl pkk (getD_some 0 (by omega)) (by unfold Am at hw9 ⊢; omega) ?_
     refine Gm ?_
     refine Ga5 ?_
     have er : Cl m o = ((m.set o.line.toNat ((m.getD o.line.toNat 0 + o.value) % 256)), m.getD o.line.toNat 0, 0) := by unfold Cl; rw [if_neg (by omega), if_neg (by omega), opv3 hc]
     rw [er]
     exact Fv v40 (hs := fun w hs => Al (St.shut (hs.pick pkk)))
    ·
     refine Aa ?_
     refine ob (Af rfl rfl (Ak (by omega))) ?_
     refine Gd1 ?_
     refine ob (Af rfl rfl (Ak (by omega))) ?_
     refine Gd1 ?_
     refine ob (Af rfl rfl (Ak (by omega))) ?_
     refine Gd1 ?_
     refine Ga4 ?_
     have er : Cl m o = (m, 0, 0) := by unfold Cl; rw [if_neg (by omega), if_neg (by omega), opv4 hc]; exact congrArg (·, _) Je
     rw [er]
     exact Fv v40 (hs := fun w hs => Al (St.shut (hs.pick pkk)))
theorem Qc {L : List Chunk} {R : List Fact} {w : World} {v0 : Value} {xs : List Line} (hs : St (L) R w) (h0 : sl v0 xs ∈ R) : Calls Try.prog 80 [v0].toArray w (Ch (fun v : Value => v) (fun v => row 82 v xs :: L) (fun v => R)) := by
  refine Aj Try.func80 rfl Try.ntmps80 rfl hs ?_
  clear hs
  refine Gm ?_
  refine Gb1 ?_
  refine rn1 ?_
  refine ob (q_nil Try.underlying67 (Fd h0)) ?_
  refine Gl ?_
  refine Bp (b := ?b1) ?e1 ?_ ?_; case e1 => exact rfl
  ·
   intro ht4
   refine JC.nilOf ht4 h0 (fun hx => ?_)
   refine Gm ?_
   refine Ga1 ?_
   exact Cb (.slice none 0 0) (hs := fun w hs => by rw [hx]; exact Al (hs.rowNil 82 Line))
  ·
   intro ht4
   refine Gm ?_
   refine liO ([] : List Line) P6 rfl (fun j h => Fw) ?_; intro v5
   refine rn1 ?_
   refine ap P6 (hb := fun w hs => by have := Bk h0 hs; have : maxN = 16777216 := rfl; simp; omega) (k := ?_); intro v7
   refine Ga1 ?_
   exact Cb v7
end Go.Proofs.Ytofgpimoekhfaaa

/- This file proves how copies of a home's lines lie in memory, and what small functions of the program's home compute. No conditions. -/
set_option linter.unusedVariables false
set_option linter.unusedSimpArgs false
set_option maxHeartbeats 1000000
set_option maxRecDepth 8000
namespace Go.Proofs.Ytofgpimoekhfaaa
open Go
def pr (p : Prop) : Fact := ⟨fun _ => p, fun _ _ _ h => h⟩
theorem St.pr {L : List Chunk} {R : List Fact} {w : World} {p : Prop} (h : p) (hs : St L R w) : St L (pr p :: R) w := by
  obtain ⟨m, j, hd, hm, hj, hst, hr⟩ := hs
  exact ⟨m, j, hd, hm, hj, hst, fun q hq => by
    rcases List.mem_cons.1 hq with e | e
    · rw [e]; exact h
    · exact hr q e⟩
theorem Qd {P : Program} {γ δ : Type} {f : FuncId} {args : Array Value} {w : World} {val : γ → Value} {val2 : δ → Value} {L : γ → List Chunk} {R : γ → List Fact} {L2 : δ → List Chunk} {R2 : δ → List Fact} (h : Calls P f args w (Ch val L R)) (hk : ∀ g w', St (L g) (R g) w' → ∃ d, val g = val2 d ∧ St (L2 d) (R2 d) w') : Calls P f args w (Ch val2 L2 R2) := by
 refine h.mono ?_
 rintro e w' ⟨g, rfl, hs'⟩
 obtain ⟨d, h1, h2⟩ := hk g w' hs'
 exact ⟨d, by rw [h1], h2⟩
end Go.Proofs.Ytofgpimoekhfaaa

/- This file proves what a keeper of the program's core says. No conditions. -/
set_option linter.unusedVariables false
set_option linter.unusedSimpArgs false
set_option maxHeartbeats 1000000
set_option maxRecDepth 8000
namespace Go.Proofs.Ytofgpimoekhfaaa
open Go
section
variable {P : Program} {n : Nat} {Q : Exit → Act → World → Prop} {Sh : Rho → (Nat → Bool) → List Chunk} {R0 : List Fact} {al0 : List (Nat × Value)}
variable {ops : Array Oper} {i : Nat} {rest : List Oper} {its : List Item} {d : Nat} {x y : Operand} {T ty : TypeId} {pos : String} {aft : Array Edge}
theorem W8 {γ : Type} [Gh γ] {val : γ → Value} {F : γ → List Fact} {C : γ → List Chunk} {f : FuncId} {args : List Operand} {ts : Array TypeId} {vs : Rho → List Value} (hf : ∀ args w, (callFunc f args).run P w = .ok (.enter f args) w)
  (ha : ∀ ρ, evL n (Dt its al0 ρ) args = some (vs ρ)) (hc : ∀ ρ L' R' w, Deps ops R0 its i ρ R' → St L' R' w → Calls P f (vs ρ).toArray w (Ch val (fun g => C g ++ L') (fun g => F g ++ R'))) (hSh : Ii ops Sh i)
  (k : DJ P n ops Q Sh R0 al0 (i + 1) rest (⟨i, some d, fun ρ => val (Gh.dec (ρ i)), fun ρ => F (Gh.dec (ρ i)), fun ρ => C (Gh.dec (ρ i))⟩ :: its)) :
  DJ P n ops Q Sh R0 al0 i (⟨some d, .call { callee := .value (.func f), args := args.toArray, argTypes := ts }, ty, pos, aft, none⟩ :: rest) its :=
 T9 (C := C) rfl rfl hSh (fun ρ S a L' R' w K h hK => by
  unfold Oper.wp
  rw [H5 hf rfl, Oper.upon_enter, List.map_toArray, F1 h.agree (fun x hx => by simp [Op.operands, Call.operands, hx]) (ha ρ)]
  refine (hc ρ _ _ w ⟨h.base, h.deps⟩ h.st).mono ?_
  rintro e w' ⟨g, rfl, hs'⟩
  exact hK g w' hs') k
end
theorem Fp {L : List Chunk} {R : List Fact} {w : World} {u : Value} {c : Core} (hs : St (L) R w) (hu : sl u c.lines ∈ R) : Calls Try.prog 43 [.agg (c.cells u).toArray].toArray w (Ch (fun v : Value => .agg (Core.cells v c).toArray) (fun v => row 82 v c.lines :: L) (fun v => R)) := by
 have hone0 : u.oneCell' = true := isSlice.one (hs.fact hu)
 refine Aj Try.func43 rfl Try.ntmps43 rfl hs ?_
 clear hs
 refine Gm ?_
 refine bx ?_; intro b1
 refine al_ (cs := [.slice none 0 0, vi 0, vi 0, vi 0]) Try.zeroValue69 ?_; intro b2
 refine Gl ?_
 refine cq_ (blk b2 69 [.slice none 0 0, vi 0, vi 0, vi 0] :: blk b1 69 (c.cells u) :: L) ?_
 refine jd_ (fun ρ S => blk b2 69 (bif S 6 then [(Gh.dec (γ := Value) (ρ 2)), vi c.wait.kind, vi c.wait.line, vi c.wait.value] else [.slice none 0 0, vi 0, vi 0, vi 0]) :: blk b1 69 (c.cells u) :: L) ?_
 refine dn2 ?_
 refine W8 (γ := Value) (val := fun v => v) (F := fun v => [pr (v.oneCell' = true)]) (C := fun v => [row 82 v c.lines]) Try.call80 (fun _ => rfl) (fun ρ L R w hd hs => Qd (Qc (xs := c.lines) hs (hd.base mm)) (fun v w hs => ⟨v, rfl, St.pr (De .hd hs) hs⟩)) (fun ρ g S hS hA => by have u6 : upS S 2 6 = S 6 := rfl; have h6 : S 6 = false := hA 6 ⟨0, rfl⟩; simp only [u6, h6, cond_false]) ?_
 refine dn2 ?_
 refine e_pd (v := fun ρ => .agg ([(Gh.dec (γ := Value) (ρ 2)), vi c.wait.kind, vi c.wait.line, vi c.wait.value]).toArray) (fun ρ S R' L' w hd hs => by have h1 : ((Gh.dec (γ := Value) (ρ 2))).oneCell' = true := hs.fact (hd.dep (it := ⟨2, _, _, _, _⟩) (by repeat (first | exact List.Mem.head _ | refine List.Mem.tail _ ?_)) ⟨9, rfl⟩ (List.Mem.head _)); exact F5 F4) (Ind.gh (h := fun g => Value.agg ([(Gh.dec (γ := Value) g), vi c.wait.kind, vi c.wait.line, vi c.wait.value]).toArray) 2 3 rfl) (fun _ _ _ _ _ => rfl) ?_
 refine es_ 69 0 [] [] (fun ρ => b2) (fun ρ => [.slice none 0 0, vi 0, vi 0, vi 0]) (fun ρ => [(Gh.dec (γ := Value) (ρ 2)), vi c.wait.kind, vi c.wait.line, vi c.wait.value]) Try.sizeOf69 (h1 := (fun ρ R w L' hd hs => A6 (hs.fact (hd.dep (it := ⟨2, _, _, _, _⟩) (by repeat (first | exact List.Mem.head _ | refine List.Mem.tail _ ?_)) ⟨9, rfl⟩ (List.Mem.head _)) : ((Gh.dec (γ := Value) (ρ 2))).oneCell' = true) (by repeat (first | exact C3 | refine A6 rfl ?_)))) ?_
 refine dnl ?_; intro ρ
 refine JX.conseq (L' := row 82 (Gh.dec (γ := Value) (ρ 2)) c.lines :: blk b2 69 [(Gh.dec (γ := Value) (ρ 2)), vi c.wait.kind, vi c.wait.line, vi c.wait.value] :: blk b1 69 (c.cells u) :: L) (fun w hs => Al hs) ?_
 generalize (Gh.dec (γ := Value) (ρ 2)) = v5
 refine Gl ?_
 exact Ml v5 Try.isAgg69 Try.sizeOf69
theorem Pc {L : List Chunk} {R : List Fact} {w : World} {u : Value} {c : Core} (hs : St (L) R w) (hu : sl u c.lines ∈ R) : Calls Try.prog 43 [Value.agg (c.cells u).toArray].toArray w (Ch (fun v : Value => .agg (Core.cells v c).toArray) (fun _ => L) (fun v => sl v c.lines :: R)) := frz (Fp hs hu)
theorem Ef {LX : List Chunk} {R : List Fact} {w : World} {vL vo vd : Value} {bk : Nat} {q : Op} {id home : Int} {ms : List Msg} {kind line serial turn value : Int} (hs : St (blk bk 115 [vL, vi q.kind, vi q.line, vi q.value, vi id, vi home, vo, vd] :: row 42 vo ms :: LX) R w) (hn : ms.length ≤ 1000) (hwf : (⟨kind, id, home, line, serial, turn, value, false⟩ : Msg).wf) : Calls Try.prog 82 [bp bk 0, vi kind, vi line, vi serial, vi turn, vi value].toArray w (Ch (fun v : Value => .tuple #[]) (fun v => blk bk 115 [vL, vi q.kind, vi q.line, vi q.value, vi id, vi home, v, vd] :: row 42 v (ms ++ [(⟨kind, id, home, line, serial, turn, value, false⟩ : Msg)]) :: LX) (fun v => R)) := by
  refine Aj Try.func82 rfl Try.ntmps82 rfl hs ?_
  clear hs
  refine cq_ (blk bk 115 [vL, vi q.kind, vi q.line, vi q.value, vi id, vi home, vo, vd] :: row 42 vo ms :: LX) ?_
  refine jd_ (fun ρ S => blk bk 115 (bif S 23 then [vL, vi q.kind, vi q.line, vi q.value, vi id, vi home, (Gh.dec (γ := Value) (ρ 20)), vd] else [vL, vi q.kind, vi q.line, vi q.value, vi id, vi home, vo, vd]) :: (bif S 20 then row 42 (Gh.dec (γ := Value) (ρ 20)) (ms ++ [(⟨kind, id, home, line, serial, turn, value, false⟩ : Msg)]) else row 42 vo ms) :: (LX)) ?_
  refine dn4 ?_
  refine Ko (v := vo) (fun ρ S hS hB hA => by have h23 : S 23 = false := hA 23 ⟨0, rfl⟩; simp only [h23, cond_false]; exact Dn (hc := A2 pkk (by repeat (first | exact rfl | refine Eh rfl ?_))) Try.isAgg50) (fun _ _ _ _ _ => rfl) ?_
  refine dn4 ?_
  refine Ko (v := vi id) (fun ρ S hS hB hA => by have h23 : S 23 = false := hA 23 ⟨0, rfl⟩; simp only [h23, cond_false]; exact Dn (hc := A2 pkk (by repeat (first | exact rfl | refine Eh rfl ?_))) Try.isAgg3) (fun _ _ _ _ _ => rfl) ?_
  refine dn3 ?_
  refine Ko (v := vi home) (fun ρ S hS hB hA => by have h23 : S 23 = false := hA 23 ⟨0, rfl⟩; simp only [h23, cond_false]; exact Dn (hc := A2 pkk (by repeat (first | exact rfl | refine Eh rfl ?_))) Try.isAgg3) (fun _ _ _ _ _ => rfl) ?_
  refine dn4 ?_
  first | refine epc (fun _ _ => E2 Hs) ?_ | refine epc (fun _ _ => F5 Hs) ?_ | refine epp (fun _ _ => E2 Hs) ?_ | refine epp (fun _ _ => F5 Hs) ?_
  refine E7 ([(⟨kind, id, home, line, serial, turn, value, false⟩ : Msg)] : List Msg) Ga rfl (fun _ => rfl) rfl (fun _ => rfl) rfl rfl (fun ρ R hd => Io hwf) (fun _ _ _ _ _ => rfl) ?_
  refine G9 (e := 42) (xs := ms) (ys := [(⟨kind, id, home, line, serial, turn, value, false⟩ : Msg)]) (v := vo) Ga (fun _ => rfl) (fun _ => rfl) rfl (by decide) (fun ρ R hd => (hd.dep (it := ⟨19, _, _, _, _⟩) (by repeat (first | exact List.Mem.head _ | refine List.Mem.tail _ ?_)) ⟨9, rfl⟩ (List.Mem.head _))) (by have : maxN = 16777216 := rfl; simp only [List.length_cons, List.length_nil]; omega) (fun ρ g S hS hB hA => ?_) ?_
  ·
   have ui : upS S 20 20 = true := rfl; have u23 : upS S 20 23 = S 23 := rfl; have h23 : S 23 = false := hA 23 ⟨0, rfl⟩; have rs : (Gh.dec (γ := Value) (Rho.set ρ 20 (Gh.enc g) 20)) = g := rfl
   simp only [ui, hS, u23, h23, rs, cond_true, cond_false]
   exact Pos.ex (by repeat (first | exact .hd | exact .hc | apply Pos.tl | apply Pos.ap))
  refine dn2 ?_
  refine Fm (T0 := 115) (f := 6) (vs := fun ρ => [vL, vi q.kind, vi q.line, vi q.value, vi id, vi home, vo, vd]) (v := fun ρ => (Gh.dec (γ := Value) (ρ 20))) (fun ρ => bk) Try.sizeOf50 (fun _ => rfl) (fun _ => rfl) (fun ρ S R w L9 hB hd hs => by have h20 : S 20 = true := hB 20 ⟨9, rfl⟩; simp only [h20, cond_true] at hs; exact De pkk hs) (fun _ => rfl) (fun ρ g S hS hB hA => ?_) ?_
  ·
   have ui : upS S 23 23 = true := rfl; have u20 : upS S 23 20 = S 20 := rfl; have r20 : Rho.set ρ 23 g 20 = ρ 20 := rfl
   simp only [ui, hS, u20, r20, cond_true, cond_false]
   exact Pos.ex (by repeat (first | exact .hd | exact .hc | apply Pos.tl | apply Pos.ap))
  refine dnl ?_; intro ρ
  refine xq_ (blk bk 115 [vL, vi q.kind, vi q.line, vi q.value, vi id, vi home, (Gh.dec (γ := Value) (ρ 20)), vd] :: row 42 (Gh.dec (γ := Value) (ρ 20)) (ms ++ [(⟨kind, id, home, line, serial, turn, value, false⟩ : Msg)]) :: (LX)) ?_
  generalize (Gh.dec (γ := Value) (ρ 19)) = v31
  generalize (Gh.dec (γ := Value) (ρ 20)) = v32
  refine Co (.inl rfl) (fun B w hs => Nx rfl _ w) (fun w hs => ⟨v32, rfl, Al hs⟩)
end Go.Proofs.Ytofgpimoekhfaaa

/- This file proves what a keeper of the program's core asks, and how it finishes an operation. No conditions. -/
set_option linter.unusedVariables false
set_option linter.unusedSimpArgs false
set_option maxHeartbeats 1000000
set_option maxRecDepth 8000
namespace Go.Proofs.Ytofgpimoekhfaaa
open Go
theorem C2 {L : List Chunk} {R : List Fact} {w : World} {v : Value} {ls : List Line} {i : Nat} (e : Line) (he : e.wf) (hs : St (foc 82 v ls i e.cells :: L) R w) : St (row 82 v (ls.set i e) :: L) R w := hs.unfocus (fun j _ => ⟨rfl, he⟩)
theorem Ra {L : List Chunk} {R : List Fact} {w : World} {v : Value} {ls : List Line} {i : Nat} (he : (ls.getD i zLine).wf) (hs : St (foc 82 v ls i (ls.getD i zLine).cells :: L) R w) : St (row 82 v ls :: L) R w := by
 have h := C2 _ he hs
 rwa [Je] at h
theorem Dh {L : List Chunk} {R : List Fact} {w : World} {v : Value} {ls : List Line} {i : Nat} {l : Line} (hl : ls.getD i zLine = l) (he : l.wf) (hs : St (foc 82 v ls i [vi l.state, vi l.value, vi l.want, vi l.serial, vi l.seen, vi l.gave, vi l.given] :: L) R w) : St (row 82 v ls :: L) R w := by
 subst hl
 exact Ra he hs
theorem F7 {P : Program} {n : Nat} {Q : Exit → Act → World → Prop} {L L' : List Chunk} {R : List Fact} {al : List (Nat × Value)} {cd : Code} {vL : Value} {ls : List Line} {l : Line} {i : Int} (hp : Pick L (row 82 vL ls) L') (hl : ls.getD i.toNat zLine = l) (h0 : 0 ≤ i) (hi : i < (ls.length : Int)) (k : l.wf → EpAll vL 7 i.toNat → JC P n cd Q (foc 82 vL ls i.toNat [vi l.state, vi l.value, vi l.want, vi l.serial, vi l.seen, vi l.gave, vi l.given] :: L') R al) : JC P n cd Q L R al := by
 subst hl
 refine JC.focus0 (xs := ls) i.toNat hp (by omega) (fun hw => ?_)
 refine JC.know (p := EpAll vL 7 i.toNat) (fun w hs => ok_f (α := Line) (xs := ls) .hd w hs) (fun hA => ?_)
 exact k hw hA
theorem Nk {LX : List Chunk} {R : List Fact} {w : World} {vL vo vd : Value} {bk : Nat} {q : Op} {id home : Int} {ls : List Line} {l : Line} {ms : List Msg} {line : Int} (hs : St (blk bk 115 [vL, vi q.kind, vi q.line, vi q.value, vi id, vi home, vo, vd] :: row 82 vL ls :: row 42 vo ms :: LX) R w) (hl : ls.getD line.toNat zLine = l) (hi : 0 ≤ line ∧ line < (ls.length : Int)) (hll : ls.length ≤ 100) (hn : ms.length ≤ 1000) (hid : Am id) (hhome : Am home) : Calls Try.prog 81 [bp bk 0, vi line].toArray w (Ch (fun v : Value => .tuple #[]) (fun v => blk bk 115 [vL, vi q.kind, vi q.line, vi q.value, vi id, vi home, v, vd] :: row 82 vL ls :: row 42 v (ms ++ [(Bl l id home line)]) :: LX) (fun v => R)) := by
  have hid0 := hid
  have hhome0 := hhome
  unfold Am at hid0 hhome0
  refine Aj Try.func81 rfl Try.ntmps81 rfl hs ?_
  clear hs
  refine Gl ?_
  refine F7 (ls := ls) (l := l) (i := line) pkk hl (by omega) (by omega) (fun hlw hA => ?_)
  have hlw0 := hlw
  unfold Line.wf Am at hlw0
  have honeL : (ep vL 7 line.toNat 0).oneCell' = true := hA.one
  refine Aa ?_
  refine rn6 ?_
  refine ob (J1 (v := vL) (i := line) Ja (hl := E4 (α := Line) (xs := ls) pkk)) ?_
  refine Gb1 ?_
  refine Gb1 ?_
  refine Ga5 ?_
  refine cdx (p := ?p1) (hd := ?d1) ?e1 ?_ ?_; case e1 => exact rfl
  ·
   intro ht17
   refine Aa ?_
   refine Ga5 ?_
   refine Dv ?_
   refine dn11 ?_
   refine dtl ?_; intro ρ
   have er : (Bl l id home line) = ⟨l.want, id, home, line, l.serial, 0, l.value, false⟩ := by unfold Bl; rw [if_pos ht17]
   refine Aq Try.call82 rfl (fun w hs => Ef (vL := vL) (vd := vd) (q := q) (id := id) (home := home) (ms := ms) (kind := l.want) (line := line) (serial := l.serial) (turn := 0) (value := l.value) (LX := foc 82 vL ls line.toNat [vi l.state, vi l.value, vi l.want, vi l.serial, vi l.seen, vi l.gave, vi l.given] :: LX) (Al hs) hn (by unfold Msg.wf Am; simp only; omega)) ?_; intro v33
   refine Gl ?_
   rw [er]
   refine Co (.inl rfl) (fun B w hs => Nx rfl _ w) (fun w hs => ⟨v33, rfl, Al (Dh hl hlw (hs.pick pkk))⟩)
  ·
   intro ht17
   refine Gl ?_
   refine Dv ?_
   refine dn11 ?_
   refine dtl ?_; intro ρ
   have er : (Bl l id home line) = ⟨l.want, id, home, line, l.serial, 0, 0, false⟩ := by unfold Bl; rw [if_neg ht17]
   refine Aq Try.call82 rfl (fun w hs => Ef (vL := vL) (vd := vd) (q := q) (id := id) (home := home) (ms := ms) (kind := l.want) (line := line) (serial := l.serial) (turn := 0) (value := 0) (LX := foc 82 vL ls line.toNat [vi l.state, vi l.value, vi l.want, vi l.serial, vi l.seen, vi l.gave, vi l.given] :: LX) (Al hs) hn (by unfold Msg.wf Am; simp only; omega)) ?_; intro v33
   refine Gl ?_
   rw [er]
   refine Co (.inl rfl) (fun B w hs => Nx rfl _ w) (fun w hs => ⟨v33, rfl, Al (Dh hl hlw (hs.pick pkk))⟩)
theorem Ol {LX : List Chunk} {R : List Fact} {w : World} {vL vo vd : Value} {bk : Nat} {q : Op} {id home : Int} {ls : List Line} {l : Line} {q0 : Op} {ms : List Msg} {want : Int} (hs : St (blk bk 115 [vL, vi q0.kind, vi q0.line, vi q0.value, vi id, vi home, vo, vd] :: row 82 vL ls :: row 42 vo ms :: LX) R w) (hl : ls.getD q.line.toNat zLine = l) (hi : 0 ≤ q.line ∧ q.line < (ls.length : Int)) (hll : ls.length ≤ 100) (hid : Am id) (hhome : Am home) (hn : ms.length ≤ 1000) (hser : l.serial < 65535) (hw : Am want) : Calls Try.prog 75 [bp bk 0, .agg q.cells.toArray, vi want].toArray w (Ch (fun v : Value => .tuple #[]) (fun v => blk bk 115 [vL, vi q.kind, vi q.line, vi q.value, vi id, vi home, v, vd] :: row 82 vL (ls.set q.line.toNat ({ l with want := want, serial := l.serial + 1 })) :: row 42 v (ms ++ [Bl ({ l with want := want, serial := l.serial + 1 }) id home q.line]) :: LX) (fun v => R)) := by
 have hid0 := hid
 have hhome0 := hhome
 unfold Am at hid0 hhome0
 have hw0 := hw
 unfold Am at hw0
 refine Aj Try.func75 rfl Try.ntmps75 rfl hs ?_
 clear hs
 refine Gm ?_
 refine bx ?_; intro b4
 refine Gl ?_
 refine F7 (ls := ls) (l := l) (i := q.line) pkk hl (by omega) (by omega) (fun hlw hA => ?_)
 have hlw0 := hlw
 unfold Line.wf Am at hlw0
 have honeL : (ep vL 7 q.line.toNat 0).oneCell' = true := hA.one
 refine Dv ?_
 refine dn7 ?_
 refine dj ?_
 refine dc (fun _ _ => J1 (v := vL) (i := q.line) Ja (hl := E4 (α := Line) (xs := ls) pkk)) ?_
 refine djc (fun _ _ => Db) ?_
 refine dnl ?_; intro ρ
 refine Gm ?_
 refine rn4 ?_
 refine sc ?_
 refine Gm ?_
 refine rn7 ?_
 refine sc ?_
 refine Gm ?_
 refine rn5 ?_
 refine s_N [vL, vi q.kind, vi q.line, vi q.value, vi id, vi home, vo, vd] Try.sizeOf66 ?_
 refine Gl ?_
 refine JC.conseq (L' := row 82 vL (ls.set q.line.toNat ({ l with want := want, serial := l.serial + 1 })) :: blk bk 115 [vL, vi q.kind, vi q.line, vi q.value, vi id, vi home, vo, vd] :: row 42 vo ms :: blk b4 66 q.cells :: LX) (fun w hs => Al (C2 ({ l with want := want, serial := l.serial + 1 }) (by unfold Line.wf Am; simp only; omega) (hs.pick pkk))) ?_
 refine Aa ?_
 refine rn3 ?_
 refine Aq Try.call81 rfl (fun w hs => Nk (vL := vL) (vd := vd) (q := q) (id := id) (home := home) (ms := ms) (line := q.line) (ls := (ls.set q.line.toNat ({ l with want := want, serial := l.serial + 1 }))) (l := { l with want := want, serial := l.serial + 1 }) (LX := LX) (Al hs) (by rw [List.getD_eq_getElem?_getD, List.getElem?_set_self (by omega)]; rfl) (by rw [List.length_set]; exact hi) (by rw [List.length_set]; exact hll) hn hid hhome) ?_; intro v34
 refine Gl ?_
 refine Co (.inl rfl) (fun B w hs => Nx rfl _ w) (fun w hs => ⟨v34, rfl, Al hs⟩)
theorem Iw {LX : List Chunk} {R : List Fact} {w : World} {vL vo vd : Value} {bk : Nat} {q : Op} {id home : Int} {ls : List Line} {l : Line} {q0 : Op} {ds : List Done} (hs : St (blk bk 115 [vL, vi q0.kind, vi q0.line, vi q0.value, vi id, vi home, vo, vd] :: row 82 vL ls :: row 84 vd ds :: LX) R w) (hl : ls.getD q.line.toNat zLine = l) (hi : 0 ≤ q.line ∧ q.line < (ls.length : Int)) (hll : ls.length ≤ 100) (hid : Am id) (hhome : Am home) (hn : ds.length ≤ 1000) (hq : q.wf) (hk : 1 ≤ q.kind ∧ q.kind ≤ 4) (hval : 0 ≤ q.value ∧ q.value ≤ 255) : Calls Try.prog 76 [bp bk 0, .agg q.cells.toArray].toArray w (Ch (fun v : Value => .tuple #[]) (fun v => blk bk 115 [vL, vi 0, vi 0, vi 0, vi id, vi home, vo, v] :: row 82 vL (ls.set q.line.toNat ({ l with value := (Au l.value q).1 })) :: row 84 v (ds ++ [(⟨id, q, (Au l.value q).2⟩ : Done)]) :: LX) (fun v => R)) := by
  have hid0 := hid
  have hhome0 := hhome
  unfold Am at hid0 hhome0
  refine Aj Try.func76 rfl Try.ntmps76 rfl hs ?_
  clear hs
  refine Gm ?_
  refine bx ?_; intro b3
  refine Gl ?_
  refine F7 (ls := ls) (l := l) (i := q.line) pkk hl (by omega) (by omega) (fun hlw hA => ?_)
  have hlw0 := hlw
  unfold Line.wf Am at hlw0
  have honeL : (ep vL 7 q.line.toNat 0).oneCell' = true := hA.one
  refine Dv ?_
  refine dn7 ?_
  refine dj ?_
  refine dc (fun _ _ => J1 (v := vL) (i := q.line) Ja (hl := E4 (α := Line) (xs := ls) pkk)) ?_
  refine djc (fun _ _ => Db) ?_
  refine dnl ?_; intro ρ
  refine Gm ?_
  refine rn3 ?_
  refine Aq Try.call100 rfl (fun w hs => W0 (a := q.line + 1) hs (by omega) (by omega)) ?_; intro v19
  refine Ga1 ?_
  refine Dv ?_
  refine dn7 ?_
  refine djc (fun _ _ => J1 Qt (h1 := by rw [List.length_replicate]; omega)) ?_
  refine dtl ?_; intro ρ
  refine El (xs := List.replicate (q.line + 1).toNat 0) Try.sizeOf3 rfl rfl pkk (getD_some 0 (by rw [List.length_replicate]; omega)) (by unfold Am; omega) ?_
  refine Gl ?_
  refine JC.shut (xs := (Hm l.value q)) (v := v19) pkk ?_
  have hml := Jr (v := l.value) hi.1
  refine Aa ?_
  refine rn2 ?_
  refine Aq Try.call101 rfl (fun w hs => by have h := W1 (o := q) hs (List.Mem.head _); rw [Us hk hi.1 hval] at h; exact h) ?_; intro v31
  refine Ga7 ?_
  refine JC.open0 (xs := (dX (Hm l.value q) q)) (v := v31) q.line.toNat mm (by unfold dX; rw [List.length_set, hml]; omega) (fun hw => ?_)
  have e9 : (dX (Hm l.value q) q).getD q.line.toNat 0 = (Au l.value q).1 := by rw [dX_at (by rw [hml]; omega), Jd hi.1]
  refine kp [0, 3, 4, 5, 6, 35, 36, 37, 38, 39, 40, 41, 42] ?_
  refine Aa ?_
  refine rn4 ?_
  refine ob (J1 Qt (len := (dX (Hm l.value q) q).length) (hl := Fd (.tail _ (.head _))) (h1 := by unfold dX; rw [List.length_set, hml]; omega)) ?_
  refine rn3 ?_
  refine sc ?_
  refine Gl ?_
  have hvb := Ln (o := q) hlw.2.1 hval.1 hval.2
  have hvb2 := J5 (o := q) hlw.2.1
  unfold Am at hvb hvb2
  have e9 : (dX (Hm l.value q) q).getD q.line.toNat El0.df = (Au l.value q).1 := e9
  rw [e9]
  refine cq_ (blk bk 115 [vL, vi q0.kind, vi q0.line, vi q0.value, vi id, vi home, vo, vd] :: row 84 vd ds :: foc 82 vL ls q.line.toNat [vi l.state, vi (Au l.value q).1, vi l.want, vi l.serial, vi l.seen, vi l.gave, vi l.given] :: blk b3 66 q.cells :: LX) ?_
  refine jd_ (fun ρ S => blk bk 115 (bif S 16 then [vL, vi q0.kind, vi q0.line, vi q0.value, vi id, vi home, vo, (Gh.dec (γ := Value) (ρ 13))] else [vL, vi q0.kind, vi q0.line, vi q0.value, vi id, vi home, vo, vd]) :: (bif S 13 then row 84 (Gh.dec (γ := Value) (ρ 13)) (ds ++ [(⟨id, q, (Au l.value q).2⟩ : Done)]) else row 84 vd ds) :: foc 82 vL ls q.line.toNat [vi l.state, vi (Au l.value q).1, vi l.want, vi l.serial, vi l.seen, vi l.gave, vi l.given] :: blk b3 66 q.cells :: (LX)) ?_
  refine dn4 ?_
  refine Ko (v := vd) (fun ρ S hS hB hA => by have h16 : S 16 = false := hA 16 ⟨0, rfl⟩; simp only [h16, cond_false]; exact Dn (hc := A2 pkk (by repeat (first | exact rfl | refine Eh rfl ?_))) Try.isAgg47) (fun _ _ _ _ _ => rfl) ?_
  refine dn3 ?_
  refine Ko (v := vi id) (fun ρ S hS hB hA => by have h16 : S 16 = false := hA 16 ⟨0, rfl⟩; simp only [h16, cond_false]; exact Dn (hc := A2 pkk (by repeat (first | exact rfl | refine Eh rfl ?_))) Try.isAgg3) (fun _ _ _ _ _ => rfl) ?_
  refine dn2 ?_
  first | refine epc (fun _ _ => E2 Gj) ?_ | refine epc (fun _ _ => F5 Gj) ?_ | refine epp (fun _ _ => E2 Gj) ?_ | refine epp (fun _ _ => F5 Gj) ?_
  refine E7 ([(⟨id, q, (Au l.value q).2⟩ : Done)] : List Done) Fj rfl (fun _ => rfl) rfl (fun _ => rfl) rfl rfl (fun ρ R hd => E5 ⟨hid, hq.1, hq.2.1, hq.2.2, by unfold Am; simp only; omega⟩) (fun _ _ _ _ _ => rfl) ?_
  refine G9 (e := 84) (xs := ds) (ys := [(⟨id, q, (Au l.value q).2⟩ : Done)]) (v := vd) Fj (fun _ => rfl) (fun _ => rfl) rfl (by decide) (fun ρ R hd => (hd.dep (it := ⟨12, _, _, _, _⟩) (by repeat (first | exact List.Mem.head _ | refine List.Mem.tail _ ?_)) ⟨9, rfl⟩ (List.Mem.head _))) (by have : maxN = 16777216 := rfl; simp only [List.length_cons, List.length_nil]; omega) (fun ρ g S hS hB hA => ?_) ?_
  ·
   have ui : upS S 13 13 = true := rfl; have u16 : upS S 13 16 = S 16 := rfl; have h16 : S 16 = false := hA 16 ⟨0, rfl⟩; have rs : (Gh.dec (γ := Value) (Rho.set ρ 13 (Gh.enc g) 13)) = g := rfl
   simp only [ui, hS, u16, h16, rs, cond_true, cond_false]
   exact Pos.ex (by repeat (first | exact .hd | exact .hc | apply Pos.tl | apply Pos.ap))
  refine dn2 ?_
  refine Fm (T0 := 115) (f := 7) (vs := fun ρ => [vL, vi q0.kind, vi q0.line, vi q0.value, vi id, vi home, vo, vd]) (v := fun ρ => (Gh.dec (γ := Value) (ρ 13))) (fun ρ => bk) Try.sizeOf47 (fun _ => rfl) (fun _ => rfl) (fun ρ S R w L9 hB hd hs => by have h13 : S 13 = true := hB 13 ⟨9, rfl⟩; simp only [h13, cond_true] at hs; exact De pkk hs) (fun _ => rfl) (fun ρ g S hS hB hA => ?_) ?_
  ·
   have ui : upS S 16 16 = true := rfl; have u13 : upS S 16 13 = S 13 := rfl; have r13 : Rho.set ρ 16 g 13 = ρ 13 := rfl
   simp only [ui, hS, u13, r13, cond_true, cond_false]
   exact Pos.ex (by repeat (first | exact .hd | exact .hc | apply Pos.tl | apply Pos.ap))
  refine dnl ?_; intro ρ
  refine xq_ (blk bk 115 [vL, vi q0.kind, vi q0.line, vi q0.value, vi id, vi home, vo, (Gh.dec (γ := Value) (ρ 13))] :: row 84 (Gh.dec (γ := Value) (ρ 13)) (ds ++ [(⟨id, q, (Au l.value q).2⟩ : Done)]) :: foc 82 vL ls q.line.toNat [vi l.state, vi (Au l.value q).1, vi l.want, vi l.serial, vi l.seen, vi l.gave, vi l.given] :: blk b3 66 q.cells :: (LX)) ?_
  generalize (Gh.dec (γ := Value) (ρ 12)) = v55
  generalize (Gh.dec (γ := Value) (ρ 13)) = v56
  refine Gm ?_
  refine rn1 ?_
  refine ob (E2 (cs := zOp.cells) Kl) ?_
  refine rn3 ?_
  refine s_N [vL, vi 0, vi 0, vi 0, vi id, vi home, vo, v56] Try.sizeOf66 ?_
  refine Gl ?_
  refine Co (.inl rfl) (fun B w hs => Nx rfl _ w) (fun w hs => ⟨v56, rfl, Al (C2 ({ l with value := (Au l.value q).1 }) (by unfold Line.wf Am; simp only; omega) (hs.pick pkk))⟩)
end Go.Proofs.Ytofgpimoekhfaaa

/- This file proves what a keeper of the program's core gives, and takes. No conditions. -/
set_option linter.unusedVariables false
set_option linter.unusedSimpArgs false
set_option maxHeartbeats 1000000
set_option maxRecDepth 8000
namespace Go.Proofs.Ytofgpimoekhfaaa
open Go
section
variable {ls : List Line} {q : Op} {id home : Int} {m : Msg} {l : Line}
theorem G8 (hl : ls.getD m.line.toNat zLine = l) (hi : 0 ≤ m.line ∧ m.line < (ls.length : Int)) (hk : m.kind = 5 ∨ m.kind = 6) : Ad ⟨ls, q⟩ id home m = (if Cq l m.turn then (⟨ls.set m.line.toNat (Bq l m.kind m.turn), if l.want = 3 then zOp else q⟩, [A5 9 id home m.line m.turn l.value], if l.want = 3 then [⟨id, q, 0⟩] else []) else if m.turn = l.gave ∧ 0 < m.turn then (⟨ls, q⟩, [A5 9 id home m.line l.gave l.given], []) else (⟨ls, q⟩, [], [])) := by
 subst hl
 unfold Ad
 rw [if_neg (by simp only; omega), if_neg (by omega), if_pos hk]; rfl
theorem H3 (hl : ls.getD m.line.toNat zLine = l) (hi : 0 ≤ m.line ∧ m.line < (ls.length : Int)) (hk : m.kind = 7) : Ad ⟨ls, q⟩ id home m = (if l.serial < m.serial then (⟨ls, q⟩, [], []) else if Er l m then (⟨ls.set m.line.toNat (Ed l m q), zOp⟩, [A5 10 id home m.line m.turn 0], [⟨id, q, (Au m.value q).2⟩]) else (⟨ls, q⟩, [A5 10 id home m.line m.turn 0], [])) := by
 subst hl
 unfold Ad
 rw [if_neg (by simp only; omega), if_neg (by omega), if_neg (by omega), if_pos hk]; rfl
end
theorem Nj {LX : List Chunk} {R : List Fact} {w : World} {vL vo vd : Value} {bk : Nat} {q : Op} {id home : Int} {ls : List Line} {l : Line} {bm : Nat} {ms : List Msg} {ds : List Done} {m : Msg} (hs : St (blk bk 115 [vL, vi q.kind, vi q.line, vi q.value, vi id, vi home, vo, vd] :: row 82 vL ls :: row 42 vo ms :: row 84 vd ds :: blk bm 42 m.cells :: LX) R w) (hl : ls.getD m.line.toNat zLine = l) (hi : 0 ≤ m.line ∧ m.line < (ls.length : Int)) (hll : ls.length ≤ 100) (hm : m.wf) (hid : Am id) (hhome : Am home) (hn : ms.length ≤ 1000) (hnd : ds.length ≤ 1000) (hq : q.wf) (hk : m.kind = 5 ∨ m.kind = 6) : Calls Try.prog 83 [bp bk 0, bp bm 0].toArray w (Ch (fun g : Value × Value => .tuple #[]) (fun g => blk bk 115 [vL, vi (Ad ⟨ls, q⟩ id home m).1.wait.kind, vi (Ad ⟨ls, q⟩ id home m).1.wait.line, vi (Ad ⟨ls, q⟩ id home m).1.wait.value, vi id, vi home, g.1, g.2] :: row 82 vL (Ad ⟨ls, q⟩ id home m).1.lines :: row 42 g.1 (ms ++ (Ad ⟨ls, q⟩ id home m).2.1) :: row 84 g.2 (ds ++ (Ad ⟨ls, q⟩ id home m).2.2) :: blk bm 42 m.cells :: LX) (fun g => R)) := by
  have hm0 := hm
  unfold Msg.wf Am at hm0
  have hid0 := hid
  have hhome0 := hhome
  unfold Am at hid0 hhome0
  refine Aj Try.func83 rfl Try.ntmps83 rfl hs ?_
  clear hs
  refine Gl ?_
  refine F7 (ls := ls) (l := l) (i := m.line) pkk hl (by omega) (by omega) (fun hlw hA => ?_)
  have hlw0 := hlw
  unfold Line.wf Am at hlw0
  have honeL : (ep vL 7 m.line.toNat 0).oneCell' = true := hA.one
  refine Dv ?_
  refine dn9 ?_
  refine dj ?_
  refine dc (fun _ _ => J1 (v := vL) (i := m.line) Ja (hl := E4 (α := Line) (xs := ls) pkk)) ?_
  refine djc (fun _ _ => Db) ?_
  refine dnl ?_; intro ρ
  refine Gl ?_
  refine kp [0, 1, 4, 15, 16, 17, 18, 19, 20, 21, 22, 23, 24, 25, 26, 27, 28, 29, 30, 31] ?_
  refine Di 15 (.bool (decide ((m.turn = l.gave) ∧ (0 < m.turn)))) ?_ ?_
  ·
   rcases (show (¬ (m.turn = l.gave)) ∨ ((m.turn = l.gave) ∧ ¬ (0 < m.turn)) ∨ ((m.turn = l.gave) ∧ (0 < m.turn)) from by omega) with hm | hm | hm
   ·
    refine Dv ?_
    refine dn8 ?_
    refine djc (fun _ _ => Af rfl rfl (Ak (by omega))) ?_
    refine djc (fun _ _ => Cx) ?_
    refine dn5 ?_
    refine djc (fun _ _ => Em) ?_
    refine djc (fun _ _ => Db) ?_
    refine dnl ?_; intro ρ
    refine Aw ?_ (fun w hs => hs)
    refine ⟨by first | exact congrArg (fun b => some (Value.bool b)) (decide_eq_false (by omega)).symm | exact congrArg (fun b => some (Value.bool b)) (by simp; omega), alT⟩
   ·
    refine Dv ?_
    refine dn8 ?_
    refine djc (fun _ _ => Af rfl rfl (As (by omega))) ?_
    refine djc (fun _ _ => Cx) ?_
    refine dn4 ?_
    refine dj (dgy ?_)
    refine dc (fun _ _ => Af rfl rfl (Cp (by omega))) ?_
    refine djc (fun _ _ => Gg) ?_
    refine djc (fun _ _ => Db) ?_
    refine dnl ?_; intro ρ
    refine Aw ?_ (fun w hs => hs)
    refine ⟨by first | exact congrArg (fun b => some (Value.bool b)) (decide_eq_false (by omega)).symm | exact congrArg (fun b => some (Value.bool b)) (by simp; omega), alT⟩
   ·
    refine kp [0, 1, 4, 15, 16, 17, 18, 19, 20, 21, 22, 23, 24, 25, 26, 27, 28, 29, 30, 31] ?_
    refine Dv ?_
    refine dn8 ?_
    refine djc (fun _ _ => Af rfl rfl (As (by omega))) ?_
    refine djc (fun _ _ => Cx) ?_
    refine dn4 ?_
    refine dj (dgy ?_)
    refine dc (fun _ _ => Af rfl rfl (C0 (by omega))) ?_
    refine djc (fun _ _ => Gg) ?_
    refine djc (fun _ _ => Db) ?_
    refine dnl ?_; intro ρ
    refine Aw ?_ (fun w hs => hs)
    refine ⟨by first | exact congrArg (fun b => some (Value.bool b)) (decide_eq_true (by omega)).symm | exact congrArg (fun b => some (Value.bool b)) (by simp; omega), alT⟩
  ·
   refine A3 ?_
   first | (refine cdx (p := ?p1) (hd := ?d1) ?e1 ?_ ?_; case e1 => exact rfl) | (refine Bp (b := ?b1) ?e1 ?_ ?_; case e1 => exact rfl)
   ·
    intro ht15
    refine Gl ?_
    refine Dv ?_
    refine dn13 ?_
    refine dtl ?_; intro ρ
    refine Aq Try.call82 rfl (fun w hs => Ef (vL := vL) (vd := vd) (q := q) (id := id) (home := home) (ms := ms) (kind := 9) (line := m.line) (serial := 0) (turn := l.gave) (value := l.given) (LX := foc 82 vL ls m.line.toNat [vi l.state, vi l.value, vi l.want, vi l.serial, vi l.seen, vi l.gave, vi l.given] :: row 84 vd ds :: blk bm 42 m.cells :: LX) (Al hs) hn (by unfold Msg.wf Am; simp only; omega)) ?_; intro v142
    refine Gl ?_
    have er : (Ad ⟨ls, q⟩ id home m) = (⟨ls, q⟩, [A5 9 id home m.line l.gave l.given], []) := by rw [G8 hl hi hk, if_neg (by unfold Cq; omega), if_pos ht15]
    rw [er, List.append_nil]
    refine Co (.inl rfl) (fun B w hs => Nx rfl _ w) (fun w hs => ⟨(v142, vd), rfl, Al (Dh hl hlw (hs.pick pkk))⟩)
   ·
    intro ht15
    refine Gl ?_
    refine kp [0, 1, 4, 32, 33, 34, 35, 36, 37, 38, 39, 40, 41, 42, 43, 44, 45, 46, 47, 48, 49, 50, 51, 52, 53, 54, 55] ?_
    refine Di 32 (.bool (decide (l.seen < m.turn ∧ (l.state = 2 ∨ l.state = 3)))) ?_ ?_
    ·
     rcases (show (m.turn ≤ l.seen) ∨ (l.seen < m.turn ∧ l.state = 2) ∨ (l.seen < m.turn ∧ l.state ≠ 2 ∧ l.state = 3) ∨ (l.seen < m.turn ∧ l.state ≠ 2 ∧ l.state ≠ 3) from by omega) with hm | hm | hm | hm
     ·
      refine Dv ?_
      refine dn8 ?_
      refine djc (fun _ _ => Af rfl rfl (Cp (by omega))) ?_
      refine djc (fun _ _ => Cx) ?_
      refine dn12 ?_
      refine djc (fun _ _ => Em) ?_
      refine djc (fun _ _ => Db) ?_
      refine dnl ?_; intro ρ
      refine Aw ?_ (fun w hs => hs)
      refine ⟨by first | exact congrArg (fun b => some (Value.bool b)) (decide_eq_false (by omega)).symm | exact congrArg (fun b => some (Value.bool b)) (by simp; omega), alT⟩
     ·
      refine Dv ?_
      refine dn8 ?_
      refine djc (fun _ _ => Af rfl rfl (C0 (by omega))) ?_
      refine djc (fun _ _ => Cx) ?_
      refine dn4 ?_
      refine dj (dgy ?_)
      refine dc (fun _ _ => Af rfl rfl (As (by omega))) ?_
      refine dj (dgy ?_)
      refine dc (fun _ _ => Cx) ?_
      refine dn5 ?_
      refine dj (dgy ?_)
      refine dc (fun _ _ => Gg) ?_
      refine djc (fun _ _ => Gg) ?_
      refine djc (fun _ _ => Db) ?_
      refine dnl ?_; intro ρ
      refine Aw ?_ (fun w hs => hs)
      refine ⟨by first | exact congrArg (fun b => some (Value.bool b)) (decide_eq_true (by omega)).symm | exact congrArg (fun b => some (Value.bool b)) (by simp; omega), alT⟩
     ·
      refine kp [0, 1, 4, 32, 33, 34, 35, 36, 37, 38, 39, 40, 41, 42, 43, 44, 45, 46, 47, 48, 49, 50, 51, 52, 53, 54, 55] ?_
      refine Dv ?_
      refine dn8 ?_
      refine djc (fun _ _ => Af rfl rfl (C0 (by omega))) ?_
      refine djc (fun _ _ => Cx) ?_
      refine dn4 ?_
      refine dj (dgy ?_)
      refine dc (fun _ _ => Af rfl rfl (Ak (by omega))) ?_
      refine dj (dgy ?_)
      refine dc (fun _ _ => Cx) ?_
      refine dn4 ?_
      refine dj (dgy ?_)
      refine dc (fun _ _ => Af rfl rfl (As (by omega))) ?_
      refine dj (dgy ?_)
      refine dc (fun _ _ => Em) ?_
      refine djc (fun _ _ => Gg) ?_
      refine djc (fun _ _ => Db) ?_
      refine dnl ?_; intro ρ
      refine Aw ?_ (fun w hs => hs)
      refine ⟨by first | exact congrArg (fun b => some (Value.bool b)) (decide_eq_true (by omega)).symm | exact congrArg (fun b => some (Value.bool b)) (by simp; omega), alT⟩
     ·
      refine Dv ?_
      refine dn8 ?_
      refine djc (fun _ _ => Af rfl rfl (C0 (by omega))) ?_
      refine djc (fun _ _ => Cx) ?_
      refine dn4 ?_
      refine dj (dgy ?_)
      refine dc (fun _ _ => Af rfl rfl (Ak (by omega))) ?_
      refine dj (dgy ?_)
      refine dc (fun _ _ => Cx) ?_
      refine dn4 ?_
      refine dj (dgy ?_)
      refine dc (fun _ _ => Af rfl rfl (Ak (by omega))) ?_
      refine dj (dgy ?_)
      refine dc (fun _ _ => Em) ?_
      refine djc (fun _ _ => Gg) ?_
      refine djc (fun _ _ => Db) ?_
      refine dnl ?_; intro ρ
      refine Aw ?_ (fun w hs => hs)
      refine ⟨by first | exact congrArg (fun b => some (Value.bool b)) (decide_eq_false (by omega)).symm | exact congrArg (fun b => some (Value.bool b)) (by simp; omega), alT⟩
    ·
     refine A3 ?_
     first | (refine cdx (p := ?p2) (hd := ?d2) ?e2 ?_ ?_; case e2 => exact rfl) | (refine Bp (b := ?b2) ?e2 ?_ ?_; case e2 => exact rfl)
     ·
      intro ht32
      refine Gl ?_
      refine kp [0, 1, 4, 56, 57, 58, 59, 60, 61, 62, 63, 64, 65, 66, 67, 68, 69, 70, 71, 72, 73, 74, 75, 76] ?_
      refine cq_ (foc 82 vL ls m.line.toNat [vi l.state, vi l.value, vi l.want, vi l.serial, vi l.seen, vi l.gave, vi l.given] :: blk bk 115 [vL, vi q.kind, vi q.line, vi q.value, vi id, vi home, vo, vd] :: row 42 vo ms :: row 84 vd ds :: blk bm 42 m.cells :: LX) ?_
      refine jd_ (fun ρ S => foc 82 vL ls m.line.toNat (bif S 23 then [vi l.state, vi l.value, vi l.want, vi l.serial, vi m.turn, vi m.turn, vi l.value] else (bif S 20 then [vi l.state, vi l.value, vi l.want, vi l.serial, vi l.seen, vi m.turn, vi l.value] else (bif S 17 then [vi l.state, vi l.value, vi l.want, vi l.serial, vi l.seen, vi m.turn, vi l.given] else [vi l.state, vi l.value, vi l.want, vi l.serial, vi l.seen, vi l.gave, vi l.given]))) :: blk bk 115 [vL, vi q.kind, vi q.line, vi q.value, vi id, vi home, vo, vd] :: row 42 vo ms :: row 84 vd ds :: blk bm 42 m.cells :: (LX)) ?_
      refine Si ?_
      refine Jn (v := vi l.value) (fun ρ S => Dn Try.isAgg3 (hc := at_f1 (α := Line) (xs := ls) pkk rfl (by repeat (first | exact rfl | refine Eh rfl ?_)))) (fun _ _ _ _ _ => rfl) ?_
      refine dn6 ?_
      refine Gb (T0 := 82) (f := 5) (k := m.line.toNat) (sz := 7) (hv := vL) (xs := ls) (vs := fun ρ => [vi l.state, vi l.value, vi l.want, vi l.serial, vi l.seen, vi l.gave, vi l.given]) (v := fun ρ => (vi m.turn)) rfl Try.sizeOf3 (fun _ => rfl) (fun _ => rfl) (fun _ _ _ _ _ _ _ _ => rfl) (fun _ => rfl) (fun ρ g S hS hB hA => ?_) ?_
      ·
       have ui : upS S 17 17 = true := rfl; have u20 : upS S 17 20 = S 20 := rfl; have u23 : upS S 17 23 = S 23 := rfl; have h20 : S 20 = false := hA 20 ⟨0, rfl⟩; have h23 : S 23 = false := hA 23 ⟨0, rfl⟩
       simp only [ui, hS, u20, u23, h20, h23, cond_true, cond_false]
       exact Pos.ex (by repeat (first | exact .hd | exact .hc | apply Pos.tl | apply Pos.ap))
      refine dn2 ?_
      refine Gb (T0 := 82) (f := 6) (k := m.line.toNat) (sz := 7) (hv := vL) (xs := ls) (vs := fun ρ => [vi l.state, vi l.value, vi l.want, vi l.serial, vi l.seen, vi m.turn, vi l.given]) (v := fun ρ => (vi l.value)) rfl Try.sizeOf3 (fun _ => rfl) (fun _ => rfl) (fun _ _ _ _ _ _ _ _ => rfl) (fun _ => rfl) (fun ρ g S hS hB hA => ?_) ?_
      ·
       have ui : upS S 20 20 = true := rfl; have u17 : upS S 20 17 = S 17 := rfl; have u23 : upS S 20 23 = S 23 := rfl; have h17 : S 17 = true := hB 17 ⟨0, rfl⟩; have h23 : S 23 = false := hA 23 ⟨0, rfl⟩
       simp only [ui, hS, u17, u23, h17, h23, cond_true, cond_false]
       exact Pos.ex (by repeat (first | exact .hd | exact .hc | apply Pos.tl | apply Pos.ap))
      refine dn2 ?_
      refine Gb (T0 := 82) (f := 4) (k := m.line.toNat) (sz := 7) (hv := vL) (xs := ls) (vs := fun ρ => [vi l.state, vi l.value, vi l.want, vi l.serial, vi l.seen, vi m.turn, vi l.value]) (v := fun ρ => (vi m.turn)) rfl Try.sizeOf3 (fun _ => rfl) (fun _ => rfl) (fun _ _ _ _ _ _ _ _ => rfl) (fun _ => rfl) (fun ρ g S hS hB hA => ?_) ?_
      ·
       have ui : upS S 23 23 = true := rfl; have u17 : upS S 23 17 = S 17 := rfl; have u20 : upS S 23 20 = S 20 := rfl; have h17 : S 17 = true := hB 17 ⟨0, rfl⟩; have h20 : S 20 = true := hB 20 ⟨0, rfl⟩
       simp only [ui, hS, u17, u20, h17, h20, cond_true, cond_false]
       exact Pos.ex (by repeat (first | exact .hd | exact .hc | apply Pos.tl | apply Pos.ap))
      refine dnl ?_; intro ρ
      refine xq_ (foc 82 vL ls m.line.toNat [vi l.state, vi l.value, vi l.want, vi l.serial, vi m.turn, vi m.turn, vi l.value] :: blk bk 115 [vL, vi q.kind, vi q.line, vi q.value, vi id, vi home, vo, vd] :: row 42 vo ms :: row 84 vd ds :: blk bm 42 m.cells :: (LX)) ?_
      refine Gm ?_
      refine rn3 ?_
      refine sc ?_
      refine Gm ?_
      refine Ga5 ?_
      refine cdx (p := ?p3) (hd := ?d3) ?e3 ?_ ?_; case e3 => exact rfl
      ·
       intro ht84
       refine kp [0, 1, 4, 85, 86, 87, 88, 89, 90] ?_
       refine Aa ?_
       refine rn4 ?_
       refine sc ?_
       refine rn2 ?_
       refine sc ?_
       refine Gm ?_
       refine Ga5 ?_
       refine cdx (p := ?p4) (hd := ?d4) ?e4 ?_ ?_; case e4 => exact rfl
       ·
        intro ht95
        refine Gm ?_
        refine rn3 ?_
        refine sc ?_
        refine Gm ?_
        refine rn4 ?_
        refine sc ?_
        refine rn2 ?_
        refine sc ?_
        refine Gl ?_
        refine cq_ (blk bk 115 [vL, vi q.kind, vi q.line, vi q.value, vi id, vi home, vo, vd] :: row 84 vd ds :: foc 82 vL ls m.line.toNat [vi 0, vi 0, vi 0, vi l.serial, vi m.turn, vi m.turn, vi l.value] :: row 42 vo ms :: blk bm 42 m.cells :: LX) ?_
        refine jd_ (fun ρ S => blk bk 115 (bif S 19 then [vL, vi q.kind, vi q.line, vi q.value, vi id, vi home, vo, (Gh.dec (γ := Value) (ρ 16))] else [vL, vi q.kind, vi q.line, vi q.value, vi id, vi home, vo, vd]) :: (bif S 16 then row 84 (Gh.dec (γ := Value) (ρ 16)) (ds ++ [(⟨id, q, 0⟩ : Done)]) else row 84 vd ds) :: foc 82 vL ls m.line.toNat [vi 0, vi 0, vi 0, vi l.serial, vi m.turn, vi m.turn, vi l.value] :: row 42 vo ms :: blk bm 42 m.cells :: (LX)) ?_
        refine dn4 ?_
        refine Ko (v := vd) (fun ρ S hS hB hA => by have h19 : S 19 = false := hA 19 ⟨0, rfl⟩; simp only [h19, cond_false]; exact Dn (hc := A2 pkk (by repeat (first | exact rfl | refine Eh rfl ?_))) Try.isAgg47) (fun _ _ _ _ _ => rfl) ?_
        refine dn3 ?_
        refine Ko (v := vi id) (fun ρ S hS hB hA => by have h19 : S 19 = false := hA 19 ⟨0, rfl⟩; simp only [h19, cond_false]; exact Dn (hc := A2 pkk (by repeat (first | exact rfl | refine Eh rfl ?_))) Try.isAgg3) (fun _ _ _ _ _ => rfl) ?_
        refine dn4 ?_
        refine Ko (v := .agg q.cells.toArray) (fun ρ S hS hB hA => by have h19 : S 19 = false := hA 19 ⟨9, rfl⟩; simp only [h19, cond_false]; exact Dy (b := bk) (f := 1) (vs := [vL, vi q.kind, vi q.line, vi q.value, vi id, vi home, vo, vd]) 3 Try.isAgg66 Try.sizeOf66) (fun _ _ _ _ _ => rfl) ?_
        first | refine epc (fun _ _ => E2 Gj) ?_ | refine epc (fun _ _ => F5 Gj) ?_ | refine epp (fun _ _ => E2 Gj) ?_ | refine epp (fun _ _ => F5 Gj) ?_
        refine E7 ([(⟨id, q, 0⟩ : Done)] : List Done) Fj rfl (fun _ => rfl) rfl (fun _ => rfl) rfl rfl (fun ρ R hd => E5 ⟨hid, hq.1, hq.2.1, hq.2.2, by unfold Am; simp only; omega⟩) (fun _ _ _ _ _ => rfl) ?_
        refine G9 (e := 84) (xs := ds) (ys := [(⟨id, q, 0⟩ : Done)]) (v := vd) Fj (fun _ => rfl) (fun _ => rfl) rfl (by decide) (fun ρ R hd => (hd.dep (it := ⟨15, _, _, _, _⟩) (by repeat (first | exact List.Mem.head _ | refine List.Mem.tail _ ?_)) ⟨9, rfl⟩ (List.Mem.head _))) (by have : maxN = 16777216 := rfl; simp only [List.length_cons, List.length_nil]; omega) (fun ρ g S hS hB hA => ?_) ?_
        ·
         have ui : upS S 16 16 = true := rfl; have u19 : upS S 16 19 = S 19 := rfl; have h19 : S 19 = false := hA 19 ⟨0, rfl⟩; have rs : (Gh.dec (γ := Value) (Rho.set ρ 16 (Gh.enc g) 16)) = g := rfl
         simp only [ui, hS, u19, h19, rs, cond_true, cond_false]
         exact Pos.ex (by repeat (first | exact .hd | exact .hc | apply Pos.tl | apply Pos.ap))
        refine dn2 ?_
        refine Fm (T0 := 115) (f := 7) (vs := fun ρ => [vL, vi q.kind, vi q.line, vi q.value, vi id, vi home, vo, vd]) (v := fun ρ => (Gh.dec (γ := Value) (ρ 16))) (fun ρ => bk) Try.sizeOf47 (fun _ => rfl) (fun _ => rfl) (fun ρ S R w L9 hB hd hs => by have h16 : S 16 = true := hB 16 ⟨9, rfl⟩; simp only [h16, cond_true] at hs; exact De pkk hs) (fun _ => rfl) (fun ρ g S hS hB hA => ?_) ?_
        ·
         have ui : upS S 19 19 = true := rfl; have u16 : upS S 19 16 = S 16 := rfl; have r16 : Rho.set ρ 19 g 16 = ρ 16 := rfl
         simp only [ui, hS, u16, r16, cond_true, cond_false]
         exact Pos.ex (by repeat (first | exact .hd | exact .hc | apply Pos.tl | apply Pos.ap))
        refine dnl ?_; intro ρ
        refine xq_ (blk bk 115 [vL, vi q.kind, vi q.line, vi q.value, vi id, vi home, vo, (Gh.dec (γ := Value) (ρ 16))] :: row 84 (Gh.dec (γ := Value) (ρ 16)) (ds ++ [(⟨id, q, 0⟩ : Done)]) :: foc 82 vL ls m.line.toNat [vi 0, vi 0, vi 0, vi l.serial, vi m.turn, vi m.turn, vi l.value] :: row 42 vo ms :: blk bm 42 m.cells :: (LX)) ?_
        generalize (Gh.dec (γ := Value) (ρ 15)) = v120
        generalize (Gh.dec (γ := Value) (ρ 16)) = v121
        refine Gl ?_
        refine kp [0, 1, 4, 124, 125, 126, 127, 128] ?_
        refine Aa ?_
        refine rn1 ?_
        refine ob (E2 (cs := zOp.cells) Kl) ?_
        refine rn3 ?_
        refine s_N [vL, vi 0, vi 0, vi 0, vi id, vi home, vo, v121] Try.sizeOf66 ?_
        refine Gl ?_
        refine Dv ?_
        refine dn13 ?_
        refine dtl ?_; intro ρ
        refine Aq Try.call82 rfl (fun w hs => Ef (vL := vL) (vd := v121) (q := zOp) (id := id) (home := home) (ms := ms) (kind := 9) (line := m.line) (serial := 0) (turn := m.turn) (value := l.value) (LX := foc 82 vL ls m.line.toNat [vi 0, vi 0, vi 0, vi l.serial, vi m.turn, vi m.turn, vi l.value] :: row 84 v121 (ds ++ [(⟨id, q, 0⟩ : Done)]) :: blk bm 42 m.cells :: LX) (Al hs) hn (by unfold Msg.wf Am; simp only; omega)) ?_; intro v142
        refine Gl ?_
        have ef : Bq l m.kind m.turn = { l with seen := m.turn, gave := m.turn, given := l.value, state := 0, value := 0, want := 0 } := by unfold Bq; rw [if_pos ht95]
        have er : (Ad ⟨ls, q⟩ id home m) = (⟨ls.set m.line.toNat ({ l with seen := m.turn, gave := m.turn, given := l.value, state := 0, value := 0, want := 0 }), zOp⟩, [A5 9 id home m.line m.turn l.value], [⟨id, q, 0⟩]) := by rw [G8 hl hi hk, if_pos (by unfold Cq; omega), ef, if_pos ht95, if_pos ht95]
        rw [er]
        refine Co (.inl rfl) (fun B w hs => Nx rfl _ w) (fun w hs => ⟨(v142, v121), rfl, Al (C2 ({ l with seen := m.turn, gave := m.turn, given := l.value, state := 0, value := 0, want := 0 }) (by unfold Line.wf Am; simp only; omega) (hs.pick pkk))⟩)
       ·
        intro ht95
        refine Gl ?_
        refine Dv ?_
        refine dn13 ?_
        refine dtl ?_; intro ρ
        refine Aq Try.call82 rfl (fun w hs => Ef (vL := vL) (vd := vd) (q := q) (id := id) (home := home) (ms := ms) (kind := 9) (line := m.line) (serial := 0) (turn := m.turn) (value := l.value) (LX := foc 82 vL ls m.line.toNat [vi 0, vi 0, vi l.want, vi l.serial, vi m.turn, vi m.turn, vi l.value] :: row 84 vd ds :: blk bm 42 m.cells :: LX) (Al hs) hn (by unfold Msg.wf Am; simp only; omega)) ?_; intro v142
        refine Gl ?_
        have ef : Bq l m.kind m.turn = { l with seen := m.turn, gave := m.turn, given := l.value, state := 0, value := 0 } := by unfold Bq; rw [if_neg ht95, if_pos ht84]
        have er : (Ad ⟨ls, q⟩ id home m) = (⟨ls.set m.line.toNat ({ l with seen := m.turn, gave := m.turn, given := l.value, state := 0, value := 0 }), q⟩, [A5 9 id home m.line m.turn l.value], []) := by rw [G8 hl hi hk, if_pos (by unfold Cq; omega), ef, if_neg ht95, if_neg ht95]
        rw [er, List.append_nil]
        refine Co (.inl rfl) (fun B w hs => Nx rfl _ w) (fun w hs => ⟨(v142, vd), rfl, Al (C2 ({ l with seen := m.turn, gave := m.turn, given := l.value, state := 0, value := 0 }) (by unfold Line.wf Am; simp only; omega) (hs.pick pkk))⟩)
      ·
       intro ht84
       refine Gl ?_
       refine kp [0, 1, 4, 91, 92, 93, 94, 95] ?_
       refine Aa ?_
       refine Ga5 ?_
       refine cdx (p := ?p5) (hd := ?d5) ?e5 ?_ ?_; case e5 => exact rfl
       ·
        intro ht95
        refine Gm ?_
        refine rn3 ?_
        refine sc ?_
        refine Gm ?_
        refine rn4 ?_
        refine sc ?_
        refine rn2 ?_
        refine sc ?_
        refine Gl ?_
        refine cq_ (blk bk 115 [vL, vi q.kind, vi q.line, vi q.value, vi id, vi home, vo, vd] :: row 84 vd ds :: foc 82 vL ls m.line.toNat [vi 0, vi 0, vi 0, vi l.serial, vi m.turn, vi m.turn, vi l.value] :: row 42 vo ms :: blk bm 42 m.cells :: LX) ?_
        refine jd_ (fun ρ S => blk bk 115 (bif S 19 then [vL, vi q.kind, vi q.line, vi q.value, vi id, vi home, vo, (Gh.dec (γ := Value) (ρ 16))] else [vL, vi q.kind, vi q.line, vi q.value, vi id, vi home, vo, vd]) :: (bif S 16 then row 84 (Gh.dec (γ := Value) (ρ 16)) (ds ++ [(⟨id, q, 0⟩ : Done)]) else row 84 vd ds) :: foc 82 vL ls m.line.toNat [vi 0, vi 0, vi 0, vi l.serial, vi m.turn, vi m.turn, vi l.value] :: row 42 vo ms :: blk bm 42 m.cells :: (LX)) ?_
        refine dn4 ?_
        refine Ko (v := vd) (fun ρ S hS hB hA => by have h19 : S 19 = false := hA 19 ⟨0, rfl⟩; simp only [h19, cond_false]; exact Dn (hc := A2 pkk (by repeat (first | exact rfl | refine Eh rfl ?_))) Try.isAgg47) (fun _ _ _ _ _ => rfl) ?_
        refine dn3 ?_
        refine Ko (v := vi id) (fun ρ S hS hB hA => by have h19 : S 19 = false := hA 19 ⟨0, rfl⟩; simp only [h19, cond_false]; exact Dn (hc := A2 pkk (by repeat (first | exact rfl | refine Eh rfl ?_))) Try.isAgg3) (fun _ _ _ _ _ => rfl) ?_
        refine dn4 ?_
        refine Ko (v := .agg q.cells.toArray) (fun ρ S hS hB hA => by have h19 : S 19 = false := hA 19 ⟨9, rfl⟩; simp only [h19, cond_false]; exact Dy (b := bk) (f := 1) (vs := [vL, vi q.kind, vi q.line, vi q.value, vi id, vi home, vo, vd]) 3 Try.isAgg66 Try.sizeOf66) (fun _ _ _ _ _ => rfl) ?_
        first | refine epc (fun _ _ => E2 Gj) ?_ | refine epc (fun _ _ => F5 Gj) ?_ | refine epp (fun _ _ => E2 Gj) ?_ | refine epp (fun _ _ => F5 Gj) ?_
        refine E7 ([(⟨id, q, 0⟩ : Done)] : List Done) Fj rfl (fun _ => rfl) rfl (fun _ => rfl) rfl rfl (fun ρ R hd => E5 ⟨hid, hq.1, hq.2.1, hq.2.2, by unfold Am; simp only; omega⟩) (fun _ _ _ _ _ => rfl) ?_
        refine G9 (e := 84) (xs := ds) (ys := [(⟨id, q, 0⟩ : Done)]) (v := vd) Fj (fun _ => rfl) (fun _ => rfl) rfl (by decide) (fun ρ R hd => (hd.dep (it := ⟨15, _, _, _, _⟩) (by repeat (first | exact List.Mem.head _ | refine List.Mem.tail _ ?_)) ⟨9, rfl⟩ (List.Mem.head _))) (by have : maxN = 16777216 := rfl; simp only [List.length_cons, List.length_nil]; omega) (fun ρ g S hS hB hA => ?_) ?_
        ·
         have ui : upS S 16 16 = true := rfl; have u19 : upS S 16 19 = S 19 := rfl; have h19 : S 19 = false := hA 19 ⟨0, rfl⟩; have rs : (Gh.dec (γ := Value) (Rho.set ρ 16 (Gh.enc g) 16)) = g := rfl
         simp only [ui, hS, u19, h19, rs, cond_true, cond_false]
         exact Pos.ex (by repeat (first | exact .hd | exact .hc | apply Pos.tl | apply Pos.ap))
        refine dn2 ?_
        refine Fm (T0 := 115) (f := 7) (vs := fun ρ => [vL, vi q.kind, vi q.line, vi q.value, vi id, vi home, vo, vd]) (v := fun ρ => (Gh.dec (γ := Value) (ρ 16))) (fun ρ => bk) Try.sizeOf47 (fun _ => rfl) (fun _ => rfl) (fun ρ S R w L9 hB hd hs => by have h16 : S 16 = true := hB 16 ⟨9, rfl⟩; simp only [h16, cond_true] at hs; exact De pkk hs) (fun _ => rfl) (fun ρ g S hS hB hA => ?_) ?_
        ·
         have ui : upS S 19 19 = true := rfl; have u16 : upS S 19 16 = S 16 := rfl; have r16 : Rho.set ρ 19 g 16 = ρ 16 := rfl
         simp only [ui, hS, u16, r16, cond_true, cond_false]
         exact Pos.ex (by repeat (first | exact .hd | exact .hc | apply Pos.tl | apply Pos.ap))
        refine dnl ?_; intro ρ
        refine xq_ (blk bk 115 [vL, vi q.kind, vi q.line, vi q.value, vi id, vi home, vo, (Gh.dec (γ := Value) (ρ 16))] :: row 84 (Gh.dec (γ := Value) (ρ 16)) (ds ++ [(⟨id, q, 0⟩ : Done)]) :: foc 82 vL ls m.line.toNat [vi 0, vi 0, vi 0, vi l.serial, vi m.turn, vi m.turn, vi l.value] :: row 42 vo ms :: blk bm 42 m.cells :: (LX)) ?_
        generalize (Gh.dec (γ := Value) (ρ 15)) = v120
        generalize (Gh.dec (γ := Value) (ρ 16)) = v121
        refine Gl ?_
        refine kp [0, 1, 4, 124, 125, 126, 127, 128] ?_
        refine Aa ?_
        refine rn1 ?_
        refine ob (E2 (cs := zOp.cells) Kl) ?_
        refine rn3 ?_
        refine s_N [vL, vi 0, vi 0, vi 0, vi id, vi home, vo, v121] Try.sizeOf66 ?_
        refine Gl ?_
        refine Dv ?_
        refine dn13 ?_
        refine dtl ?_; intro ρ
        refine Aq Try.call82 rfl (fun w hs => Ef (vL := vL) (vd := v121) (q := zOp) (id := id) (home := home) (ms := ms) (kind := 9) (line := m.line) (serial := 0) (turn := m.turn) (value := l.value) (LX := foc 82 vL ls m.line.toNat [vi 0, vi 0, vi 0, vi l.serial, vi m.turn, vi m.turn, vi l.value] :: row 84 v121 (ds ++ [(⟨id, q, 0⟩ : Done)]) :: blk bm 42 m.cells :: LX) (Al hs) hn (by unfold Msg.wf Am; simp only; omega)) ?_; intro v142
        refine Gl ?_
        have ef : Bq l m.kind m.turn = { l with seen := m.turn, gave := m.turn, given := l.value, state := 0, value := 0, want := 0 } := by unfold Bq; rw [if_pos ht95]
        have er : (Ad ⟨ls, q⟩ id home m) = (⟨ls.set m.line.toNat ({ l with seen := m.turn, gave := m.turn, given := l.value, state := 0, value := 0, want := 0 }), zOp⟩, [A5 9 id home m.line m.turn l.value], [⟨id, q, 0⟩]) := by rw [G8 hl hi hk, if_pos (by unfold Cq; omega), ef, if_pos ht95, if_pos ht95]
        rw [er]
        refine Co (.inl rfl) (fun B w hs => Nx rfl _ w) (fun w hs => ⟨(v142, v121), rfl, Al (C2 ({ l with seen := m.turn, gave := m.turn, given := l.value, state := 0, value := 0, want := 0 }) (by unfold Line.wf Am; simp only; omega) (hs.pick pkk))⟩)
       ·
        intro ht95
        refine Gl ?_
        refine Dv ?_
        refine dn13 ?_
        refine dtl ?_; intro ρ
        refine Aq Try.call82 rfl (fun w hs => Ef (vL := vL) (vd := vd) (q := q) (id := id) (home := home) (ms := ms) (kind := 9) (line := m.line) (serial := 0) (turn := m.turn) (value := l.value) (LX := foc 82 vL ls m.line.toNat [vi 1, vi l.value, vi l.want, vi l.serial, vi m.turn, vi m.turn, vi l.value] :: row 84 vd ds :: blk bm 42 m.cells :: LX) (Al hs) hn (by unfold Msg.wf Am; simp only; omega)) ?_; intro v142
        refine Gl ?_
        have ef : Bq l m.kind m.turn = { l with seen := m.turn, gave := m.turn, given := l.value, state := 1 } := by unfold Bq; rw [if_neg ht95, if_neg ht84]
        have er : (Ad ⟨ls, q⟩ id home m) = (⟨ls.set m.line.toNat ({ l with seen := m.turn, gave := m.turn, given := l.value, state := 1 }), q⟩, [A5 9 id home m.line m.turn l.value], []) := by rw [G8 hl hi hk, if_pos (by unfold Cq; omega), ef, if_neg ht95, if_neg ht95]
        rw [er, List.append_nil]
        refine Co (.inl rfl) (fun B w hs => Nx rfl _ w) (fun w hs => ⟨(v142, vd), rfl, Al (C2 ({ l with seen := m.turn, gave := m.turn, given := l.value, state := 1 }) (by unfold Line.wf Am; simp only; omega) (hs.pick pkk))⟩)
     ·
      intro ht32
      refine Gl ?_
      have er : (Ad ⟨ls, q⟩ id home m) = (⟨ls, q⟩, [], []) := by rw [G8 hl hi hk, if_neg (by unfold Cq; omega), if_neg ht15]
      rw [er, List.append_nil, List.append_nil]
      refine Co (.inr rfl) (fun B w hs => Nx rfl _ w) (fun w hs => ⟨(vo, vd), rfl, Al (Dh hl hlw (hs.pick pkk))⟩)
theorem R6 {LX : List Chunk} {R : List Fact} {w : World} {vL vo vd : Value} {bk : Nat} {q : Op} {id home : Int} {ls : List Line} {l : Line} {bm : Nat} {ms : List Msg} {ds : List Done} {m : Msg} (hs : St (blk bk 115 [vL, vi q.kind, vi q.line, vi q.value, vi id, vi home, vo, vd] :: row 82 vL ls :: row 42 vo ms :: row 84 vd ds :: blk bm 42 m.cells :: LX) R w) (hl : ls.getD m.line.toNat zLine = l) (hi : 0 ≤ m.line ∧ m.line < (ls.length : Int)) (hll : ls.length ≤ 100) (hm : m.wf) (hid : Am id) (hhome : Am home) (hn : ms.length ≤ 1000) (hnd : ds.length ≤ 1000) (hq : q.wf) (hk : m.kind = 7) (hqa : Er l m → q.line = m.line ∧ (1 ≤ q.kind ∧ q.kind ≤ 4) ∧ 0 ≤ q.value ∧ q.value ≤ 255) : Calls Try.prog 84 [bp bk 0, bp bm 0].toArray w (Ch (fun g : Value × Value => .tuple #[]) (fun g => blk bk 115 [vL, vi (Ad ⟨ls, q⟩ id home m).1.wait.kind, vi (Ad ⟨ls, q⟩ id home m).1.wait.line, vi (Ad ⟨ls, q⟩ id home m).1.wait.value, vi id, vi home, g.1, g.2] :: row 82 vL (Ad ⟨ls, q⟩ id home m).1.lines :: row 42 g.1 (ms ++ (Ad ⟨ls, q⟩ id home m).2.1) :: row 84 g.2 (ds ++ (Ad ⟨ls, q⟩ id home m).2.2) :: blk bm 42 m.cells :: LX) (fun g => R)) := by
  have hm0 := hm
  unfold Msg.wf Am at hm0
  have hid0 := hid
  have hhome0 := hhome
  unfold Am at hid0 hhome0
  refine Aj Try.func84 rfl Try.ntmps84 rfl hs ?_
  clear hs
  refine Gl ?_
  refine F7 (ls := ls) (l := l) (i := m.line) pkk hl (by omega) (by omega) (fun hlw hA => ?_)
  have hlw0 := hlw
  unfold Line.wf Am at hlw0
  have honeL : (ep vL 7 m.line.toNat 0).oneCell' = true := hA.one
  refine Dv ?_
  refine dn9 ?_
  refine dj ?_
  refine dc (fun _ _ => J1 (v := vL) (i := m.line) Ja (hl := E4 (α := Line) (xs := ls) pkk)) ?_
  refine djc (fun _ _ => Db) ?_
  refine dnl ?_; intro ρ
  refine Gl ?_
  refine Dv ?_
  refine dn9 ?_
  refine dnl ?_; intro ρ
  refine Gl ?_
  refine cdx (p := ?p1) (hd := ?d1) ?e1 ?_ ?_; case e1 => exact rfl
  ·
   intro ht24
   refine Gl ?_
   have er : (Ad ⟨ls, q⟩ id home m) = (⟨ls, q⟩, [], []) := by rw [H3 hl hi hk, if_pos (by omega)]
   rw [er, List.append_nil, List.append_nil]
   refine Co (.inr rfl) (fun B w hs => Nx rfl _ w) (fun w hs => ⟨(vo, vd), rfl, Al (Dh hl hlw (hs.pick pkk))⟩)
  ·
   intro ht24
   refine Gl ?_
   refine kp [0, 1, 4, 5, 25, 26, 27, 28, 29, 30, 31, 32, 33, 34, 35, 36, 37, 38, 39, 40, 41, 42, 43, 44, 45, 46, 47, 48, 49] ?_
   refine Di 5 (.bool (decide ((l.want = 1 ∧ m.alone = false) ∨ (l.want = 2 ∧ m.alone = true)))) ?_ ?_
   ·
    rcases (show (l.want = 1 ∧ m.alone = false) ∨ (l.want = 1 ∧ m.alone = true) ∨ (l.want = 2 ∧ m.alone = true) ∨ (l.want = 2 ∧ m.alone = false) ∨ (l.want ≠ 1 ∧ l.want ≠ 2) from by rcases Bool.eq_false_or_eq_true m.alone with h1 | h1 <;> simp only [h1, and_true, and_false, or_false, false_or, reduceCtorEq] <;> omega) with hm | hm | hm | hm | hm
    ·
     obtain ⟨hc1, hal⟩ := hm
     refine Aa ?_
     refine rn4 ?_
     refine ob (Af rfl rfl (As (by omega))) ?_
     refine rn4 ?_
     refine gy ?_
     refine ob (Dn (c := .bool false) Try.isAgg4 (hc := A2 pkk (by show some (Value.bool m.alone) = _; rw [hal]))) ?_
     refine Ga16 ?_
     refine Aw ?_ (fun w hs => hs)
     refine ⟨by first | exact congrArg (fun b => some (Value.bool b)) (decide_eq_true (by first | exact .inl hm | exact .inr hm | exact .inl ⟨hc1, hal⟩ | exact .inr ⟨hc1, hal⟩ | (rintro (⟨a, b⟩ | ⟨a, b⟩) <;> first | omega | exact absurd (hal.symm.trans b) (by decide)))).symm | exact congrArg (fun b => some (Value.bool b)) (by simp; omega), alT⟩
    ·
     obtain ⟨hc1, hal⟩ := hm
     refine Aa ?_
     refine rn4 ?_
     refine ob (Af rfl rfl (As (by omega))) ?_
     refine rn4 ?_
     refine gy ?_
     refine ob (Dn (c := .bool true) Try.isAgg4 (hc := A2 pkk (by show some (Value.bool m.alone) = _; rw [hal]))) ?_
     refine rn7 ?_
     refine gy ?_
     refine ob (Af rfl rfl (Ak (by omega))) ?_
     refine Ga8 ?_
     refine Aw ?_ (fun w hs => hs)
     refine ⟨by first | exact congrArg (fun b => some (Value.bool b)) (decide_eq_false (by first | exact .inl hm | exact .inr hm | exact .inl ⟨hc1, hal⟩ | exact .inr ⟨hc1, hal⟩ | (rintro (⟨a, b⟩ | ⟨a, b⟩) <;> first | omega | exact absurd (hal.symm.trans b) (by decide)))).symm | exact congrArg (fun b => some (Value.bool b)) (by simp; omega), alT⟩
    ·
     obtain ⟨hc1, hal⟩ := hm
     refine kp [0, 1, 4, 5, 25, 26, 27, 28, 29, 30, 31, 32, 33, 34, 35, 36, 37, 38, 39, 40, 41, 42, 43, 44, 45, 46, 47, 48, 49] ?_
     refine Aa ?_
     refine rn4 ?_
     refine ob (Af rfl rfl (Ak (by omega))) ?_
     refine Va ?_
     refine gy ?_
     refine ob (Af rfl rfl (As (by omega))) ?_
     refine rn4 ?_
     refine gy ?_
     refine ob (Dn (c := .bool true) Try.isAgg4 (hc := A2 pkk (by show some (Value.bool m.alone) = _; rw [hal]))) ?_
     refine Ga3 ?_
     refine Aw ?_ (fun w hs => hs)
     refine ⟨by first | exact congrArg (fun b => some (Value.bool b)) (decide_eq_true (by first | exact .inl hm | exact .inr hm | exact .inl ⟨hc1, hal⟩ | exact .inr ⟨hc1, hal⟩ | (rintro (⟨a, b⟩ | ⟨a, b⟩) <;> first | omega | exact absurd (hal.symm.trans b) (by decide)))).symm | exact congrArg (fun b => some (Value.bool b)) (by simp; omega), alT⟩
    ·
     obtain ⟨hc1, hal⟩ := hm
     refine Aa ?_
     refine rn4 ?_
     refine ob (Af rfl rfl (Ak (by omega))) ?_
     refine Va ?_
     refine gy ?_
     refine ob (Af rfl rfl (As (by omega))) ?_
     refine rn4 ?_
     refine gy ?_
     refine ob (Dn (c := .bool false) Try.isAgg4 (hc := A2 pkk (by show some (Value.bool m.alone) = _; rw [hal]))) ?_
     refine Ga3 ?_
     refine Aw ?_ (fun w hs => hs)
     refine ⟨by first | exact congrArg (fun b => some (Value.bool b)) (decide_eq_false (by first | exact .inl hm | exact .inr hm | exact .inl ⟨hc1, hal⟩ | exact .inr ⟨hc1, hal⟩ | (rintro (⟨a, b⟩ | ⟨a, b⟩) <;> first | omega | exact absurd (hal.symm.trans b) (by decide)))).symm | exact congrArg (fun b => some (Value.bool b)) (by simp; omega), alT⟩
    ·
     refine kp [0, 1, 4, 5, 25, 26, 27, 28, 29, 30, 31, 32, 33, 34, 35, 36, 37, 38, 39, 40, 41, 42, 43, 44, 45, 46, 47, 48, 49] ?_
     refine Aa ?_
     refine rn4 ?_
     refine ob (Af rfl rfl (Ak (by omega))) ?_
     refine Va ?_
     refine gy ?_
     refine ob (Af rfl rfl (Ak (by omega))) ?_
     refine Ga8 ?_
     refine Aw ?_ (fun w hs => hs)
     refine ⟨by first | exact congrArg (fun b => some (Value.bool b)) (decide_eq_false (by first | exact .inl hm | exact .inr hm | exact .inl ⟨hc1, hal⟩ | exact .inr ⟨hc1, hal⟩ | (rintro (⟨a, b⟩ | ⟨a, b⟩) <;> first | omega | exact absurd (hal.symm.trans b) (by decide)))).symm | exact congrArg (fun b => some (Value.bool b)) (by simp; omega), alT⟩
   ·
    refine A3 ?_
    refine Gl ?_
    rcases (show (m.serial = l.serial) ∨ (m.serial ≠ l.serial) from by omega) with hc | hc
    ·
     refine Dv ?_
     refine dn8 ?_
     refine djc (fun _ _ => Af rfl rfl (As (by omega))) ?_
     refine djc (fun _ _ => Cx) ?_
     refine dn1 ?_
     refine djc (fun _ _ => Gg) ?_
     refine dnl ?_; intro ρ
     refine Gl ?_
     first | (refine cdx (p := ?p2) (hd := ?d2) ?e2 ?_ ?_; case e2 => exact rfl) | (refine Bp (b := ?b2) ?e2 ?_ ?_; case e2 => exact rfl)
     ·
      intro ht61
      have haq : Er l m := ⟨hc, ht61⟩
      obtain ⟨hq1, hq2, hq3⟩ := hqa haq
      refine Gl ?_
      refine kp [0, 1, 4, 62, 63, 64, 65, 66, 67, 68, 69, 70, 71, 72, 73, 74, 75, 76, 77, 78, 79, 80, 81] ?_
      refine cq_ (foc 82 vL ls m.line.toNat [vi l.state, vi l.value, vi l.want, vi l.serial, vi l.seen, vi l.gave, vi l.given] :: blk bk 115 [vL, vi q.kind, vi q.line, vi q.value, vi id, vi home, vo, vd] :: row 42 vo ms :: row 84 vd ds :: blk bm 42 m.cells :: LX) ?_
      refine jd_ (fun ρ S => foc 82 vL ls m.line.toNat (bif S 23 then [vi 1, vi m.value, vi 0, vi l.serial, vi m.turn, vi l.gave, vi l.given] else (bif S 20 then [vi 1, vi m.value, vi 0, vi l.serial, vi l.seen, vi l.gave, vi l.given] else (bif S 17 then [vi 1, vi m.value, vi l.want, vi l.serial, vi l.seen, vi l.gave, vi l.given] else (bif S 14 then [vi 1, vi l.value, vi l.want, vi l.serial, vi l.seen, vi l.gave, vi l.given] else [vi l.state, vi l.value, vi l.want, vi l.serial, vi l.seen, vi l.gave, vi l.given])))) :: blk bk 115 [vL, vi q.kind, vi q.line, vi q.value, vi id, vi home, vo, vd] :: row 42 vo ms :: row 84 vd ds :: blk bm 42 m.cells :: (LX)) ?_
      refine dn14 ?_
      refine Gb (T0 := 82) (f := 0) (k := m.line.toNat) (sz := 7) (hv := vL) (xs := ls) (vs := fun ρ => [vi l.state, vi l.value, vi l.want, vi l.serial, vi l.seen, vi l.gave, vi l.given]) (v := fun ρ => (vi 1)) rfl Try.sizeOf3 (fun _ => rfl) (fun _ => rfl) (fun _ _ _ _ _ _ _ _ => rfl) (fun _ => rfl) (fun ρ g S hS hB hA => ?_) ?_
      ·
       have ui : upS S 14 14 = true := rfl; have u17 : upS S 14 17 = S 17 := rfl; have u20 : upS S 14 20 = S 20 := rfl; have u23 : upS S 14 23 = S 23 := rfl; have h17 : S 17 = false := hA 17 ⟨0, rfl⟩; have h20 : S 20 = false := hA 20 ⟨0, rfl⟩; have h23 : S 23 = false := hA 23 ⟨0, rfl⟩
       simp only [ui, hS, u17, u20, u23, h17, h20, h23, cond_true, cond_false]
       exact Pos.ex (by repeat (first | exact .hd | exact .hc | apply Pos.tl | apply Pos.ap))
      refine dn2 ?_
      refine Gb (T0 := 82) (f := 1) (k := m.line.toNat) (sz := 7) (hv := vL) (xs := ls) (vs := fun ρ => [vi 1, vi l.value, vi l.want, vi l.serial, vi l.seen, vi l.gave, vi l.given]) (v := fun ρ => (vi m.value)) rfl Try.sizeOf3 (fun _ => rfl) (fun _ => rfl) (fun _ _ _ _ _ _ _ _ => rfl) (fun _ => rfl) (fun ρ g S hS hB hA => ?_) ?_
      ·
       have ui : upS S 17 17 = true := rfl; have u14 : upS S 17 14 = S 14 := rfl; have u20 : upS S 17 20 = S 20 := rfl; have u23 : upS S 17 23 = S 23 := rfl; have h14 : S 14 = true := hB 14 ⟨0, rfl⟩; have h20 : S 20 = false := hA 20 ⟨0, rfl⟩; have h23 : S 23 = false := hA 23 ⟨0, rfl⟩
       simp only [ui, hS, u14, u20, u23, h14, h20, h23, cond_true, cond_false]
       exact Pos.ex (by repeat (first | exact .hd | exact .hc | apply Pos.tl | apply Pos.ap))
      refine dn2 ?_
      refine Gb (T0 := 82) (f := 2) (k := m.line.toNat) (sz := 7) (hv := vL) (xs := ls) (vs := fun ρ => [vi 1, vi m.value, vi l.want, vi l.serial, vi l.seen, vi l.gave, vi l.given]) (v := fun ρ => (vi 0)) rfl Try.sizeOf3 (fun _ => rfl) (fun _ => rfl) (fun _ _ _ _ _ _ _ _ => rfl) (fun _ => rfl) (fun ρ g S hS hB hA => ?_) ?_
      ·
       have ui : upS S 20 20 = true := rfl; have u14 : upS S 20 14 = S 14 := rfl; have u17 : upS S 20 17 = S 17 := rfl; have u23 : upS S 20 23 = S 23 := rfl; have h14 : S 14 = true := hB 14 ⟨0, rfl⟩; have h17 : S 17 = true := hB 17 ⟨0, rfl⟩; have h23 : S 23 = false := hA 23 ⟨0, rfl⟩
       simp only [ui, hS, u14, u17, u23, h14, h17, h23, cond_true, cond_false]
       exact Pos.ex (by repeat (first | exact .hd | exact .hc | apply Pos.tl | apply Pos.ap))
      refine dn2 ?_
      refine Gb (T0 := 82) (f := 4) (k := m.line.toNat) (sz := 7) (hv := vL) (xs := ls) (vs := fun ρ => [vi 1, vi m.value, vi 0, vi l.serial, vi l.seen, vi l.gave, vi l.given]) (v := fun ρ => (vi m.turn)) rfl Try.sizeOf3 (fun _ => rfl) (fun _ => rfl) (fun _ _ _ _ _ _ _ _ => rfl) (fun _ => rfl) (fun ρ g S hS hB hA => ?_) ?_
      ·
       have ui : upS S 23 23 = true := rfl; have u14 : upS S 23 14 = S 14 := rfl; have u17 : upS S 23 17 = S 17 := rfl; have u20 : upS S 23 20 = S 20 := rfl; have h14 : S 14 = true := hB 14 ⟨0, rfl⟩; have h17 : S 17 = true := hB 17 ⟨0, rfl⟩; have h20 : S 20 = true := hB 20 ⟨0, rfl⟩
       simp only [ui, hS, u14, u17, u20, h14, h17, h20, cond_true, cond_false]
       exact Pos.ex (by repeat (first | exact .hd | exact .hc | apply Pos.tl | apply Pos.ap))
      refine dnl ?_; intro ρ
      refine xq_ (foc 82 vL ls m.line.toNat [vi 1, vi m.value, vi 0, vi l.serial, vi m.turn, vi l.gave, vi l.given] :: blk bk 115 [vL, vi q.kind, vi q.line, vi q.value, vi id, vi home, vo, vd] :: row 42 vo ms :: row 84 vd ds :: blk bm 42 m.cells :: (LX)) ?_
      refine Gm ?_
      refine Ga4 ?_
      refine Bp (b := ?b3) ?e3 ?_ ?_; case e3 => exact rfl
      ·
       intro ht85
       refine Aa ?_
       refine rn3 ?_
       refine sc ?_
       refine Gl ?_
       refine JC.conseq (L' := row 82 vL (ls.set m.line.toNat ({ l with state := 2, value := m.value, want := 0, seen := m.turn })) :: blk bk 115 [vL, vi q.kind, vi q.line, vi q.value, vi id, vi home, vo, vd] :: row 42 vo ms :: row 84 vd ds :: blk bm 42 m.cells :: LX) (fun w hs => Al (C2 ({ l with state := 2, value := m.value, want := 0, seen := m.turn }) (by unfold Line.wf Am; simp only; omega) (hs.pick pkk))) ?_
       refine kp [0, 1, 89, 90, 91, 92, 93, 94] ?_
       refine Aa ?_
       refine rn5 ?_
       refine ob (Dy 3 Try.isAgg66 Try.sizeOf66) ?_
       refine Aq Try.call76 rfl (fun w hs => Iw (vL := vL) (vd := vd) (q := q) (q0 := q) (id := id) (home := home) (ds := ds) (ls := ls.set m.line.toNat ({ l with state := 2, value := m.value, want := 0, seen := m.turn })) (l := { l with state := 2, value := m.value, want := 0, seen := m.turn }) (LX := row 42 vo ms :: blk bm 42 m.cells :: LX) (Al hs) (by rw [hq1, List.getD_eq_getElem?_getD, List.getElem?_set_self (by omega)]; rfl) (by rw [hq1, List.length_set]; exact hi) (by rw [List.length_set]; exact hll) hid hhome hnd hq hq2 hq3) ?_; intro v95
       refine J.conseq (L' := blk bk 115 [vL, vi 0, vi 0, vi 0, vi id, vi home, vo, v95] :: row 82 vL (ls.set m.line.toNat ({ l with state := 2, value := (Au m.value q).1, want := 0, seen := m.turn })) :: row 84 v95 (ds ++ [(⟨id, q, (Au m.value q).2⟩ : Done)]) :: row 42 vo ms :: blk bm 42 m.cells :: LX) (fun w hs => by rw [hq1, List.set_set] at hs; exact Al hs) ?_
       refine Gl ?_
       refine Dv ?_
       refine dn9 ?_
       refine dtl ?_; intro ρ
       refine Aq Try.call82 rfl (fun w hs => Ef (vL := vL) (vd := v95) (q := zOp) (id := id) (home := home) (ms := ms) (kind := 10) (line := m.line) (serial := 0) (turn := m.turn) (value := 0) (LX := row 82 vL (ls.set m.line.toNat ({ l with state := 2, value := (Au m.value q).1, want := 0, seen := m.turn })) :: row 84 v95 (ds ++ [(⟨id, q, (Au m.value q).2⟩ : Done)]) :: blk bm 42 m.cells :: LX) (Al hs) hn (by unfold Msg.wf Am; simp only; omega)) ?_; intro v105
       refine Gl ?_
       have eg : Ed l m q = { l with state := 2, value := (Au m.value q).1, want := 0, seen := m.turn } := by unfold Ed; rw [ht85, if_pos rfl]
       have er : (Ad ⟨ls, q⟩ id home m) = (⟨ls.set m.line.toNat ({ l with state := 2, value := (Au m.value q).1, want := 0, seen := m.turn }), zOp⟩, [A5 10 id home m.line m.turn 0], [⟨id, q, (Au m.value q).2⟩]) := by rw [H3 hl hi hk, if_neg (by omega), if_pos haq, eg]
       rw [er]
       refine Co (.inl rfl) (fun B w hs => Nx rfl _ w) (fun w hs => ⟨(v105, v95), rfl, Al hs⟩)
      ·
       intro ht85
       refine Gl ?_
       refine JC.conseq (L' := row 82 vL (ls.set m.line.toNat ({ l with state := 1, value := m.value, want := 0, seen := m.turn })) :: blk bk 115 [vL, vi q.kind, vi q.line, vi q.value, vi id, vi home, vo, vd] :: row 42 vo ms :: row 84 vd ds :: blk bm 42 m.cells :: LX) (fun w hs => Al (C2 ({ l with state := 1, value := m.value, want := 0, seen := m.turn }) (by unfold Line.wf Am; simp only; omega) (hs.pick pkk))) ?_
       refine Aa ?_
       refine rn5 ?_
       refine ob (Dy 3 Try.isAgg66 Try.sizeOf66) ?_
       refine Aq Try.call76 rfl (fun w hs => Iw (vL := vL) (vd := vd) (q := q) (q0 := q) (id := id) (home := home) (ds := ds) (ls := ls.set m.line.toNat ({ l with state := 1, value := m.value, want := 0, seen := m.turn })) (l := { l with state := 1, value := m.value, want := 0, seen := m.turn }) (LX := row 42 vo ms :: blk bm 42 m.cells :: LX) (Al hs) (by rw [hq1, List.getD_eq_getElem?_getD, List.getElem?_set_self (by omega)]; rfl) (by rw [hq1, List.length_set]; exact hi) (by rw [List.length_set]; exact hll) hid hhome hnd hq hq2 hq3) ?_; intro v95
       refine J.conseq (L' := blk bk 115 [vL, vi 0, vi 0, vi 0, vi id, vi home, vo, v95] :: row 82 vL (ls.set m.line.toNat ({ l with state := 1, value := (Au m.value q).1, want := 0, seen := m.turn })) :: row 84 v95 (ds ++ [(⟨id, q, (Au m.value q).2⟩ : Done)]) :: row 42 vo ms :: blk bm 42 m.cells :: LX) (fun w hs => by rw [hq1, List.set_set] at hs; exact Al hs) ?_
       refine Gl ?_
       refine kp [0, 1, 96, 97, 98, 99, 100, 101, 102, 103, 104] ?_
       refine Dv ?_
       refine dn9 ?_
       refine dtl ?_; intro ρ
       refine Aq Try.call82 rfl (fun w hs => Ef (vL := vL) (vd := v95) (q := zOp) (id := id) (home := home) (ms := ms) (kind := 10) (line := m.line) (serial := 0) (turn := m.turn) (value := 0) (LX := row 82 vL (ls.set m.line.toNat ({ l with state := 1, value := (Au m.value q).1, want := 0, seen := m.turn })) :: row 84 v95 (ds ++ [(⟨id, q, (Au m.value q).2⟩ : Done)]) :: blk bm 42 m.cells :: LX) (Al hs) hn (by unfold Msg.wf Am; simp only; omega)) ?_; intro v105
       refine Gl ?_
       have eg : Ed l m q = { l with state := 1, value := (Au m.value q).1, want := 0, seen := m.turn } := by unfold Ed; rw [ht85, if_neg (by decide)]
       have er : (Ad ⟨ls, q⟩ id home m) = (⟨ls.set m.line.toNat ({ l with state := 1, value := (Au m.value q).1, want := 0, seen := m.turn }), zOp⟩, [A5 10 id home m.line m.turn 0], [⟨id, q, (Au m.value q).2⟩]) := by rw [H3 hl hi hk, if_neg (by omega), if_pos haq, eg]
       rw [er]
       refine Co (.inl rfl) (fun B w hs => Nx rfl _ w) (fun w hs => ⟨(v105, v95), rfl, Al hs⟩)
     ·
      intro ht61
      refine Gl ?_
      refine kp [0, 1, 96, 97, 98, 99, 100, 101, 102, 103, 104] ?_
      refine Dv ?_
      refine dn9 ?_
      refine dtl ?_; intro ρ
      refine Aq Try.call82 rfl (fun w hs => Ef (vL := vL) (vd := vd) (q := q) (id := id) (home := home) (ms := ms) (kind := 10) (line := m.line) (serial := 0) (turn := m.turn) (value := 0) (LX := foc 82 vL ls m.line.toNat [vi l.state, vi l.value, vi l.want, vi l.serial, vi l.seen, vi l.gave, vi l.given] :: row 84 vd ds :: blk bm 42 m.cells :: LX) (Al hs) hn (by unfold Msg.wf Am; simp only; omega)) ?_; intro v105
      refine Gl ?_
      have er : (Ad ⟨ls, q⟩ id home m) = (⟨ls, q⟩, [A5 10 id home m.line m.turn 0], []) := by rw [H3 hl hi hk, if_neg (by omega), if_neg (fun h => ht61 h.2)]
      rw [er, List.append_nil]
      refine Co (.inl rfl) (fun B w hs => Nx rfl _ w) (fun w hs => ⟨(v105, vd), rfl, Al (Dh hl hlw (hs.pick pkk))⟩)
    ·
     refine Dv ?_
     refine dn8 ?_
     refine djc (fun _ _ => Af rfl rfl (Ak (by omega))) ?_
     refine djc (fun _ _ => Cx) ?_
     refine dn1 ?_
     refine djc (fun _ _ => Em) ?_
     refine dnl ?_; intro ρ
     refine Glc ?_
     refine kp [0, 1, 96, 97, 98, 99, 100, 101, 102, 103, 104] ?_
     refine Dv ?_
     refine dn9 ?_
     refine dtl ?_; intro ρ
     refine Aq Try.call82 rfl (fun w hs => Ef (vL := vL) (vd := vd) (q := q) (id := id) (home := home) (ms := ms) (kind := 10) (line := m.line) (serial := 0) (turn := m.turn) (value := 0) (LX := foc 82 vL ls m.line.toNat [vi l.state, vi l.value, vi l.want, vi l.serial, vi l.seen, vi l.gave, vi l.given] :: row 84 vd ds :: blk bm 42 m.cells :: LX) (Al hs) hn (by unfold Msg.wf Am; simp only; omega)) ?_; intro v105
     refine Gl ?_
     have er : (Ad ⟨ls, q⟩ id home m) = (⟨ls, q⟩, [A5 10 id home m.line m.turn 0], []) := by rw [H3 hl hi hk, if_neg (by omega), if_neg (fun h => hc h.1)]
     rw [er, List.append_nil]
     refine Co (.inl rfl) (fun B w hs => Nx rfl _ w) (fun w hs => ⟨(v105, vd), rfl, Al (Dh hl hlw (hs.pick pkk))⟩)
end Go.Proofs.Ytofgpimoekhfaaa

/- This file proves what the program's core hears. No conditions. -/
set_option linter.unusedVariables false
set_option linter.unusedSimpArgs false
set_option maxHeartbeats 1000000
set_option maxRecDepth 8000
namespace Go.Proofs.Ytofgpimoekhfaaa
open Go
section
variable {ls : List Line} {q : Op} {id home : Int} {m : Msg} {l : Line}
theorem Lv (hl : ls.getD m.line.toNat zLine = l) (hi : 0 ≤ m.line ∧ m.line < (ls.length : Int)) (hk : m.kind = 4) : Ad ⟨ls, q⟩ id home m = (⟨ls.set m.line.toNat (Bh l m.turn), q⟩, [A5 8 id home m.line m.turn 0], []) := by
 subst hl
 unfold Ad
 rw [if_neg (by simp only; omega), if_pos hk]; rfl
theorem M7 (hl : ls.getD m.line.toNat zLine = l) (hi : 0 ≤ m.line ∧ m.line < (ls.length : Int)) (hk : m.kind = 11) : Ad ⟨ls, q⟩ id home m = (if l.want = 3 ∧ m.serial = l.serial then (⟨ls.set m.line.toNat { l with state := 0, value := 0, want := 0 }, zOp⟩, [], [⟨id, q, 0⟩]) else (⟨ls, q⟩, [], [])) := by
  subst hl
  unfold Ad
  rw [if_neg (by simp only; omega), if_neg (by omega), if_neg (by omega), if_neg (by omega)]
  by_cases h : (ls.getD m.line.toNat zLine).want = 3 ∧ m.serial = (ls.getD m.line.toNat zLine).serial
  · rw [if_pos h, if_pos ⟨hk, h⟩]; rfl
  · rw [if_neg h, if_neg (fun g => h g.2)]
theorem Tw (hi : 0 ≤ m.line ∧ m.line < (ls.length : Int)) (hk : m.kind ≠ 4 ∧ m.kind ≠ 5 ∧ m.kind ≠ 6 ∧ m.kind ≠ 7 ∧ m.kind ≠ 11) : Ad ⟨ls, q⟩ id home m = (⟨ls, q⟩, [], []) := by
 unfold Ad
 rw [if_neg (by simp only; omega), if_neg (by omega), if_neg (by omega), if_neg (by omega), if_neg (by omega)]
end
structure KH (c : Core) : Prop where
 n : c.lines.length ≤ 4
 w : CW c c.lines.length
theorem KB.kh {c : Core} (h : KB c) : KH c := ⟨h.n, h.w⟩
theorem KH.wline {c : Core} (h : KH c) (i : Int) (h0 : 0 ≤ i) (hi : i.toNat < c.lines.length) (hw : (Ac c i).want ≠ 0) : c.wait.line = i ∧ (1 ≤ c.wait.kind ∧ c.wait.kind ≤ 4) ∧ 0 ≤ c.wait.value ∧ c.wait.value ≤ 255 := by
  have hb := h.w.busy (fun h0 => hw ((h.w.free h0).2 i.toNat hi))
  have h1 := hb.2.2.2 i.toNat hi
  by_cases e : (i.toNat : Int) = c.wait.line
  · exact ⟨by omega, hb.1, hb.2.2.1⟩
  · rw [if_neg e] at h1; exact absurd h1 hw
theorem KH.wwf {c : Core} (h : KH c) : c.wait.wf := by
  by_cases h0 : c.wait.kind = 0
  · rw [(h.w.free h0).1]; unfold Op.wf Am; decide
  · have hb := h.w.busy h0
    have := h.n
    unfold Op.wf Am; omega
theorem Tv (c : Core) (id home : Int) (m : Msg) : (Ad c id home m).1.lines.length = c.lines.length := by
 unfold Ad
 repeat' split
 all_goals first | rfl | exact List.length_set
theorem KH.hear {c : Core} (h : KH c) (id home : Int) (m : Msg) : KH (Ad c id home m).1 := by
  have n' := Tv c id home m
  refine ⟨by rw [n']; exact h.n, ?_⟩
  rw [n']; clear n'
  by_cases o : m.line < 0 ∨ (c.lines.length : Int) ≤ m.line
  · unfold Ad; rw [if_pos o]; exact h.w
  obtain ⟨i, hi⟩ := Int.eq_ofNat_of_zero_le (show 0 ≤ m.line by omega)
  have hil : i < c.lines.length := by omega
  have hz : (Ac c m.line).want ≠ 0 → c.wait.line = (i : Int) := fun hw => by rw [(h.wline m.line (by omega) (by omega) hw).1, hi]
  have hla : Ac c m.line = c.lines.getD i zLine := by unfold Ac; rw [hi]; rfl
  unfold Ad; rw [if_neg o]
  generalize Ac c m.line = l at hz hla
  rw [hi]
  split
  · refine L0 rfl h.w hil ?_
    rw [← hla]; unfold Bh; split <;> (try split) <;> rfl
  split
  · split
    · by_cases e : l.want = 3
      · rw [if_pos e]
        refine Gd rfl h.w hil (.inr (hz (by omega))) ?_
        unfold Bq; rw [if_pos e]
      · rw [if_neg e]
        refine L0 rfl h.w hil ?_
        rw [← hla]; unfold Bq; rw [if_neg e]; split <;> rfl
    split <;> exact h.w
  split
  · split
    · exact h.w
    split
    · rename_i a
      exact Gd rfl h.w hil (.inr (hz (by unfold Er at a; omega))) rfl
    · exact h.w
  split
  · rename_i a
    exact Gd rfl h.w hil (.inr (hz (by omega))) rfl
  · exact h.w
theorem open_l {P : Program} {n : Nat} {Q : Exit → Act → World → Prop} {L : List Chunk} {R : List Fact} {al : List (Nat × Value)} {cd : Code} {v : Value} {ls : List Line} {l : Line} {i : Int} (hl : ls.getD i.toNat zLine = l) (hm : sl v ls ∈ R) (h0 : 0 ≤ i) (hi : i < (ls.length : Int)) (k : l.wf → JC P n cd Q L (cF v 7 i.toNat l.cells :: R) al) : JC P n cd Q L R al := by
 subst hl
 exact JC.open0 (xs := ls) i.toNat hm (by omega) k
theorem R5 {L : List Chunk} {R : List Fact} {w : World} {u : Value} {ls : List Line} {q : Op} {l : Line} {id home : Int} {m : Msg} (hs : St (L) R w) (hu : sl u ls ∈ R) (hk : KH ⟨ls, q⟩) (hid : Am id) (hhome : Am home) (hm : m.wf) (hl : ls.getD m.line.toNat zLine = l) (hg : m.line < 0 ∨ (ls.length : Int) ≤ m.line) : Calls Try.prog 46 [.agg (Core.cells u ⟨ls, q⟩).toArray, vi id, vi home, .agg m.cells.toArray].toArray w (Ch (fun v : Value × Value × Value => .tuple #[.agg (Core.cells v.1 (Ad ⟨ls, q⟩ id home m).1).toArray, v.2.1, v.2.2]) (fun v => L) (fun v => sl v.1 (Ad ⟨ls, q⟩ id home m).1.lines :: sl v.2.1 (Ad ⟨ls, q⟩ id home m).2.1 :: sl v.2.2 (Ad ⟨ls, q⟩ id home m).2.2 :: R)) := by
  have hlen := Bk hu hs
  have hone0 : u.oneCell' = true := isSlice.one (hs.fact hu)
  have hn4 : ls.length ≤ 4 := hk.n
  have hm0 := hm
  unfold Msg.wf Am at hm0
  have hid0 := hid
  have hhome0 := hhome
  unfold Am at hid0 hhome0
  refine Aj Try.func46 rfl Try.ntmps46 rfl hs ?_
  clear hs
  refine Gm ?_
  refine bx ?_; intro b4
  refine bx ?_; intro b7
  refine al_ (cs := [.slice none 0 0, vi 0, vi 0, vi 0]) Try.zeroValue69 ?_; intro b8
  refine Gb2 ?_
  refine rn1 ?_
  refine Aq Try.call43 rfl (fun w hs => Fp (u := u) (c := ⟨ls, q⟩) hs mm) ?_; intro vL
  refine J.know (p := vL.oneCell' = true) (fun w hs => De .hd hs) (fun honeV => ?_)
  refine rn3 ?_
  refine bx ?_; intro b18
  refine Ga1 ?_
  refine cq_ (row 82 vL ls :: blk b18 115 [vL, vi q.kind, vi q.line, vi q.value, vi id, vi home, .slice none 0 0, .slice none 0 0] :: blk b8 69 [.slice none 0 0, vi 0, vi 0, vi 0] :: blk b7 42 m.cells :: blk b4 69 [u, vi q.kind, vi q.line, vi q.value] :: L) ?_
  rcases (show (m.line < 0) ∨ (¬ m.line < 0 ∧ (ls.length : Int) ≤ m.line) from by omega) with hc | hc
  ·
   refine Aa ?_
   refine rn2 ?_
   refine ob (Af rfl rfl (Bt (by omega))) ?_
   refine Gc8 ?_
   refine JC.shut (v := vL) (xs := ls) .hd ?_
   refine JC.slNil Msg ?_
   refine JC.slNil Done ?_
   refine Aa ?_
   refine rn3 ?_
   refine ob (Dy 4 Try.isAgg69 Try.sizeOf69) ?_
   refine s_B (cs := [vL, vi q.kind, vi q.line, vi q.value]) Try.sizeOf69 ?_
   refine Ga2 ?_
   have er : (Ad ⟨ls, q⟩ id home m) = (⟨ls, q⟩, [], []) := Jl hg
   rw [er]
   exact Cg (vL, .slice none 0 0, .slice none 0 0) Try.isAgg69 Try.sizeOf69
  ·
   refine Aa ?_
   refine rn2 ?_
   refine ob (Af rfl rfl (An (by omega))) ?_
   refine rn6 ?_
   refine gy ?_
   refine ob (Af rfl rfl (Cv (by omega))) ?_
   refine Gc1 ?_
   refine JC.shut (v := vL) (xs := ls) .hd ?_
   refine JC.slNil Msg ?_
   refine JC.slNil Done ?_
   refine Aa ?_
   refine rn3 ?_
   refine ob (Dy 4 Try.isAgg69 Try.sizeOf69) ?_
   refine s_B (cs := [vL, vi q.kind, vi q.line, vi q.value]) Try.sizeOf69 ?_
   refine Ga2 ?_
   have er : (Ad ⟨ls, q⟩ id home m) = (⟨ls, q⟩, [], []) := Jl hg
   rw [er]
   exact Cg (vL, .slice none 0 0, .slice none 0 0) Try.isAgg69 Try.sizeOf69
theorem R4 {L : List Chunk} {R : List Fact} {w : World} {u : Value} {ls : List Line} {q : Op} {l : Line} {id home : Int} {m : Msg} (hs : St (L) R w) (hu : sl u ls ∈ R) (hk : KH ⟨ls, q⟩) (hid : Am id) (hhome : Am home) (hm : m.wf) (hl : ls.getD m.line.toNat zLine = l) (hg : 0 ≤ m.line ∧ m.line < (ls.length : Int) ∧ m.kind = 4) : Calls Try.prog 46 [.agg (Core.cells u ⟨ls, q⟩).toArray, vi id, vi home, .agg m.cells.toArray].toArray w (Ch (fun v : Value × Value × Value => .tuple #[.agg (Core.cells v.1 (Ad ⟨ls, q⟩ id home m).1).toArray, v.2.1, v.2.2]) (fun v => L) (fun v => sl v.1 (Ad ⟨ls, q⟩ id home m).1.lines :: sl v.2.1 (Ad ⟨ls, q⟩ id home m).2.1 :: sl v.2.2 (Ad ⟨ls, q⟩ id home m).2.2 :: R)) := by
  have hlen := Bk hu hs
  have hone0 : u.oneCell' = true := isSlice.one (hs.fact hu)
  have hn4 : ls.length ≤ 4 := hk.n
  have hm0 := hm
  unfold Msg.wf Am at hm0
  have hid0 := hid
  have hhome0 := hhome
  unfold Am at hid0 hhome0
  refine Aj Try.func46 rfl Try.ntmps46 rfl hs ?_
  clear hs
  refine Gm ?_
  refine bx ?_; intro b4
  refine bx ?_; intro b7
  refine al_ (cs := [.slice none 0 0, vi 0, vi 0, vi 0]) Try.zeroValue69 ?_; intro b8
  refine Gb2 ?_
  refine rn1 ?_
  refine Aq Try.call43 rfl (fun w hs => Fp (u := u) (c := ⟨ls, q⟩) hs mm) ?_; intro vL
  refine J.know (p := vL.oneCell' = true) (fun w hs => De .hd hs) (fun honeV => ?_)
  refine rn3 ?_
  refine bx ?_; intro b18
  refine Ga1 ?_
  refine cq_ (row 82 vL ls :: blk b18 115 [vL, vi q.kind, vi q.line, vi q.value, vi id, vi home, .slice none 0 0, .slice none 0 0] :: blk b8 69 [.slice none 0 0, vi 0, vi 0, vi 0] :: blk b7 42 m.cells :: blk b4 69 [u, vi q.kind, vi q.line, vi q.value] :: L) ?_
  refine Aa ?_
  refine rn2 ?_
  refine ob (Af rfl rfl (An (by omega))) ?_
  refine rn6 ?_
  refine gy ?_
  refine ob (Af rfl rfl (A4 (by omega))) ?_
  refine Gc1 ?_
  refine F7 (ls := ls) (l := l) (i := m.line) pkk hl (by omega) (by omega) (fun hlw hA => ?_)
  have hlw0 := hlw
  unfold Line.wf Am at hlw0
  have honeL : (ep vL 7 m.line.toNat 0).oneCell' = true := hA.one
  refine Dv ?_
  refine dn7 ?_
  refine dj ?_
  refine dc (fun _ _ => J1 (v := vL) (i := m.line) Ja (hl := E4 (α := Line) (xs := ls) pkk)) ?_
  refine djc (fun _ _ => Db) ?_
  refine dnl ?_; intro ρ
  refine Gl ?_
  refine kp [1, 7, 8, 9, 10, 11, 12, 42, 43] ?_
  refine Aa ?_
  refine Gb2 ?_
  refine ob (Af rfl rfl (As (by omega))) ?_
  refine Gc1 ?_
  refine Dv ?_
  refine dn7 ?_
  refine dnl ?_; intro ρ
  refine Gl ?_
  refine cdx (p := ?p1) (hd := ?d1) ?e1 ?_ ?_; case e1 => exact rfl
  ·
   intro ht52
   refine Gm ?_
   refine rn5 ?_
   refine sc ?_
   refine Gm ?_
   refine Ga5 ?_
   refine cdx (p := ?p2) (hd := ?d2) ?e2 ?_ ?_; case e2 => exact rfl
   ·
    intro ht62
    refine Aa ?_
    refine rn4 ?_
    refine sc ?_
    refine rn2 ?_
    refine sc ?_
    refine Gl ?_
    refine JC.rowNil 42 Msg ?_
    refine Aa ?_
    refine rn5 ?_
    refine Aq Try.call82 rfl (fun w hs => Ef (vL := vL) (vd := .slice none 0 0) (q := q) (id := id) (home := home) (ms := []) (kind := 8) (line := m.line) (serial := 0) (turn := m.turn) (value := 0) (LX := foc 82 vL ls m.line.toNat [vi 0, vi 0, vi l.want, vi l.serial, vi m.turn, vi l.gave, vi l.given] :: blk b8 69 [.slice none 0 0, vi 0, vi 0, vi 0] :: L) (Al hs) (by simp) (by unfold Msg.wf Am; simp only; omega)) ?_; intro v74
    refine Gl ?_
    refine JC.conseq (L' := row 82 vL (ls.set m.line.toNat ({ l with seen := m.turn, state := 0, value := 0 })) :: blk b18 115 [vL, vi q.kind, vi q.line, vi q.value, vi id, vi home, v74, .slice none 0 0] :: row 42 v74 [A5 8 id home m.line m.turn 0] :: blk b8 69 [.slice none 0 0, vi 0, vi 0, vi 0] :: L) (fun w hs => Al (C2 ({ l with seen := m.turn, state := 0, value := 0 }) (by unfold Line.wf Am; simp only; omega) (hs.pick pkk))) ?_
    refine JC.shut (v := vL) (xs := (ls.set m.line.toNat ({ l with seen := m.turn, state := 0, value := 0 }))) .hd ?_
    refine JC.shut (v := v74) (xs := [A5 8 id home m.line m.turn 0]) pkk ?_
    refine JC.slNil Done ?_
    refine kp [8, 9, 10, 11, 130, 131, 132, 133, 134, 135, 136, 137, 138, 139, 140, 141] ?_
    refine cq_ (blk b8 69 [.slice none 0 0, vi 0, vi 0, vi 0] :: blk b18 115 [vL, vi q.kind, vi q.line, vi q.value, vi id, vi home, v74, .slice none 0 0] :: L) ?_
    refine jd_ (fun ρ S => blk b8 69 (bif S 12 then [vL, vi q.kind, vi q.line, vi q.value] else [.slice none 0 0, vi 0, vi 0, vi 0]) :: blk b18 115 [vL, vi q.kind, vi q.line, vi q.value, vi id, vi home, v74, .slice none 0 0] :: L) ?_
    refine dn3 ?_
    refine Jn (v := .agg ([vL, vi q.kind, vi q.line, vi q.value]).toArray) (fun _ _ => Dy (b := b18) (f := 0) (vs := [vL, vi q.kind, vi q.line, vi q.value, vi id, vi home, v74, .slice none 0 0]) 4 Try.isAgg69 Try.sizeOf69) (fun _ _ _ _ _ => rfl) ?_
    refine dn8 ?_
    refine es_ 69 0 [] [] (fun ρ => b8) (fun ρ => [.slice none 0 0, vi 0, vi 0, vi 0]) (fun ρ => [vL, vi q.kind, vi q.line, vi q.value]) Try.sizeOf69 ?_
    refine dn2 ?_
    refine dnl ?_; intro ρ
    refine xq_ (blk b8 69 [vL, vi q.kind, vi q.line, vi q.value] :: blk b18 115 [vL, vi q.kind, vi q.line, vi q.value, vi id, vi home, v74, .slice none 0 0] :: L) ?_
    refine Gl ?_
    have eh : Bh l m.turn = { l with seen := m.turn, state := 0, value := 0 } := by unfold Bh; rw [if_pos (by omega), if_pos (by omega)]
    have er : (Ad ⟨ls, q⟩ id home m) = (⟨ls.set m.line.toNat ({ l with seen := m.turn, state := 0, value := 0 }), q⟩, [A5 8 id home m.line m.turn 0], []) := by rw [Lv hl (by omega) (by omega), eh]
    rw [er]
    exact Cg (vL, v74, .slice none 0 0) Try.isAgg69 Try.sizeOf69
   ·
    intro ht62
    refine Gl ?_
    refine JC.rowNil 42 Msg ?_
    refine Aa ?_
    refine rn5 ?_
    refine Aq Try.call82 rfl (fun w hs => Ef (vL := vL) (vd := .slice none 0 0) (q := q) (id := id) (home := home) (ms := []) (kind := 8) (line := m.line) (serial := 0) (turn := m.turn) (value := 0) (LX := foc 82 vL ls m.line.toNat [vi l.state, vi l.value, vi l.want, vi l.serial, vi m.turn, vi l.gave, vi l.given] :: blk b8 69 [.slice none 0 0, vi 0, vi 0, vi 0] :: L) (Al hs) (by simp) (by unfold Msg.wf Am; simp only; omega)) ?_; intro v74
    refine Gl ?_
    refine JC.conseq (L' := row 82 vL (ls.set m.line.toNat ({ l with seen := m.turn })) :: blk b18 115 [vL, vi q.kind, vi q.line, vi q.value, vi id, vi home, v74, .slice none 0 0] :: row 42 v74 [A5 8 id home m.line m.turn 0] :: blk b8 69 [.slice none 0 0, vi 0, vi 0, vi 0] :: L) (fun w hs => Al (C2 ({ l with seen := m.turn }) (by unfold Line.wf Am; simp only; omega) (hs.pick pkk))) ?_
    refine JC.shut (v := vL) (xs := (ls.set m.line.toNat ({ l with seen := m.turn }))) .hd ?_
    refine JC.shut (v := v74) (xs := [A5 8 id home m.line m.turn 0]) pkk ?_
    refine JC.slNil Done ?_
    refine cq_ (blk b8 69 [.slice none 0 0, vi 0, vi 0, vi 0] :: blk b18 115 [vL, vi q.kind, vi q.line, vi q.value, vi id, vi home, v74, .slice none 0 0] :: L) ?_
    refine jd_ (fun ρ S => blk b8 69 (bif S 12 then [vL, vi q.kind, vi q.line, vi q.value] else [.slice none 0 0, vi 0, vi 0, vi 0]) :: blk b18 115 [vL, vi q.kind, vi q.line, vi q.value, vi id, vi home, v74, .slice none 0 0] :: L) ?_
    refine dn3 ?_
    refine Jn (v := .agg ([vL, vi q.kind, vi q.line, vi q.value]).toArray) (fun _ _ => Dy (b := b18) (f := 0) (vs := [vL, vi q.kind, vi q.line, vi q.value, vi id, vi home, v74, .slice none 0 0]) 4 Try.isAgg69 Try.sizeOf69) (fun _ _ _ _ _ => rfl) ?_
    refine dn8 ?_
    refine es_ 69 0 [] [] (fun ρ => b8) (fun ρ => [.slice none 0 0, vi 0, vi 0, vi 0]) (fun ρ => [vL, vi q.kind, vi q.line, vi q.value]) Try.sizeOf69 ?_
    refine dn2 ?_
    refine dnl ?_; intro ρ
    refine xq_ (blk b8 69 [vL, vi q.kind, vi q.line, vi q.value] :: blk b18 115 [vL, vi q.kind, vi q.line, vi q.value, vi id, vi home, v74, .slice none 0 0] :: L) ?_
    refine Gl ?_
    have eh : Bh l m.turn = { l with seen := m.turn } := by unfold Bh; rw [if_pos (by omega), if_neg (by omega)]
    have er : (Ad ⟨ls, q⟩ id home m) = (⟨ls.set m.line.toNat ({ l with seen := m.turn }), q⟩, [A5 8 id home m.line m.turn 0], []) := by rw [Lv hl (by omega) (by omega), eh]
    rw [er]
    exact Cg (vL, v74, .slice none 0 0) Try.isAgg69 Try.sizeOf69
  ·
   intro ht52
   refine Gl ?_
   refine JC.rowNil 42 Msg ?_
   refine Aa ?_
   refine rn5 ?_
   refine Aq Try.call82 rfl (fun w hs => Ef (vL := vL) (vd := .slice none 0 0) (q := q) (id := id) (home := home) (ms := []) (kind := 8) (line := m.line) (serial := 0) (turn := m.turn) (value := 0) (LX := foc 82 vL ls m.line.toNat [vi l.state, vi l.value, vi l.want, vi l.serial, vi l.seen, vi l.gave, vi l.given] :: blk b8 69 [.slice none 0 0, vi 0, vi 0, vi 0] :: L) (Al hs) (by simp) (by unfold Msg.wf Am; simp only; omega)) ?_; intro v74
   refine Gl ?_
   refine JC.conseq (L' := row 82 vL ls :: blk b18 115 [vL, vi q.kind, vi q.line, vi q.value, vi id, vi home, v74, .slice none 0 0] :: row 42 v74 [A5 8 id home m.line m.turn 0] :: blk b8 69 [.slice none 0 0, vi 0, vi 0, vi 0] :: L) (fun w hs => Al (Dh hl hlw (hs.pick pkk))) ?_
   refine JC.shut (v := vL) (xs := ls) .hd ?_
   refine JC.shut (v := v74) (xs := [A5 8 id home m.line m.turn 0]) pkk ?_
   refine JC.slNil Done ?_
   refine cq_ (blk b8 69 [.slice none 0 0, vi 0, vi 0, vi 0] :: blk b18 115 [vL, vi q.kind, vi q.line, vi q.value, vi id, vi home, v74, .slice none 0 0] :: L) ?_
   refine jd_ (fun ρ S => blk b8 69 (bif S 12 then [vL, vi q.kind, vi q.line, vi q.value] else [.slice none 0 0, vi 0, vi 0, vi 0]) :: blk b18 115 [vL, vi q.kind, vi q.line, vi q.value, vi id, vi home, v74, .slice none 0 0] :: L) ?_
   refine dn3 ?_
   refine Jn (v := .agg ([vL, vi q.kind, vi q.line, vi q.value]).toArray) (fun _ _ => Dy (b := b18) (f := 0) (vs := [vL, vi q.kind, vi q.line, vi q.value, vi id, vi home, v74, .slice none 0 0]) 4 Try.isAgg69 Try.sizeOf69) (fun _ _ _ _ _ => rfl) ?_
   refine dn8 ?_
   refine es_ 69 0 [] [] (fun ρ => b8) (fun ρ => [.slice none 0 0, vi 0, vi 0, vi 0]) (fun ρ => [vL, vi q.kind, vi q.line, vi q.value]) Try.sizeOf69 ?_
   refine dn2 ?_
   refine dnl ?_; intro ρ
   refine xq_ (blk b8 69 [vL, vi q.kind, vi q.line, vi q.value] :: blk b18 115 [vL, vi q.kind, vi q.line, vi q.value, vi id, vi home, v74, .slice none 0 0] :: L) ?_
   refine Gl ?_
   have eh : Bh l m.turn = l := by unfold Bh; rw [if_neg (by omega)]
   have er : (Ad ⟨ls, q⟩ id home m) = (⟨ls, q⟩, [A5 8 id home m.line m.turn 0], []) := by rw [Lv hl (by omega) (by omega), eh, ← hl, Je]
   rw [er]
   exact Cg (vL, v74, .slice none 0 0) Try.isAgg69 Try.sizeOf69
theorem R3 {L : List Chunk} {R : List Fact} {w : World} {u : Value} {ls : List Line} {q : Op} {l : Line} {id home : Int} {m : Msg} (hs : St (L) R w) (hu : sl u ls ∈ R) (hk : KH ⟨ls, q⟩) (hid : Am id) (hhome : Am home) (hm : m.wf) (hl : ls.getD m.line.toNat zLine = l) (hg : 0 ≤ m.line ∧ m.line < (ls.length : Int) ∧ m.kind = 5) : Calls Try.prog 46 [.agg (Core.cells u ⟨ls, q⟩).toArray, vi id, vi home, .agg m.cells.toArray].toArray w (Ch (fun v : Value × Value × Value => .tuple #[.agg (Core.cells v.1 (Ad ⟨ls, q⟩ id home m).1).toArray, v.2.1, v.2.2]) (fun v => L) (fun v => sl v.1 (Ad ⟨ls, q⟩ id home m).1.lines :: sl v.2.1 (Ad ⟨ls, q⟩ id home m).2.1 :: sl v.2.2 (Ad ⟨ls, q⟩ id home m).2.2 :: R)) := by
 have hlen := Bk hu hs
 have hone0 : u.oneCell' = true := isSlice.one (hs.fact hu)
 have hn4 : ls.length ≤ 4 := hk.n
 have hm0 := hm
 unfold Msg.wf Am at hm0
 have hid0 := hid
 have hhome0 := hhome
 unfold Am at hid0 hhome0
 refine Aj Try.func46 rfl Try.ntmps46 rfl hs ?_
 clear hs
 refine Gm ?_
 refine bx ?_; intro b4
 refine bx ?_; intro b7
 refine al_ (cs := [.slice none 0 0, vi 0, vi 0, vi 0]) Try.zeroValue69 ?_; intro b8
 refine Gb2 ?_
 refine rn1 ?_
 refine Aq Try.call43 rfl (fun w hs => Fp (u := u) (c := ⟨ls, q⟩) hs mm) ?_; intro vL
 refine J.know (p := vL.oneCell' = true) (fun w hs => De .hd hs) (fun honeV => ?_)
 refine rn3 ?_
 refine bx ?_; intro b18
 refine Ga1 ?_
 refine cq_ (row 82 vL ls :: blk b18 115 [vL, vi q.kind, vi q.line, vi q.value, vi id, vi home, .slice none 0 0, .slice none 0 0] :: blk b8 69 [.slice none 0 0, vi 0, vi 0, vi 0] :: blk b7 42 m.cells :: blk b4 69 [u, vi q.kind, vi q.line, vi q.value] :: L) ?_
 refine Aa ?_
 refine rn2 ?_
 refine ob (Af rfl rfl (An (by omega))) ?_
 refine rn6 ?_
 refine gy ?_
 refine ob (Af rfl rfl (A4 (by omega))) ?_
 refine Gc1 ?_
 refine Dv ?_
 refine dn9 ?_
 refine dnl ?_; intro ρ
 refine Gl ?_
 refine kp [1, 7, 8, 9, 10, 11, 12, 42, 43] ?_
 refine Aa ?_
 refine Gb2 ?_
 refine ob (Af rfl rfl (Ak (by omega))) ?_
 refine Gd1 ?_
 refine ob (Af rfl rfl (As (by omega))) ?_
 refine Gc1 ?_
 refine JC.rowNil 42 Msg ?_
 refine JC.rowNil 84 Done ?_
 have hkd : m.kind = 5 ∨ m.kind = 6 := by omega
 refine Aa ?_
 refine rn1 ?_
 refine Aq Try.call83 rfl (fun w hs => Nj (vL := vL) (vo := .slice none 0 0) (vd := .slice none 0 0) (bk := b18) (bm := b7) (q := q) (id := id) (home := home) (ls := ls) (l := l) (ms := []) (ds := []) (m := m) (LX := blk b8 69 [.slice none 0 0, vi 0, vi 0, vi 0] :: L) (Al hs) hl (by omega) (by omega) hm hid hhome (by simp) (by simp) hk.wwf hkd) ?_; intro ⟨g1, g2⟩
 refine J.conseq (L' := blk b18 115 [vL, vi (Ad ⟨ls, q⟩ id home m).1.wait.kind, vi (Ad ⟨ls, q⟩ id home m).1.wait.line, vi (Ad ⟨ls, q⟩ id home m).1.wait.value, vi id, vi home, g1, g2] :: row 82 vL (Ad ⟨ls, q⟩ id home m).1.lines :: row 42 g1 (Ad ⟨ls, q⟩ id home m).2.1 :: row 84 g2 (Ad ⟨ls, q⟩ id home m).2.2 :: blk b8 69 [.slice none 0 0, vi 0, vi 0, vi 0] :: L) (fun w hs => by rw [List.nil_append, List.nil_append] at hs; exact Al hs) ?_
 refine Gl ?_
 refine cq_ (row 82 vL (Ad ⟨ls, q⟩ id home m).1.lines :: blk b18 115 [vL, vi (Ad ⟨ls, q⟩ id home m).1.wait.kind, vi (Ad ⟨ls, q⟩ id home m).1.wait.line, vi (Ad ⟨ls, q⟩ id home m).1.wait.value, vi id, vi home, g1, g2] :: row 42 g1 (Ad ⟨ls, q⟩ id home m).2.1 :: row 84 g2 (Ad ⟨ls, q⟩ id home m).2.2 :: blk b8 69 [.slice none 0 0, vi 0, vi 0, vi 0] :: L) ?_
 refine JC.shut (v := vL) (xs := (Ad ⟨ls, q⟩ id home m).1.lines) .hd ?_
 refine JC.shut (v := g1) (xs := (Ad ⟨ls, q⟩ id home m).2.1) pkk ?_
 refine JC.shut (v := g2) (xs := (Ad ⟨ls, q⟩ id home m).2.2) pkk ?_
 refine cq_ (blk b8 69 [.slice none 0 0, vi 0, vi 0, vi 0] :: blk b18 115 [vL, vi (Ad ⟨ls, q⟩ id home m).1.wait.kind, vi (Ad ⟨ls, q⟩ id home m).1.wait.line, vi (Ad ⟨ls, q⟩ id home m).1.wait.value, vi id, vi home, g1, g2] :: L) ?_
 refine jd_ (fun ρ S => blk b8 69 (bif S 12 then [vL, vi (Ad ⟨ls, q⟩ id home m).1.wait.kind, vi (Ad ⟨ls, q⟩ id home m).1.wait.line, vi (Ad ⟨ls, q⟩ id home m).1.wait.value] else [.slice none 0 0, vi 0, vi 0, vi 0]) :: blk b18 115 [vL, vi (Ad ⟨ls, q⟩ id home m).1.wait.kind, vi (Ad ⟨ls, q⟩ id home m).1.wait.line, vi (Ad ⟨ls, q⟩ id home m).1.wait.value, vi id, vi home, g1, g2] :: L) ?_
 refine dn3 ?_
 refine Jn (v := .agg ([vL, vi (Ad ⟨ls, q⟩ id home m).1.wait.kind, vi (Ad ⟨ls, q⟩ id home m).1.wait.line, vi (Ad ⟨ls, q⟩ id home m).1.wait.value]).toArray) (fun _ _ => Dy (b := b18) (f := 0) (vs := [vL, vi (Ad ⟨ls, q⟩ id home m).1.wait.kind, vi (Ad ⟨ls, q⟩ id home m).1.wait.line, vi (Ad ⟨ls, q⟩ id home m).1.wait.value, vi id, vi home, g1, g2]) 4 Try.isAgg69 Try.sizeOf69) (fun _ _ _ _ _ => rfl) ?_
 refine dn8 ?_
 refine es_ 69 0 [] [] (fun ρ => b8) (fun ρ => [.slice none 0 0, vi 0, vi 0, vi 0]) (fun ρ => [vL, vi (Ad ⟨ls, q⟩ id home m).1.wait.kind, vi (Ad ⟨ls, q⟩ id home m).1.wait.line, vi (Ad ⟨ls, q⟩ id home m).1.wait.value]) Try.sizeOf69 ?_
 refine dn2 ?_
 refine dnl ?_; intro ρ
 refine xq_ (blk b8 69 [vL, vi (Ad ⟨ls, q⟩ id home m).1.wait.kind, vi (Ad ⟨ls, q⟩ id home m).1.wait.line, vi (Ad ⟨ls, q⟩ id home m).1.wait.value] :: blk b18 115 [vL, vi (Ad ⟨ls, q⟩ id home m).1.wait.kind, vi (Ad ⟨ls, q⟩ id home m).1.wait.line, vi (Ad ⟨ls, q⟩ id home m).1.wait.value, vi id, vi home, g1, g2] :: L) ?_
 refine Gl ?_
 exact Cg (vL, g1, g2) Try.isAgg69 Try.sizeOf69
theorem Rz {L : List Chunk} {R : List Fact} {w : World} {u : Value} {ls : List Line} {q : Op} {l : Line} {id home : Int} {m : Msg} (hs : St (L) R w) (hu : sl u ls ∈ R) (hk : KH ⟨ls, q⟩) (hid : Am id) (hhome : Am home) (hm : m.wf) (hl : ls.getD m.line.toNat zLine = l) (hg : 0 ≤ m.line ∧ m.line < (ls.length : Int) ∧ m.kind = 6) : Calls Try.prog 46 [.agg (Core.cells u ⟨ls, q⟩).toArray, vi id, vi home, .agg m.cells.toArray].toArray w (Ch (fun v : Value × Value × Value => .tuple #[.agg (Core.cells v.1 (Ad ⟨ls, q⟩ id home m).1).toArray, v.2.1, v.2.2]) (fun v => L) (fun v => sl v.1 (Ad ⟨ls, q⟩ id home m).1.lines :: sl v.2.1 (Ad ⟨ls, q⟩ id home m).2.1 :: sl v.2.2 (Ad ⟨ls, q⟩ id home m).2.2 :: R)) := by
 have hlen := Bk hu hs
 have hone0 : u.oneCell' = true := isSlice.one (hs.fact hu)
 have hn4 : ls.length ≤ 4 := hk.n
 have hm0 := hm
 unfold Msg.wf Am at hm0
 have hid0 := hid
 have hhome0 := hhome
 unfold Am at hid0 hhome0
 refine Aj Try.func46 rfl Try.ntmps46 rfl hs ?_
 clear hs
 refine Gm ?_
 refine bx ?_; intro b4
 refine bx ?_; intro b7
 refine al_ (cs := [.slice none 0 0, vi 0, vi 0, vi 0]) Try.zeroValue69 ?_; intro b8
 refine Gb2 ?_
 refine rn1 ?_
 refine Aq Try.call43 rfl (fun w hs => Fp (u := u) (c := ⟨ls, q⟩) hs mm) ?_; intro vL
 refine J.know (p := vL.oneCell' = true) (fun w hs => De .hd hs) (fun honeV => ?_)
 refine rn3 ?_
 refine bx ?_; intro b18
 refine Ga1 ?_
 refine cq_ (row 82 vL ls :: blk b18 115 [vL, vi q.kind, vi q.line, vi q.value, vi id, vi home, .slice none 0 0, .slice none 0 0] :: blk b8 69 [.slice none 0 0, vi 0, vi 0, vi 0] :: blk b7 42 m.cells :: blk b4 69 [u, vi q.kind, vi q.line, vi q.value] :: L) ?_
 refine Aa ?_
 refine rn2 ?_
 refine ob (Af rfl rfl (An (by omega))) ?_
 refine rn6 ?_
 refine gy ?_
 refine ob (Af rfl rfl (A4 (by omega))) ?_
 refine Gc1 ?_
 refine Dv ?_
 refine dn9 ?_
 refine dnl ?_; intro ρ
 refine Gl ?_
 refine kp [1, 7, 8, 9, 10, 11, 12, 42, 43] ?_
 refine Aa ?_
 refine Gb2 ?_
 refine ob (Af rfl rfl (Ak (by omega))) ?_
 refine Gd1 ?_
 refine ob (Af rfl rfl (Ak (by omega))) ?_
 refine Gd1 ?_
 refine ob (Af rfl rfl (As (by omega))) ?_
 refine Gc1 ?_
 refine JC.rowNil 42 Msg ?_
 refine JC.rowNil 84 Done ?_
 have hkd : m.kind = 5 ∨ m.kind = 6 := by omega
 refine Aa ?_
 refine rn1 ?_
 refine Aq Try.call83 rfl (fun w hs => Nj (vL := vL) (vo := .slice none 0 0) (vd := .slice none 0 0) (bk := b18) (bm := b7) (q := q) (id := id) (home := home) (ls := ls) (l := l) (ms := []) (ds := []) (m := m) (LX := blk b8 69 [.slice none 0 0, vi 0, vi 0, vi 0] :: L) (Al hs) hl (by omega) (by omega) hm hid hhome (by simp) (by simp) hk.wwf hkd) ?_; intro ⟨g1, g2⟩
 refine J.conseq (L' := blk b18 115 [vL, vi (Ad ⟨ls, q⟩ id home m).1.wait.kind, vi (Ad ⟨ls, q⟩ id home m).1.wait.line, vi (Ad ⟨ls, q⟩ id home m).1.wait.value, vi id, vi home, g1, g2] :: row 82 vL (Ad ⟨ls, q⟩ id home m).1.lines :: row 42 g1 (Ad ⟨ls, q⟩ id home m).2.1 :: row 84 g2 (Ad ⟨ls, q⟩ id home m).2.2 :: blk b8 69 [.slice none 0 0, vi 0, vi 0, vi 0] :: L) (fun w hs => by rw [List.nil_append, List.nil_append] at hs; exact Al hs) ?_
 refine Gl ?_
 refine cq_ (row 82 vL (Ad ⟨ls, q⟩ id home m).1.lines :: blk b18 115 [vL, vi (Ad ⟨ls, q⟩ id home m).1.wait.kind, vi (Ad ⟨ls, q⟩ id home m).1.wait.line, vi (Ad ⟨ls, q⟩ id home m).1.wait.value, vi id, vi home, g1, g2] :: row 42 g1 (Ad ⟨ls, q⟩ id home m).2.1 :: row 84 g2 (Ad ⟨ls, q⟩ id home m).2.2 :: blk b8 69 [.slice none 0 0, vi 0, vi 0, vi 0] :: L) ?_
 refine JC.shut (v := vL) (xs := (Ad ⟨ls, q⟩ id home m).1.lines) .hd ?_
 refine JC.shut (v := g1) (xs := (Ad ⟨ls, q⟩ id home m).2.1) pkk ?_
 refine JC.shut (v := g2) (xs := (Ad ⟨ls, q⟩ id home m).2.2) pkk ?_
 refine cq_ (blk b8 69 [.slice none 0 0, vi 0, vi 0, vi 0] :: blk b18 115 [vL, vi (Ad ⟨ls, q⟩ id home m).1.wait.kind, vi (Ad ⟨ls, q⟩ id home m).1.wait.line, vi (Ad ⟨ls, q⟩ id home m).1.wait.value, vi id, vi home, g1, g2] :: L) ?_
 refine jd_ (fun ρ S => blk b8 69 (bif S 12 then [vL, vi (Ad ⟨ls, q⟩ id home m).1.wait.kind, vi (Ad ⟨ls, q⟩ id home m).1.wait.line, vi (Ad ⟨ls, q⟩ id home m).1.wait.value] else [.slice none 0 0, vi 0, vi 0, vi 0]) :: blk b18 115 [vL, vi (Ad ⟨ls, q⟩ id home m).1.wait.kind, vi (Ad ⟨ls, q⟩ id home m).1.wait.line, vi (Ad ⟨ls, q⟩ id home m).1.wait.value, vi id, vi home, g1, g2] :: L) ?_
 refine dn3 ?_
 refine Jn (v := .agg ([vL, vi (Ad ⟨ls, q⟩ id home m).1.wait.kind, vi (Ad ⟨ls, q⟩ id home m).1.wait.line, vi (Ad ⟨ls, q⟩ id home m).1.wait.value]).toArray) (fun _ _ => Dy (b := b18) (f := 0) (vs := [vL, vi (Ad ⟨ls, q⟩ id home m).1.wait.kind, vi (Ad ⟨ls, q⟩ id home m).1.wait.line, vi (Ad ⟨ls, q⟩ id home m).1.wait.value, vi id, vi home, g1, g2]) 4 Try.isAgg69 Try.sizeOf69) (fun _ _ _ _ _ => rfl) ?_
 refine dn8 ?_
 refine es_ 69 0 [] [] (fun ρ => b8) (fun ρ => [.slice none 0 0, vi 0, vi 0, vi 0]) (fun ρ => [vL, vi (Ad ⟨ls, q⟩ id home m).1.wait.kind, vi (Ad ⟨ls, q⟩ id home m).1.wait.line, vi (Ad ⟨ls, q⟩ id home m).1.wait.value]) Try.sizeOf69 ?_
 refine dn2 ?_
 refine dnl ?_; intro ρ
 refine xq_ (blk b8 69 [vL, vi (Ad ⟨ls, q⟩ id home m).1.wait.kind, vi (Ad ⟨ls, q⟩ id home m).1.wait.line, vi (Ad ⟨ls, q⟩ id home m).1.wait.value] :: blk b18 115 [vL, vi (Ad ⟨ls, q⟩ id home m).1.wait.kind, vi (Ad ⟨ls, q⟩ id home m).1.wait.line, vi (Ad ⟨ls, q⟩ id home m).1.wait.value, vi id, vi home, g1, g2] :: L) ?_
 refine Gl ?_
 exact Cg (vL, g1, g2) Try.isAgg69 Try.sizeOf69
theorem Ry {L : List Chunk} {R : List Fact} {w : World} {u : Value} {ls : List Line} {q : Op} {l : Line} {id home : Int} {m : Msg} (hs : St (L) R w) (hu : sl u ls ∈ R) (hk : KH ⟨ls, q⟩) (hid : Am id) (hhome : Am home) (hm : m.wf) (hl : ls.getD m.line.toNat zLine = l) (hg : 0 ≤ m.line ∧ m.line < (ls.length : Int) ∧ m.kind = 7) : Calls Try.prog 46 [.agg (Core.cells u ⟨ls, q⟩).toArray, vi id, vi home, .agg m.cells.toArray].toArray w (Ch (fun v : Value × Value × Value => .tuple #[.agg (Core.cells v.1 (Ad ⟨ls, q⟩ id home m).1).toArray, v.2.1, v.2.2]) (fun v => L) (fun v => sl v.1 (Ad ⟨ls, q⟩ id home m).1.lines :: sl v.2.1 (Ad ⟨ls, q⟩ id home m).2.1 :: sl v.2.2 (Ad ⟨ls, q⟩ id home m).2.2 :: R)) := by
  have hlen := Bk hu hs
  have hone0 : u.oneCell' = true := isSlice.one (hs.fact hu)
  have hn4 : ls.length ≤ 4 := hk.n
  have hm0 := hm
  unfold Msg.wf Am at hm0
  have hid0 := hid
  have hhome0 := hhome
  unfold Am at hid0 hhome0
  refine Aj Try.func46 rfl Try.ntmps46 rfl hs ?_
  clear hs
  refine Gm ?_
  refine bx ?_; intro b4
  refine bx ?_; intro b7
  refine al_ (cs := [.slice none 0 0, vi 0, vi 0, vi 0]) Try.zeroValue69 ?_; intro b8
  refine Gb2 ?_
  refine rn1 ?_
  refine Aq Try.call43 rfl (fun w hs => Fp (u := u) (c := ⟨ls, q⟩) hs mm) ?_; intro vL
  refine J.know (p := vL.oneCell' = true) (fun w hs => De .hd hs) (fun honeV => ?_)
  refine rn3 ?_
  refine bx ?_; intro b18
  refine Ga1 ?_
  refine cq_ (row 82 vL ls :: blk b18 115 [vL, vi q.kind, vi q.line, vi q.value, vi id, vi home, .slice none 0 0, .slice none 0 0] :: blk b8 69 [.slice none 0 0, vi 0, vi 0, vi 0] :: blk b7 42 m.cells :: blk b4 69 [u, vi q.kind, vi q.line, vi q.value] :: L) ?_
  refine Aa ?_
  refine rn2 ?_
  refine ob (Af rfl rfl (An (by omega))) ?_
  refine rn6 ?_
  refine gy ?_
  refine ob (Af rfl rfl (A4 (by omega))) ?_
  refine Gc1 ?_
  refine Dv ?_
  refine dn9 ?_
  refine dnl ?_; intro ρ
  refine Gl ?_
  refine kp [1, 7, 8, 9, 10, 11, 12, 42, 43] ?_
  refine Aa ?_
  refine Gb2 ?_
  refine ob (Af rfl rfl (Ak (by omega))) ?_
  refine Gd1 ?_
  refine ob (Af rfl rfl (Ak (by omega))) ?_
  refine Gd1 ?_
  refine ob (Af rfl rfl (Ak (by omega))) ?_
  refine Gd1 ?_
  refine ob (Af rfl rfl (As (by omega))) ?_
  refine Gc1 ?_
  refine JC.rowNil 42 Msg ?_
  refine JC.rowNil 84 Done ?_
  have hkd : m.kind = 7 := by omega
  have hqa : Er l m → q.line = m.line ∧ (1 ≤ q.kind ∧ q.kind ≤ 4) ∧ 0 ≤ q.value ∧ q.value ≤ 255 := fun ha => by
   have hw : (Ac ⟨ls, q⟩ m.line).want ≠ 0 := by
    show (ls.getD m.line.toNat zLine).want ≠ 0
    rw [hl]; unfold Er at ha; omega
   exact hk.wline m.line (by omega) (show m.line.toNat < ls.length by omega) hw
  refine Aa ?_
  refine rn1 ?_
  refine Aq Try.call84 rfl (fun w hs => R6 (vL := vL) (vo := .slice none 0 0) (vd := .slice none 0 0) (bk := b18) (bm := b7) (q := q) (id := id) (home := home) (ls := ls) (l := l) (ms := []) (ds := []) (m := m) (LX := blk b8 69 [.slice none 0 0, vi 0, vi 0, vi 0] :: L) (Al hs) hl (by omega) (by omega) hm hid hhome (by simp) (by simp) hk.wwf hkd hqa) ?_; intro ⟨g1, g2⟩
  refine J.conseq (L' := blk b18 115 [vL, vi (Ad ⟨ls, q⟩ id home m).1.wait.kind, vi (Ad ⟨ls, q⟩ id home m).1.wait.line, vi (Ad ⟨ls, q⟩ id home m).1.wait.value, vi id, vi home, g1, g2] :: row 82 vL (Ad ⟨ls, q⟩ id home m).1.lines :: row 42 g1 (Ad ⟨ls, q⟩ id home m).2.1 :: row 84 g2 (Ad ⟨ls, q⟩ id home m).2.2 :: blk b8 69 [.slice none 0 0, vi 0, vi 0, vi 0] :: L) (fun w hs => by rw [List.nil_append, List.nil_append] at hs; exact Al hs) ?_
  refine Gl ?_
  refine cq_ (row 82 vL (Ad ⟨ls, q⟩ id home m).1.lines :: blk b18 115 [vL, vi (Ad ⟨ls, q⟩ id home m).1.wait.kind, vi (Ad ⟨ls, q⟩ id home m).1.wait.line, vi (Ad ⟨ls, q⟩ id home m).1.wait.value, vi id, vi home, g1, g2] :: row 42 g1 (Ad ⟨ls, q⟩ id home m).2.1 :: row 84 g2 (Ad ⟨ls, q⟩ id home m).2.2 :: blk b8 69 [.slice none 0 0, vi 0, vi 0, vi 0] :: L) ?_
  refine JC.shut (v := vL) (xs := (Ad ⟨ls, q⟩ id home m).1.lines) .hd ?_
  refine JC.shut (v := g1) (xs := (Ad ⟨ls, q⟩ id home m).2.1) pkk ?_
  refine JC.shut (v := g2) (xs := (Ad ⟨ls, q⟩ id home m).2.2) pkk ?_
  refine cq_ (blk b8 69 [.slice none 0 0, vi 0, vi 0, vi 0] :: blk b18 115 [vL, vi (Ad ⟨ls, q⟩ id home m).1.wait.kind, vi (Ad ⟨ls, q⟩ id home m).1.wait.line, vi (Ad ⟨ls, q⟩ id home m).1.wait.value, vi id, vi home, g1, g2] :: L) ?_
  refine jd_ (fun ρ S => blk b8 69 (bif S 12 then [vL, vi (Ad ⟨ls, q⟩ id home m).1.wait.kind, vi (Ad ⟨ls, q⟩ id home m).1.wait.line, vi (Ad ⟨ls, q⟩ id home m).1.wait.value] else [.slice none 0 0, vi 0, vi 0, vi 0]) :: blk b18 115 [vL, vi (Ad ⟨ls, q⟩ id home m).1.wait.kind, vi (Ad ⟨ls, q⟩ id home m).1.wait.line, vi (Ad ⟨ls, q⟩ id home m).1.wait.value, vi id, vi home, g1, g2] :: L) ?_
  refine dn3 ?_
  refine Jn (v := .agg ([vL, vi (Ad ⟨ls, q⟩ id home m).1.wait.kind, vi (Ad ⟨ls, q⟩ id home m).1.wait.line, vi (Ad ⟨ls, q⟩ id home m).1.wait.value]).toArray) (fun _ _ => Dy (b := b18) (f := 0) (vs := [vL, vi (Ad ⟨ls, q⟩ id home m).1.wait.kind, vi (Ad ⟨ls, q⟩ id home m).1.wait.line, vi (Ad ⟨ls, q⟩ id home m).1.wait.value, vi id, vi home, g1, g2]) 4 Try.isAgg69 Try.sizeOf69) (fun _ _ _ _ _ => rfl) ?_
  refine dn8 ?_
  refine es_ 69 0 [] [] (fun ρ => b8) (fun ρ => [.slice none 0 0, vi 0, vi 0, vi 0]) (fun ρ => [vL, vi (Ad ⟨ls, q⟩ id home m).1.wait.kind, vi (Ad ⟨ls, q⟩ id home m).1.wait.line, vi (Ad ⟨ls, q⟩ id home m).1.wait.value]) Try.sizeOf69 ?_
  refine dn2 ?_
  refine dnl ?_; intro ρ
  refine xq_ (blk b8 69 [vL, vi (Ad ⟨ls, q⟩ id home m).1.wait.kind, vi (Ad ⟨ls, q⟩ id home m).1.wait.line, vi (Ad ⟨ls, q⟩ id home m).1.wait.value] :: blk b18 115 [vL, vi (Ad ⟨ls, q⟩ id home m).1.wait.kind, vi (Ad ⟨ls, q⟩ id home m).1.wait.line, vi (Ad ⟨ls, q⟩ id home m).1.wait.value, vi id, vi home, g1, g2] :: L) ?_
  refine Gl ?_
  exact Cg (vL, g1, g2) Try.isAgg69 Try.sizeOf69
theorem Qb {L : List Chunk} {R : List Fact} {w : World} {u : Value} {ls : List Line} {q : Op} {l : Line} {id home : Int} {m : Msg} (hs : St (L) R w) (hu : sl u ls ∈ R) (hk : KH ⟨ls, q⟩) (hid : Am id) (hhome : Am home) (hm : m.wf) (hl : ls.getD m.line.toNat zLine = l) (hg : 0 ≤ m.line ∧ m.line < (ls.length : Int) ∧ m.kind = 11) : Calls Try.prog 46 [.agg (Core.cells u ⟨ls, q⟩).toArray, vi id, vi home, .agg m.cells.toArray].toArray w (Ch (fun v : Value × Value × Value => .tuple #[.agg (Core.cells v.1 (Ad ⟨ls, q⟩ id home m).1).toArray, v.2.1, v.2.2]) (fun v => L) (fun v => sl v.1 (Ad ⟨ls, q⟩ id home m).1.lines :: sl v.2.1 (Ad ⟨ls, q⟩ id home m).2.1 :: sl v.2.2 (Ad ⟨ls, q⟩ id home m).2.2 :: R)) := by
  have hlen := Bk hu hs
  have hone0 : u.oneCell' = true := isSlice.one (hs.fact hu)
  have hn4 : ls.length ≤ 4 := hk.n
  have hm0 := hm
  unfold Msg.wf Am at hm0
  have hid0 := hid
  have hhome0 := hhome
  unfold Am at hid0 hhome0
  refine Aj Try.func46 rfl Try.ntmps46 rfl hs ?_
  clear hs
  refine Gm ?_
  refine bx ?_; intro b4
  refine bx ?_; intro b7
  refine al_ (cs := [.slice none 0 0, vi 0, vi 0, vi 0]) Try.zeroValue69 ?_; intro b8
  refine Gb2 ?_
  refine rn1 ?_
  refine Aq Try.call43 rfl (fun w hs => Fp (u := u) (c := ⟨ls, q⟩) hs mm) ?_; intro vL
  refine J.know (p := vL.oneCell' = true) (fun w hs => De .hd hs) (fun honeV => ?_)
  refine rn3 ?_
  refine bx ?_; intro b18
  refine Ga1 ?_
  refine cq_ (row 82 vL ls :: blk b18 115 [vL, vi q.kind, vi q.line, vi q.value, vi id, vi home, .slice none 0 0, .slice none 0 0] :: blk b8 69 [.slice none 0 0, vi 0, vi 0, vi 0] :: blk b7 42 m.cells :: blk b4 69 [u, vi q.kind, vi q.line, vi q.value] :: L) ?_
  refine Aa ?_
  refine rn2 ?_
  refine ob (Af rfl rfl (An (by omega))) ?_
  refine rn6 ?_
  refine gy ?_
  refine ob (Af rfl rfl (A4 (by omega))) ?_
  refine Gc1 ?_
  refine F7 (ls := ls) (l := l) (i := m.line) pkk hl (by omega) (by omega) (fun hlw hA => ?_)
  have hlw0 := hlw
  unfold Line.wf Am at hlw0
  have honeL : (ep vL 7 m.line.toNat 0).oneCell' = true := hA.one
  refine Dv ?_
  refine dn7 ?_
  refine dj ?_
  refine dc (fun _ _ => J1 (v := vL) (i := m.line) Ja (hl := E4 (α := Line) (xs := ls) pkk)) ?_
  refine djc (fun _ _ => Db) ?_
  refine dnl ?_; intro ρ
  refine Gl ?_
  refine kp [1, 7, 8, 9, 10, 11, 12, 42, 43] ?_
  refine Aa ?_
  refine Gb2 ?_
  refine ob (Af rfl rfl (Ak (by omega))) ?_
  refine Gd1 ?_
  refine ob (Af rfl rfl (Ak (by omega))) ?_
  refine Gd1 ?_
  refine ob (Af rfl rfl (Ak (by omega))) ?_
  refine Gd1 ?_
  refine ob (Af rfl rfl (Ak (by omega))) ?_
  refine Gd1 ?_
  refine ob (Af rfl rfl (As (by omega))) ?_
  refine Gc1 ?_
  refine kp [1, 7, 8, 9, 10, 11, 12, 86, 87, 88, 89, 90, 91, 92, 93, 94, 95, 96, 97, 98, 99] ?_
  refine Di 99 (.bool (decide ((l.want = 3) ∧ (m.serial = l.serial)))) ?_ ?_
  ·
   rcases (show (¬ (l.want = 3)) ∨ ((l.want = 3) ∧ ¬ (m.serial = l.serial)) ∨ ((l.want = 3) ∧ (m.serial = l.serial)) from by omega) with hm | hm | hm
   ·
    refine Dv ?_
    refine dn4 ?_
    refine djc (fun _ _ => Af rfl rfl (Ak (by omega))) ?_
    refine djc (fun _ _ => Cx) ?_
    refine dn7 ?_
    refine djc (fun _ _ => Em) ?_
    refine dnl ?_; intro ρ
    refine Aw ?_ (fun w hs => hs)
    refine ⟨by first | exact congrArg (fun b => some (Value.bool b)) (decide_eq_false (by omega)).symm | exact congrArg (fun b => some (Value.bool b)) (by simp; omega), alT⟩
   ·
    refine Dv ?_
    refine dn4 ?_
    refine djc (fun _ _ => Af rfl rfl (As (by omega))) ?_
    refine djc (fun _ _ => Cx) ?_
    refine dn6 ?_
    refine dj (dgy ?_)
    refine dc (fun _ _ => Af rfl rfl (Ak (by omega))) ?_
    refine djc (fun _ _ => Gg) ?_
    refine dnl ?_; intro ρ
    refine Aw ?_ (fun w hs => hs)
    refine ⟨by first | exact congrArg (fun b => some (Value.bool b)) (decide_eq_false (by omega)).symm | exact congrArg (fun b => some (Value.bool b)) (by simp; omega), alT⟩
   ·
    refine Dv ?_
    refine dn4 ?_
    refine djc (fun _ _ => Af rfl rfl (As (by omega))) ?_
    refine djc (fun _ _ => Cx) ?_
    refine dn6 ?_
    refine dj (dgy ?_)
    refine dc (fun _ _ => Af rfl rfl (As (by omega))) ?_
    refine djc (fun _ _ => Gg) ?_
    refine dnl ?_; intro ρ
    refine Aw ?_ (fun w hs => hs)
    refine ⟨by first | exact congrArg (fun b => some (Value.bool b)) (decide_eq_true (by omega)).symm | exact congrArg (fun b => some (Value.bool b)) (by simp; omega), alT⟩
  ·
   refine A3 ?_
   first | (refine cdx (p := ?p1) (hd := ?d1) ?e1 ?_ ?_; case e1 => exact rfl) | (refine Bp (b := ?b1) ?e1 ?_ ?_; case e1 => exact rfl)
   ·
    intro ht99
    refine Gl ?_
    refine kp [1, 8, 9, 10, 11, 12, 100, 101, 102, 103, 104, 105, 106, 107, 108] ?_
    refine Aa ?_
    refine rn5 ?_
    refine sc ?_
    refine rn2 ?_
    refine sc ?_
    refine rn2 ?_
    refine sc ?_
    refine Gl ?_
    refine JC.rowNil 84 Done ?_
    have hwq := hk.wwf
    refine cq_ (blk b18 115 [vL, vi q.kind, vi q.line, vi q.value, vi id, vi home, .slice none 0 0, .slice none 0 0] :: row 84 (.slice none 0 0) [] :: foc 82 vL ls m.line.toNat [vi 0, vi 0, vi 0, vi l.serial, vi l.seen, vi l.gave, vi l.given] :: blk b8 69 [.slice none 0 0, vi 0, vi 0, vi 0] :: L) ?_
    refine jd_ (fun ρ S => blk b18 115 (bif S 16 then [vL, vi q.kind, vi q.line, vi q.value, vi id, vi home, .slice none 0 0, (Gh.dec (γ := Value) (ρ 13))] else [vL, vi q.kind, vi q.line, vi q.value, vi id, vi home, .slice none 0 0, .slice none 0 0]) :: (bif S 13 then row 84 (Gh.dec (γ := Value) (ρ 13)) ([] ++ [(⟨id, q, 0⟩ : Done)]) else row 84 (.slice none 0 0) []) :: foc 82 vL ls m.line.toNat [vi 0, vi 0, vi 0, vi l.serial, vi l.seen, vi l.gave, vi l.given] :: blk b8 69 [.slice none 0 0, vi 0, vi 0, vi 0] :: L) ?_
    refine dn4 ?_
    refine Ko (v := .slice none 0 0) (fun ρ S hS hB hA => by have h16 : S 16 = false := hA 16 ⟨0, rfl⟩; simp only [h16, cond_false]; exact Dn (hc := A2 pkk (by repeat (first | exact rfl | refine Eh rfl ?_))) Try.isAgg47) (fun _ _ _ _ _ => rfl) ?_
    refine dn5 ?_
    refine Ko (v := .agg q.cells.toArray) (fun ρ S hS hB hA => by have h16 : S 16 = false := hA 16 ⟨9, rfl⟩; simp only [h16, cond_false]; exact Dy (b := b18) (f := 1) (vs := [vL, vi q.kind, vi q.line, vi q.value, vi id, vi home, .slice none 0 0, .slice none 0 0]) 3 Try.isAgg66 Try.sizeOf66) (fun _ _ _ _ _ => rfl) ?_
    first | refine epc (fun _ _ => E2 Gj) ?_ | refine epc (fun _ _ => F5 Gj) ?_ | refine epp (fun _ _ => E2 Gj) ?_ | refine epp (fun _ _ => F5 Gj) ?_
    refine E7 ([(⟨id, q, 0⟩ : Done)] : List Done) Fj rfl (fun _ => rfl) rfl (fun _ => rfl) rfl rfl (fun ρ R hd => E5 ⟨hid, hwq.1, hwq.2.1, hwq.2.2, by unfold Am; simp only; omega⟩) (fun _ _ _ _ _ => rfl) ?_
    refine G9 (e := 84) (xs := []) (ys := [(⟨id, q, 0⟩ : Done)]) (v := (.slice none 0 0)) Fj (fun _ => rfl) (fun _ => rfl) rfl (by decide) (fun ρ R hd => (hd.dep (it := ⟨12, _, _, _, _⟩) (by repeat (first | exact List.Mem.head _ | refine List.Mem.tail _ ?_)) ⟨9, rfl⟩ (List.Mem.head _))) (by have : maxN = 16777216 := rfl; simp only [List.length_cons, List.length_nil]; omega) (fun ρ g S hS hB hA => ?_) ?_
    ·
     have ui : upS S 13 13 = true := rfl; have u16 : upS S 13 16 = S 16 := rfl; have h16 : S 16 = false := hA 16 ⟨0, rfl⟩; have rs : (Gh.dec (γ := Value) (Rho.set ρ 13 (Gh.enc g) 13)) = g := rfl
     simp only [ui, hS, u16, h16, rs, cond_true, cond_false]
     exact Pos.ex (by repeat (first | exact .hd | exact .hc | apply Pos.tl | apply Pos.ap))
    refine dn2 ?_
    refine Fm (T0 := 115) (f := 7) (vs := fun ρ => [vL, vi q.kind, vi q.line, vi q.value, vi id, vi home, .slice none 0 0, .slice none 0 0]) (v := fun ρ => (Gh.dec (γ := Value) (ρ 13))) (fun ρ => b18) Try.sizeOf47 (fun _ => rfl) (fun _ => rfl) (fun ρ S R w L9 hB hd hs => by have h13 : S 13 = true := hB 13 ⟨9, rfl⟩; simp only [h13, cond_true] at hs; exact De pkk hs) (fun _ => rfl) (fun ρ g S hS hB hA => ?_) ?_
    ·
     have ui : upS S 16 16 = true := rfl; have u13 : upS S 16 13 = S 13 := rfl; have r13 : Rho.set ρ 16 g 13 = ρ 13 := rfl
     simp only [ui, hS, u13, r13, cond_true, cond_false]
     exact Pos.ex (by repeat (first | exact .hd | exact .hc | apply Pos.tl | apply Pos.ap))
    refine dnl ?_; intro ρ
    refine xq_ (blk b18 115 [vL, vi q.kind, vi q.line, vi q.value, vi id, vi home, .slice none 0 0, (Gh.dec (γ := Value) (ρ 13))] :: row 84 (Gh.dec (γ := Value) (ρ 13)) [(⟨id, q, 0⟩ : Done)] :: foc 82 vL ls m.line.toNat [vi 0, vi 0, vi 0, vi l.serial, vi l.seen, vi l.gave, vi l.given] :: blk b8 69 [.slice none 0 0, vi 0, vi 0, vi 0] :: L) ?_
    generalize (Gh.dec (γ := Value) (ρ 12)) = v121
    generalize (Gh.dec (γ := Value) (ρ 13)) = v122
    refine Gm ?_
    refine rn1 ?_
    refine ob (E2 (cs := zOp.cells) Kl) ?_
    refine rn3 ?_
    refine s_N [vL, vi 0, vi 0, vi 0, vi id, vi home, .slice none 0 0, v122] Try.sizeOf66 ?_
    refine Gl ?_
    refine JC.conseq (L' := row 82 vL (ls.set m.line.toNat ({ l with state := 0, value := 0, want := 0 })) :: blk b18 115 [vL, vi 0, vi 0, vi 0, vi id, vi home, .slice none 0 0, v122] :: row 84 v122 [(⟨id, q, 0⟩ : Done)] :: blk b8 69 [.slice none 0 0, vi 0, vi 0, vi 0] :: L) (fun w hs => Al (C2 ({ l with state := 0, value := 0, want := 0 }) (by unfold Line.wf Am; simp only; omega) (hs.pick pkk))) ?_
    refine JC.shut (v := vL) (xs := (ls.set m.line.toNat ({ l with state := 0, value := 0, want := 0 }))) .hd ?_
    refine JC.slNil Msg ?_
    refine JC.shut (v := v122) (xs := [(⟨id, q, 0⟩ : Done)]) pkk ?_
    refine kp [8, 9, 10, 11, 130, 131, 132, 133, 134, 135, 136, 137, 138, 139, 140, 141] ?_
    refine cq_ (blk b8 69 [.slice none 0 0, vi 0, vi 0, vi 0] :: blk b18 115 [vL, vi 0, vi 0, vi 0, vi id, vi home, .slice none 0 0, v122] :: L) ?_
    refine jd_ (fun ρ S => blk b8 69 (bif S 12 then [vL, vi 0, vi 0, vi 0] else [.slice none 0 0, vi 0, vi 0, vi 0]) :: blk b18 115 [vL, vi 0, vi 0, vi 0, vi id, vi home, .slice none 0 0, v122] :: L) ?_
    refine dn3 ?_
    refine Jn (v := .agg ([vL, vi 0, vi 0, vi 0]).toArray) (fun _ _ => Dy (b := b18) (f := 0) (vs := [vL, vi 0, vi 0, vi 0, vi id, vi home, .slice none 0 0, v122]) 4 Try.isAgg69 Try.sizeOf69) (fun _ _ _ _ _ => rfl) ?_
    refine dn8 ?_
    refine es_ 69 0 [] [] (fun ρ => b8) (fun ρ => [.slice none 0 0, vi 0, vi 0, vi 0]) (fun ρ => [vL, vi 0, vi 0, vi 0]) Try.sizeOf69 ?_
    refine dn2 ?_
    refine dnl ?_; intro ρ
    refine xq_ (blk b8 69 [vL, vi 0, vi 0, vi 0] :: blk b18 115 [vL, vi 0, vi 0, vi 0, vi id, vi home, .slice none 0 0, v122] :: L) ?_
    refine Gl ?_
    have er : (Ad ⟨ls, q⟩ id home m) = (⟨ls.set m.line.toNat ({ l with state := 0, value := 0, want := 0 }), zOp⟩, [], [⟨id, q, 0⟩]) := by rw [M7 hl (by omega) (by omega), if_pos ht99]
    rw [er]
    exact Cg (vL, .slice none 0 0, v122) Try.isAgg69 Try.sizeOf69
   ·
    intro ht99
    refine Gl ?_
    refine JC.conseq (L' := row 82 vL ls :: blk b18 115 [vL, vi q.kind, vi q.line, vi q.value, vi id, vi home, .slice none 0 0, .slice none 0 0] :: blk b8 69 [.slice none 0 0, vi 0, vi 0, vi 0] :: L) (fun w hs => Al (Dh hl hlw (hs.pick pkk))) ?_
    refine JC.shut (v := vL) (xs := ls) .hd ?_
    refine JC.slNil Msg ?_
    refine JC.slNil Done ?_
    refine kp [8, 9, 10, 11, 130, 131, 132, 133, 134, 135, 136, 137, 138, 139, 140, 141] ?_
    refine cq_ (blk b8 69 [.slice none 0 0, vi 0, vi 0, vi 0] :: blk b18 115 [vL, vi q.kind, vi q.line, vi q.value, vi id, vi home, .slice none 0 0, .slice none 0 0] :: L) ?_
    refine jd_ (fun ρ S => blk b8 69 (bif S 12 then [vL, vi q.kind, vi q.line, vi q.value] else [.slice none 0 0, vi 0, vi 0, vi 0]) :: blk b18 115 [vL, vi q.kind, vi q.line, vi q.value, vi id, vi home, .slice none 0 0, .slice none 0 0] :: L) ?_
    refine dn3 ?_
    refine Jn (v := .agg ([vL, vi q.kind, vi q.line, vi q.value]).toArray) (fun _ _ => Dy (b := b18) (f := 0) (vs := [vL, vi q.kind, vi q.line, vi q.value, vi id, vi home, .slice none 0 0, .slice none 0 0]) 4 Try.isAgg69 Try.sizeOf69) (fun _ _ _ _ _ => rfl) ?_
    refine dn8 ?_
    refine es_ 69 0 [] [] (fun ρ => b8) (fun ρ => [.slice none 0 0, vi 0, vi 0, vi 0]) (fun ρ => [vL, vi q.kind, vi q.line, vi q.value]) Try.sizeOf69 ?_
    refine dn2 ?_
    refine dnl ?_; intro ρ
    refine xq_ (blk b8 69 [vL, vi q.kind, vi q.line, vi q.value] :: blk b18 115 [vL, vi q.kind, vi q.line, vi q.value, vi id, vi home, .slice none 0 0, .slice none 0 0] :: L) ?_
    refine Gl ?_
    have er : (Ad ⟨ls, q⟩ id home m) = (⟨ls, q⟩, [], []) := by rw [M7 hl (by omega) (by omega), if_neg ht99]
    rw [er]
    exact Cg (vL, .slice none 0 0, .slice none 0 0) Try.isAgg69 Try.sizeOf69
theorem Rx {L : List Chunk} {R : List Fact} {w : World} {u : Value} {ls : List Line} {q : Op} {l : Line} {id home : Int} {m : Msg} (hs : St (L) R w) (hu : sl u ls ∈ R) (hk : KH ⟨ls, q⟩) (hid : Am id) (hhome : Am home) (hm : m.wf) (hl : ls.getD m.line.toNat zLine = l) (hg : 0 ≤ m.line ∧ m.line < (ls.length : Int) ∧ m.kind ≠ 4 ∧ m.kind ≠ 5 ∧ m.kind ≠ 6 ∧ m.kind ≠ 7 ∧ m.kind ≠ 11) : Calls Try.prog 46 [.agg (Core.cells u ⟨ls, q⟩).toArray, vi id, vi home, .agg m.cells.toArray].toArray w (Ch (fun v : Value × Value × Value => .tuple #[.agg (Core.cells v.1 (Ad ⟨ls, q⟩ id home m).1).toArray, v.2.1, v.2.2]) (fun v => L) (fun v => sl v.1 (Ad ⟨ls, q⟩ id home m).1.lines :: sl v.2.1 (Ad ⟨ls, q⟩ id home m).2.1 :: sl v.2.2 (Ad ⟨ls, q⟩ id home m).2.2 :: R)) := by
 have hlen := Bk hu hs
 have hone0 : u.oneCell' = true := isSlice.one (hs.fact hu)
 have hn4 : ls.length ≤ 4 := hk.n
 have hm0 := hm
 unfold Msg.wf Am at hm0
 have hid0 := hid
 have hhome0 := hhome
 unfold Am at hid0 hhome0
 refine Aj Try.func46 rfl Try.ntmps46 rfl hs ?_
 clear hs
 refine Gm ?_
 refine bx ?_; intro b4
 refine bx ?_; intro b7
 refine al_ (cs := [.slice none 0 0, vi 0, vi 0, vi 0]) Try.zeroValue69 ?_; intro b8
 refine Gb2 ?_
 refine rn1 ?_
 refine Aq Try.call43 rfl (fun w hs => Fp (u := u) (c := ⟨ls, q⟩) hs mm) ?_; intro vL
 refine J.know (p := vL.oneCell' = true) (fun w hs => De .hd hs) (fun honeV => ?_)
 refine rn3 ?_
 refine bx ?_; intro b18
 refine Ga1 ?_
 refine cq_ (row 82 vL ls :: blk b18 115 [vL, vi q.kind, vi q.line, vi q.value, vi id, vi home, .slice none 0 0, .slice none 0 0] :: blk b8 69 [.slice none 0 0, vi 0, vi 0, vi 0] :: blk b7 42 m.cells :: blk b4 69 [u, vi q.kind, vi q.line, vi q.value] :: L) ?_
 refine Aa ?_
 refine rn2 ?_
 refine ob (Af rfl rfl (An (by omega))) ?_
 refine rn6 ?_
 refine gy ?_
 refine ob (Af rfl rfl (A4 (by omega))) ?_
 refine Gc1 ?_
 refine Dv ?_
 refine dn9 ?_
 refine dnl ?_; intro ρ
 refine Gl ?_
 refine kp [1, 7, 8, 9, 10, 11, 12, 42, 43] ?_
 refine Aa ?_
 refine Gb2 ?_
 refine ob (Af rfl rfl (Ak (by omega))) ?_
 refine Gd1 ?_
 refine ob (Af rfl rfl (Ak (by omega))) ?_
 refine Gd1 ?_
 refine ob (Af rfl rfl (Ak (by omega))) ?_
 refine Gd1 ?_
 refine ob (Af rfl rfl (Ak (by omega))) ?_
 refine Gd1 ?_
 refine ob (Af rfl rfl (Ak (by omega))) ?_
 refine Gc1 ?_
 refine cq_ (row 82 vL ls :: blk b18 115 [vL, vi q.kind, vi q.line, vi q.value, vi id, vi home, .slice none 0 0, .slice none 0 0] :: blk b8 69 [.slice none 0 0, vi 0, vi 0, vi 0] :: L) ?_
 refine JC.shut (v := vL) (xs := ls) .hd ?_
 refine JC.slNil Msg ?_
 refine JC.slNil Done ?_
 refine cq_ (blk b8 69 [.slice none 0 0, vi 0, vi 0, vi 0] :: blk b18 115 [vL, vi q.kind, vi q.line, vi q.value, vi id, vi home, .slice none 0 0, .slice none 0 0] :: L) ?_
 refine jd_ (fun ρ S => blk b8 69 (bif S 12 then [vL, vi q.kind, vi q.line, vi q.value] else [.slice none 0 0, vi 0, vi 0, vi 0]) :: blk b18 115 [vL, vi q.kind, vi q.line, vi q.value, vi id, vi home, .slice none 0 0, .slice none 0 0] :: L) ?_
 refine dn3 ?_
 refine Jn (v := .agg ([vL, vi q.kind, vi q.line, vi q.value]).toArray) (fun _ _ => Dy (b := b18) (f := 0) (vs := [vL, vi q.kind, vi q.line, vi q.value, vi id, vi home, .slice none 0 0, .slice none 0 0]) 4 Try.isAgg69 Try.sizeOf69) (fun _ _ _ _ _ => rfl) ?_
 refine dn8 ?_
 refine es_ 69 0 [] [] (fun ρ => b8) (fun ρ => [.slice none 0 0, vi 0, vi 0, vi 0]) (fun ρ => [vL, vi q.kind, vi q.line, vi q.value]) Try.sizeOf69 ?_
 refine dn2 ?_
 refine dnl ?_; intro ρ
 refine xq_ (blk b8 69 [vL, vi q.kind, vi q.line, vi q.value] :: blk b18 115 [vL, vi q.kind, vi q.line, vi q.value, vi id, vi home, .slice none 0 0, .slice none 0 0] :: L) ?_
 refine Gl ?_
 have er : (Ad ⟨ls, q⟩ id home m) = (⟨ls, q⟩, [], []) := Tw (by omega) (by omega)
 rw [er]
 exact Cg (vL, .slice none 0 0, .slice none 0 0) Try.isAgg69 Try.sizeOf69
theorem Fy {L : List Chunk} {R : List Fact} {w : World} {u : Value} {c : Core} {id home : Int} {m : Msg} (hs : St (L) R w) (hu : sl u c.lines ∈ R) (hk : KH c) (hid : Am id) (hhome : Am home) (hm : m.wf) : Calls Try.prog 46 [.agg (c.cells u).toArray, vi id, vi home, .agg m.cells.toArray].toArray w (Ch (fun v : Value × Value × Value => .tuple #[.agg (Core.cells v.1 (Ad c id home m).1).toArray, v.2.1, v.2.2]) (fun v => L) (fun v => sl v.1 (Ad c id home m).1.lines :: sl v.2.1 (Ad c id home m).2.1 :: sl v.2.2 (Ad c id home m).2.2 :: R)) := by
  obtain ⟨ls, q⟩ := c
  by_cases h : 0 ≤ m.line ∧ m.line < (ls.length : Int)
  · by_cases h4 : m.kind = 4
    · exact R4 hs hu hk hid hhome hm rfl (by omega)
    by_cases h5 : m.kind = 5
    · exact R3 hs hu hk hid hhome hm rfl (by omega)
    by_cases h6 : m.kind = 6
    · exact Rz hs hu hk hid hhome hm rfl (by omega)
    by_cases h7 : m.kind = 7
    · exact Ry hs hu hk hid hhome hm rfl (by omega)
    by_cases h11 : m.kind = 11
    · exact Qb hs hu hk hid hhome hm rfl (by omega)
    exact Rx hs hu hk hid hhome hm rfl (by omega)
  · exact R5 hs hu hk hid hhome hm rfl (by omega)
end Go.Proofs.Ytofgpimoekhfaaa
