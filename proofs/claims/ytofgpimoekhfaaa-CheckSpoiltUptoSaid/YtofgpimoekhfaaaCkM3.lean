/- This file proves parts of what its law needs: each part is told ahead of it. No conditions. -/
import Derived.Test.YtofgpimoekhfaaaCkM2
import Derived.Test.YtofgpimoekhfaaaCkM1
/- This file proves how a core begins an operation, by the document's answer. No conditions. -/
set_option linter.unusedVariables false
set_option linter.unusedSimpArgs false
set_option maxHeartbeats 1000000
set_option maxRecDepth 8000
namespace Go.Proofs.Ytofgpimoekhfaaa
open Go
structure KB (c : Core) : Prop where
 n : c.lines.length ≤ 4
 v : ∀ i, i < c.lines.length → 0 ≤ (c.lines.getD i zLine).value ∧ (c.lines.getD i zLine).value ≤ 255
 w : CW c c.lines.length
theorem F8 {P : Program} {n : Nat} {Q : Exit → Act → World → Prop} {L : List Chunk} {R : List Fact} {al : List (Nat × Value)} {cd : Code} {v : Value} {c : Core} (i : Int) (hm : sl v c.lines ∈ R) (h0 : 0 ≤ i) (hi : i < c.lines.length) (k : (Ac c i).wf → JC P n cd Q L (cF v 7 i.toNat (Ac c i).cells :: R) al) : JC P n cd Q L R al := JC.open0 i.toNat hm (by omega) k
theorem Uf {L : List Chunk} {R : List Fact} {w : World} {u : Value} {c : Core} {id home : Int} {q : Op} (hs : St (L) R w) (hu : sl u c.lines ∈ R) (hk : KB c) (hid : An id) (hhome : An home) (hq : q.wf) : Calls Try.prog 40 [.agg (c.cells u).toArray, vi id, vi home, .agg q.cells.toArray].toArray w (Cg (fun v : Value × Value × Value => .tuple #[.agg (Core.cells v.1 (Ai c id home q).1).toArray, v.2.1, v.2.2, vi (Ai c id home q).2.2.2]) (fun v => L) (fun v => sl v.1 (Ai c id home q).1.lines :: sl v.2.1 (Ai c id home q).2.1 :: sl v.2.2 (Ai c id home q).2.2.1 :: R)) := by
  have hlen := Bv hu hs
  have hone0 : u.oneCell' = true := isSlice.one (hs.fact hu)
  have hn4 := hk.n
  refine Ah Try.func40 rfl Try.ntmps40 rfl hs ?_
  clear hs
  refine Gm ?_
  refine bx ?_; intro b4
  refine bx ?_; intro b7
  refine al_ (cs := [.slice none 0 0, vi 0, vi 0, vi 0]) Try.zeroValue69 ?_; intro b8
  refine Ga3 ?_
  rcases (show (q.kind < 1) ∨ (¬ q.kind < 1 ∧ 4 < q.kind) ∨ (1 ≤ q.kind ∧ q.kind ≤ 4) from by omega) with hc | hc | hc
  ·
   refine Aa ?_
   refine rn2 ?_
   refine ob (Ae rfl rfl (Co (by omega))) ?_
   refine Gc5 ?_
   refine JC.slNil Line ?_
   refine JC.slNil Msg ?_
   refine JC.slNil Done ?_
   refine Aa ?_
   refine ob (Gp (cs := [.slice none 0 0, vi 0, vi 0, vi 0]) J2) ?_
   refine s_B Try.sizeOf69 ?_
   refine Ga3 ?_
   have er : Ai c id home q = (Hj, [], [], 1) := by unfold Ai; rw [if_pos (by omega)]
   rw [er]
   exact F5 (.slice none 0 0, .slice none 0 0, .slice none 0 0) Try.isAgg69 Try.sizeOf69
  ·
   refine Aa ?_
   refine rn2 ?_
   refine ob (Ae rfl rfl (Al (by omega))) ?_
   refine rn3 ?_
   refine gy ?_
   refine ob (Ae rfl rfl (C5 (by omega))) ?_
   refine Gc1 ?_
   refine JC.slNil Line ?_
   refine JC.slNil Msg ?_
   refine JC.slNil Done ?_
   refine Aa ?_
   refine ob (Gp (cs := [.slice none 0 0, vi 0, vi 0, vi 0]) J2) ?_
   refine s_B Try.sizeOf69 ?_
   refine Ga3 ?_
   have er : Ai c id home q = (Hj, [], [], 1) := by unfold Ai; rw [if_pos (by omega)]
   rw [er]
   exact F5 (.slice none 0 0, .slice none 0 0, .slice none 0 0) Try.isAgg69 Try.sizeOf69
  ·
   refine Aa ?_
   refine rn2 ?_
   refine ob (Ae rfl rfl (Al (by omega))) ?_
   refine rn3 ?_
   refine gy ?_
   refine ob (Ae rfl rfl (Bu (by omega))) ?_
   refine Gc1 ?_
   rcases (show (q.line < 0) ∨ (0 ≤ q.line ∧ (c.lines.length : Int) ≤ q.line) ∨ (0 ≤ q.line ∧ q.line < (c.lines.length : Int) ∧ q.value < 0) ∨ (0 ≤ q.line ∧ q.line < (c.lines.length : Int) ∧ 255 < q.value) ∨ (0 ≤ q.line ∧ q.line < (c.lines.length : Int) ∧ 0 ≤ q.value ∧ q.value ≤ 255) from by omega) with hc | hc | hc | hc | hc
   ·
    refine Aa ?_
    refine rn2 ?_
    refine ob (Ae rfl rfl (Co (by omega))) ?_
    refine Gc18 ?_
    refine JC.slNil Line ?_
    refine JC.slNil Msg ?_
    refine JC.slNil Done ?_
    refine kp [1, 2, 4, 7, 8, 9, 10, 11, 46] ?_
    refine Aa ?_
    refine ob (Gp (cs := [.slice none 0 0, vi 0, vi 0, vi 0]) J2) ?_
    refine s_B Try.sizeOf69 ?_
    refine Ga3 ?_
    have er : Ai c id home q = (Hj, [], [], 3) := by unfold Ai; rw [if_neg (by omega), if_pos (by omega)]
    rw [er]
    exact F5 (.slice none 0 0, .slice none 0 0, .slice none 0 0) Try.isAgg69 Try.sizeOf69
   ·
    refine Aa ?_
    refine rn2 ?_
    refine ob (Ae rfl rfl (Al (by omega))) ?_
    refine rn6 ?_
    refine gy ?_
    refine ob (Ae rfl rfl (D7 (by omega))) ?_
    refine Gc11 ?_
    refine JC.slNil Line ?_
    refine JC.slNil Msg ?_
    refine JC.slNil Done ?_
    refine kp [1, 2, 4, 7, 8, 9, 10, 11, 46] ?_
    refine Aa ?_
    refine ob (Gp (cs := [.slice none 0 0, vi 0, vi 0, vi 0]) J2) ?_
    refine s_B Try.sizeOf69 ?_
    refine Ga3 ?_
    have er : Ai c id home q = (Hj, [], [], 3) := by unfold Ai; rw [if_neg (by omega), if_pos (by omega)]
    rw [er]
    exact F5 (.slice none 0 0, .slice none 0 0, .slice none 0 0) Try.isAgg69 Try.sizeOf69
   ·
    refine Aa ?_
    refine rn2 ?_
    refine ob (Ae rfl rfl (Al (by omega))) ?_
    refine rn6 ?_
    refine gy ?_
    refine ob (Ae rfl rfl (Bc (by omega))) ?_
    refine rn4 ?_
    refine gy ?_
    refine ob (Ae rfl rfl (Co (by omega))) ?_
    refine Gc6 ?_
    refine JC.slNil Line ?_
    refine JC.slNil Msg ?_
    refine JC.slNil Done ?_
    refine kp [1, 2, 4, 7, 8, 9, 10, 11, 46] ?_
    refine Aa ?_
    refine ob (Gp (cs := [.slice none 0 0, vi 0, vi 0, vi 0]) J2) ?_
    refine s_B Try.sizeOf69 ?_
    refine Ga3 ?_
    have er : Ai c id home q = (Hj, [], [], 3) := by unfold Ai; rw [if_neg (by omega), if_pos (by omega)]
    rw [er]
    exact F5 (.slice none 0 0, .slice none 0 0, .slice none 0 0) Try.isAgg69 Try.sizeOf69
   ·
    refine Aa ?_
    refine rn2 ?_
    refine ob (Ae rfl rfl (Al (by omega))) ?_
    refine rn6 ?_
    refine gy ?_
    refine ob (Ae rfl rfl (Bc (by omega))) ?_
    refine rn4 ?_
    refine gy ?_
    refine ob (Ae rfl rfl (Al (by omega))) ?_
    refine rn4 ?_
    refine gy ?_
    refine ob (Ae rfl rfl (C5 (by omega))) ?_
    refine Gc1 ?_
    refine JC.slNil Line ?_
    refine JC.slNil Msg ?_
    refine JC.slNil Done ?_
    refine kp [1, 2, 4, 7, 8, 9, 10, 11, 46] ?_
    refine Aa ?_
    refine ob (Gp (cs := [.slice none 0 0, vi 0, vi 0, vi 0]) J2) ?_
    refine s_B Try.sizeOf69 ?_
    refine Ga3 ?_
    have er : Ai c id home q = (Hj, [], [], 3) := by unfold Ai; rw [if_neg (by omega), if_pos (by omega)]
    rw [er]
    exact F5 (.slice none 0 0, .slice none 0 0, .slice none 0 0) Try.isAgg69 Try.sizeOf69
   ·
    refine Aa ?_
    refine rn2 ?_
    refine ob (Ae rfl rfl (Al (by omega))) ?_
    refine rn6 ?_
    refine gy ?_
    refine ob (Ae rfl rfl (Bc (by omega))) ?_
    refine rn4 ?_
    refine gy ?_
    refine ob (Ae rfl rfl (Al (by omega))) ?_
    refine rn4 ?_
    refine gy ?_
    refine ob (Ae rfl rfl (Bu (by omega))) ?_
    refine Gc1 ?_
    refine F8 (c := c) (v := u) q.line mm (by omega) (by omega) (fun hlw => ?_)
    refine kp [1, 2, 4, 7, 8, 9, 10, 11, 12, 47, 48, 49, 50, 51, 52] ?_
    refine Aa ?_
    refine rn6 ?_
    refine al_ (cs := zLine.cells) Try.zeroValue82 ?_; intro b12
    refine s_B (cs := (Ac c q.line).cells) Try.sizeOf82 ?_
    refine Gl ?_
    rcases (show (c.wait.kind ≠ 0) ∨ (c.wait.kind = 0 ∧ 65535 ≤ (Ac c q.line).serial) ∨ (c.wait.kind = 0 ∧ (Ac c q.line).serial < 65535) from by omega) with hc | hc | hc
    ·
     refine Aa ?_
     refine rn3 ?_
     refine ob (Ae rfl rfl (Cn (by omega))) ?_
     refine Gc5 ?_
     refine JC.slNil Line ?_
     refine JC.slNil Msg ?_
     refine JC.slNil Done ?_
     refine Aa ?_
     refine ob (Gp (cs := [.slice none 0 0, vi 0, vi 0, vi 0]) J2) ?_
     refine s_B Try.sizeOf69 ?_
     refine Ga3 ?_
     have er : Ai c id home q = (Hj, [], [], 8) := by unfold Ai; rw [if_neg (by omega), if_neg (by omega), if_pos (by omega)]
     rw [er]
     exact F5 (.slice none 0 0, .slice none 0 0, .slice none 0 0) Try.isAgg69 Try.sizeOf69
    ·
     refine Aa ?_
     refine rn3 ?_
     refine ob (Ae rfl rfl (Cb (by omega))) ?_
     refine rn3 ?_
     refine gy ?_
     refine ob (Ae rfl rfl (D7 (by omega))) ?_
     refine Gc1 ?_
     refine JC.slNil Line ?_
     refine JC.slNil Msg ?_
     refine JC.slNil Done ?_
     refine Aa ?_
     refine ob (Gp (cs := [.slice none 0 0, vi 0, vi 0, vi 0]) J2) ?_
     refine s_B Try.sizeOf69 ?_
     refine Ga3 ?_
     have er : Ai c id home q = (Hj, [], [], 8) := by unfold Ai; rw [if_neg (by omega), if_neg (by omega), if_pos (by omega)]
     rw [er]
     exact F5 (.slice none 0 0, .slice none 0 0, .slice none 0 0) Try.isAgg69 Try.sizeOf69
    ·
     refine Aa ?_
     refine rn3 ?_
     refine ob (Ae rfl rfl (Cb (by omega))) ?_
     refine rn3 ?_
     refine gy ?_
     refine ob (Ae rfl rfl (Bc (by omega))) ?_
     refine Gd1 ?_
     refine Gb1 ?_
     refine Gb2 ?_
     refine Ga2 ?_
     refine cdx (p := ?p1) (hd := ?d1) ?e1 ?_ ?_; case e1 => exact rfl
     ·
      intro ht68
      refine Gm ?_
      refine Ga3 ?_
      refine cdx (p := ?p2) (hd := ?d2) ?e2 ?_ ?_; case e2 => exact rfl
      ·
       intro ht72
       refine Aa ?_
       refine Gb1 ?_
       refine Ga2 ?_
       refine cTp (p := (3 : Int) ≠ 0) (by decide) ?_
       refine Gm ?_
       refine rn3 ?_
       refine ob (Fb (by exact rfl) (by exact rfl) (by unfold Line.wf An at hlw; omega) (by unfold Line.wf An at hlw; omega)) ?_
       refine rn1 ?_
       refine sc ?_
       refine rn1 ?_
       refine sc ?_
       refine Gl ?_
       refine kp [1, 2, 4, 7, 8, 9, 10, 11, 12, 13, 91, 92] ?_
       refine Aa ?_
       refine Ga2 ?_
       refine cTp (p := (3 : Int) = 3) (by decide) ?_
       refine Aa ?_
       refine rn1 ?_
       refine sc ?_
       refine Gm ?_
       refine rn4 ?_
       have hXw : ({ (Ac c q.line) with state := 3, want := 3, serial := (Ac c q.line).serial + 1 } : Line).wf := by unfold Line.wf An at hlw ⊢; simp only; omega
       refine Ar Try.call77 rfl (fun w hs => Bd (l := { (Ac c q.line) with state := 3, want := 3, serial := (Ac c q.line).serial + 1 }) hs mm hXw (by omega)) ?_; intro v98
       refine J.know (p := v98.oneCell' = true) (fun w hs => isSlice.one (hs.fact (List.Mem.head _))) (fun hone98 => ?_)
       refine al_ (cs := [.slice none 0 0, vi 0, vi 0, vi 0]) Try.zeroValue69 ?_; intro b14
       refine s_B (cs := [v98, vi c.wait.kind, vi c.wait.line, vi c.wait.value]) Try.sizeOf69 ?_
       refine Gm ?_
       refine rn2 ?_
       refine s_N [v98, vi q.kind, vi q.line, vi q.value] Try.sizeOf66 ?_
       refine Gl ?_
       refine JC.slNil Done ?_
       refine cq_ (blk b8 69 [.slice none 0 0, vi 0, vi 0, vi 0] :: blk b14 69 [v98, vi q.kind, vi q.line, vi q.value] :: blk b12 82 [vi 3, vi (Ac c q.line).value, vi 3, vi ((Ac c q.line).serial + 1), vi (Ac c q.line).seen, vi (Ac c q.line).gave, vi (Ac c q.line).given] :: blk b7 66 q.cells :: L) ?_
       refine jd_ (fun ρ S => blk b8 69 (bif S 8 then [v98, vi q.kind, vi q.line, vi q.value] else [.slice none 0 0, vi 0, vi 0, vi 0]) :: blk b14 69 [v98, vi q.kind, vi q.line, vi q.value] :: blk b12 82 [vi 3, vi (Ac c q.line).value, vi 3, vi ((Ac c q.line).serial + 1), vi (Ac c q.line).seen, vi (Ac c q.line).gave, vi (Ac c q.line).given] :: blk b7 66 q.cells :: L) ?_
       refine dn6 ?_
       refine Bp (γ := Unit) (val := fun _ => .agg (Cx ({ (Ac c q.line) with state := 3, want := 3, serial := (Ac c q.line).serial + 1 }) id home q.line).cells.toArray) (F := fun _ => []) Try.call78 (fun _ => rfl) (fun ρ L R w hd hs => L5 (l := { (Ac c q.line) with state := 3, want := 3, serial := (Ac c q.line).serial + 1 }) (id := id) (home := home) (i := q.line) hs ) (fun _ _ _ _ _ => rfl) ?_
       refine Gn ([Cx ({ (Ac c q.line) with state := 3, want := 3, serial := (Ac c q.line).serial + 1 }) id home q.line] : List Msg) G3 rfl (fun _ => rfl) rfl (fun _ => rfl) rfl rfl (fun ρ R hd => Jl (Qh hXw hid hhome hq.2.1)) (fun _ _ _ _ _ => rfl) ?_
       refine es_ 69 0 [] [] (fun ρ => b8) (fun ρ => [.slice none 0 0, vi 0, vi 0, vi 0]) (fun ρ => [v98, vi q.kind, vi q.line, vi q.value]) Try.sizeOf69 ?_
       refine e_p (v := fun ρ => (Gh.dec (γ := Value) (ρ 7))) (fun _ _ => Eb) (Ind.gh (h := fun g => ((Gh.dec (γ := Value) g) : Value)) 7 0 rfl) (fun _ _ _ _ _ => rfl) ?_
       refine dn2 ?_
       refine dnl ?_; intro ρ
       refine xq_ (blk b8 69 [v98, vi q.kind, vi q.line, vi q.value] :: blk b14 69 [v98, vi q.kind, vi q.line, vi q.value] :: blk b12 82 [vi 3, vi (Ac c q.line).value, vi 3, vi ((Ac c q.line).serial + 1), vi (Ac c q.line).seen, vi (Ac c q.line).gave, vi (Ac c q.line).given] :: blk b7 66 q.cells :: L) ?_
       generalize (Gh.dec (γ := Value) (ρ 7)) = v108
       refine Gl ?_
       have eb : A4 (Ac c q.line) q = { (Ac c q.line) with state := 3, want := 3, serial := (Ac c q.line).serial + 1 } := by unfold A4; rw [if_pos (by omega), if_pos (by omega)]
       have ed : Bb (Ac c q.line) q = false := by unfold Bb; split <;> simp <;> omega
       have er : Ai c id home q = (Ay c q.line ({ (Ac c q.line) with state := 3, want := 3, serial := (Ac c q.line).serial + 1 }) q, [Cx ({ (Ac c q.line) with state := 3, want := 3, serial := (Ac c q.line).serial + 1 }) id home q.line], [], 0) := by unfold Ai; rw [if_neg (by omega), if_neg (by omega), if_neg (by omega), ed, if_neg (by decide), eb]
       rw [er]
       exact F5 (v98, v108, .slice none 0 0) Try.isAgg69 Try.sizeOf69
      ·
       intro ht72
       refine Gm ?_
       refine Ga2 ?_
       refine cFp (p := (0 : Int) ≠ 0) (by decide) ?_
       refine Gm ?_
       refine Gb1 ?_
       refine Ga3 ?_
       refine cdx (p := ?p3) (hd := ?d3) ?e3 ?_ ?_; case e3 => exact rfl
       ·
        intro ht111
        refine kp [1, 4, 7, 8, 9, 10, 11, 12, 15, 112, 113] ?_
        refine Aa ?_
        refine rn1 ?_
        refine sc ?_
        refine rn1 ?_
        refine sc ?_
        refine Gl ?_
        have hXw : ({ (Ac c q.line) with state := 0, value := 0 } : Line).wf := by unfold Line.wf An at hlw ⊢; simp only; omega
        have hvb := E2 (v := (Ac c q.line).value) (o := q) (hk.v q.line.toNat (by omega)) (by omega)
        refine JC.slNil Msg ?_
        refine cq_ (blk b8 69 [.slice none 0 0, vi 0, vi 0, vi 0] :: blk b4 69 (c.cells u) :: blk b12 82 [vi 0, vi 0, vi (Ac c q.line).want, vi (Ac c q.line).serial, vi (Ac c q.line).seen, vi (Ac c q.line).gave, vi (Ac c q.line).given] :: blk b7 66 q.cells :: L) ?_
        refine jd_ (fun ρ S => blk b8 69 (bif S 10 then [Gh.dec (γ := Value) (ρ 4), vi c.wait.kind, vi c.wait.line, vi c.wait.value] else [.slice none 0 0, vi 0, vi 0, vi 0]) :: blk b4 69 (c.cells u) :: blk b12 82 [vi 0, vi 0, vi (Ac c q.line).want, vi (Ac c q.line).serial, vi (Ac c q.line).seen, vi (Ac c q.line).gave, vi (Ac c q.line).given] :: blk b7 66 q.cells :: L) ?_
        refine dn4 ?_
        refine Bp (γ := Value) (val := fun v => .agg (Core.cells v (Ay c q.line ({ (Ac c q.line) with state := 0, value := 0 }) c.wait)).toArray) (F := fun v => [sl v (c.lines.set q.line.toNat ({ (Ac c q.line) with state := 0, value := 0 }))]) Try.call77 (fun _ => rfl) (fun ρ L R w hd hs => Bd (l := { (Ac c q.line) with state := 0, value := 0 }) hs (hd.base mm) hXw (by omega)) (fun ρ g S hS hA => by have u10 : upS S 4 10 = S 10 := rfl; have h10 : S 10 = false := hA 10 ⟨0, rfl⟩; simp only [u10, h10, cond_false]) ?_
        refine dn4 ?_
        refine Gn ([⟨id, q, 0⟩] : List Done) Jo rfl (fun _ => rfl) rfl (fun _ => rfl) rfl rfl (fun ρ R hd => Gv ⟨hid, hq.1, hq.2.1, hq.2.2, by unfold An; simp only; omega⟩) (fun _ _ _ _ _ => rfl) ?_
        refine es_ 69 0 [] [] (fun ρ => b8) (fun ρ => [.slice none 0 0, vi 0, vi 0, vi 0]) (fun ρ => [Gh.dec (γ := Value) (ρ 4), vi c.wait.kind, vi c.wait.line, vi c.wait.value]) Try.sizeOf69 (h1 := (fun ρ R w L' hd hs => Be (isSlice.one (hs.fact (hd.dep (it := ⟨4, _, _, _, _⟩) (by repeat (first | exact List.Mem.head _ | refine List.Mem.tail _ ?_)) ⟨9, rfl⟩ (List.Mem.head _)))) (by repeat (first | exact Di | refine Be rfl ?_)))) ?_
        refine dn1 ?_
        refine e_p (v := fun ρ => (Gh.dec (γ := Value) (ρ 9))) (fun _ _ => Eb) (Ind.gh (h := fun g => ((Gh.dec (γ := Value) g) : Value)) 9 0 rfl) (fun _ _ _ _ _ => rfl) ?_
        refine dn1 ?_
        refine dnl ?_; intro ρ
        refine xq_ (blk b8 69 [Gh.dec (γ := Value) (ρ 4), vi c.wait.kind, vi c.wait.line, vi c.wait.value] :: blk b4 69 (c.cells u) :: blk b12 82 [vi 0, vi 0, vi (Ac c q.line).want, vi (Ac c q.line).serial, vi (Ac c q.line).seen, vi (Ac c q.line).gave, vi (Ac c q.line).given] :: blk b7 66 q.cells :: L) ?_
        generalize (Gh.dec (γ := Value) (ρ 4)) = v126
        generalize (Gh.dec (γ := Value) (ρ 9)) = v131
        refine Gl ?_
        have eb : A4 (Ac c q.line) q = { (Ac c q.line) with state := 0, value := 0 } := by unfold A4; rw [if_pos (by omega), if_neg (by omega)]
        have ed : Bb (Ac c q.line) q = true := by unfold Bb; split <;> simp <;> omega
        have hz : c.wait = zOp := (hk.w.free (by omega)).1
        have et : Bs (Ac c q.line) q = 0 := by unfold Bs; rw [if_pos (by omega)]
        have er : Ai c id home q = (Ay c q.line ({ (Ac c q.line) with state := 0, value := 0 }) c.wait, [], [⟨id, q, 0⟩], 0) := by unfold Ai; rw [if_neg (by omega), if_neg (by omega), if_neg (by omega), ed, if_pos rfl, eb, et, hz]
        rw [er]
        exact F5 (v126, .slice none 0 0, v131) Try.isAgg69 Try.sizeOf69
       ·
        intro ht111
        refine kp [1, 4, 7, 8, 9, 10, 11, 12, 15, 114, 115, 116, 117, 118, 119, 120, 121] ?_
        refine Aa ?_
        refine rn3 ?_
        refine Ar Try.call79 rfl (fun w hs => J8 (v := (Ac c q.line).value) (o := q) hs (by unfold Line.wf at hlw; exact hlw.2.1) (by omega) (by omega) (by omega)) ?_; intro _
        refine rn4 ?_
        refine sc ?_
        refine Ga1 ?_
        have hvb := E2 (v := (Ac c q.line).value) (o := q) (hk.v q.line.toNat (by omega)) (by omega)
        have hXw : ({ (Ac c q.line) with value := (A0 (Ac c q.line).value q).1 } : Line).wf := by unfold Line.wf An at hlw ⊢; simp only; omega
        have hvb := E2 (v := (Ac c q.line).value) (o := q) (hk.v q.line.toNat (by omega)) (by omega)
        refine JC.slNil Msg ?_
        refine cq_ (blk b8 69 [.slice none 0 0, vi 0, vi 0, vi 0] :: blk b4 69 (c.cells u) :: blk b12 82 [vi (Ac c q.line).state, vi (A0 (Ac c q.line).value q).1, vi (Ac c q.line).want, vi (Ac c q.line).serial, vi (Ac c q.line).seen, vi (Ac c q.line).gave, vi (Ac c q.line).given] :: blk b7 66 q.cells :: L) ?_
        refine jd_ (fun ρ S => blk b8 69 (bif S 10 then [Gh.dec (γ := Value) (ρ 4), vi c.wait.kind, vi c.wait.line, vi c.wait.value] else [.slice none 0 0, vi 0, vi 0, vi 0]) :: blk b4 69 (c.cells u) :: blk b12 82 [vi (Ac c q.line).state, vi (A0 (Ac c q.line).value q).1, vi (Ac c q.line).want, vi (Ac c q.line).serial, vi (Ac c q.line).seen, vi (Ac c q.line).gave, vi (Ac c q.line).given] :: blk b7 66 q.cells :: L) ?_
        refine dn4 ?_
        refine Bp (γ := Value) (val := fun v => .agg (Core.cells v (Ay c q.line ({ (Ac c q.line) with value := (A0 (Ac c q.line).value q).1 }) c.wait)).toArray) (F := fun v => [sl v (c.lines.set q.line.toNat ({ (Ac c q.line) with value := (A0 (Ac c q.line).value q).1 }))]) Try.call77 (fun _ => rfl) (fun ρ L R w hd hs => Bd (l := { (Ac c q.line) with value := (A0 (Ac c q.line).value q).1 }) hs (hd.base mm) hXw (by omega)) (fun ρ g S hS hA => by have u10 : upS S 4 10 = S 10 := rfl; have h10 : S 10 = false := hA 10 ⟨0, rfl⟩; simp only [u10, h10, cond_false]) ?_
        refine dn4 ?_
        refine Gn ([⟨id, q, (A0 (Ac c q.line).value q).2⟩] : List Done) Jo rfl (fun _ => rfl) rfl (fun _ => rfl) rfl rfl (fun ρ R hd => Gv ⟨hid, hq.1, hq.2.1, hq.2.2, by unfold An; simp only; omega⟩) (fun _ _ _ _ _ => rfl) ?_
        refine es_ 69 0 [] [] (fun ρ => b8) (fun ρ => [.slice none 0 0, vi 0, vi 0, vi 0]) (fun ρ => [Gh.dec (γ := Value) (ρ 4), vi c.wait.kind, vi c.wait.line, vi c.wait.value]) Try.sizeOf69 (h1 := (fun ρ R w L' hd hs => Be (isSlice.one (hs.fact (hd.dep (it := ⟨4, _, _, _, _⟩) (by repeat (first | exact List.Mem.head _ | refine List.Mem.tail _ ?_)) ⟨9, rfl⟩ (List.Mem.head _)))) (by repeat (first | exact Di | refine Be rfl ?_)))) ?_
        refine dn1 ?_
        refine e_p (v := fun ρ => (Gh.dec (γ := Value) (ρ 9))) (fun _ _ => Eb) (Ind.gh (h := fun g => ((Gh.dec (γ := Value) g) : Value)) 9 0 rfl) (fun _ _ _ _ _ => rfl) ?_
        refine dn1 ?_
        refine dnl ?_; intro ρ
        refine xq_ (blk b8 69 [Gh.dec (γ := Value) (ρ 4), vi c.wait.kind, vi c.wait.line, vi c.wait.value] :: blk b4 69 (c.cells u) :: blk b12 82 [vi (Ac c q.line).state, vi (A0 (Ac c q.line).value q).1, vi (Ac c q.line).want, vi (Ac c q.line).serial, vi (Ac c q.line).seen, vi (Ac c q.line).gave, vi (Ac c q.line).given] :: blk b7 66 q.cells :: L) ?_
        generalize (Gh.dec (γ := Value) (ρ 4)) = v126
        generalize (Gh.dec (γ := Value) (ρ 9)) = v131
        refine Gl ?_
        have eb : A4 (Ac c q.line) q = { (Ac c q.line) with value := (A0 (Ac c q.line).value q).1 } := by unfold A4; rw [if_neg (by omega), if_pos (by omega)]
        have ed : Bb (Ac c q.line) q = true := by unfold Bb; split <;> simp <;> omega
        have hz : c.wait = zOp := (hk.w.free (by omega)).1
        have et : Bs (Ac c q.line) q = (A0 (Ac c q.line).value q).2 := by unfold Bs; rw [if_neg (by omega)]
        have er : Ai c id home q = (Ay c q.line ({ (Ac c q.line) with value := (A0 (Ac c q.line).value q).1 }) c.wait, [], [⟨id, q, (A0 (Ac c q.line).value q).2⟩], 0) := by unfold Ai; rw [if_neg (by omega), if_neg (by omega), if_neg (by omega), ed, if_pos rfl, eb, et, hz]
        rw [er]
        exact F5 (v126, .slice none 0 0, v131) Try.isAgg69 Try.sizeOf69
     ·
      intro ht68
      refine Gm ?_
      refine Ga2 ?_
      refine cdx (p := ?p4) (hd := ?d4) ?e4 ?_ ?_; case e4 => exact rfl
      ·
       intro ht73
       refine Gm ?_
       refine rn4 ?_
       refine jgx (t := 78) (p := ?p5) (hd := ?d5) ?e5 ?_ ?_; case e5 => exact rfl
       ·
        intro ht78
        refine Ga4 ?_
        refine cdx (p := ?p6) (hd := ?d6) ?e6 ?_ ?_; case e6 => exact rfl
        ·
         intro ht82
         refine kp [1, 2, 4, 7, 8, 9, 10, 11, 12, 13] ?_
         refine Aa ?_
         refine Gb1 ?_
         refine Ga2 ?_
         refine cTp (p := (1 : Int) ≠ 0) (by decide) ?_
         refine Gm ?_
         refine rn3 ?_
         refine ob (Fb (by exact rfl) (by exact rfl) (by unfold Line.wf An at hlw; omega) (by unfold Line.wf An at hlw; omega)) ?_
         refine rn1 ?_
         refine sc ?_
         refine rn1 ?_
         refine sc ?_
         refine Gm ?_
         refine Ga2 ?_
         refine cFp (p := (1 : Int) = 3) (by decide) ?_
         refine Gm ?_
         refine rn4 ?_
         have hXw : ({ (Ac c q.line) with want := 1, serial := (Ac c q.line).serial + 1 } : Line).wf := by unfold Line.wf An at hlw ⊢; simp only; omega
         refine Ar Try.call77 rfl (fun w hs => Bd (l := { (Ac c q.line) with want := 1, serial := (Ac c q.line).serial + 1 }) hs mm hXw (by omega)) ?_; intro v98
         refine J.know (p := v98.oneCell' = true) (fun w hs => isSlice.one (hs.fact (List.Mem.head _))) (fun hone98 => ?_)
         refine al_ (cs := [.slice none 0 0, vi 0, vi 0, vi 0]) Try.zeroValue69 ?_; intro b14
         refine s_B (cs := [v98, vi c.wait.kind, vi c.wait.line, vi c.wait.value]) Try.sizeOf69 ?_
         refine Gm ?_
         refine rn2 ?_
         refine s_N [v98, vi q.kind, vi q.line, vi q.value] Try.sizeOf66 ?_
         refine Gl ?_
         refine JC.slNil Done ?_
         refine cq_ (blk b8 69 [.slice none 0 0, vi 0, vi 0, vi 0] :: blk b14 69 [v98, vi q.kind, vi q.line, vi q.value] :: blk b12 82 [vi (Ac c q.line).state, vi (Ac c q.line).value, vi 1, vi ((Ac c q.line).serial + 1), vi (Ac c q.line).seen, vi (Ac c q.line).gave, vi (Ac c q.line).given] :: blk b7 66 q.cells :: L) ?_
         refine jd_ (fun ρ S => blk b8 69 (bif S 8 then [v98, vi q.kind, vi q.line, vi q.value] else [.slice none 0 0, vi 0, vi 0, vi 0]) :: blk b14 69 [v98, vi q.kind, vi q.line, vi q.value] :: blk b12 82 [vi (Ac c q.line).state, vi (Ac c q.line).value, vi 1, vi ((Ac c q.line).serial + 1), vi (Ac c q.line).seen, vi (Ac c q.line).gave, vi (Ac c q.line).given] :: blk b7 66 q.cells :: L) ?_
         refine dn6 ?_
         refine Bp (γ := Unit) (val := fun _ => .agg (Cx ({ (Ac c q.line) with want := 1, serial := (Ac c q.line).serial + 1 }) id home q.line).cells.toArray) (F := fun _ => []) Try.call78 (fun _ => rfl) (fun ρ L R w hd hs => L5 (l := { (Ac c q.line) with want := 1, serial := (Ac c q.line).serial + 1 }) (id := id) (home := home) (i := q.line) hs ) (fun _ _ _ _ _ => rfl) ?_
         refine Gn ([Cx ({ (Ac c q.line) with want := 1, serial := (Ac c q.line).serial + 1 }) id home q.line] : List Msg) G3 rfl (fun _ => rfl) rfl (fun _ => rfl) rfl rfl (fun ρ R hd => Jl (Qh hXw hid hhome hq.2.1)) (fun _ _ _ _ _ => rfl) ?_
         refine es_ 69 0 [] [] (fun ρ => b8) (fun ρ => [.slice none 0 0, vi 0, vi 0, vi 0]) (fun ρ => [v98, vi q.kind, vi q.line, vi q.value]) Try.sizeOf69 ?_
         refine e_p (v := fun ρ => (Gh.dec (γ := Value) (ρ 7))) (fun _ _ => Eb) (Ind.gh (h := fun g => ((Gh.dec (γ := Value) g) : Value)) 7 0 rfl) (fun _ _ _ _ _ => rfl) ?_
         refine dn2 ?_
         refine dnl ?_; intro ρ
         refine xq_ (blk b8 69 [v98, vi q.kind, vi q.line, vi q.value] :: blk b14 69 [v98, vi q.kind, vi q.line, vi q.value] :: blk b12 82 [vi (Ac c q.line).state, vi (Ac c q.line).value, vi 1, vi ((Ac c q.line).serial + 1), vi (Ac c q.line).seen, vi (Ac c q.line).gave, vi (Ac c q.line).given] :: blk b7 66 q.cells :: L) ?_
         generalize (Gh.dec (γ := Value) (ρ 7)) = v108
         refine Gl ?_
         have eb : A4 (Ac c q.line) q = { (Ac c q.line) with want := 1, serial := (Ac c q.line).serial + 1 } := by unfold A4; rw [if_neg (by omega), if_neg (by omega), if_pos (by omega)]
         have ed : Bb (Ac c q.line) q = false := by unfold Bb; split <;> simp <;> omega
         have er : Ai c id home q = (Ay c q.line ({ (Ac c q.line) with want := 1, serial := (Ac c q.line).serial + 1 }) q, [Cx ({ (Ac c q.line) with want := 1, serial := (Ac c q.line).serial + 1 }) id home q.line], [], 0) := by unfold Ai; rw [if_neg (by omega), if_neg (by omega), if_neg (by omega), ed, if_neg (by decide), eb]
         rw [er]
         exact F5 (v98, v108, .slice none 0 0) Try.isAgg69 Try.sizeOf69
        ·
         intro ht82
         refine Gl ?_
         refine kp [1, 2, 4, 7, 8, 9, 10, 11, 12, 13, 83, 84] ?_
         refine Aa ?_
         refine Ga2 ?_
         refine cFp (p := (0 : Int) ≠ 0) (by decide) ?_
         refine Gm ?_
         refine Gb1 ?_
         refine Ga3 ?_
         refine cdx (p := ?p7) (hd := ?d7) ?e7 ?_ ?_; case e7 => exact rfl
         ·
          intro ht111
          refine Aa ?_
          refine rn1 ?_
          refine sc ?_
          refine rn1 ?_
          refine sc ?_
          refine Gl ?_
          have hXw : ({ (Ac c q.line) with state := 0, value := 0 } : Line).wf := by unfold Line.wf An at hlw ⊢; simp only; omega
          have hvb := E2 (v := (Ac c q.line).value) (o := q) (hk.v q.line.toNat (by omega)) (by omega)
          refine JC.slNil Msg ?_
          refine cq_ (blk b8 69 [.slice none 0 0, vi 0, vi 0, vi 0] :: blk b4 69 (c.cells u) :: blk b12 82 [vi 0, vi 0, vi (Ac c q.line).want, vi (Ac c q.line).serial, vi (Ac c q.line).seen, vi (Ac c q.line).gave, vi (Ac c q.line).given] :: blk b7 66 q.cells :: L) ?_
          refine jd_ (fun ρ S => blk b8 69 (bif S 10 then [Gh.dec (γ := Value) (ρ 4), vi c.wait.kind, vi c.wait.line, vi c.wait.value] else [.slice none 0 0, vi 0, vi 0, vi 0]) :: blk b4 69 (c.cells u) :: blk b12 82 [vi 0, vi 0, vi (Ac c q.line).want, vi (Ac c q.line).serial, vi (Ac c q.line).seen, vi (Ac c q.line).gave, vi (Ac c q.line).given] :: blk b7 66 q.cells :: L) ?_
          refine dn4 ?_
          refine Bp (γ := Value) (val := fun v => .agg (Core.cells v (Ay c q.line ({ (Ac c q.line) with state := 0, value := 0 }) c.wait)).toArray) (F := fun v => [sl v (c.lines.set q.line.toNat ({ (Ac c q.line) with state := 0, value := 0 }))]) Try.call77 (fun _ => rfl) (fun ρ L R w hd hs => Bd (l := { (Ac c q.line) with state := 0, value := 0 }) hs (hd.base mm) hXw (by omega)) (fun ρ g S hS hA => by have u10 : upS S 4 10 = S 10 := rfl; have h10 : S 10 = false := hA 10 ⟨0, rfl⟩; simp only [u10, h10, cond_false]) ?_
          refine dn4 ?_
          refine Gn ([⟨id, q, 0⟩] : List Done) Jo rfl (fun _ => rfl) rfl (fun _ => rfl) rfl rfl (fun ρ R hd => Gv ⟨hid, hq.1, hq.2.1, hq.2.2, by unfold An; simp only; omega⟩) (fun _ _ _ _ _ => rfl) ?_
          refine es_ 69 0 [] [] (fun ρ => b8) (fun ρ => [.slice none 0 0, vi 0, vi 0, vi 0]) (fun ρ => [Gh.dec (γ := Value) (ρ 4), vi c.wait.kind, vi c.wait.line, vi c.wait.value]) Try.sizeOf69 (h1 := (fun ρ R w L' hd hs => Be (isSlice.one (hs.fact (hd.dep (it := ⟨4, _, _, _, _⟩) (by repeat (first | exact List.Mem.head _ | refine List.Mem.tail _ ?_)) ⟨9, rfl⟩ (List.Mem.head _)))) (by repeat (first | exact Di | refine Be rfl ?_)))) ?_
          refine dn1 ?_
          refine e_p (v := fun ρ => (Gh.dec (γ := Value) (ρ 9))) (fun _ _ => Eb) (Ind.gh (h := fun g => ((Gh.dec (γ := Value) g) : Value)) 9 0 rfl) (fun _ _ _ _ _ => rfl) ?_
          refine dn1 ?_
          refine dnl ?_; intro ρ
          refine xq_ (blk b8 69 [Gh.dec (γ := Value) (ρ 4), vi c.wait.kind, vi c.wait.line, vi c.wait.value] :: blk b4 69 (c.cells u) :: blk b12 82 [vi 0, vi 0, vi (Ac c q.line).want, vi (Ac c q.line).serial, vi (Ac c q.line).seen, vi (Ac c q.line).gave, vi (Ac c q.line).given] :: blk b7 66 q.cells :: L) ?_
          generalize (Gh.dec (γ := Value) (ρ 4)) = v126
          generalize (Gh.dec (γ := Value) (ρ 9)) = v131
          refine Gl ?_
          have eb : A4 (Ac c q.line) q = { (Ac c q.line) with state := 0, value := 0 } := by unfold A4; rw [if_pos (by omega), if_neg (by omega)]
          have ed : Bb (Ac c q.line) q = true := by unfold Bb; split <;> simp <;> omega
          have hz : c.wait = zOp := (hk.w.free (by omega)).1
          have et : Bs (Ac c q.line) q = 0 := by unfold Bs; rw [if_pos (by omega)]
          have er : Ai c id home q = (Ay c q.line ({ (Ac c q.line) with state := 0, value := 0 }) c.wait, [], [⟨id, q, 0⟩], 0) := by unfold Ai; rw [if_neg (by omega), if_neg (by omega), if_neg (by omega), ed, if_pos rfl, eb, et, hz]
          rw [er]
          exact F5 (v126, .slice none 0 0, v131) Try.isAgg69 Try.sizeOf69
         ·
          intro ht111
          refine Aa ?_
          refine rn3 ?_
          refine Ar Try.call79 rfl (fun w hs => J8 (v := (Ac c q.line).value) (o := q) hs (by unfold Line.wf at hlw; exact hlw.2.1) (by omega) (by omega) (by omega)) ?_; intro _
          refine rn4 ?_
          refine sc ?_
          refine Ga1 ?_
          have hvb := E2 (v := (Ac c q.line).value) (o := q) (hk.v q.line.toNat (by omega)) (by omega)
          have hXw : ({ (Ac c q.line) with value := (A0 (Ac c q.line).value q).1 } : Line).wf := by unfold Line.wf An at hlw ⊢; simp only; omega
          have hvb := E2 (v := (Ac c q.line).value) (o := q) (hk.v q.line.toNat (by omega)) (by omega)
          refine JC.slNil Msg ?_
          refine cq_ (blk b8 69 [.slice none 0 0, vi 0, vi 0, vi 0] :: blk b4 69 (c.cells u) :: blk b12 82 [vi (Ac c q.line).state, vi (A0 (Ac c q.line).value q).1, vi (Ac c q.line).want, vi (Ac c q.line).serial, vi (Ac c q.line).seen, vi (Ac c q.line).gave, vi (Ac c q.line).given] :: blk b7 66 q.cells :: L) ?_
          refine jd_ (fun ρ S => blk b8 69 (bif S 10 then [Gh.dec (γ := Value) (ρ 4), vi c.wait.kind, vi c.wait.line, vi c.wait.value] else [.slice none 0 0, vi 0, vi 0, vi 0]) :: blk b4 69 (c.cells u) :: blk b12 82 [vi (Ac c q.line).state, vi (A0 (Ac c q.line).value q).1, vi (Ac c q.line).want, vi (Ac c q.line).serial, vi (Ac c q.line).seen, vi (Ac c q.line).gave, vi (Ac c q.line).given] :: blk b7 66 q.cells :: L) ?_
          refine dn4 ?_
          refine Bp (γ := Value) (val := fun v => .agg (Core.cells v (Ay c q.line ({ (Ac c q.line) with value := (A0 (Ac c q.line).value q).1 }) c.wait)).toArray) (F := fun v => [sl v (c.lines.set q.line.toNat ({ (Ac c q.line) with value := (A0 (Ac c q.line).value q).1 }))]) Try.call77 (fun _ => rfl) (fun ρ L R w hd hs => Bd (l := { (Ac c q.line) with value := (A0 (Ac c q.line).value q).1 }) hs (hd.base mm) hXw (by omega)) (fun ρ g S hS hA => by have u10 : upS S 4 10 = S 10 := rfl; have h10 : S 10 = false := hA 10 ⟨0, rfl⟩; simp only [u10, h10, cond_false]) ?_
          refine dn4 ?_
          refine Gn ([⟨id, q, (A0 (Ac c q.line).value q).2⟩] : List Done) Jo rfl (fun _ => rfl) rfl (fun _ => rfl) rfl rfl (fun ρ R hd => Gv ⟨hid, hq.1, hq.2.1, hq.2.2, by unfold An; simp only; omega⟩) (fun _ _ _ _ _ => rfl) ?_
          refine es_ 69 0 [] [] (fun ρ => b8) (fun ρ => [.slice none 0 0, vi 0, vi 0, vi 0]) (fun ρ => [Gh.dec (γ := Value) (ρ 4), vi c.wait.kind, vi c.wait.line, vi c.wait.value]) Try.sizeOf69 (h1 := (fun ρ R w L' hd hs => Be (isSlice.one (hs.fact (hd.dep (it := ⟨4, _, _, _, _⟩) (by repeat (first | exact List.Mem.head _ | refine List.Mem.tail _ ?_)) ⟨9, rfl⟩ (List.Mem.head _)))) (by repeat (first | exact Di | refine Be rfl ?_)))) ?_
          refine dn1 ?_
          refine e_p (v := fun ρ => (Gh.dec (γ := Value) (ρ 9))) (fun _ _ => Eb) (Ind.gh (h := fun g => ((Gh.dec (γ := Value) g) : Value)) 9 0 rfl) (fun _ _ _ _ _ => rfl) ?_
          refine dn1 ?_
          refine dnl ?_; intro ρ
          refine xq_ (blk b8 69 [Gh.dec (γ := Value) (ρ 4), vi c.wait.kind, vi c.wait.line, vi c.wait.value] :: blk b4 69 (c.cells u) :: blk b12 82 [vi (Ac c q.line).state, vi (A0 (Ac c q.line).value q).1, vi (Ac c q.line).want, vi (Ac c q.line).serial, vi (Ac c q.line).seen, vi (Ac c q.line).gave, vi (Ac c q.line).given] :: blk b7 66 q.cells :: L) ?_
          generalize (Gh.dec (γ := Value) (ρ 4)) = v126
          generalize (Gh.dec (γ := Value) (ρ 9)) = v131
          refine Gl ?_
          have eb : A4 (Ac c q.line) q = { (Ac c q.line) with value := (A0 (Ac c q.line).value q).1 } := by unfold A4; rw [if_neg (by omega), if_pos (by omega)]
          have ed : Bb (Ac c q.line) q = true := by unfold Bb; split <;> simp <;> omega
          have hz : c.wait = zOp := (hk.w.free (by omega)).1
          have et : Bs (Ac c q.line) q = (A0 (Ac c q.line).value q).2 := by unfold Bs; rw [if_neg (by omega)]
          have er : Ai c id home q = (Ay c q.line ({ (Ac c q.line) with value := (A0 (Ac c q.line).value q).1 }) c.wait, [], [⟨id, q, (A0 (Ac c q.line).value q).2⟩], 0) := by unfold Ai; rw [if_neg (by omega), if_neg (by omega), if_neg (by omega), ed, if_pos rfl, eb, et, hz]
          rw [er]
          exact F5 (v126, .slice none 0 0, v131) Try.isAgg69 Try.sizeOf69
       ·
        intro ht78
        refine Gc4 ?_
        refine kp [1, 2, 4, 7, 8, 9, 10, 11, 12, 13, 83, 84] ?_
        refine Aa ?_
        refine Ga2 ?_
        refine cFp (p := (0 : Int) ≠ 0) (by decide) ?_
        refine Gm ?_
        refine Gb1 ?_
        refine Ga3 ?_
        refine cdx (p := ?p8) (hd := ?d8) ?e8 ?_ ?_; case e8 => exact rfl
        ·
         intro ht111
         refine Aa ?_
         refine rn1 ?_
         refine sc ?_
         refine rn1 ?_
         refine sc ?_
         refine Gl ?_
         have hXw : ({ (Ac c q.line) with state := 0, value := 0 } : Line).wf := by unfold Line.wf An at hlw ⊢; simp only; omega
         have hvb := E2 (v := (Ac c q.line).value) (o := q) (hk.v q.line.toNat (by omega)) (by omega)
         refine JC.slNil Msg ?_
         refine cq_ (blk b8 69 [.slice none 0 0, vi 0, vi 0, vi 0] :: blk b4 69 (c.cells u) :: blk b12 82 [vi 0, vi 0, vi (Ac c q.line).want, vi (Ac c q.line).serial, vi (Ac c q.line).seen, vi (Ac c q.line).gave, vi (Ac c q.line).given] :: blk b7 66 q.cells :: L) ?_
         refine jd_ (fun ρ S => blk b8 69 (bif S 10 then [Gh.dec (γ := Value) (ρ 4), vi c.wait.kind, vi c.wait.line, vi c.wait.value] else [.slice none 0 0, vi 0, vi 0, vi 0]) :: blk b4 69 (c.cells u) :: blk b12 82 [vi 0, vi 0, vi (Ac c q.line).want, vi (Ac c q.line).serial, vi (Ac c q.line).seen, vi (Ac c q.line).gave, vi (Ac c q.line).given] :: blk b7 66 q.cells :: L) ?_
         refine dn4 ?_
         refine Bp (γ := Value) (val := fun v => .agg (Core.cells v (Ay c q.line ({ (Ac c q.line) with state := 0, value := 0 }) c.wait)).toArray) (F := fun v => [sl v (c.lines.set q.line.toNat ({ (Ac c q.line) with state := 0, value := 0 }))]) Try.call77 (fun _ => rfl) (fun ρ L R w hd hs => Bd (l := { (Ac c q.line) with state := 0, value := 0 }) hs (hd.base mm) hXw (by omega)) (fun ρ g S hS hA => by have u10 : upS S 4 10 = S 10 := rfl; have h10 : S 10 = false := hA 10 ⟨0, rfl⟩; simp only [u10, h10, cond_false]) ?_
         refine dn4 ?_
         refine Gn ([⟨id, q, 0⟩] : List Done) Jo rfl (fun _ => rfl) rfl (fun _ => rfl) rfl rfl (fun ρ R hd => Gv ⟨hid, hq.1, hq.2.1, hq.2.2, by unfold An; simp only; omega⟩) (fun _ _ _ _ _ => rfl) ?_
         refine es_ 69 0 [] [] (fun ρ => b8) (fun ρ => [.slice none 0 0, vi 0, vi 0, vi 0]) (fun ρ => [Gh.dec (γ := Value) (ρ 4), vi c.wait.kind, vi c.wait.line, vi c.wait.value]) Try.sizeOf69 (h1 := (fun ρ R w L' hd hs => Be (isSlice.one (hs.fact (hd.dep (it := ⟨4, _, _, _, _⟩) (by repeat (first | exact List.Mem.head _ | refine List.Mem.tail _ ?_)) ⟨9, rfl⟩ (List.Mem.head _)))) (by repeat (first | exact Di | refine Be rfl ?_)))) ?_
         refine dn1 ?_
         refine e_p (v := fun ρ => (Gh.dec (γ := Value) (ρ 9))) (fun _ _ => Eb) (Ind.gh (h := fun g => ((Gh.dec (γ := Value) g) : Value)) 9 0 rfl) (fun _ _ _ _ _ => rfl) ?_
         refine dn1 ?_
         refine dnl ?_; intro ρ
         refine xq_ (blk b8 69 [Gh.dec (γ := Value) (ρ 4), vi c.wait.kind, vi c.wait.line, vi c.wait.value] :: blk b4 69 (c.cells u) :: blk b12 82 [vi 0, vi 0, vi (Ac c q.line).want, vi (Ac c q.line).serial, vi (Ac c q.line).seen, vi (Ac c q.line).gave, vi (Ac c q.line).given] :: blk b7 66 q.cells :: L) ?_
         generalize (Gh.dec (γ := Value) (ρ 4)) = v126
         generalize (Gh.dec (γ := Value) (ρ 9)) = v131
         refine Gl ?_
         have eb : A4 (Ac c q.line) q = { (Ac c q.line) with state := 0, value := 0 } := by unfold A4; rw [if_pos (by omega), if_neg (by omega)]
         have ed : Bb (Ac c q.line) q = true := by unfold Bb; split <;> simp <;> omega
         have hz : c.wait = zOp := (hk.w.free (by omega)).1
         have et : Bs (Ac c q.line) q = 0 := by unfold Bs; rw [if_pos (by omega)]
         have er : Ai c id home q = (Ay c q.line ({ (Ac c q.line) with state := 0, value := 0 }) c.wait, [], [⟨id, q, 0⟩], 0) := by unfold Ai; rw [if_neg (by omega), if_neg (by omega), if_neg (by omega), ed, if_pos rfl, eb, et, hz]
         rw [er]
         exact F5 (v126, .slice none 0 0, v131) Try.isAgg69 Try.sizeOf69
        ·
         intro ht111
         refine Aa ?_
         refine rn3 ?_
         refine Ar Try.call79 rfl (fun w hs => J8 (v := (Ac c q.line).value) (o := q) hs (by unfold Line.wf at hlw; exact hlw.2.1) (by omega) (by omega) (by omega)) ?_; intro _
         refine rn4 ?_
         refine sc ?_
         refine Ga1 ?_
         have hvb := E2 (v := (Ac c q.line).value) (o := q) (hk.v q.line.toNat (by omega)) (by omega)
         have hXw : ({ (Ac c q.line) with value := (A0 (Ac c q.line).value q).1 } : Line).wf := by unfold Line.wf An at hlw ⊢; simp only; omega
         have hvb := E2 (v := (Ac c q.line).value) (o := q) (hk.v q.line.toNat (by omega)) (by omega)
         refine JC.slNil Msg ?_
         refine cq_ (blk b8 69 [.slice none 0 0, vi 0, vi 0, vi 0] :: blk b4 69 (c.cells u) :: blk b12 82 [vi (Ac c q.line).state, vi (A0 (Ac c q.line).value q).1, vi (Ac c q.line).want, vi (Ac c q.line).serial, vi (Ac c q.line).seen, vi (Ac c q.line).gave, vi (Ac c q.line).given] :: blk b7 66 q.cells :: L) ?_
         refine jd_ (fun ρ S => blk b8 69 (bif S 10 then [Gh.dec (γ := Value) (ρ 4), vi c.wait.kind, vi c.wait.line, vi c.wait.value] else [.slice none 0 0, vi 0, vi 0, vi 0]) :: blk b4 69 (c.cells u) :: blk b12 82 [vi (Ac c q.line).state, vi (A0 (Ac c q.line).value q).1, vi (Ac c q.line).want, vi (Ac c q.line).serial, vi (Ac c q.line).seen, vi (Ac c q.line).gave, vi (Ac c q.line).given] :: blk b7 66 q.cells :: L) ?_
         refine dn4 ?_
         refine Bp (γ := Value) (val := fun v => .agg (Core.cells v (Ay c q.line ({ (Ac c q.line) with value := (A0 (Ac c q.line).value q).1 }) c.wait)).toArray) (F := fun v => [sl v (c.lines.set q.line.toNat ({ (Ac c q.line) with value := (A0 (Ac c q.line).value q).1 }))]) Try.call77 (fun _ => rfl) (fun ρ L R w hd hs => Bd (l := { (Ac c q.line) with value := (A0 (Ac c q.line).value q).1 }) hs (hd.base mm) hXw (by omega)) (fun ρ g S hS hA => by have u10 : upS S 4 10 = S 10 := rfl; have h10 : S 10 = false := hA 10 ⟨0, rfl⟩; simp only [u10, h10, cond_false]) ?_
         refine dn4 ?_
         refine Gn ([⟨id, q, (A0 (Ac c q.line).value q).2⟩] : List Done) Jo rfl (fun _ => rfl) rfl (fun _ => rfl) rfl rfl (fun ρ R hd => Gv ⟨hid, hq.1, hq.2.1, hq.2.2, by unfold An; simp only; omega⟩) (fun _ _ _ _ _ => rfl) ?_
         refine es_ 69 0 [] [] (fun ρ => b8) (fun ρ => [.slice none 0 0, vi 0, vi 0, vi 0]) (fun ρ => [Gh.dec (γ := Value) (ρ 4), vi c.wait.kind, vi c.wait.line, vi c.wait.value]) Try.sizeOf69 (h1 := (fun ρ R w L' hd hs => Be (isSlice.one (hs.fact (hd.dep (it := ⟨4, _, _, _, _⟩) (by repeat (first | exact List.Mem.head _ | refine List.Mem.tail _ ?_)) ⟨9, rfl⟩ (List.Mem.head _)))) (by repeat (first | exact Di | refine Be rfl ?_)))) ?_
         refine dn1 ?_
         refine e_p (v := fun ρ => (Gh.dec (γ := Value) (ρ 9))) (fun _ _ => Eb) (Ind.gh (h := fun g => ((Gh.dec (γ := Value) g) : Value)) 9 0 rfl) (fun _ _ _ _ _ => rfl) ?_
         refine dn1 ?_
         refine dnl ?_; intro ρ
         refine xq_ (blk b8 69 [Gh.dec (γ := Value) (ρ 4), vi c.wait.kind, vi c.wait.line, vi c.wait.value] :: blk b4 69 (c.cells u) :: blk b12 82 [vi (Ac c q.line).state, vi (A0 (Ac c q.line).value q).1, vi (Ac c q.line).want, vi (Ac c q.line).serial, vi (Ac c q.line).seen, vi (Ac c q.line).gave, vi (Ac c q.line).given] :: blk b7 66 q.cells :: L) ?_
         generalize (Gh.dec (γ := Value) (ρ 4)) = v126
         generalize (Gh.dec (γ := Value) (ρ 9)) = v131
         refine Gl ?_
         have eb : A4 (Ac c q.line) q = { (Ac c q.line) with value := (A0 (Ac c q.line).value q).1 } := by unfold A4; rw [if_neg (by omega), if_pos (by omega)]
         have ed : Bb (Ac c q.line) q = true := by unfold Bb; split <;> simp <;> omega
         have hz : c.wait = zOp := (hk.w.free (by omega)).1
         have et : Bs (Ac c q.line) q = (A0 (Ac c q.line).value q).2 := by unfold Bs; rw [if_neg (by omega)]
         have er : Ai c id home q = (Ay c q.line ({ (Ac c q.line) with value := (A0 (Ac c q.line).value q).1 }) c.wait, [], [⟨id, q, (A0 (Ac c q.line).value q).2⟩], 0) := by unfold Ai; rw [if_neg (by omega), if_neg (by omega), if_neg (by omega), ed, if_pos rfl, eb, et, hz]
         rw [er]
         exact F5 (v126, .slice none 0 0, v131) Try.isAgg69 Try.sizeOf69
      ·
       intro ht73
       refine Gm ?_
       refine Ga3 ?_
       refine cdx (p := ?p9) (hd := ?d9) ?e9 ?_ ?_; case e9 => exact rfl
       ·
        intro ht67
        refine Aa ?_
        refine Gb1 ?_
        refine Ga2 ?_
        refine cTp (p := (2 : Int) ≠ 0) (by decide) ?_
        refine Gm ?_
        refine rn3 ?_
        refine ob (Fb (by exact rfl) (by exact rfl) (by unfold Line.wf An at hlw; omega) (by unfold Line.wf An at hlw; omega)) ?_
        refine rn1 ?_
        refine sc ?_
        refine rn1 ?_
        refine sc ?_
        refine Gl ?_
        refine kp [1, 2, 4, 7, 8, 9, 10, 11, 12, 13, 91, 92] ?_
        refine Aa ?_
        refine Ga2 ?_
        refine cFp (p := (2 : Int) = 3) (by decide) ?_
        refine Gm ?_
        refine rn4 ?_
        have hXw : ({ (Ac c q.line) with want := 2, serial := (Ac c q.line).serial + 1 } : Line).wf := by unfold Line.wf An at hlw ⊢; simp only; omega
        refine Ar Try.call77 rfl (fun w hs => Bd (l := { (Ac c q.line) with want := 2, serial := (Ac c q.line).serial + 1 }) hs mm hXw (by omega)) ?_; intro v98
        refine J.know (p := v98.oneCell' = true) (fun w hs => isSlice.one (hs.fact (List.Mem.head _))) (fun hone98 => ?_)
        refine al_ (cs := [.slice none 0 0, vi 0, vi 0, vi 0]) Try.zeroValue69 ?_; intro b14
        refine s_B (cs := [v98, vi c.wait.kind, vi c.wait.line, vi c.wait.value]) Try.sizeOf69 ?_
        refine Gm ?_
        refine rn2 ?_
        refine s_N [v98, vi q.kind, vi q.line, vi q.value] Try.sizeOf66 ?_
        refine Gl ?_
        refine JC.slNil Done ?_
        refine cq_ (blk b8 69 [.slice none 0 0, vi 0, vi 0, vi 0] :: blk b14 69 [v98, vi q.kind, vi q.line, vi q.value] :: blk b12 82 [vi (Ac c q.line).state, vi (Ac c q.line).value, vi 2, vi ((Ac c q.line).serial + 1), vi (Ac c q.line).seen, vi (Ac c q.line).gave, vi (Ac c q.line).given] :: blk b7 66 q.cells :: L) ?_
        refine jd_ (fun ρ S => blk b8 69 (bif S 8 then [v98, vi q.kind, vi q.line, vi q.value] else [.slice none 0 0, vi 0, vi 0, vi 0]) :: blk b14 69 [v98, vi q.kind, vi q.line, vi q.value] :: blk b12 82 [vi (Ac c q.line).state, vi (Ac c q.line).value, vi 2, vi ((Ac c q.line).serial + 1), vi (Ac c q.line).seen, vi (Ac c q.line).gave, vi (Ac c q.line).given] :: blk b7 66 q.cells :: L) ?_
        refine dn6 ?_
        refine Bp (γ := Unit) (val := fun _ => .agg (Cx ({ (Ac c q.line) with want := 2, serial := (Ac c q.line).serial + 1 }) id home q.line).cells.toArray) (F := fun _ => []) Try.call78 (fun _ => rfl) (fun ρ L R w hd hs => L5 (l := { (Ac c q.line) with want := 2, serial := (Ac c q.line).serial + 1 }) (id := id) (home := home) (i := q.line) hs ) (fun _ _ _ _ _ => rfl) ?_
        refine Gn ([Cx ({ (Ac c q.line) with want := 2, serial := (Ac c q.line).serial + 1 }) id home q.line] : List Msg) G3 rfl (fun _ => rfl) rfl (fun _ => rfl) rfl rfl (fun ρ R hd => Jl (Qh hXw hid hhome hq.2.1)) (fun _ _ _ _ _ => rfl) ?_
        refine es_ 69 0 [] [] (fun ρ => b8) (fun ρ => [.slice none 0 0, vi 0, vi 0, vi 0]) (fun ρ => [v98, vi q.kind, vi q.line, vi q.value]) Try.sizeOf69 ?_
        refine e_p (v := fun ρ => (Gh.dec (γ := Value) (ρ 7))) (fun _ _ => Eb) (Ind.gh (h := fun g => ((Gh.dec (γ := Value) g) : Value)) 7 0 rfl) (fun _ _ _ _ _ => rfl) ?_
        refine dn2 ?_
        refine dnl ?_; intro ρ
        refine xq_ (blk b8 69 [v98, vi q.kind, vi q.line, vi q.value] :: blk b14 69 [v98, vi q.kind, vi q.line, vi q.value] :: blk b12 82 [vi (Ac c q.line).state, vi (Ac c q.line).value, vi 2, vi ((Ac c q.line).serial + 1), vi (Ac c q.line).seen, vi (Ac c q.line).gave, vi (Ac c q.line).given] :: blk b7 66 q.cells :: L) ?_
        generalize (Gh.dec (γ := Value) (ρ 7)) = v108
        refine Gl ?_
        have eb : A4 (Ac c q.line) q = { (Ac c q.line) with want := 2, serial := (Ac c q.line).serial + 1 } := by unfold A4; rw [if_neg (by omega), if_neg (by omega), if_neg (by omega)]
        have ed : Bb (Ac c q.line) q = false := by unfold Bb; split <;> simp <;> omega
        have er : Ai c id home q = (Ay c q.line ({ (Ac c q.line) with want := 2, serial := (Ac c q.line).serial + 1 }) q, [Cx ({ (Ac c q.line) with want := 2, serial := (Ac c q.line).serial + 1 }) id home q.line], [], 0) := by unfold Ai; rw [if_neg (by omega), if_neg (by omega), if_neg (by omega), ed, if_neg (by decide), eb]
        rw [er]
        exact F5 (v98, v108, .slice none 0 0) Try.isAgg69 Try.sizeOf69
       ·
        intro ht67
        refine Gm ?_
        refine Ga2 ?_
        refine cFp (p := (0 : Int) ≠ 0) (by decide) ?_
        refine Gm ?_
        refine Gb1 ?_
        refine Ga3 ?_
        refine cdx (p := ?p10) (hd := ?d10) ?e10 ?_ ?_; case e10 => exact rfl
        ·
         intro ht111
         refine kp [1, 4, 7, 8, 9, 10, 11, 12, 15, 112, 113] ?_
         refine Aa ?_
         refine rn1 ?_
         refine sc ?_
         refine rn1 ?_
         refine sc ?_
         refine Gl ?_
         have hXw : ({ (Ac c q.line) with state := 0, value := 0 } : Line).wf := by unfold Line.wf An at hlw ⊢; simp only; omega
         have hvb := E2 (v := (Ac c q.line).value) (o := q) (hk.v q.line.toNat (by omega)) (by omega)
         refine JC.slNil Msg ?_
         refine cq_ (blk b8 69 [.slice none 0 0, vi 0, vi 0, vi 0] :: blk b4 69 (c.cells u) :: blk b12 82 [vi 0, vi 0, vi (Ac c q.line).want, vi (Ac c q.line).serial, vi (Ac c q.line).seen, vi (Ac c q.line).gave, vi (Ac c q.line).given] :: blk b7 66 q.cells :: L) ?_
         refine jd_ (fun ρ S => blk b8 69 (bif S 10 then [Gh.dec (γ := Value) (ρ 4), vi c.wait.kind, vi c.wait.line, vi c.wait.value] else [.slice none 0 0, vi 0, vi 0, vi 0]) :: blk b4 69 (c.cells u) :: blk b12 82 [vi 0, vi 0, vi (Ac c q.line).want, vi (Ac c q.line).serial, vi (Ac c q.line).seen, vi (Ac c q.line).gave, vi (Ac c q.line).given] :: blk b7 66 q.cells :: L) ?_
         refine dn4 ?_
         refine Bp (γ := Value) (val := fun v => .agg (Core.cells v (Ay c q.line ({ (Ac c q.line) with state := 0, value := 0 }) c.wait)).toArray) (F := fun v => [sl v (c.lines.set q.line.toNat ({ (Ac c q.line) with state := 0, value := 0 }))]) Try.call77 (fun _ => rfl) (fun ρ L R w hd hs => Bd (l := { (Ac c q.line) with state := 0, value := 0 }) hs (hd.base mm) hXw (by omega)) (fun ρ g S hS hA => by have u10 : upS S 4 10 = S 10 := rfl; have h10 : S 10 = false := hA 10 ⟨0, rfl⟩; simp only [u10, h10, cond_false]) ?_
         refine dn4 ?_
         refine Gn ([⟨id, q, 0⟩] : List Done) Jo rfl (fun _ => rfl) rfl (fun _ => rfl) rfl rfl (fun ρ R hd => Gv ⟨hid, hq.1, hq.2.1, hq.2.2, by unfold An; simp only; omega⟩) (fun _ _ _ _ _ => rfl) ?_
         refine es_ 69 0 [] [] (fun ρ => b8) (fun ρ => [.slice none 0 0, vi 0, vi 0, vi 0]) (fun ρ => [Gh.dec (γ := Value) (ρ 4), vi c.wait.kind, vi c.wait.line, vi c.wait.value]) Try.sizeOf69 (h1 := (fun ρ R w L' hd hs => Be (isSlice.one (hs.fact (hd.dep (it := ⟨4, _, _, _, _⟩) (by repeat (first | exact List.Mem.head _ | refine List.Mem.tail _ ?_)) ⟨9, rfl⟩ (List.Mem.head _)))) (by repeat (first | exact Di | refine Be rfl ?_)))) ?_
         refine dn1 ?_
         refine e_p (v := fun ρ => (Gh.dec (γ := Value) (ρ 9))) (fun _ _ => Eb) (Ind.gh (h := fun g => ((Gh.dec (γ := Value) g) : Value)) 9 0 rfl) (fun _ _ _ _ _ => rfl) ?_
         refine dn1 ?_
         refine dnl ?_; intro ρ
         refine xq_ (blk b8 69 [Gh.dec (γ := Value) (ρ 4), vi c.wait.kind, vi c.wait.line, vi c.wait.value] :: blk b4 69 (c.cells u) :: blk b12 82 [vi 0, vi 0, vi (Ac c q.line).want, vi (Ac c q.line).serial, vi (Ac c q.line).seen, vi (Ac c q.line).gave, vi (Ac c q.line).given] :: blk b7 66 q.cells :: L) ?_
         generalize (Gh.dec (γ := Value) (ρ 4)) = v126
         generalize (Gh.dec (γ := Value) (ρ 9)) = v131
         refine Gl ?_
         have eb : A4 (Ac c q.line) q = { (Ac c q.line) with state := 0, value := 0 } := by unfold A4; rw [if_pos (by omega), if_neg (by omega)]
         have ed : Bb (Ac c q.line) q = true := by unfold Bb; split <;> simp <;> omega
         have hz : c.wait = zOp := (hk.w.free (by omega)).1
         have et : Bs (Ac c q.line) q = 0 := by unfold Bs; rw [if_pos (by omega)]
         have er : Ai c id home q = (Ay c q.line ({ (Ac c q.line) with state := 0, value := 0 }) c.wait, [], [⟨id, q, 0⟩], 0) := by unfold Ai; rw [if_neg (by omega), if_neg (by omega), if_neg (by omega), ed, if_pos rfl, eb, et, hz]
         rw [er]
         exact F5 (v126, .slice none 0 0, v131) Try.isAgg69 Try.sizeOf69
        ·
         intro ht111
         refine kp [1, 4, 7, 8, 9, 10, 11, 12, 15, 114, 115, 116, 117, 118, 119, 120, 121] ?_
         refine Aa ?_
         refine rn3 ?_
         refine Ar Try.call79 rfl (fun w hs => J8 (v := (Ac c q.line).value) (o := q) hs (by unfold Line.wf at hlw; exact hlw.2.1) (by omega) (by omega) (by omega)) ?_; intro _
         refine rn4 ?_
         refine sc ?_
         refine Ga1 ?_
         have hvb := E2 (v := (Ac c q.line).value) (o := q) (hk.v q.line.toNat (by omega)) (by omega)
         have hXw : ({ (Ac c q.line) with value := (A0 (Ac c q.line).value q).1 } : Line).wf := by unfold Line.wf An at hlw ⊢; simp only; omega
         have hvb := E2 (v := (Ac c q.line).value) (o := q) (hk.v q.line.toNat (by omega)) (by omega)
         refine JC.slNil Msg ?_
         refine cq_ (blk b8 69 [.slice none 0 0, vi 0, vi 0, vi 0] :: blk b4 69 (c.cells u) :: blk b12 82 [vi (Ac c q.line).state, vi (A0 (Ac c q.line).value q).1, vi (Ac c q.line).want, vi (Ac c q.line).serial, vi (Ac c q.line).seen, vi (Ac c q.line).gave, vi (Ac c q.line).given] :: blk b7 66 q.cells :: L) ?_
         refine jd_ (fun ρ S => blk b8 69 (bif S 10 then [Gh.dec (γ := Value) (ρ 4), vi c.wait.kind, vi c.wait.line, vi c.wait.value] else [.slice none 0 0, vi 0, vi 0, vi 0]) :: blk b4 69 (c.cells u) :: blk b12 82 [vi (Ac c q.line).state, vi (A0 (Ac c q.line).value q).1, vi (Ac c q.line).want, vi (Ac c q.line).serial, vi (Ac c q.line).seen, vi (Ac c q.line).gave, vi (Ac c q.line).given] :: blk b7 66 q.cells :: L) ?_
         refine dn4 ?_
         refine Bp (γ := Value) (val := fun v => .agg (Core.cells v (Ay c q.line ({ (Ac c q.line) with value := (A0 (Ac c q.line).value q).1 }) c.wait)).toArray) (F := fun v => [sl v (c.lines.set q.line.toNat ({ (Ac c q.line) with value := (A0 (Ac c q.line).value q).1 }))]) Try.call77 (fun _ => rfl) (fun ρ L R w hd hs => Bd (l := { (Ac c q.line) with value := (A0 (Ac c q.line).value q).1 }) hs (hd.base mm) hXw (by omega)) (fun ρ g S hS hA => by have u10 : upS S 4 10 = S 10 := rfl; have h10 : S 10 = false := hA 10 ⟨0, rfl⟩; simp only [u10, h10, cond_false]) ?_
         refine dn4 ?_
         refine Gn ([⟨id, q, (A0 (Ac c q.line).value q).2⟩] : List Done) Jo rfl (fun _ => rfl) rfl (fun _ => rfl) rfl rfl (fun ρ R hd => Gv ⟨hid, hq.1, hq.2.1, hq.2.2, by unfold An; simp only; omega⟩) (fun _ _ _ _ _ => rfl) ?_
         refine es_ 69 0 [] [] (fun ρ => b8) (fun ρ => [.slice none 0 0, vi 0, vi 0, vi 0]) (fun ρ => [Gh.dec (γ := Value) (ρ 4), vi c.wait.kind, vi c.wait.line, vi c.wait.value]) Try.sizeOf69 (h1 := (fun ρ R w L' hd hs => Be (isSlice.one (hs.fact (hd.dep (it := ⟨4, _, _, _, _⟩) (by repeat (first | exact List.Mem.head _ | refine List.Mem.tail _ ?_)) ⟨9, rfl⟩ (List.Mem.head _)))) (by repeat (first | exact Di | refine Be rfl ?_)))) ?_
         refine dn1 ?_
         refine e_p (v := fun ρ => (Gh.dec (γ := Value) (ρ 9))) (fun _ _ => Eb) (Ind.gh (h := fun g => ((Gh.dec (γ := Value) g) : Value)) 9 0 rfl) (fun _ _ _ _ _ => rfl) ?_
         refine dn1 ?_
         refine dnl ?_; intro ρ
         refine xq_ (blk b8 69 [Gh.dec (γ := Value) (ρ 4), vi c.wait.kind, vi c.wait.line, vi c.wait.value] :: blk b4 69 (c.cells u) :: blk b12 82 [vi (Ac c q.line).state, vi (A0 (Ac c q.line).value q).1, vi (Ac c q.line).want, vi (Ac c q.line).serial, vi (Ac c q.line).seen, vi (Ac c q.line).gave, vi (Ac c q.line).given] :: blk b7 66 q.cells :: L) ?_
         generalize (Gh.dec (γ := Value) (ρ 4)) = v126
         generalize (Gh.dec (γ := Value) (ρ 9)) = v131
         refine Gl ?_
         have eb : A4 (Ac c q.line) q = { (Ac c q.line) with value := (A0 (Ac c q.line).value q).1 } := by unfold A4; rw [if_neg (by omega), if_pos (by omega)]
         have ed : Bb (Ac c q.line) q = true := by unfold Bb; split <;> simp <;> omega
         have hz : c.wait = zOp := (hk.w.free (by omega)).1
         have et : Bs (Ac c q.line) q = (A0 (Ac c q.line).value q).2 := by unfold Bs; rw [if_neg (by omega)]
         have er : Ai c id home q = (Ay c q.line ({ (Ac c q.line) with value := (A0 (Ac c q.line).value q).1 }) c.wait, [], [⟨id, q, (A0 (Ac c q.line).value q).2⟩], 0) := by unfold Ai; rw [if_neg (by omega), if_neg (by omega), if_neg (by omega), ed, if_pos rfl, eb, et, hz]
         rw [er]
         exact F5 (v126, .slice none 0 0, v131) Try.isAgg69 Try.sizeOf69
end Go.Proofs.Ytofgpimoekhfaaa

/- This file proves what small functions within a core's hearing make, by the document's answer. No conditions. -/
set_option linter.unusedVariables false
set_option linter.unusedSimpArgs false
set_option maxHeartbeats 1000000
set_option maxRecDepth 8000
namespace Go.Proofs.Ytofgpimoekhfaaa
open Go
theorem N1 {L : List Chunk} {R : List Fact} {w : World} {b5 b6 b7 : Nat} {kind turn v id home line : Int} (hs : St (L) R w) (c5 : De L R (bp b5 0) [vi id]) (c6 : De L R (bp b6 0) [vi home]) (c7 : De L R (bp b7 3) [vi line]) (hkd : An kind) (ht : An turn) (hv : An v) (hid : An id) (hhome : An home) (hl : An line) : Calls Try.prog 85 [vi kind, vi turn, vi v, bp b5 0, bp b6 0, bp b7 0].toArray w (Cg (fun u : Value => u) (fun u => L) (fun u => sl u [Ce kind id home line turn v] :: R)) := by
 refine Ah Try.func85 rfl Try.ntmps85 rfl hs ?_
 clear hs
 refine Gm ?_
 refine Gb1 ?_
 refine rn1 ?_
 refine ob (C6 Try.isAgg3 (hc := c5)) ?_
 refine ob (C6 Try.isAgg3 (hc := c6)) ?_
 refine rn1 ?_
 refine ob (C6 Try.isAgg3 (hc := c7)) ?_
 refine rn3 ?_
 refine li ([Ce kind id home line turn v] : List Msg) G3 rfl (Jl (by unfold Msg.wf Ce An at *; simp only; omega)) ?_; intro v18
 refine Ga1 ?_
 exact Bm v18
theorem W3 {L : List Chunk} {R : List Fact} {w : World} {b5 b4 : Nat} {id : Int} {q : Op} (hs : St (L) R w) (c5 : De L R (bp b5 0) [vi id]) (c4 : De L R (bp b4 1) q.cells) (hid : An id) (hq : q.wf) : Calls Try.prog 86 [bp b5 0, bp b4 0].toArray w (Cg (fun u : Value => u) (fun u => L) (fun u => sl u [(⟨id, q, 0⟩ : Done)] :: R)) := by
 refine Ah Try.func86 rfl Try.ntmps86 rfl hs ?_
 clear hs
 refine Gm ?_
 refine Gb1 ?_
 refine ob (C6 Try.isAgg3 (hc := c5)) ?_
 refine rn1 ?_
 refine ob (Vu Try.isAgg66 Try.sizeOf66 (hc := c4)) ?_
 refine rn1 ?_
 refine li ([⟨id, q, 0⟩] : List Done) Jo rfl (Gv ⟨hid, hq.1, hq.2.1, hq.2.2, by unfold An; simp only; omega⟩) ?_; intro v7
 refine Ga1 ?_
 exact Bm v7
theorem Ns {v : Int} {o : Op} (hv : An v) : An (A0 v o).2 := by
  unfold A0; split
  · exact hv
  split
  · unfold An; simp only; omega
  split
  · exact hv
  · unfold An; simp only; omega
theorem KB.wait {c : Core} (h : KB c) (i : Int) (hi : i.toNat < c.lines.length) (hw : (Ac c i).want ≠ 0) : (1 ≤ c.wait.kind ∧ c.wait.kind ≤ 4) ∧ (0 ≤ c.wait.line ∧ c.wait.line < c.lines.length) ∧ (0 ≤ c.wait.value ∧ c.wait.value ≤ 255) := by
 have hb := h.w.busy (fun h0 => hw ((h.w.free h0).2 i.toNat hi))
 exact ⟨hb.1, hb.2.1, hb.2.2.1⟩
theorem KB.wwf {c : Core} (h : KB c) : c.wait.wf := by
  by_cases h0 : c.wait.kind = 0
  · rw [(h.w.free h0).1]; unfold Op.wf An zOp; simp only; omega
  · obtain ⟨h1, h2, h3, _⟩ := h.w.busy h0
    have := h.n
    unfold Op.wf An; omega
theorem P1 {c : Core} {id home : Int} {m : Msg} (h : m.line < 0 ∨ (c.lines.length : Int) ≤ m.line) : Ag c id home m = (c, [], []) := by unfold Ag; rw [if_pos h]
end Go.Proofs.Ytofgpimoekhfaaa

/- This file proves that each step of a chip keeps what must hold, and that what is done by it is as of memory that is one. No program in sight. No conditions. -/
set_option linter.unusedVariables false
set_option linter.unusedSimpArgs false
namespace Go.Proofs.Ytofgpimoekhfaaa
open Abs
def Ds (M : List Int) : List Done → List Int → Prop
 | [], M' => M' = M
 | d :: r, M' => (1 ≤ d.op.kind ∧ d.op.kind ≤ 4) ∧ (0 ≤ d.op.line ∧ d.op.line < M.length) ∧ (0 ≤ d.op.value ∧ d.op.value ≤ 255) ∧
   d.value = (if d.op.kind = 4 then 0 else (A0 (M.getD d.op.line.toNat 0) d.op).2) ∧ Ds (M.set d.op.line.toNat (A0 (M.getD d.op.line.toNat 0) d.op).1) r M'
theorem Ke {v : Int} {o : Op} (hv : 0 ≤ v ∧ v ≤ 255) (ho : 0 ≤ o.value ∧ o.value ≤ 255) : 0 ≤ (A0 v o).1 ∧ (A0 v o).1 ≤ 255 := by
  unfold A0
  split
  · exact hv
  · split
    · exact ho
    · split
      · simp only; omega
      · exact hv
theorem Fx {v : Int} {o : Op} (h : o.kind = 1 ∨ o.kind = 4) : (A0 v o).1 = v := by
 unfold A0
 rcases h with h | h <;> simp [h]
section
variable {n nl : Nat} {x : Chip} {M : List Int}
theorem Ea {α : Type} (l : List α) (i : Nat) (d : α) (h : i < l.length) : l.set i (l.getD i d) = l := by
  apply List.ext_getElem?
  intro j
  by_cases hj : j = i
  · subst hj; rw [List.getElem?_set_self h, List.getD_eq_getElem?_getD, List.getElem?_eq_getElem h]; rfl
  · rw [List.getElem?_set_ne (Ne.symm hj)]
theorem Inv.same (h : Inv n nl x M) (i : Nat) (hi : i < nl) : M.set i (M.getD i 0) = M := Ea _ _ _ (by rw [h.ml]; exact hi)
theorem Gq (h : Inv n nl x M) {p i : Nat} (hp : p < n) (hi : i < nl) {kind serial turn value : Int} {al : Bool} (hk : 1 ≤ kind ∧ kind ≤ 11) (hs : 0 ≤ serial ∧ serial ≤ 65535) (ht : 0 ≤ turn ∧ turn ≤ 65535) (hv : 0 ≤ value ∧ value ≤ 255) :
  A5 (Ft n nl) ⟨kind, p, n, i, serial, turn, value, al⟩ = 0 :=
 Po hk (by simp only [Ft]; omega) (by simp only [Ft]; omega) hs ht hv (by simp only [Ft]; intro h; have h' := h.2 trivial; omega)
theorem Lx (h : Inv n nl x M) {p i : Nat} (hp : p < n) (hi : i < nl) {kind serial turn value : Int} {al : Bool} (hk : 1 ≤ kind ∧ kind ≤ 11) (hs : 0 ≤ serial ∧ serial ≤ 65535) (ht : 0 ≤ turn ∧ turn ≤ 65535) (hv : 0 ≤ value ∧ value ≤ 255) :
  A5 (Ft n nl) ⟨kind, n, p, i, serial, turn, value, al⟩ = 0 :=
 Po hk (by simp only [Ft]; omega) (by simp only [Ft]; omega) hs ht hv (by simp only [Ft]; intro h; have h' := h.1 trivial; omega)
theorem Kd {p i : Nat} {kind serial turn value : Int} {al : Bool} : Qz n ⟨kind, p, n, i, serial, turn, value, al⟩ = p := by simp [Qz]
theorem Nq {p i : Nat} (hp : p < n) {kind serial turn value : Int} {al : Bool} : Qz n ⟨kind, n, p, i, serial, turn, value, al⟩ = p := by
 unfold Qz
 rw [if_neg (by simp only; omega)]; simp
theorem Px {p i : Nat} {l' : Line} {w' : Op} (h : Inv n nl x M) (hp : p < n) (hi : i < nl) {fr : Frames} : lin ⟨x.cores.set p (Ay (cor x p) i l' w'), x.home, fr⟩ i p = l' := by
 unfold lin cor
 rw [Cs _ _ _ _ _ (by rw [h.nc]; exact hp), if_pos rfl]
 show ((cor x p).lines.set _ l').getD i zLine = l'
 rw [Int.toNat_natCast, Cs _ _ _ _ _ (by rw [h.ncl p hp]; exact hi), if_pos rfl]
theorem Yi {k : Core} {i : Nat} {l' : Line} {o : Op} (hl : k.lines.length = nl) (h : CW k nl) (h0 : k.wait.kind = 0) (hi : i < nl) (ho : (1 ≤ o.kind ∧ o.kind ≤ 4) ∧ o.line = i ∧ (0 ≤ o.value ∧ o.value ≤ 255)) (hw : l'.want = E8 o.kind) : CW (Ay k i l' o) nl := by
  constructor
  · intro h'; exact absurd h' (by show o.kind ≠ 0; omega)
  · intro _
    refine ⟨ho.1, ?_, ho.2.2, fun j hj => ?_⟩
    · show 0 ≤ o.line ∧ o.line < nl; omega
    · show ((k.lines.set _ l').getD j zLine).want = if (j : Int) = o.line then _ else _
      rw [Int.toNat_natCast, Cs _ _ _ _ _ (by rw [hl]; exact hi), ho.2.1]
      by_cases hj' : j = i
      · rw [if_pos hj', if_pos (by rw [hj'])]; exact hw
      · rw [if_neg hj', if_neg (by omega)]; exact (h.free h0).2 j hj
theorem I6 {k : Core} {i : Nat} {l' : Line} (hl : k.lines.length = nl) (h : CW k nl) (hi : i < nl) (h0 : k.wait.kind = 0 ∨ k.wait.line = i) (hw : l'.want = 0) : CW (Ay k i l' zOp) nl := by
  constructor
  · intro _
    refine ⟨rfl, fun j hj => ?_⟩
    show ((k.lines.set _ l').getD j zLine).want = 0
    rw [Int.toNat_natCast, Cs _ _ _ _ _ (by rw [hl]; exact hi)]
    by_cases hj' : j = i
    · rw [if_pos hj']; exact hw
    · rw [if_neg hj']
      by_cases h00 : k.wait.kind = 0
      · exact (h.free h00).2 j hj
      · have := (h.busy h00).2.2.2 j hj
        rw [this, if_neg (by omega)]
  · intro h'; exact absurd rfl h'
theorem Ta {k : Core} {i : Nat} {l' : Line} (hl : k.lines.length = nl) (h : CW k nl) (hi : i < nl) (hw : l'.want = (k.lines.getD i zLine).want) : CW (Ay k i l' k.wait) nl := by
  have hg : ∀ j, ((Ay k i l' k.wait).lines.getD j zLine).want = (k.lines.getD j zLine).want := by
    intro j
    show ((k.lines.set _ l').getD j zLine).want = _
    rw [Int.toNat_natCast, Cs _ _ _ _ _ (by rw [hl]; exact hi)]
    by_cases hj' : j = i
    · rw [if_pos hj', hj']; exact hw
    · rw [if_neg hj']
  constructor
  · intro h0
    exact ⟨(h.free h0).1, fun j hj => by rw [hg]; exact (h.free h0).2 j hj⟩
  · intro h0
    obtain ⟨h1, h2, h3, h4⟩ := h.busy h0
    exact ⟨h1, h2, h3, fun j hj => by rw [hg]; exact h4 j hj⟩
theorem Pg {k : Core} {i : Nat} (h : CW k nl) (hi : i < nl) (hw : (k.lines.getD i zLine).want ≠ 0) : k.wait.kind ≠ 0 ∧ k.wait.line = i ∧ (k.lines.getD i zLine).want = E8 k.wait.kind := by
  have h0 : k.wait.kind ≠ 0 := fun h0 => hw ((h.free h0).2 i hi)
  have h1 := (h.busy h0).2.2.2 i hi
  by_cases he : (i : Int) = k.wait.line
  · rw [if_pos he] at h1; exact ⟨h0, he.symm, h1⟩
  · rw [if_neg he] at h1; exact absurd h1 hw
theorem Su {p : Nat} {o : Op} (h : Inv n nl x M) (hp : p < n) (hok : (Ai (cor x p) p n o).2.2.2 = 0) :
    ∃ M', Inv n nl (C1 x p (Ai (cor x p) p n o).1 (Ai (cor x p) p n o).2.1) M' ∧ Ds M (Ai (cor x p) p n o).2.2.1 M' := by
  have hcl := h.ncl p hp
  have hcw := h.cw p hp
  unfold Ai at hok ⊢
  split at hok
  · cases hok
  split at hok
  · cases hok
  split at hok
  · cases hok
  rename_i k1 k2 k3
  rw [if_neg k1, if_neg k2, if_neg k3]
  obtain ⟨i, hi⟩ : ∃ i : Nat, o.line = i := ⟨o.line.toNat, by omega⟩
  have hin : i < nl := by omega
  have hlat : Ac (cor x p) o.line = lin x i p := by unfold Ac lin; rw [hi, Int.toNat_natCast]
  rw [hlat] at k3 ⊢
  have hci := h.ci i hin p hp
  have hgi := h.gi i hin
  have hw0 : (lin x i p).want = 0 := (hcw.free (by omega)).2 i hin
  have hval := h.mv i hin
  have hov : 0 ≤ o.value ∧ o.value ≤ 255 := by omega
  by_cases hd : Bb (lin x i p) o = true
  · rw [if_pos hd]
    unfold C1
    simp only [Int.toNat_natCast, way, hi]
    by_cases h4 : o.kind = 4
    · have hs : (lin x i p).state ≠ 2 := by unfold Bb at hd; rw [if_pos h4] at hd; simpa using hd
      have hb : A4 (lin x i p) o = { lin x i p with state := 0, value := 0 } := by unfold A4; rw [if_pos h4, if_neg hs]
      have ht : Bs (lin x i p) o = 0 := by unfold Bs; rw [if_pos h4]
      rw [hb, ht]
      obtain ⟨c1, c2⟩ := Vf hgi hci hw0 hs
      have hI := h.core (w' := zOp) hp hin c1 (fun _ _ _ hh => hh) c2 (I6 hcl hcw hin (.inl (by omega)) hw0) hval
      refine ⟨_, hI, ?_, ?_, hov, ?_, ?_⟩
      · show 1 ≤ o.kind ∧ o.kind ≤ 4; omega
      · show 0 ≤ o.line ∧ o.line < M.length; rw [h.ml]; omega
      · show (0 : Int) = _; rw [if_pos h4]
      · show Ds _ [] _
        simp only [Ds, hi, Int.toNat_natCast]
        rw [Fx (.inr h4)]
    · have hs : (lin x i p).state = 2 ∨ (lin x i p).state = 1 ∧ o.kind = 1 := by unfold Bb at hd; rw [if_neg h4] at hd; simpa using hd
      have hb : A4 (lin x i p) o = { lin x i p with value := (A0 (lin x i p).value o).1 } := by unfold A4; rw [if_neg h4, if_pos hs]
      have ht : Bs (lin x i p) o = (A0 (lin x i p).value o).2 := by unfold Bs; rw [if_neg h4]
      have hV : (lin x i p).value = M.getD i 0 := by
        rcases hs with hs | hs
        · exact (hci.alo (.inl hs)).2
        · exact (hci.cop hs.1).2
      rw [hb, ht]
      have hr := Ke (o := o) hci.va hov
      have hI : Inv n nl ⟨x.cores.set p (Ay (cor x p) i { lin x i p with value := (A0 (lin x i p).value o).1 } zOp), x.home, x.frames⟩ (M.set i (A0 (lin x i p).value o).1) := by
        rcases hs with hs | hs
        · obtain ⟨c1, c2⟩ := Yq hgi hci hs hr
          exact h.core (w' := zOp) hp hin c1 (fun q hq hqp hh => Ve hgi hci (by omega) (by omega) hqp hh) c2 (I6 hcl hcw hin (.inl (by omega)) hw0) hr
        · have e : (A0 (lin x i p).value o).1 = (lin x i p).value := Fx (.inl hs.2)
          rw [e]
          exact h.core (w' := zOp) hp hin (by show CI _ p (lin x i p) (lin x i p).value; rw [hV]; exact hci) (fun _ _ _ hh => by rw [hV]; exact hh) (fun _ hm => hm) (I6 hcl hcw hin (.inl (by omega)) hw0) hci.va
      refine ⟨_, hI, ?_, ?_, hov, ?_, ?_⟩
      · show 1 ≤ o.kind ∧ o.kind ≤ 4; omega
      · show 0 ≤ o.line ∧ o.line < M.length; rw [h.ml]; omega
      · show (A0 (lin x i p).value o).2 = _; rw [if_neg h4]; simp only [hi, Int.toNat_natCast]; rw [hV]
      · show Ds _ [] _
        simp only [Ds, hi, Int.toNat_natCast]
        rw [hV]
  · rw [if_neg hd]
    unfold C1
    simp only [Int.toNat_natCast, hi]
    -- it asks
    have key : ∃ l', A4 (lin x i p) o = l' ∧ CI (ab (ent x i)) p l' (M.getD i 0) ∧ (∀ m, MI (ab (ent x i)) p (lin x i p) m → MI (ab (ent x i)) p l' m) ∧ l'.want = E8 o.kind ∧ l'.serial = (lin x i p).serial + 1 := by
      by_cases h4 : o.kind = 4
      · have hs : (lin x i p).state = 2 := by unfold Bb at hd; rw [if_pos h4] at hd; simpa using hd
        obtain ⟨c1, c2⟩ := c_put hgi hci hw0 hs (by omega)
        refine ⟨_, rfl, ?_⟩
        have hb : A4 (lin x i p) o = { lin x i p with state := 3, want := 3, serial := (lin x i p).serial + 1 } := by unfold A4; rw [if_pos h4, if_pos hs]
        rw [hb]
        exact ⟨c1, c2, by simp [E8, h4], rfl⟩
      · have hs : ¬ ((lin x i p).state = 2 ∨ (lin x i p).state = 1 ∧ o.kind = 1) := by unfold Bb at hd; rw [if_neg h4] at hd; simpa using hd
        have hst := hci.st
        have hlv := hci.leav
        have hkk : (if o.kind = 1 then (1 : Int) else 2) = E8 o.kind := by unfold E8; split <;> first | rfl | rw [if_neg h4]
        obtain ⟨c1, c2⟩ := c_ask (k := if o.kind = 1 then 1 else 2) hgi hci hw0 (by split <;> omega) (by omega)
        refine ⟨_, rfl, ?_⟩
        have hb : A4 (lin x i p) o = { lin x i p with want := if o.kind = 1 then 1 else 2, serial := (lin x i p).serial + 1 } := by unfold A4; rw [if_neg h4, if_neg hs]
        rw [hb]
        exact ⟨c1, c2, hkk, rfl⟩
    obtain ⟨l', hb, c1, c2, c3, c4⟩ := key
    rw [hb]
    have hI := h.core (w' := o) hp hin c1 (fun _ _ _ hh => hh) c2 (Yi hcl hcw (by omega) hin ⟨by omega, hi, hov⟩ c3) hval
    rw [h.same i hin] at hI
    refine ⟨M, ?_, rfl⟩
    refine hI.way fun m hm => ?_
    rw [List.mem_singleton.1 hm]
    have hwr : 1 ≤ l'.want ∧ l'.want ≤ 3 := by rw [c3]; unfold E8; split <;> (try split) <;> omega
    refine ⟨Gq h hp hin (by omega) c1.se ⟨by omega, by omega⟩ (by have := c1.va; split <;> omega), ?_⟩
    unfold MX
    have hpe : Qz n (Cx l' p n i) = p := Kd
    rw [hpe]
    show MI (ab (ent x _)) p (lin _ _ p) _
    rw [show ((Cx l' p n i).line).toNat = i from Int.toNat_natCast i, Px h hp hin]
    have hla := hci.la
    have e1 : (Cx l' p n i).kind = l'.want := rfl
    have e2 : (Cx l' p n i).serial = l'.serial := rfl
    have e3 : (Cx l' p n i).value = if l'.want = 3 then l'.value else 0 := rfl
    constructor <;> rw [e1] <;> (try rw [e2]) <;> (try rw [e3])
    · intro hk; exact ⟨Int.le_refl _, fun _ => ⟨rfl, rfl⟩⟩
    · intro hk; exact ⟨Int.le_refl _, fun _ => .inl ⟨rfl, hk, by rw [if_pos hk]⟩⟩
    all_goals intro hk; omega
theorem MX.said {p i : Nat} {l' : Line} {w' : Op} (h : Inv n nl x M) (hp : p < n) (hi : i < nl) {kind serial turn value : Int} {al : Bool} (hm : MI (ab (ent x i)) p l' ⟨kind, p, n, i, serial, turn, value, al⟩) {fr : Frames} :
  MX n ⟨x.cores.set p (Ay (cor x p) i l' w'), x.home, fr⟩ ⟨kind, p, n, i, serial, turn, value, al⟩ := by
 unfold MX
 rw [Kd]
 show MI (ab (ent x ((i : Int).toNat))) p (lin _ ((i : Int).toNat) p) _
 rw [Int.toNat_natCast, Px h hp hi]
 exact hm
theorem MX.saidSame {p i : Nat} (hp : p < n) {kind serial turn value : Int} {al : Bool} (hm : MI (ab (ent x i)) p (lin x i p) ⟨kind, p, n, i, serial, turn, value, al⟩) : MX n x ⟨kind, p, n, i, serial, turn, value, al⟩ := by
 unfold MX
 rw [Kd]
 show MI (ab (ent x ((i : Int).toNat))) p (lin _ ((i : Int).toNat) p) _
 rw [Int.toNat_natCast]
 exact hm
theorem MX.told {p i : Nat} {e' : Entry} (h : Inv n nl x M) (hp : p < n) (hi : i < nl) {kind serial turn value : Int} {al : Bool} (hm : MI (ab e') p (lin x i p) ⟨kind, n, p, i, serial, turn, value, al⟩) {fr : Frames} :
  MX n ⟨x.cores, x.home.set i e', fr⟩ ⟨kind, n, p, i, serial, turn, value, al⟩ := by
 unfold MX
 rw [Nq hp]
 show MI (ab ((x.home.set i e').getD ((i : Int).toNat) A8)) p (lin x ((i : Int).toNat) p) _
 rw [Int.toNat_natCast, Cs _ _ _ _ _ (by rw [h.nh]; exact hi), if_pos rfl]
 exact hm
theorem Uw {p : Nat} {m : Msg} (h : Inv n nl x M) (hp : p < n) (hd : m.dst = p) (hs : m.src = n) (hl : 0 ≤ m.line ∧ m.line < nl) (hr : (0 ≤ m.serial ∧ m.serial ≤ 65535) ∧ (0 ≤ m.turn ∧ m.turn ≤ 65535) ∧ (0 ≤ m.value ∧ m.value ≤ 255)) (hm : MX n x m) :
    ∃ M', Inv n nl (C1 x p (Ag (cor x p) p n m).1 (Ag (cor x p) p n m).2.1) M' ∧ Ds M (Ag (cor x p) p n m).2.2 M' := by
  have hcl := h.ncl p hp
  have hcw := h.cw p hp
  obtain ⟨i, hi⟩ : ∃ i : Nat, m.line = i := ⟨m.line.toNat, by omega⟩
  have hin : i < nl := by omega
  have hlat : Ac (cor x p) m.line = lin x i p := by unfold Ac lin; rw [hi, Int.toNat_natCast]
  have hci := h.ci i hin p hp
  have hgi := h.gi i hin
  have hval := h.mv i hin
  have hMI : MI (ab (ent x i)) p (lin x i p) m := by
    unfold MX at hm
    have : Qz n m = p := by unfold Qz; rw [if_neg (by omega), hd]; simp
    rw [this, hi, Int.toNat_natCast] at hm
    exact hm
  have hsame : Inv n nl (C1 x p (cor x p) []) M := by
    unfold C1
    simp only [Int.toNat_natCast, way]
    have : x.cores.set p (cor x p) = x.cores := Ea _ _ _ (by rw [h.nc]; exact hp)
    rw [this]; exact h
  have hsaid : ∀ m', A5 (Ft n nl) m' = 0 → MX n x m' → Inv n nl (C1 x p (cor x p) [m']) M := by
    intro m' h1 h2
    unfold C1
    simp only [Int.toNat_natCast]
    have : x.cores.set p (cor x p) = x.cores := Ea _ _ _ (by rw [h.nc]; exact hp)
    rw [this]
    exact h.way fun m'' hm'' => by rw [List.mem_singleton.1 hm'']; exact ⟨h1, h2⟩
  unfold Ag
  rw [if_neg (by rw [hcl]; omega)]
  rw [hlat]
  by_cases k4 : m.kind = 4
  · rw [if_pos k4]
    obtain ⟨c1, c2⟩ := c_inv hgi hci hMI k4
    have hwant : (Ec (lin x i p) m.turn).want = (lin x i p).want := by unfold Ec; split <;> (try split) <;> rfl
    have hI := h.core (w' := (cor x p).wait) hp hin c1 (fun _ _ _ hh => hh) c2 (Ta hcl hcw hin hwant) hval
    rw [h.same i hin] at hI
    refine ⟨M, ?_, rfl⟩
    unfold C1
    simp only [Int.toNat_natCast, hi]
    refine hI.way fun m' hm' => ?_
    rw [List.mem_singleton.1 hm']
    refine ⟨Gq h hp hin (by omega) (by omega) hr.2.1 (by omega), MX.said h hp hin ?_⟩
    have hseen : m.turn ≤ (Ec (lin x i p) m.turn).seen := by unfold Ec; split <;> (try split) <;> first | exact Int.le_refl _ | omega
    constructor <;> simp only <;> intro hk <;> first | omega | exact hseen
  rw [if_neg k4]
  by_cases k5 : m.kind = 5 ∨ m.kind = 6
  · rw [if_pos k5]
    by_cases hf : En (lin x i p) m.turn
    · rw [if_pos hf]
      obtain ⟨c1, c2, c3, c4⟩ := Yt hgi hci hMI k5 hf
      by_cases hw : (lin x i p).want = 3
      · rw [if_pos hw, if_pos hw]
        obtain ⟨w1, w2, w3⟩ := Pg hcw hin (by show (lin x i p).want ≠ 0; omega)
        have hwant : (Dr (lin x i p) m.kind m.turn).want = 0 := by unfold Dr; rw [if_pos hw]
        have hI := h.core (w' := zOp) hp hin c1 (fun _ _ _ hh => hh) c2 (I6 hcl hcw hin (.inr w2) hwant) hval
        rw [h.same i hin] at hI
        obtain ⟨b1, b2, b3, b4⟩ := hcw.busy w1
        have hk4 : (cor x p).wait.kind = 4 := by
          have : (3 : Int) = E8 (cor x p).wait.kind := by rw [← w3]; exact hw.symm
          unfold E8 at this; split at this <;> (try split at this) <;> omega
        refine ⟨M, ?_, b1, by rw [h.ml]; exact b2, b3, by show (0 : Int) = _; rw [if_pos hk4], ?_⟩
        · unfold C1
          simp only [Int.toNat_natCast, hi]
          refine hI.way fun m' hm' => ?_
          rw [List.mem_singleton.1 hm']
          exact ⟨Gq h hp hin (by omega) (by omega) hr.2.1 hci.va, MX.said h hp hin (c4 _ rfl rfl rfl)⟩
        · show Ds _ [] M
          simp only [Ds]
          rw [Fx (.inr hk4), w2, Int.toNat_natCast, h.same i hin]
      · rw [if_neg hw, if_neg hw]
        have hwant : (Dr (lin x i p) m.kind m.turn).want = (lin x i p).want := by unfold Dr; rw [if_neg hw]; split <;> rfl
        have hI := h.core (w' := (cor x p).wait) hp hin c1 (fun _ _ _ hh => hh) c2 (Ta hcl hcw hin hwant) hval
        rw [h.same i hin] at hI
        refine ⟨M, ?_, rfl⟩
        unfold C1
        simp only [Int.toNat_natCast, hi]
        refine hI.way fun m' hm' => ?_
        rw [List.mem_singleton.1 hm']
        exact ⟨Gq h hp hin (by omega) (by omega) hr.2.1 hci.va, MX.said h hp hin (c4 _ rfl rfl rfl)⟩
    · rw [if_neg hf]
      split
      · rename_i hg
        refine ⟨M, hsaid _ ?_ ?_, rfl⟩
        · rw [hi]; exact Gq h hp hin (by omega) (by omega) (by rw [← hg.1]; exact hr.2.1) hci.gi
        · rw [hi]; refine MX.saidSame hp ?_
          have := hci.ga
          constructor <;> simp only <;> intro hk <;> first | omega | exact ⟨this.2.1, fun a b c => ⟨a, trivial⟩⟩
      · exact ⟨M, hsame, rfl⟩
  rw [if_neg k5]
  by_cases k7 : m.kind = 7
  · rw [if_pos k7]
    by_cases hse : (lin x i p).serial < m.serial
    · rw [if_pos hse]; exact ⟨M, hsame, rfl⟩
    rw [if_neg hse]
    by_cases ha : G9 (lin x i p) m
    · rw [if_pos ha]
      have hwne : (lin x i p).want ≠ 0 := by have := ha.2; omega
      obtain ⟨w1, w2, w3⟩ := Pg hcw hin hwne
      obtain ⟨b1, b2, b3, b4⟩ := hcw.busy w1
      have w3' : (lin x i p).want = E8 (cor x p).wait.kind := w3
      have hnk4 : (cor x p).wait.kind ≠ 4 := by
        intro e; rw [e] at w3'; simp [E8] at w3'; have := ha.2; omega
      have hload : m.alone = false → (A0 m.value (cor x p).wait).1 = m.value := by
        intro hal
        have h2 := ha.2
        rw [hal] at h2
        have : (lin x i p).want = 1 := by simpa using h2
        refine Fx (.inl ?_)
        rw [this] at w3'
        unfold E8 at w3'; split at w3' <;> (try split at w3') <;> first | assumption | omega
      have hv := Ke (o := (cor x p).wait) hr.2.2 b3
      obtain ⟨c1, c2, c3, c4, c5⟩ := Ys (v := (A0 m.value (cor x p).wait).1) hgi hci hMI k7 ha hv hload
      have hI := h.core (w' := zOp) hp hin c1 (fun q _ hq hh => c4 q _ hq hh) c2 (I6 hcl hcw hin (.inr w2) rfl) hv
      refine ⟨M.set i (A0 m.value (cor x p).wait).1, ?_, b1, by rw [h.ml]; exact b2, b3, ?_, ?_⟩
      · unfold C1
        simp only [Int.toNat_natCast, hi]
        refine hI.way fun m' hm' => ?_
        rw [List.mem_singleton.1 hm']
        exact ⟨Gq h hp hin (by omega) (by omega) hr.2.1 (by omega), MX.said h hp hin (c5 _ rfl rfl)⟩
      · show (A0 m.value (cor x p).wait).2 = _
        rw [if_neg hnk4, w2, Int.toNat_natCast, c3]
      · show Ds _ [] _
        simp only [Ds]
        rw [w2, Int.toNat_natCast, c3]
    · rw [if_neg ha]
      refine ⟨M, hsaid _ ?_ ?_, rfl⟩
      · rw [hi]; exact Gq h hp hin (by omega) (by omega) hr.2.1 (by omega)
      · rw [hi]; refine MX.saidSame hp ?_
        have hg := hMI.gra k7
        have hseen : m.turn ≤ (lin x i p).seen := by
          by_cases hc : m.serial = (lin x i p).serial ∧ (lin x i p).want ≠ 0
          · obtain ⟨g1, g2, g3, g4, g5⟩ := hg.2.1 hc.1 hc.2
            have hcur := hci.cur (by omega) g2
            exfalso
            apply ha
            refine ⟨hc.1, ?_⟩
            have hse' : (ab (ent x i)).serial = (lin x i p).serial := by have := hci.la; omega
            cases hal : m.alone with
            | true => right; have := g4.1 hal; exact ⟨by omega, rfl⟩
            | false =>
              left
              have hnot : ¬ (ab (ent x i)).alone = 1 := fun h1 => by have := g4.2 h1; rw [hal] at this; cases this
              have := hgi.al
              exact ⟨by omega, rfl⟩
          · exact hg.2.2 (by omega)
        constructor <;> simp only <;> intro hk <;> first | omega | exact hseen
  rw [if_neg k7]
  split
  · rename_i hk
    obtain ⟨k11, hw, hse⟩ := hk
    obtain ⟨c1, c2⟩ := Yr hgi hci hMI k11 hw hse
    obtain ⟨w1, w2, w3⟩ := Pg hcw hin (by show (lin x i p).want ≠ 0; omega)
    obtain ⟨b1, b2, b3, b4⟩ := hcw.busy w1
    have hk4 : (cor x p).wait.kind = 4 := by
      have : (3 : Int) = E8 (cor x p).wait.kind := by rw [← w3]; exact hw.symm
      unfold E8 at this; split at this <;> (try split at this) <;> omega
    have hI := h.core (w' := zOp) hp hin c1 (fun _ _ _ hh => hh) c2 (I6 hcl hcw hin (.inr w2) rfl) hval
    rw [h.same i hin] at hI
    refine ⟨M, ?_, b1, by rw [h.ml]; exact b2, b3, by show (0 : Int) = _; rw [if_pos hk4], ?_⟩
    · unfold C1
      simp only [Int.toNat_natCast, hi, way]
      exact hI
    · show Ds _ [] M
      simp only [Ds]
      rw [Fx (.inr hk4), w2, Int.toNat_natCast, h.same i hin]
  · exact ⟨M, hsame, rfl⟩
end
end Go.Proofs.Ytofgpimoekhfaaa

/- This file proves that the home, when it hears a message or says what its turns say, keeps what must hold; and so for each step of a chip. No program in sight. No conditions. -/
set_option linter.unusedVariables false
set_option linter.unusedSimpArgs false
namespace Go.Proofs.Ytofgpimoekhfaaa
open Abs
theorem Yl : ∀ (s : Fin 16) (p q : Fin 4), (Hr (s.val : Int) (p.val : Int)).toNat.testBit q.val = (decide (q ≠ p) && s.val.testBit q.val) := by decide
theorem Td : ∀ (s : Fin 16) (p : Fin 4), 0 ≤ Hr (s.val : Int) (p.val : Int) ∧ Hr (s.val : Int) (p.val : Int) ≤ s.val := by decide
theorem V9 : ∀ (s : Fin 16) (p q : Fin 4), (H3 (s.val : Int) (p.val : Int)).toNat.testBit q.val = (decide (q = p) || s.val.testBit q.val) := by decide
theorem R6 : ∀ (n : Fin 5) (s : Fin 16) (p : Fin 4), p.val < n.val → s.val < 2 ^ n.val → 0 ≤ H3 (s.val : Int) (p.val : Int) ∧ H3 (s.val : Int) (p.val : Int) < (2 ^ n.val : Nat) := by decide
theorem Tq : ∀ (s : Fin 16), (∀ q : Fin 4, s.val.testBit q.val = false) → s.val = 0 := by decide
theorem high (s : Int) (h : 0 ≤ s ∧ s < 16) (q : Nat) (hq : 4 ≤ q) : s.toNat.testBit q = false := by
 apply Nat.testBit_lt_two_pow
 have : 2 ^ 4 ≤ 2 ^ q := Nat.pow_le_pow_right (by omega) hq
 omega
theorem Hh (s : Int) (h : 0 ≤ s ∧ s < 16) (q : Nat) (hq : 4 ≤ q) : D1 s q = 0 := by unfold D1; rw [high s h q hq]; rfl
theorem Dw (q : Nat) : D1 0 q = 0 := by simp [D1]
theorem Ry {s : Int} (h : 0 ≤ s ∧ s < 16) : ∃ f : Fin 16, (f.val : Int) = s := ⟨⟨s.toNat, by omega⟩, by simp only; omega⟩
theorem Ir {s : Int} {p : Nat} (h : 0 ≤ s ∧ s < 16) (hp : p < 4) : D1 (Hr s p) = upd (D1 s) p 0 := by
  obtain ⟨f, rfl⟩ := Ry h
  funext q
  have hr := Td f ⟨p, hp⟩
  simp only at hr
  by_cases hq : q < 4
  · have := Yl f ⟨p, hp⟩ ⟨q, hq⟩
    simp only at this
    unfold D1 upd
    rw [this]
    by_cases hqp : q = p
    · subst hqp; simp
    · simp [hqp]
  · rw [Hh _ (by omega) _ (by omega)]
    unfold upd
    rw [if_neg (by omega), Hh _ (by omega) _ (by omega)]
theorem Og {s : Int} {p : Nat} (h : 0 ≤ s ∧ s < 16) (hp : p < 4) (q : Nat) : D1 (H3 s p) q = if q = p then 1 else D1 s q := by
  obtain ⟨f, rfl⟩ := Ry h
  have hr : 0 ≤ H3 (f.val : Int) (p : Int) ∧ H3 (f.val : Int) (p : Int) < 16 := R6 4 f ⟨p, hp⟩ hp f.isLt
  by_cases hq : q < 4
  · have := V9 f ⟨p, hp⟩ ⟨q, hq⟩
    simp only at this
    unfold D1
    rw [this]
    by_cases hqp : q = p
    · subst hqp; simp
    · simp [hqp]
  · rw [Hh _ (by omega) _ (by omega), if_neg (by omega), Hh _ (by omega) _ (by omega)]
theorem Qa {s : Int} {p n : Nat} (hn : n ≤ 4) (h : 0 ≤ s ∧ s < (2 ^ n : Nat)) (hp : p < 4) : 0 ≤ Hr s p ∧ Hr s p < (2 ^ n : Nat) := by
 have : (2 ^ n : Nat) ≤ 2 ^ 4 := Nat.pow_le_pow_right (by omega) hn
 obtain ⟨f, rfl⟩ := Ry (s := s) (by omega)
 have hr := Td f ⟨p, hp⟩
 simp only at hr
 omega
theorem Vs {s : Int} {p n : Nat} (hn : n ≤ 4) (h : 0 ≤ s ∧ s < (2 ^ n : Nat)) (hp : p < n) : 0 ≤ H3 s p ∧ H3 s p < (2 ^ n : Nat) := by
 have : (2 ^ n : Nat) ≤ 2 ^ 4 := Nat.pow_le_pow_right (by omega) hn
 obtain ⟨f, rfl⟩ := Ry (s := s) (by omega)
 exact R6 ⟨n, by omega⟩ f ⟨p, by omega⟩ hp (by simp only; omega)
theorem Jn {s : Int} {n : Nat} (hn : n ≤ 4) (h : 0 ≤ s ∧ s < (2 ^ n : Nat)) : 0 ≤ s ∧ s < 16 := by
 have : (2 ^ n : Nat) ≤ 2 ^ 4 := Nat.pow_le_pow_right (by omega) hn
 omega
theorem K3 {s : Int} (h : 0 ≤ s ∧ s < 16) (hb : ∀ q, q < 4 → D1 s q = 0) : s = 0 := by
 obtain ⟨f, rfl⟩ := Ry h
 have := Tq f fun q => by
  have := hb q.val q.isLt
  unfold D1 at this
  simp only [Int.toNat_natCast] at this
  cases ht : f.val.testBit q.val with
  | false => rfl
  | true => simp [ht] at this
 omega
theorem Of {s : Int} {n : Nat} (hn : n ≤ 4) (h : 0 ≤ s ∧ s < (2 ^ n : Nat)) (h0 : s ≠ 0) : ∃ q : Nat, q < n ∧ D1 s q = 1 := by
  apply Classical.byContradiction
  intro hno
  apply h0
  refine K3 (Jn hn h) fun q _ => ?_
  by_cases hq : q < n
  · have : ¬ D1 s q = 1 := fun he => hno ⟨q, hq, he⟩
    unfold D1 at this ⊢
    split <;> rename_i hb
    · rw [if_pos hb] at this; exact absurd rfl this
    · rfl
  · unfold D1
    rw [Nat.testBit_lt_two_pow (show s.toNat < 2 ^ q by have : 2 ^ n ≤ 2 ^ q := Nat.pow_le_pow_right (by omega) (by omega); omega)]
    rfl
theorem Pd (s : Int) (p : Nat) : K6 s p = true ↔ D1 s p = 1 := by
 unfold K6 D1
 rw [Int.toNat_natCast]
 cases s.toNat.testBit p <;> simp
section
variable {n nl : Nat} {x : Chip} {M : List Int}
theorem Ow (h : Inv n nl x M) {i : Nat} (hi : i < nl) : ∀ m ∈ says (ent x i) i n, A5 (Ft n nl) m = 0 ∧ MX n x m := by
  intro m hm
  have hg := h.gi i hi
  have hn := h.n1
  have hto : ∀ {p : Nat} {kind serial turn value : Int} {al : Bool}, p < n → MI (ab (ent x i)) p (lin x i p) ⟨kind, n, p, i, serial, turn, value, al⟩ → MX n x ⟨kind, n, p, i, serial, turn, value, al⟩ := by
    intro p kind serial turn value al hp hmi
    unfold MX
    rw [Nq hp]
    show MI (ab (ent x ((i : Int).toNat))) p (lin x ((i : Int).toNat) p) _
    rw [Int.toNat_natCast]; exact hmi
  unfold says at hm
  by_cases h1 : (ent x i).phase = 1
  · rw [if_pos h1] at hm
    rw [List.mem_singleton.1 hm]
    have hf := hg.f1 h1
    have how := hg.own
    obtain ⟨p, hp⟩ : ∃ p : Nat, (ent x i).owner = p := ⟨(ent x i).owner.toNat, by show _ = _; have := hf.1; show (ent x i).owner = _; simp only [ab] at this; omega⟩
    have hpn : p < n := by have := how.2; simp only [ab] at this; omega
    rw [hp]
    refine ⟨Lx h hpn hi (by split <;> omega) (by omega) hg.tu (by omega), hto hpn ?_⟩
    have ha : (if (ent x i).alone = true then (6 : Int) else 5) = 5 + (ab (ent x i)).alone := by simp only [ab]; split <;> rfl
    rw [ha]
    have hal := hg.al
    constructor <;> simp only <;> intro hk <;> first | omega | exact ⟨Int.le_refl _, fun _ => ⟨rfl, h1, hp, trivial⟩⟩
  rw [if_neg h1] at hm
  by_cases h2 : (ent x i).phase = 2
  · rw [if_pos h2] at hm
    obtain ⟨q, hq, rfl⟩ := List.mem_map.1 hm
    obtain ⟨hq1, hq2⟩ := List.mem_filter.1 hq
    obtain ⟨p, rfl⟩ : ∃ p : Nat, q = p := ⟨q.toNat, by simp at hq1; omega⟩
    have hb := (Pd _ _).1 hq2
    have hpn : p < n := by
      apply Classical.byContradiction
      intro hge
      have hbit := (h.bit i hi).2
      unfold D1 at hb
      rw [Nat.testBit_lt_two_pow (show (ent x i).need.toNat < 2 ^ p by have : 2 ^ n ≤ 2 ^ p := Nat.pow_le_pow_right (by omega) (by omega); omega)] at hb
      simp at hb
    refine ⟨Lx h hpn hi (by omega) (by omega) hg.tu (by omega), hto hpn ?_⟩
    constructor <;> simp only <;> intro hk <;> first | omega | exact ⟨Int.le_refl _, fun _ => ⟨rfl, h2, hb⟩⟩
  rw [if_neg h2] at hm
  by_cases h3 : (ent x i).phase = 3
  · rw [if_pos h3] at hm
    rw [List.mem_singleton.1 hm]
    have hw := hg.whor (by show (ent x i).phase ≠ 0; omega)
    simp only [ab] at hw
    obtain ⟨p, hp⟩ : ∃ p : Nat, (ent x i).who = p := ⟨(ent x i).who.toNat, by omega⟩
    have hpn : p < n := by omega
    have hci := h.ci i hi p hpn
    have hcur := hci.cur (by show (ent x i).phase ≠ 0; omega) hp
    rw [hp]
    refine ⟨Lx h hpn hi (by omega) hg.se hg.tu hg.va, hto hpn ?_⟩
    constructor <;> simp only <;> intro hk <;> first | omega | skip
    refine ⟨by have := hcur.1; simp only [ab] at this ⊢; omega, fun e1 e2 => ⟨h3, hp, rfl, ?_, rfl⟩, fun hn' => ?_⟩
    · simp only [ab]; cases (ent x i).alone <;> simp
    · rcases hcur.2 with ⟨d1, d2, d3⟩ | ⟨d1, d2, d3, d4⟩
      · have hal := hg.al
        simp only [ab] at d1 d2 hal
        omega
      · simp only [ab] at d3 ⊢; omega
  · rw [if_neg h3] at hm; cases hm
theorem Ox (h : Inv n nl x M) : ∀ (k : Nat) (l : List Entry), x.home.drop k = l → ∀ m ∈ Dv n k l, A5 (Ft n nl) m = 0 ∧ MX n x m := by
  intro k l
  induction l generalizing k with
  | nil => intro _ m hm; cases hm
  | cons e l ih =>
    intro hd m hm
    have hk : k < x.home.length := by
      apply Classical.byContradiction
      intro hge
      rw [List.drop_of_length_le (by omega)] at hd; cases hd
    rw [List.drop_eq_getElem_cons hk] at hd
    injection hd with he hd
    simp only [Dv] at hm
    rcases List.mem_append.1 hm with hm | hm
    · have : ent x k = e := by unfold ent; rw [List.getD_eq_getElem?_getD, List.getElem?_eq_getElem hk, he]; rfl
      rw [← this] at hm
      exact Ow h (by rw [← h.nh]; exact hk) m hm
    · exact ih (k + 1) hd m (by push_cast; exact hm)
theorem Me (h : Inv n nl x M) : Inv n nl ⟨x.cores, x.home, way x.frames (N0 x.home n)⟩ M :=
 h.way fun m hm => Ox h 0 x.home rfl m hm
theorem ask_ok (h : Inv n nl x M) {p i : Nat} (hp : p < n) (hi : i < nl) (hw : (lin x i p).want ≠ 0) : A5 (Ft n nl) (Cx (lin x i p) p n i) = 0 ∧ MX n x (Cx (lin x i p) p n i) := by
 have hci := h.ci i hi p hp
 have hwa := hci.wa
 refine ⟨Gq h hp hi (by omega) hci.se ⟨by omega, by omega⟩ (by have := hci.va; split <;> omega), MX.saidSame hp ?_⟩
 constructor <;> simp only <;> intro hk <;> first | exact ⟨Int.le_refl _, fun _ => ⟨trivial, trivial⟩⟩ | exact ⟨Int.le_refl _, fun _ => .inl ⟨trivial, hk, by rw [if_pos hk]⟩⟩ | omega
theorem M6 (h : Inv n nl x M) {p : Nat} (hp : p < n) : ∀ (k : Nat) (l : List Line), (cor x p).lines.drop k = l → ∀ m ∈ Ct p n k l, A5 (Ft n nl) m = 0 ∧ MX n x m := by
  intro k l
  induction l generalizing k with
  | nil => intro _ m hm; cases hm
  | cons e l ih =>
    intro hd m hm
    have hk : k < (cor x p).lines.length := by
      apply Classical.byContradiction
      intro hge
      rw [List.drop_of_length_le (by omega)] at hd; cases hd
    rw [List.drop_eq_getElem_cons hk] at hd
    injection hd with he hd
    have hlin : lin x k p = e := by unfold lin; rw [List.getD_eq_getElem?_getD, List.getElem?_eq_getElem hk, he]; rfl
    simp only [Ct] at hm
    split at hm
    · rename_i hw
      rcases List.mem_cons.1 hm with hm | hm
      · rw [hm, ← hlin]
        exact ask_ok h hp (by rw [← h.ncl p hp]; exact hk) (by rw [hlin]; exact hw)
      · exact ih (k + 1) hd m (by push_cast; exact hm)
    · exact ih (k + 1) hd m (by push_cast; exact hm)
theorem Mf (h : Inv n nl x M) {p : Nat} (hp : p < n) : Inv n nl ⟨x.cores, x.home, way x.frames (Ez (cor x p) p n)⟩ M :=
 h.way fun m hm => M6 h hp 0 _ rfl m hm
theorem Ya (h : Inv n nl x M) {i : Nat} (hi : i < nl) (e' : Entry) (fr : Frames) : ent ⟨x.cores, x.home.set i e', fr⟩ i = e' := by
 unfold ent
 rw [Cs _ _ _ _ _ (by rw [h.nh]; exact hi), if_pos rfl]
theorem Inv.homeSays {i : Nat} {e' : Entry} (h : Inv n nl x M) (hi : i < nl) (hI : Inv n nl ⟨x.cores, x.home.set i e', x.frames⟩ M) : Inv n nl ⟨x.cores, x.home.set i e', Go.Proofs.Ytofgpimoekhfaaa.way x.frames (says e' i n)⟩ M := by
 have := Ow hI hi
 rw [Ya h hi] at this
 exact hI.way this
end
end Go.Proofs.Ytofgpimoekhfaaa

/- This file proves that the home, when it hears a message that may be on the way, keeps what must hold; and so for each step of a chip. No program in sight. No conditions. -/
set_option linter.unusedVariables false
set_option linter.unusedSimpArgs false
namespace Go.Proofs.Ytofgpimoekhfaaa
open Abs
section
variable {n nl : Nat} {x : Chip} {M : List Int}
theorem Qi (e : Entry) : (ab e).alone = 1 ↔ e.alone = true := by simp only [ab]; cases e.alone <;> simp
theorem On (e : Entry) : (ab e).alone = 0 ↔ e.alone = false := by simp only [ab]; cases e.alone <;> simp
theorem Ww {p i : Nat} {m : Msg} (h : Inv n nl x M) (hp : p < n) (hi : i < nl) (hs : m.src = p) (hms : 0 ≤ m.serial ∧ m.serial ≤ 65535) (hM : MI (ab (ent x i)) p (lin x i p) m) (hk : m.kind = 1 ∨ m.kind = 2) (h0 : (ent x i).phase = 0)
    (hl : Ej (ent x i) m.src < m.serial) (ht : (ent x i).turn < 65535) : Inv n nl ⟨x.cores, x.home.set i (N5 (ent x i) m), x.frames⟩ M := by
  have hn := h.n1
  have hb := h.bit i hi
  have hgi := h.gi i hi
  have hlast : (ent x i).last.getD p 0 < m.serial := by unfold Ej at hl; rw [hs, Int.toNat_natCast] at hl; exact hl
  have hla := h.nla i hi
  have hlu : (fun q => ((ent x i).last.set p m.serial).getD q 0) = upd (ab (ent x i)).last p m.serial := by
    funext q; rw [Cs _ _ _ _ _ (by rw [hla]; exact hp)]; rfl
  have hclr := Qa (by omega) hb.1 (show p < 4 by omega)
  have hbc := Ir (Jn (by omega) hb.1) (show p < 4 by omega)
  have hal : (if (m.kind == 2) = true then (1 : Int) else 0) = m.kind - 1 := by rcases hk with hk | hk <;> simp [hk]
  unfold N5 A6
  simp only [hs, Int.toNat_natCast]
  by_cases ho : 0 ≤ (ent x i).owner
  · rw [if_pos ho]
    refine h.home hi (by simpa using hla) ⟨hb.1, ⟨by simp only; omega, by have : 0 < 2 ^ n := Nat.two_pow_pos n; simp only; omega⟩⟩ ?_
    exact W4 hgi (h.ci i hi) hp hM hk hms h0 hlast ht rfl rfl rfl rfl rfl hal rfl hlu (.inl ⟨ho, rfl, fun q => Dw q⟩)
  · rw [if_neg ho]
    by_cases hc : (m.kind == 2) = true ∧ Hr (ent x i).sharers p ≠ 0
    · rw [if_pos hc]
      refine h.home hi (by simpa using hla) ⟨hb.1, hclr⟩ ?_
      refine W4 hgi (h.ci i hi) hp hM hk hms h0 hlast ht rfl rfl rfl rfl rfl hal rfl hlu (.inr (.inl ⟨by simp only [ab]; omega, by simpa using hc.1, rfl, Of (by omega) hclr hc.2, fun q => ?_⟩))
      show D1 (Hr (ent x i).sharers p) q = _
      rw [hbc]; rfl
    · rw [if_neg hc]
      refine h.home hi (by simpa using hla) ⟨hb.1, ⟨by simp only; omega, by have : 0 < 2 ^ n := Nat.two_pow_pos n; simp only; omega⟩⟩ ?_
      refine W4 hgi (h.ci i hi) hp hM hk hms h0 hlast ht rfl rfl rfl rfl rfl hal rfl hlu (.inr (.inr ⟨by simp only [ab]; omega, rfl, fun q => Dw q, fun hk2 q hq hqp => ?_⟩))
      have hz : Hr (ent x i).sharers p = 0 := Classical.byContradiction fun hz => hc ⟨by simp [hk2], hz⟩
      have := congrFun hbc q
      rw [hz, Dw] at this
      unfold upd at this
      rw [if_neg hqp] at this
      exact this.symm
theorem Wv {p i : Nat} {m : Msg} (h : Inv n nl x M) (hp : p < n) (hi : i < nl) (hs : m.src = p) (hms : 0 ≤ m.serial ∧ m.serial ≤ 65535) (hmv : 0 ≤ m.value ∧ m.value ≤ 255) (hM : MI (ab (ent x i)) p (lin x i p) m) (hk : m.kind = 3) (h0 : (ent x i).phase = 0) :
    Inv n nl ⟨x.cores, x.home.set i (Ks (ent x i) m), x.frames⟩ M ∧ m.serial ≤ (Ks (ent x i) m).last.getD p 0 := by
  have hb := h.bit i hi
  have hgi := h.gi i hi
  have hla := h.nla i hi
  have hlu : (fun q => ((ent x i).last.set p m.serial).getD q 0) = upd (ab (ent x i)).last p m.serial := by
    funext q; rw [Cs _ _ _ _ _ (by rw [hla]; exact hp)]; rfl
  have hlast : Ej (ent x i) m.src = (ent x i).last.getD p 0 := by unfold Ej; rw [hs, Int.toNat_natCast]
  unfold Ks
  simp only [hs, Int.toNat_natCast] at hlast ⊢
  rw [hlast]
  by_cases hl : (ent x i).last.getD p 0 < m.serial
  · rw [if_pos hl]
    by_cases ho : (ent x i).owner = p
    · rw [if_pos ho]
      refine ⟨h.home hi (by simpa using hla) hb ?_, ?_⟩
      · exact h_put hgi (h.ci i hi) hp hM hk hmv h0 hl rfl rfl rfl rfl rfl hlu rfl rfl (.inl ⟨ho, rfl, rfl⟩)
      · simp only; rw [Cs _ _ _ _ _ (by rw [hla]; exact hp), if_pos rfl]; exact Int.le_refl _
    · rw [if_neg ho]
      refine ⟨h.home hi (by simpa using hla) hb ?_, ?_⟩
      · exact h_put hgi (h.ci i hi) hp hM hk hmv h0 hl rfl rfl rfl rfl rfl hlu rfl rfl (.inr ⟨ho, rfl, rfl⟩)
      · simp only; rw [Cs _ _ _ _ _ (by rw [hla]; exact hp), if_pos rfl]; exact Int.le_refl _
  · rw [if_neg hl]
    have : x.home.set i (ent x i) = x.home := Ea _ _ _ (by rw [h.nh]; exact hi)
    rw [this]
    exact ⟨h, by omega⟩
theorem Uy {p i : Nat} {m : Msg} (h : Inv n nl x M) (hp : p < n) (hi : i < nl) (hs : m.src = p) (hmv : 0 ≤ m.value ∧ m.value ≤ 255) (hM : MI (ab (ent x i)) p (lin x i p) m) (hk : m.kind = 9) (h0 : (ent x i).phase = 1) (ht : m.turn = (ent x i).turn) (ho : m.src = (ent x i).owner) :
    Inv n nl ⟨x.cores, x.home.set i (G4 (ent x i) m), x.frames⟩ M := by
  have hn := h.n1
  have hb := h.bit i hi
  have hgi := h.gi i hi
  have hla := h.nla i hi
  have hop : (ent x i).owner = p := by rw [← ho]; exact hs
  have hf := hgi.f1 h0
  have hsh0 : ∀ q, q < n → D1 (ent x i).sharers q = 0 := by
    intro q hq
    have h1 := (h.ci i hi q hq).shs
    have h2 := (h.ci i hi q hq).bits
    simp only [ab] at h1 h2 hf
    omega
  have hz : (ent x i).sharers = 0 := by
    refine K3 (Jn (by omega) hb.1) fun q _ => ?_
    by_cases hq : q < n
    · exact hsh0 q hq
    · unfold D1
      rw [Nat.testBit_lt_two_pow (show (ent x i).sharers.toNat < 2 ^ q by have : 2 ^ n ≤ 2 ^ q := Nat.pow_le_pow_right (by omega) (by omega); omega)]
      rfl
  have hpos : 0 < 2 ^ n := Nat.two_pow_pos n
  unfold G4 A6
  simp only
  rw [if_neg (by omega)]
  have hclr0 : ∀ w : Int, Hr 0 w = 0 := by intro w; unfold Hr K6; simp
  have hc : ¬ ((ent x i).alone = true ∧ Hr (if (ent x i).alone = true then (ent x i).sharers else H3 (ent x i).sharers (ent x i).owner) (ent x i).who ≠ 0) := by
    rintro ⟨h1, h2⟩
    rw [if_pos h1, hz, hclr0] at h2
    exact h2 rfl
  rw [if_neg hc]
  refine h.home hi hla ⟨?_, ⟨by simp only; omega, by simp only; omega⟩⟩ ?_
  · simp only
    split
    · exact hb.1
    · rw [hop]; exact Vs (by omega) hb.1 hp
  · refine h_data hgi (h.ci i hi) hp hM hk hmv h0 ht hop rfl rfl (fun q => ?_) rfl rfl rfl rfl rfl rfl (fun q => Dw q)
    show D1 (if (ent x i).alone = true then (ent x i).sharers else H3 (ent x i).sharers (ent x i).owner) q = if q = p ∧ (ab (ent x i)).alone = 0 then 1 else D1 (ent x i).sharers q
    have ha0 := On (ent x i)
    have hbs := Og (Jn (by omega) hb.1) (show p < 4 by omega) q
    rw [hop]
    cases hal : (ent x i).alone with
    | true => rw [hal] at ha0; simp only [Bool.true_eq_false, iff_false] at ha0; simp [ha0]
    | false => rw [hal] at ha0; simp only [iff_true] at ha0; simp [ha0, hbs]
theorem Ux {p i : Nat} {m : Msg} (h : Inv n nl x M) (hp : p < n) (hi : i < nl) (hs : m.src = p) (hM : MI (ab (ent x i)) p (lin x i p) m) (hk : m.kind = 8) (h0 : (ent x i).phase = 2) (ht : m.turn = (ent x i).turn) (ho : K6 (ent x i).need m.src = true) :
    Inv n nl ⟨x.cores, x.home.set i (if (C4 (ent x i) m).need = 0 then A6 (C4 (ent x i) m) else C4 (ent x i) m), x.frames⟩ M := by
  have hn := h.n1
  have hb := h.bit i hi
  have hgi := h.gi i hi
  have hla := h.nla i hi
  have hnd : D1 (ent x i).need p = 1 := by rw [hs] at ho; exact (Pd _ _).1 ho
  have hc1 := Qa (by omega) hb.1 (show p < 4 by omega)
  have hc2 := Qa (by omega) hb.2 (show p < 4 by omega)
  have hb1 := Ir (Jn (by omega) hb.1) (show p < 4 by omega)
  have hb2 := Ir (Jn (by omega) hb.2) (show p < 4 by omega)
  have hown := hgi.f23 (by show 2 ≤ (ent x i).phase; omega)
  simp only [ab] at hown
  have hal := (hgi.c2 h0).1
  rw [Qi] at hal
  unfold C4
  simp only [hs]
  by_cases hz : Hr (ent x i).need p = 0
  · rw [if_pos hz]
    have hrest : ∀ q : Nat, q ≠ p → q < n → D1 (ent x i).need q = 0 := by
      intro q hqp hq
      have := congrFun hb2 q
      rw [hz, Dw] at this
      unfold upd at this
      rw [if_neg hqp] at this
      exact this.symm
    have hpw : (ent x i).who ≠ p := ((h.ci i hi p hp).ned hnd).2.1
    have hsh : ∀ q, q < n → (ent x i).who ≠ q → q ≠ p → D1 (ent x i).sharers q = 0 := by
      intro q hq hqw hqp
      have := (h.ci i hi q hq).cle h0 hqw
      simp only [ab] at this
      rw [← this]; exact hrest q hqp hq
    have hw := hgi.whor (by show (ent x i).phase ≠ 0; omega)
    simp only [ab] at hw
    obtain ⟨w, hw'⟩ : ∃ w : Nat, (ent x i).who = w := ⟨(ent x i).who.toNat, by omega⟩
    have hcc : Hr (Hr (ent x i).sharers p) (ent x i).who = 0 := by
      rw [hw']
      have hc3 := Qa (by omega) hc1 (show w < 4 by omega)
      refine K3 (Jn (by omega) hc3) fun q hq4 => ?_
      rw [Ir (Jn (by omega) hc1) (by omega), hb1]
      unfold upd
      split
      · rfl
      · split
        · rfl
        · by_cases hq : q < n
          · exact hsh q hq (by omega) (by assumption)
          · unfold D1
            rw [Nat.testBit_lt_two_pow (show (ent x i).sharers.toNat < 2 ^ q by have : 2 ^ n ≤ 2 ^ q := Nat.pow_le_pow_right (by omega) (by omega); omega)]
            rfl
    have hne : A6 { ent x i with need := Hr (ent x i).need p, sharers := Hr (ent x i).sharers p } = { ent x i with need := 0, sharers := Hr (ent x i).sharers p, phase := 3 } := by
      unfold A6
      simp only
      rw [if_neg (by omega), if_neg (by rintro ⟨_, h2⟩; exact h2 hcc)]
    rw [hne]
    refine h.home hi hla ⟨hc1, ⟨by simp only; omega, by have : 0 < 2 ^ n := Nat.two_pow_pos n; simp only; omega⟩⟩ ?_
    exact Vx hgi (h.ci i hi) hp hM hk h0 ht hnd rfl rfl hb1 rfl rfl rfl rfl rfl (.inr ⟨rfl, fun q => Dw q, fun q h1 h2 => hrest q h1 h2⟩)
  · rw [if_neg hz]
    refine h.home hi hla ⟨hc1, hc2⟩ ?_
    exact Vx hgi (h.ci i hi) hp hM hk h0 ht hnd rfl rfl hb1 rfl rfl rfl rfl rfl (.inl ⟨h0, hb2, Of (by omega) hc2 hz⟩)
theorem Q3 {p i : Nat} {m : Msg} (h : Inv n nl x M) (hp : p < n) (hi : i < nl) (hs : m.src = p) (hM : MI (ab (ent x i)) p (lin x i p) m) (hk : m.kind = 10) (h0 : (ent x i).phase = 3) (ht : m.turn = (ent x i).turn) (ho : m.src = (ent x i).who) :
    Inv n nl ⟨x.cores, x.home.set i (Ed (ent x i)), x.frames⟩ M := by
  have hn := h.n1
  have hb := h.bit i hi
  have hgi := h.gi i hi
  have hla := h.nla i hi
  have hwp : (ent x i).who = p := by rw [← ho]; exact hs
  have hpos : 0 < 2 ^ n := Nat.two_pow_pos n
  unfold Ed
  split
  · rename_i hal
    refine h.home hi hla ⟨⟨by simp only; omega, by simp only; omega⟩, hb.2⟩ ?_
    exact P2 hgi (h.ci i hi) hp hM hk h0 ht hwp rfl rfl rfl rfl rfl rfl rfl (fun q => rfl) (.inl ⟨(Qi _).2 hal, hwp, fun q => Dw q⟩)
  · rename_i hal
    refine h.home hi hla ⟨by simp only; rw [hwp]; exact Vs (by omega) hb.1 hp, hb.2⟩ ?_
    refine P2 hgi (h.ci i hi) hp hM hk h0 ht hwp rfl rfl rfl rfl rfl rfl rfl (fun q => rfl) (.inr ⟨(On _).2 (by simpa using hal), rfl, fun q => ?_⟩)
    show D1 (H3 (ent x i).sharers (ent x i).who) q = _
    rw [hwp, Og (Jn (by omega) hb.1) (by omega)]; rfl
theorem Ny {p : Nat} {m : Msg} (h : Inv n nl x M) (hp : p < n) (hs : m.src = p) (hd : m.dst = n) (hl : 0 ≤ m.line ∧ m.line < nl) (hr : (0 ≤ m.serial ∧ m.serial ≤ 65535) ∧ (0 ≤ m.turn ∧ m.turn ≤ 65535) ∧ (0 ≤ m.value ∧ m.value ≤ 255)) (hm : MX n x m) :
    Inv n nl ⟨x.cores, (Am x.home n m).1, way x.frames (Am x.home n m).2⟩ M := by
  obtain ⟨i, hi⟩ : ∃ i : Nat, m.line = i := ⟨m.line.toNat, by omega⟩
  have hin : i < nl := by omega
  have hen : Ad x.home m.line = ent x i := by unfold Ad ent; rw [hi, Int.toNat_natCast]
  have hla := h.nla i hin
  have hMI : MI (ab (ent x i)) p (lin x i p) m := by
    unfold MX at hm
    have : Qz n m = p := by unfold Qz; rw [if_pos hd, hs]; simp
    rw [this, hi, Int.toNat_natCast] at hm
    exact hm
  have hsame : x.home.set i (ent x i) = x.home := Ea _ _ _ (by rw [h.nh]; exact hin)
  unfold Am
  rw [hen, if_neg (by rw [h.nh, hla]; omega)]
  simp only [hi, Int.toNat_natCast]
  unfold Bl
  by_cases k1 : m.kind = 1 ∨ m.kind = 2
  · rw [if_pos k1]
    by_cases hc : (ent x i).phase ≠ 0 ∨ m.serial ≤ Ej (ent x i) m.src ∨ 65535 ≤ (ent x i).turn
    · rw [if_pos hc]; simp only [way]; rw [hsame]; exact h
    · rw [if_neg hc, hi]
      exact h.homeSays hin (Ww h hp hin hs hr.1 hMI k1 (by omega) (by omega) (by omega))
  rw [if_neg k1]
  by_cases k3 : m.kind = 3
  · rw [if_pos k3]
    by_cases hc : (ent x i).phase ≠ 0
    · rw [if_pos hc]; simp only [way]; rw [hsame]; exact h
    · rw [if_neg hc]
      obtain ⟨hI, hle⟩ := Wv h hp hin hs hr.1 hr.2.2 hMI k3 (by omega)
      refine hI.way fun m' hm' => ?_
      rw [List.mem_singleton.1 hm', hs, hi]
      refine ⟨Lx h hp hin (by omega) hr.1 (by omega) (by omega), MX.told h hp hin ?_⟩
      constructor <;> simp only <;> intro hk <;> first | omega | exact hle
  rw [if_neg k3]
  by_cases k9 : m.kind = 9 ∧ m.turn = (ent x i).turn ∧ (ent x i).phase = 1 ∧ m.src = (ent x i).owner
  · rw [if_pos k9, hi]
    exact h.homeSays hin (Uy h hp hin hs hr.2.2 hMI k9.1 k9.2.2.1 k9.2.1 k9.2.2.2)
  rw [if_neg k9]
  by_cases k8 : m.kind = 8 ∧ m.turn = (ent x i).turn ∧ (ent x i).phase = 2 ∧ K6 (ent x i).need m.src = true
  · rw [if_pos k8]
    have hI := Ux h hp hin hs hMI k8.1 k8.2.2.1 k8.2.1 k8.2.2.2
    by_cases hz : (C4 (ent x i) m).need = 0
    · rw [if_pos hz] at hI ⊢; rw [hi]; exact h.homeSays hin hI
    · rw [if_neg hz] at hI ⊢; exact hI
  rw [if_neg k8]
  by_cases k10 : m.kind = 10 ∧ m.turn = (ent x i).turn ∧ (ent x i).phase = 3 ∧ m.src = (ent x i).who
  · rw [if_pos k10]
    exact Q3 h hp hin hs hMI k10.1 k10.2.2.1 k10.2.1 k10.2.2.2
  · rw [if_neg k10]; simp only [way]; rw [hsame]; exact h
theorem V2 (h : Inv n nl x M) : Ax x = Ft n nl := by unfold Ax Ft Bz; rw [h.nc, h.nh]
theorem Mm {p : Nat} : A2 x p = cor x p := by unfold A2 cor; rw [Int.toNat_natCast]
theorem Nz {b : List UInt8} (h : Inv n nl x M) (hb : b.length = 12 ∧ ∀ m, Af (Ft n nl) b = (m, 0) → MX n x m) :
    ∃ M', Inv n nl (E5 x b).1 M' ∧ Ds M (E5 x b).2 M' := by
  unfold E5
  rw [V2 h]
  have hnc : Bz x = n := by unfold Bz; rw [h.nc]
  rw [hnc]
  by_cases he : (Af (Ft n nl) b).2 ≠ 0
  · rw [if_pos he]; exact ⟨M, h, rfl⟩
  rw [if_neg he]
  have hpar : Af (Ft n nl) b = ((Af (Ft n nl) b).1, 0) := by
    have : (Af (Ft n nl) b).2 = 0 := Classical.byContradiction he
    rw [← this]
  have hm := hb.2 _ hpar
  obtain ⟨w1, w2, w3, w4, w5, w6, w7⟩ := H0 (Jv hpar).2.2.2.2.1
  generalize (Af (Ft n nl) b).1 = m at hm w1 w2 w3 w4 w5 w6 w7 ⊢
  simp only [Ft] at w2 w3 w7
  by_cases hd : m.dst = (n : Int)
  · rw [if_pos hd]
    have hs : ¬ m.src = (n : Int) := fun hs => w7 ⟨fun _ => hd, fun _ => hs⟩
    obtain ⟨p, hp⟩ : ∃ p : Nat, m.src = p := ⟨m.src.toNat, by omega⟩
    exact ⟨M, Ny h (by omega) hp hd w3 ⟨w4, w5, w6⟩ hm, rfl⟩
  · rw [if_neg hd]
    have hs : m.src = (n : Int) := Classical.byContradiction fun hs => w7 ⟨fun h => absurd h hs, fun h => absurd h hd⟩
    obtain ⟨p, hp⟩ : ∃ p : Nat, m.dst = p := ⟨m.dst.toNat, by omega⟩
    rw [hp, Mm]
    exact Uw h (by omega) hp hs w3 ⟨w4, w5, w6⟩ hm
theorem inv_do {s : Step} (h : Inv n nl x M) (hok : (Ao x s).2.2 = 0) : ∃ M', Inv n nl (Ao x s).1 M' ∧ Ds M (Ao x s).2.1 M' := by
  have hnc : Bz x = n := by unfold Bz; rw [h.nc]
  have hcf := V2 h
  unfold Ao at hok ⊢
  rw [hnc] at hok ⊢
  rw [hcf] at hok ⊢
  by_cases k1 : s.kind = 1
  · rw [if_pos k1] at hok ⊢
    split at hok
    · cases hok
    rename_i hnode
    rw [if_neg hnode]
    obtain ⟨p, hp⟩ : ∃ p : Nat, s.node = p := ⟨s.node.toNat, by omega⟩
    have hpn : p < n := by omega
    rw [hp, Mm] at hok ⊢
    split at hok
    · rename_i hz; exact absurd hok hz
    rename_i hz
    rw [if_neg hz]
    exact Su h hpn (Classical.byContradiction hz)
  rw [if_neg k1] at hok ⊢
  by_cases k2 : s.kind = 2
  · rw [if_pos k2] at hok ⊢
    split at hok
    · cases hok
    rename_i hf
    rw [if_neg hf]
    exact Nz (h.erase _) (h.mi _ (Ic hf))
  rw [if_neg k2] at hok ⊢
  by_cases k3 : s.kind = 3
  · rw [if_pos k3] at hok ⊢
    split at hok
    · cases hok
    rename_i hf
    rw [if_neg hf]
    exact ⟨M, h.erase _, rfl⟩
  rw [if_neg k3] at hok ⊢
  by_cases k4 : s.kind = 4
  · rw [if_pos k4] at hok ⊢
    split at hok
    · cases hok
    rename_i hf
    rw [if_neg hf]
    exact ⟨M, h.send (h.mi _ (Ic hf)), rfl⟩
  rw [if_neg k4] at hok ⊢
  by_cases k5 : s.kind = 5
  · rw [if_pos k5] at hok ⊢
    split at hok
    · cases hok
    rename_i hf
    rw [if_neg hf]
    split at hok
    · cases hok
    rename_i hq
    rw [if_neg hq]
    split at hok
    · rename_i hz; exact absurd hok hz
    rename_i hz
    rw [if_neg hz]
    have hf' : ¬ (s.n < 0 ∨ (x.frames.length : Int) ≤ s.n) := hf
    unfold Eu at hz ⊢
    rw [if_neg hf'] at hz ⊢
    split at hz
    · exact absurd (show (3 : Int) ≠ 0 by decide) hz
    rename_i hbit
    rw [if_neg hbit]
    exact ⟨M, h.spoil hf' (Classical.byContradiction hq) (by omega) (by omega), rfl⟩
  rw [if_neg k5] at hok ⊢
  by_cases k6 : s.kind = 6
  · rw [if_pos k6] at hok ⊢
    split at hok
    · cases hok
    rename_i hnode
    rw [if_neg hnode]
    by_cases hh : s.node = (n : Int)
    · rw [if_pos hh, hh]; exact ⟨M, Me h, rfl⟩
    · rw [if_neg hh]
      obtain ⟨p, hp⟩ : ∃ p : Nat, s.node = p := ⟨s.node.toNat, by omega⟩
      rw [hp, Mm]
      exact ⟨M, Mf h (by omega), rfl⟩
  · rw [if_neg k6] at hok; cases hok
end
end Go.Proofs.Ytofgpimoekhfaaa

/- This file proves that whatever steps there were a chip is as it must be, and all that is done is as of memory that is one. No program in sight. No conditions. -/
set_option linter.unusedVariables false
set_option linter.unusedSimpArgs false
namespace Go.Proofs.Ytofgpimoekhfaaa
open Abs
section
variable {n nl : Nat} {x : Chip} {M : List Int}
theorem Ev {α : Type} (k i : Nat) (a d : α) (h : i < k) : (List.replicate k a).getD i d = a := by
 rw [List.getD_eq_getElem?_getD, List.getElem?_replicate, if_pos h]; rfl
theorem Hm {α : Type} (k i : Nat) (a : α) : (List.replicate k a).getD i a = a := by
 rw [List.getD_eq_getElem?_getD, List.getElem?_replicate]; split <;> rfl
def Gy (n nl : Nat) : Chip := ⟨List.replicate n ⟨List.replicate nl zLine, zOp⟩, List.replicate nl { A8 with last := List.replicate n 0 }, []⟩
theorem Sr (hn : 1 ≤ n ∧ n ≤ 4) (hl : 1 ≤ nl ∧ nl ≤ 4) : Inv n nl (Gy n nl) (List.replicate nl 0) := by
  have hcor : ∀ p, p < n → cor (Gy n nl) p = ⟨List.replicate nl zLine, zOp⟩ := fun p hp => Ev _ _ _ _ hp
  have hlin : ∀ i p, i < nl → p < n → lin (Gy n nl) i p = zLine := by
    intro i p hi hp; unfold lin; rw [hcor p hp]; exact Ev _ _ _ _ hi
  have hent : ∀ i, i < nl → ent (Gy n nl) i = { A8 with last := List.replicate n 0 } := fun i hi => Ev _ _ _ _ hi
  have hpos : 0 < 2 ^ n := Nat.two_pow_pos n
  have hM : ∀ i, (List.replicate nl (0 : Int)).getD i 0 = 0 := fun i => Hm _ _ _
  refine ⟨hn, hl, by simp [Gy], by simp [Gy], ?_, ?_, by simp, ?_, ?_, ?_, ?_, ?_, by simp [Gy], ?_⟩
  · intro p hp; rw [hcor p hp]; simp
  · intro i hi; rw [hent i hi]; simp
  · intro i hi; rw [hM]; omega
  · intro i hi; rw [hent i hi]; simp only [A8]; omega
  · intro i hi; rw [hent i hi]
    have h1 : ∀ q, D1 0 q = 0 := fun q => Dw q
    constructor <;> simp only [ab, A8] <;> first | omega | (intro h; omega) | simp
  · intro i hi p hp
    rw [hent i hi, hlin i p hi hp, hM]
    have h1 : D1 0 p = 0 := Dw p
    have h2 : (List.replicate n (0 : Int)).getD p 0 = 0 := Hm _ _ _
    constructor <;> simp only [ab, A8, zLine] <;> (try rw [h1]) <;> (try rw [h2]) <;> first | omega | simp
  · intro p hp
    rw [hcor p hp]
    constructor
    · intro _; exact ⟨rfl, fun i hi => by rw [Ev _ _ _ _ hi]; rfl⟩
    · intro h; exact absurd rfl h
  · intro b hb; cases hb
theorem Lt {c : Config} (h : (Bt c).2 = 0) : ∃ n nl : Nat, (1 ≤ n ∧ n ≤ 4) ∧ (1 ≤ nl ∧ nl ≤ 4) ∧ c = Ft n nl ∧ Bt c = (Gy n nl, 0) := by
  unfold Bt at h ⊢
  split at h
  · cases h
  rename_i hc
  have hc0 : Iq c = 0 := Classical.byContradiction hc
  unfold Iq at hc0
  split at hc0
  · cases hc0
  rename_i hr
  refine ⟨c.cores.toNat, c.lines.toNat, by omega, by omega, ?_, ?_⟩
  · unfold Ft; cases c; simp only [Config.mk.injEq]; simp only at hr; omega
  · rw [if_neg hc]; rfl
theorem Ij {M M' M'' : List Int} : ∀ {a b : List Done}, Ds M a M' → Ds M' b M'' → Ds M (a ++ b) M''
 | [], b, h1, h2 => by rw [show M' = M from h1] at h2; exact h2
 | d :: a, b, ⟨h1, h2, h3, h4, h5⟩, h6 => ⟨h1, h2, h3, h4, Ij h5 h6⟩
theorem Ie : ∀ (l : List Step) {x : Chip} {M : List Int}, Inv n nl x M → ∃ M', Inv n nl (Ey x l).1 M' ∧ Ds M (Ey x l).2 M'
  | [], x, M, h => ⟨M, h, rfl⟩
  | s :: r, x, M, h => by
    simp only [Ey]
    split
    · rename_i hok
      obtain ⟨M1, h1, d1⟩ := inv_do h hok
      obtain ⟨M2, h2, d2⟩ := Ie r h1
      exact ⟨M2, h2, Ij d1 d2⟩
    · exact Ie r h
theorem Ss {c : Config} {l : List Step} (h : (Bt c).2 = 0) : ∃ n nl : Nat, c = Ft n nl ∧ ∃ M, Inv n nl (build c l).1 M ∧ Ds (List.replicate nl 0) (build c l).2 M := by
 obtain ⟨n, nl, h1, h2, h3, h4⟩ := Lt h
 refine ⟨n, nl, h3, ?_⟩
 unfold build
 rw [if_neg (by rw [h]; simp), h4]
 exact Ie _ (Sr h1 h2)
end
end Go.Proofs.Ytofgpimoekhfaaa

/- This file proves that numbers in chips that come of steps, and in what is said there, lie within bounds. No program in sight. No conditions. -/
set_option linter.unusedVariables false
set_option linter.unusedSimpArgs false
set_option maxHeartbeats 1000000
set_option maxRecDepth 8000
namespace Go.Proofs.Ytofgpimoekhfaaa
open Go
theorem U1 {α : Type} {l : List α} {d : α} {P : α → Prop} (h : ∀ i, i < l.length → P (l.getD i d)) : ∀ x ∈ l, P x := by
 intro x hx
 obtain ⟨i, hi, rfl⟩ := List.getElem_of_mem hx
 have := h i hi
 rwa [List.getD_eq_getElem?_getD, List.getElem?_eq_getElem hi] at this
section
variable {n nl : Nat} {x : Chip} {M : List Int}
open Abs
theorem Inv.kb (h : Inv n nl x M) {p : Nat} (hp : p < n) : KB (cor x p) := by
 have h1 := h.ncl p hp
 have h2 := h.l1
 refine ⟨by omega, fun i hi => (h.ci i (by omega) p hp).va, by rw [h1]; exact h.cw p hp⟩
theorem Inv.eb (h : Inv n nl x M) {i : Nat} (hi : i < nl) : EB (ent x i) := by
  have hg := h.gi i hi
  have hb := h.bit i hi
  have hn := h.n1
  have b1 := Jn hn.2 hb.1
  have b2 := Jn hn.2 hb.2
  have w : 0 ≤ (ent x i).who ∧ (ent x i).who < 4 := by
    by_cases h0 : (ent x i).phase = 0
    · have := (hg.idle h0).1; simp only [ab] at this; omega
    · have := hg.whor h0; simp only [ab] at this; omega
  have o := hg.own; have ph := hg.ph; have tu := hg.tu; have va := hg.va; have se := hg.se
  simp only [ab] at o ph tu va se
  unfold EB Entry.wf An
  omega
theorem Inv.ebd (h : Inv n nl x M) {i : Nat} (hi : i < nl) : ((ent x i).turn ≤ 65535) ∧ (0 ≤ (ent x i).serial ∧ (ent x i).serial ≤ 65535) ∧ (0 ≤ (ent x i).value ∧ (ent x i).value ≤ 255) := by
 have hg := h.gi i hi
 exact ⟨hg.tu.2, hg.se, hg.va⟩
def LB (l : Line) : Prop := (0 ≤ l.value ∧ l.value ≤ 255) ∧ (0 ≤ l.want ∧ l.want ≤ 3) ∧ (0 ≤ l.serial ∧ l.serial ≤ 65535) ∧ (0 ≤ l.gave ∧ l.gave ≤ 65535) ∧ (0 ≤ l.given ∧ l.given ≤ 255) ∧ (0 ≤ l.seen ∧ l.seen ≤ 65535) ∧ (0 ≤ l.state ∧ l.state ≤ 3)
theorem Inv.lb (h : Inv n nl x M) {i p : Nat} (hi : i < nl) (hp : p < n) : LB (lin x i p) := by
 have hc := h.ci i hi p hp
 have ht := (h.gi i hi).tu
 have h1 := hc.ga
 exact ⟨hc.va, hc.wa, hc.se, by omega, hc.gi, by omega, hc.st⟩
end
theorem V5 {l : Line} (h : LB l) {id home i : Int} (h1 : 0 ≤ id ∧ id ≤ 15) (h2 : 0 ≤ home ∧ home ≤ 15) (h3 : 0 ≤ i ∧ i ≤ 255) : MsgIn (Cx l id home i) := by
 unfold Cx MsgIn; unfold LB at h; simp only; split <;> omega
theorem J0 {kind id home i t v : Int} (h1 : 0 ≤ id ∧ id ≤ 15) (h2 : 0 ≤ home ∧ home ≤ 15) (h3 : 0 ≤ i ∧ i ≤ 255) (hk : 0 ≤ kind ∧ kind ≤ 255) (ht : 0 ≤ t ∧ t ≤ 65535) (hv : 0 ≤ v ∧ v ≤ 255) : MsgIn (Ce kind id home i t v) := by
 unfold Ce MsgIn; simp only; omega
theorem Vk {c : Core} {id home : Int} {o : Op} (h1 : 0 ≤ id ∧ id ≤ 15) (h2 : 0 ≤ home ∧ home ≤ 15) (hl : c.lines.length ≤ 4) (hb : ∀ i, i < c.lines.length → LB (c.lines.getD i zLine)) : ∀ m ∈ (Ai c id home o).2.1, MsgIn m := by
  unfold Ai
  split
  · intro m hm; cases hm
  split
  · intro m hm; cases hm
  split
  · intro m hm; cases hm
  rename_i k1 k2 k3
  split
  · intro m hm; cases hm
  · intro m hm
    rw [List.mem_singleton.1 hm]
    have hL : LB (Ac c o.line) := hb o.line.toNat (by omega)
    refine V5 ?_ h1 h2 (by omega)
    unfold LB at hL ⊢
    unfold A4
    split
    · split <;> simp only <;> omega
    split
    · exfalso
      rename_i h3 h4 h5
      apply h3
      unfold Bb
      rw [if_neg h4]
      simp; omega
    · split <;> simp only <;> omega
theorem W2 {c : Core} {id home : Int} {m : Msg} (h1 : 0 ≤ id ∧ id ≤ 15) (h2 : 0 ≤ home ∧ home ≤ 15) (hl : c.lines.length ≤ 4) (hb : ∀ i, i < c.lines.length → LB (c.lines.getD i zLine)) (ht : 0 ≤ m.turn ∧ m.turn ≤ 65535) : ∀ a ∈ (Ag c id home m).2.1, MsgIn a := by
  unfold Ag
  split
  · intro a ha; cases ha
  rename_i k1
  have hL : LB (Ac c m.line) := hb m.line.toNat (by omega)
  have h3 : 0 ≤ m.line ∧ m.line ≤ 255 := by omega
  unfold LB at hL
  split
  · intro a ha; rw [List.mem_singleton.1 ha]; exact J0 h1 h2 h3 (by omega) ht (by omega)
  split
  · split
    · intro a ha; rw [List.mem_singleton.1 ha]; exact J0 h1 h2 h3 (by omega) ht (by omega)
    split
    · intro a ha; rw [List.mem_singleton.1 ha]; exact J0 h1 h2 h3 (by omega) (by omega) (by omega)
    · intro a ha; cases ha
  split
  · split
    · intro a ha; cases ha
    split
    · intro a ha; rw [List.mem_singleton.1 ha]; exact J0 h1 h2 h3 (by omega) ht (by omega)
    · intro a ha; rw [List.mem_singleton.1 ha]; exact J0 h1 h2 h3 (by omega) ht (by omega)
  split
  · intro a ha; cases ha
  · intro a ha; cases ha
theorem says_in {e : Entry} {i id : Int} (he : EB e) (ht : e.turn ≤ 65535) (hs : 0 ≤ e.serial ∧ e.serial ≤ 65535) (hv : 0 ≤ e.value ∧ e.value ≤ 255) (hp : e.phase = 1 → 0 ≤ e.owner) (hi : 0 ≤ i ∧ i ≤ 255) (hd : 0 ≤ id ∧ id ≤ 15) : ∀ a ∈ says e i id, MsgIn a := by
  unfold says
  unfold EB at he
  split
  · rename_i h1
    have := hp h1
    intro a ha; rw [List.mem_singleton.1 ha]; unfold MsgIn; simp only; split <;> omega
  split
  · intro a ha
    obtain ⟨p, hp, rfl⟩ := List.mem_map.1 ha
    have h4 := (List.mem_filter.1 hp).1
    have : 0 ≤ p ∧ p ≤ 3 := by
      simp only [List.mem_cons, List.not_mem_nil, or_false] at h4; omega
    unfold MsgIn; simp only; omega
  split
  · intro a ha; rw [List.mem_singleton.1 ha]; unfold MsgIn; simp only; omega
  · intro a ha; cases ha
theorem Mb {e : Entry} : (A6 e).phase = 1 → 0 ≤ (A6 e).owner := by
  unfold A6; split
  · intro _; assumption
  split
  · intro h; simp at h
  · intro h; simp at h
theorem I0 (e : Entry) : (A6 e).turn = e.turn ∧ (A6 e).serial = e.serial ∧ (A6 e).value = e.value ∧ (A6 e).owner = e.owner ∧ (A6 e).last = e.last := by
  unfold A6; split
  · simp
  split <;> simp
theorem Pc {l : List Entry} {id : Int} {m : Msg} (hd : 0 ≤ id ∧ id ≤ 15) (hl : l.length ≤ 4) (hb : ∀ i, i < l.length → EB (l.getD i A8) ∧ (l.getD i A8).turn ≤ 65535 ∧ (0 ≤ (l.getD i A8).serial ∧ (l.getD i A8).serial ≤ 65535) ∧ (0 ≤ (l.getD i A8).value ∧ (l.getD i A8).value ≤ 255) ∧ (l.getD i A8).last.length ≤ 4)
    (hs : 0 ≤ m.serial ∧ m.serial ≤ 65535) (hv : 0 ≤ m.value ∧ m.value ≤ 255) : ∀ a ∈ (Am l id m).2, MsgIn a := by
  unfold Am
  split
  · intro a ha; cases ha
  rename_i k
  obtain ⟨h1, h2, h3, h4, h5⟩ := hb m.line.toNat (by omega)
  change EB (Ad l m.line) at h1
  change (Ad l m.line).turn ≤ 65535 at h2
  change 0 ≤ (Ad l m.line).serial ∧ (Ad l m.line).serial ≤ 65535 at h3
  change 0 ≤ (Ad l m.line).value ∧ (Ad l m.line).value ≤ 255 at h4
  change (Ad l m.line).last.length ≤ 4 at h5
  have hi : 0 ≤ m.line ∧ m.line ≤ 255 := by omega
  have hE := h1
  unfold EB Entry.wf An at hE
  simp only
  generalize Ad l m.line = e at h1 h2 h3 h4 h5 hE k
  unfold Bl
  split
  · split
    · intro a ha; cases ha
    · rename_i k2
      have hX : EB { e with last := e.last.set m.src.toNat m.serial, who := m.src, serial := m.serial, alone := m.kind == 2, turn := e.turn + 1 } := by unfold EB Entry.wf An; simp only; omega
      have hr := I0 { e with last := e.last.set m.src.toNat m.serial, who := m.src, serial := m.serial, alone := m.kind == 2, turn := e.turn + 1 }
      simp only at hr
      unfold N5
      exact says_in (Du hX) (by rw [hr.1]; omega) (by rw [hr.2.1]; exact hs) (by rw [hr.2.2.1]; exact h4) Mb hi hd
  split
  · split
    · intro a ha; cases ha
    · intro a ha; rw [List.mem_singleton.1 ha]; unfold MsgIn; simp only; omega
  split
  · rename_i k3
    have hs4 : 0 ≤ (if e.alone = true then e.sharers else H3 e.sharers e.owner) ∧ (if e.alone = true then e.sharers else H3 e.sharers e.owner) < 16 := by
      split
      · omega
      · obtain ⟨_, _, r, _⟩ := Cp hE.2.1.1 hE.2.1.2 (show 0 ≤ e.owner by omega) hE.2.2.2.2.1.2; exact r
    have hX : EB { e with value := m.value, sharers := if e.alone then e.sharers else H3 e.sharers e.owner, owner := -1 } := by
      generalize (if e.alone = true then e.sharers else H3 e.sharers e.owner) = z at hs4 ⊢
      unfold EB Entry.wf An; simp only; omega
    have hr := I0 { e with value := m.value, sharers := if e.alone then e.sharers else H3 e.sharers e.owner, owner := -1 }
    simp only at hr
    unfold G4
    exact says_in (Du hX) (by rw [hr.1]; exact h2) (by rw [hr.2.1]; exact h3) (by rw [hr.2.2.1]; exact hv) Mb hi hd
  split
  · split
    · have c1 := (Cp hE.2.1.1 hE.2.1.2 (show 0 ≤ m.src by omega) (show m.src < 4 by omega)).2.2.2
      have c2 := (Cp hE.2.2.1.1 hE.2.2.1.2 (show 0 ≤ m.src by omega) (show m.src < 4 by omega)).2.2.2
      have hX : EB (C4 e m) := by
        unfold C4 EB Entry.wf An; simp only; omega
      have hr := I0 (C4 e m)
      exact says_in (Du hX) (by rw [hr.1]; exact h2) (by rw [hr.2.1]; exact h3) (by rw [hr.2.2.1]; exact h4) Mb hi hd
    · intro a ha; cases ha
  split
  · intro a ha; cases ha
  · intro a ha; cases ha
theorem Pp {id home : Int} (h1 : 0 ≤ id ∧ id ≤ 15) (h2 : 0 ≤ home ∧ home ≤ 15) : ∀ (l : List Line) (i : Int), 0 ≤ i → i + l.length ≤ 256 → (∀ x ∈ l, LB x) → ∀ a ∈ Ct id home i l, MsgIn a
  | [], _, _, _, _ => fun a ha => by cases ha
  | x :: l, i, h0, hn, hb => by
    intro a ha
    simp only [List.length_cons] at hn
    have ih := Pp h1 h2 l (i + 1) (by omega) (by omega) (fun y hy => hb y (.tail _ hy))
    simp only [Ct] at ha
    split at ha
    · rcases List.mem_cons.1 ha with e | e
      · rw [e]; exact V5 (hb x (.head _)) h1 h2 (by omega)
      · exact ih a e
    · exact ih a ha
theorem Iu : ∀ (a b : List Msg) (f : Frames), way f (a ++ b) = way (way f a) b
 | [], _, _ => rfl
 | _ :: a, b, _ => Iu a b _
theorem H4 (id : Int) : ∀ (l : List Entry) (i : Int) (x : Entry), Dv id i (l ++ [x]) = Dv id i l ++ says x (i + l.length) id
 | [], i, x => by simp [Dv]
 | a :: l, i, x => by
  have ih := H4 id l (i + 1) x
  have e : i + 1 + (l.length : Int) = i + ((a :: l).length : Int) := by simp only [List.length_cons]; omega
  rw [e] at ih
  simp only [List.cons_append, Dv, ih, List.append_assoc]
end Go.Proofs.Ytofgpimoekhfaaa

/- This file proves that what looks at a chip finds chips that come of steps as they must be. No program in sight. No conditions. -/
set_option linter.unusedVariables false
set_option linter.unusedSimpArgs false
set_option maxHeartbeats 1000000
set_option maxRecDepth 8000
namespace Go.Proofs.Ytofgpimoekhfaaa
open Go
def Hi (f : Nat → Bool) : Nat → Bool
 | 0 => true
 | k + 1 => Hi f k && f k
def E0 (f : Nat → Bool) : Nat → Nat
 | 0 => 0
 | k + 1 => E0 f k + if f k then 1 else 0
theorem allN_iff {f : Nat → Bool} : ∀ {k : Nat}, Hi f k = true ↔ ∀ i, i < k → f i = true
  | 0 => ⟨fun _ i hi => absurd hi (by omega), fun _ => rfl⟩
  | k + 1 => by
    simp only [Hi, Bool.and_eq_true, allN_iff (k := k)]
    refine ⟨fun h i hi => ?_, fun h => ⟨fun i hi => h i (by omega), h k (by omega)⟩⟩
    by_cases e : i = k
    · rw [e]; exact h.2
    · exact h.1 i (by omega)
theorem Fg {f : Nat → Bool} {k i : Nat} (hi : i < k) (h : f i = false) : Hi f k = false := by
 cases e : Hi f k with
 | false => rfl
 | true => rw [allN_iff.1 e i hi] at h; cases h
theorem Eg {f : Nat → Bool} {k : Nat} (h : Hi f k = true) (h2 : f k = true) : Hi f (k + 1) = true := by simp only [Hi, h, h2, Bool.and_self]
theorem Kw {f : Nat → Bool} : ∀ {k : Nat}, E0 f k ≤ k
 | 0 => Nat.le_refl _
 | k + 1 => by
  have := Kw (f := f) (k := k)
  simp only [E0]; split <;> omega
theorem N8 {f : Nat → Bool} {k : Nat} (h : f k = true) : E0 f (k + 1) = E0 f k + 1 := by simp only [E0, h, if_true]
theorem Jg {f : Nat → Bool} {k : Nat} (h : f k = false) : E0 f (k + 1) = E0 f k := by simp [E0, h]
theorem Jy {f : Nat → Bool} : ∀ {k : Nat}, 0 < E0 f k → ∃ p, p < k ∧ f p = true
 | 0, h => absurd h (by simp [E0])
 | k + 1, h => by
  cases e : f k with
  | true => exact ⟨k, by omega, e⟩
  | false =>
   rw [Jg e] at h
   obtain ⟨p, h1, h2⟩ := Jy h
   exact ⟨p, by omega, h2⟩
theorem P9 {f : Nat → Bool} : ∀ {k : Nat}, 1 < E0 f k → ∃ p q, p < q ∧ q < k ∧ f p = true ∧ f q = true
 | 0, h => absurd h (by simp [E0])
 | k + 1, h => by
  cases e : f k with
  | true =>
   rw [N8 e] at h
   obtain ⟨p, h1, h2⟩ := Jy (f := f) (k := k) (by omega)
   exact ⟨p, k, h1, by omega, h2, e⟩
  | false =>
   rw [Jg e] at h
   obtain ⟨p, q, h1, h2, h3, h4⟩ := P9 h
   exact ⟨p, q, h1, by omega, h3, h4⟩
structure CX (x : Chip) : Prop where
 n4 : x.cores.length ≤ 4
 h4 : x.home.length ≤ 4
 ln : ∀ p, p < x.cores.length → (cor x p).lines.length = x.home.length
 la : ∀ i, i < x.home.length → (ent x i).last.length = x.cores.length
 ow : ∀ i, i < x.home.length → (ent x i).phase = 1 → 0 ≤ (ent x i).owner ∧ (ent x i).owner < (x.cores.length : Int)
 sh : ∀ i, i < x.home.length → 0 ≤ (ent x i).sharers ∧ (ent x i).sharers < 16
def stN (x : Chip) (i p : Nat) : Int := (lin x i p).state
def Ff (x : Chip) (i : Nat) : Bool := !(decide (1 < E0 (fun p => stN x i p == 2) x.cores.length) || (decide (E0 (fun p => stN x i p == 2) x.cores.length = 1) && decide (0 < E0 (fun p => stN x i p == 1) x.cores.length)))
def Dd (x : Chip) : Bool := Hi (Ff x) x.home.length
def Nr (x : Chip) (i p : Nat) : Bool := stN x i p == 2 || (stN x i p == 3 && decide ((ent x i).last.getD p 0 < (lin x i p).serial))
def Js (x : Chip) (i : Nat) : Nat → Option Int
 | 0 => none
 | k + 1 => match Js x i k with
  | some v => some v
  | none => if Nr x i k then some (lin x i k).value else none
def Vp (x : Chip) (i : Nat) : Int := if (ent x i).phase = 1 ∧ (lin x i (ent x i).owner.toNat).gave = (ent x i).turn then (lin x i (ent x i).owner.toNat).given else (ent x i).value
def C3 (x : Chip) (i : Nat) : Int := (Js x i x.cores.length).getD (Vp x i)
def V6 (x : Chip) (i p : Nat) : Bool := stN x i p == 1 && (lin x i p).value != C3 x i
def sameAt (x : Chip) (i : Nat) : Bool := Hi (fun p => !V6 x i p) x.cores.length
def Ee (x : Chip) : Bool := Hi (sameAt x) x.home.length
def Gk (x : Chip) (i p : Nat) : Bool := (ent x i).phase == 3 && (ent x i).who == (p : Int) && (lin x i p).seen == (ent x i).turn
def Ga (x : Chip) (i p : Nat) : Bool := !((stN x i p == 2 && (ent x i).owner != (p : Int) && !Gk x i p) || (stN x i p == 1 && !K6 (ent x i).sharers p && (ent x i).owner != (p : Int) && !Gk x i p))
def Sp (x : Chip) (i : Nat) : Bool := Hi (Ga x i) x.cores.length
def Db (x : Chip) : Bool := Hi (Sp x) x.home.length
def Ig (x : Chip) (i : Nat) : Bool := (ent x i).phase == 0
def G2 (x : Chip) (p : Nat) : Bool := (cor x p).wait.kind == 0
def K2 (x : Chip) : Bool := Hi (Ig x) x.home.length && Hi (G2 x) x.cores.length
def Ef (x : Chip) : Bool := Hi (Ig x) x.home.length && (decide (x.frames.length = 0) && Hi (G2 x) x.cores.length)
def I3 (x : Chip) (k : Nat) : Bool := (x.frames.getD k []).length == 12
def Cv (x : Chip) : Int :=
 if 40 < x.frames.length then 4 else if Dd x = false then 6 else if Ee x = false ∨ Db x = false then 2 else if Hi (I3 x) x.frames.length = false then 3 else 0
def C8 (c : Config) (x : Chip) (k : Nat) : Bool := (Af c (x.frames.getD k [])).2 != 0
def E1 (c : Config) (x : Chip) : Nat := E0 (C8 c x) x.frames.length
theorem Yp (x : Chip) : Ef x = (decide (x.frames.length = 0) && K2 x) := by
 unfold Ef K2
 cases Hi (Ig x) x.home.length <;> cases decide (x.frames.length = 0) <;> simp
theorem My {x : Chip} {i : Nat} {v : Int} : ∀ {k : Nat}, Js x i k = some v → ∃ p, p < k ∧ Nr x i p = true ∧ v = (lin x i p).value
  | 0, h => by cases h
  | k + 1, h => by
    simp only [Js] at h
    cases e : Js x i k with
    | some w =>
      rw [e] at h
      obtain ⟨p, h1, h2, h3⟩ := My e
      simp only [Option.some.injEq] at h
      exact ⟨p, by omega, h2, by rw [← h]; exact h3⟩
    | none =>
      rw [e] at h; simp only at h
      split at h
      · rename_i o
        simp only [Option.some.injEq] at h
        exact ⟨k, by omega, o, h.symm⟩
      · cases h
theorem Mz {x : Chip} {i : Nat} : ∀ {k : Nat}, Js x i k = none → ∀ p, p < k → Nr x i p = false
  | 0, _, p, hp => absurd hp (by omega)
  | k + 1, h, p, hp => by
    simp only [Js] at h
    cases e : Js x i k with
    | some w => rw [e] at h; cases h
    | none =>
      rw [e] at h; simp only at h
      split at h
      · cases h
      · rename_i o
        by_cases q : p = k
        · rw [q]; simpa using o
        · exact Mz e p (by omega)
theorem Tu {x : Chip} {i k : Nat} (h : Js x i k = none) (o : Nr x i k = true) : Js x i (k + 1) = some (lin x i k).value := by simp only [Js, h, o, if_true]
theorem M0 {x : Chip} {i k : Nat} (h : Js x i k = none) (o : Nr x i k = false) : Js x i (k + 1) = none := by simp [Js, h, o]
theorem M3 {x : Chip} {i j : Nat} {v : Int} (h : Js x i j = some v) : ∀ {k : Nat}, j ≤ k → Js x i k = some v
  | 0, hk => by rw [Nat.le_zero.1 hk] at h; cases h
  | k + 1, hk => by
    by_cases e : j = k + 1
    · rw [← e]; exact h
    · simp only [Js, M3 h (k := k) (by omega)]
theorem Mx {x : Chip} {i k : Nat} (h : Js x i k = none) (o : Nr x i k = true) (hk : k < x.cores.length) : C3 x i = (lin x i k).value := by
 unfold C3
 rw [M3 (Tu h o) (show k + 1 ≤ x.cores.length by omega)]; rfl
theorem H1 {x : Chip} {i : Nat} (h : Js x i x.cores.length = none) : C3 x i = Vp x i := by unfold C3; rw [h]; rfl
section
open Abs
variable {n nl : Nat} {x : Chip} {M : List Int}
theorem Inv.cx (h : Inv n nl x M) : CX x := by
  have h1 := h.nc
  have h2 := h.nh
  have h3 := h.n1
  have h4 := h.l1
  refine ⟨by omega, by omega, fun p hp => ?_, fun i hi => ?_, fun i hi h0 => ?_, fun i hi => ?_⟩
  · rw [h.ncl p (by omega), h2]
  · rw [h.nla i (by omega), h1]
  · have hg := h.gi i (by omega)
    have := hg.f1 h0
    have := hg.own
    simp only [ab] at *
    omega
  · have hb := h.bit i (by omega)
    have := Jn h3.2 hb.1
    exact this
theorem Tp (h : Inv n nl x M) {i p q : Nat} (hi : i < nl) (hp : p < n) (hq : q < n) (hpq : p ≠ q) (h1 : stN x i p = 2) (h2 : stN x i q = 2) : False := by
 have g := h.gi i hi
 have a := ((h.ci i hi p hp).alo (.inl h1)).1
 have b := ((h.ci i hi q hq).alo (.inl h2)).1
 have f := g.f23
 omega
theorem Rt (h : Inv n nl x M) {i p q : Nat} (hi : i < nl) (hp : p < n) (hq : q < n) (h1 : stN x i p = 2) (h2 : stN x i q = 1) : False := by
  have g := h.gi i hi
  have cp := h.ci i hi p hp
  have cq := h.ci i hi q hq
  have hpq : p ≠ q := fun e => by rw [e, h2] at h1; exact absurd h1 (by decide)
  have a := (cp.alo (.inl h1)).1
  have b := (cq.cop h2).1
  have f := g.f23
  have s := cq.shs
  have r := cq.gra
  rcases a with a | a
  · rcases b with b | b | b
    · have := (s b).2; omega
    · omega
    · have := f (by omega); omega
  · rcases b with b | b | b
    · have := r a.1 a.2.2 (by omega); omega
    · have := f (by omega); omega
    · omega
theorem Ob (h : Inv n nl x M) : Dd x = true := by
 refine allN_iff.2 fun i hi => ?_
 have h1 := h.nc
 have h2 := h.nh
 have c1 : ¬ 1 < E0 (fun p => stN x i p == 2) x.cores.length := fun c => by
  obtain ⟨p, q, a, b, c, d⟩ := P9 c
  exact Tp h (i := i) (p := p) (q := q) (by omega) (by omega) (by omega) (by omega) (by simpa using c) (by simpa using d)
 have c2 : ¬ (E0 (fun p => stN x i p == 2) x.cores.length = 1 ∧ 0 < E0 (fun p => stN x i p == 1) x.cores.length) := fun c => by
  obtain ⟨p, a, b⟩ := Jy (f := fun p => stN x i p == 2) (k := x.cores.length) (by omega)
  obtain ⟨q, c, d⟩ := Jy c.2
  exact Rt h (i := i) (p := p) (q := q) (by omega) (by omega) (by omega) (by simpa using b) (by simpa using d)
 unfold Ff
 rw [decide_eq_false c1, Bool.false_or, ← Bool.decide_and, decide_eq_false c2]; rfl
theorem Sk {i p : Nat} (h : Inv n nl x M) (hi : i < nl) (hp : p < n) (o : Nr x i p = false) : stN x i p ≠ 2 ∧ (stN x i p = 3 → (lin x i p).serial = (ent x i).last.getD p 0) := by
  have l := (h.ci i hi p hp).la
  simp only [ab] at l
  unfold Nr at o
  simp only [Bool.or_eq_false_iff, Bool.and_eq_false_iff, beq_eq_false_iff_ne, decide_eq_false_iff_not] at o
  refine ⟨o.1, fun h3 => ?_⟩
  rcases o.2 with a | a
  · exact absurd h3 a
  · omega
theorem N9 (h : Inv n nl x M) {i : Nat} (hi : i < nl) : C3 x i = M.getD i 0 := by
  have h1 := h.nc
  have g := h.gi i hi
  cases e : Js x i x.cores.length with
  | some v =>
    obtain ⟨p, hp, o, hv⟩ := My e
    have c := h.ci i hi p (by omega)
    have : C3 x i = v := by unfold C3; rw [e]; rfl
    rw [this, hv]
    refine (c.alo ?_).2
    unfold Nr at o
    simp only [Bool.or_eq_true, Bool.and_eq_true, beq_iff_eq, decide_eq_true_eq] at o
    exact o
  | none =>
    rw [H1 e]
    have no := Mz e
    have key : ∀ p, p < n → (ab (ent x i)).owner = (p : Int) → (lin x i p).state < 2 ∧ (ab (ent x i)).phase = 1 ∧ (lin x i p).gave = (ab (ent x i)).turn ∧ (lin x i p).given = M.getD i 0 := fun p hp ho => by
      have c := h.ci i hi p hp
      have q := Sk h hi hp (no p (by omega))
      have q1 := q.1
      have q2 := q.2
      unfold stN at q1 q2
      have b := c.back
      have lv := c.leav
      have st := c.st
      rcases c.own ho with d | d
      · exfalso
        have h3 : (lin x i p).state = 3 := by omega
        exact b (lv.1 h3) (by rw [q2 h3]; rfl) ho
      · exact ⟨d.1, d.2.1, d.2.2.1, d.2.2.2.1⟩
    by_cases ph : (ent x i).phase = 1
    · have o := g.f1 ph
      have o2 := g.own
      obtain ⟨p, hp⟩ := Int.eq_ofNat_of_zero_le o.1
      obtain ⟨_, _, k1, k2⟩ := key p (by omega) hp
      have e1 : (ent x i).owner.toNat = p := by
        have : (ent x i).owner = (p : Int) := hp
        omega
      unfold Vp
      rw [e1, if_pos ⟨ph, k1⟩]; exact k2
    · have e1 : Vp x i = (ab (ent x i)).value := by unfold Vp; rw [if_neg (fun z => ph z.1)]; rfl
      rw [e1]
      have ow : (ab (ent x i)).owner = -1 := by
        have o2 := g.own
        refine Classical.byContradiction fun hn => ?_
        obtain ⟨p, hp⟩ := Int.eq_ofNat_of_zero_le (show 0 ≤ (ab (ent x i)).owner by omega)
        exact ph (key p (by omega) hp).2.1
      by_cases w : (ab (ent x i)).phase = 3 ∧ (ab (ent x i)).alone = 1
      · have o := g.whor (by omega)
        obtain ⟨p, hp⟩ := Int.eq_ofNat_of_zero_le o.1
        have hpn : p < n := by omega
        have c := h.ci i hi p hpn
        refine c.val ow (fun _ _ => ⟨hp, ?_⟩)
        have q := Sk h hi hpn (no p (by omega))
        have q1 := q.1
        have q2 := q.2
        unfold stN at q1 q2
        have st := c.st
        have lv := c.leav
        obtain ⟨a, b⟩ := c.cur (by omega) hp
        rcases b with b | b
        · exact b.2.2
        · exfalso
          have h2 := b.2.2.2.1 w.2
          have h3 : (lin x i p).state = 3 := by omega
          have h4 := lv.1 h3
          have h5 := q2 h3
          have h6 : (ab (ent x i)).last p = (ent x i).last.getD p 0 := rfl
          rcases b.1 with z | z <;> omega
      · have n1 := h.n1
        exact (h.ci i hi 0 (by omega)).val ow (fun a b => absurd ⟨a, b⟩ w)
theorem Qb (h : Inv n nl x M) : Ee x = true := by
  have h1 := h.nc
  have h2 := h.nh
  refine allN_iff.2 fun i hi => allN_iff.2 fun p hp => ?_
  have hi' : i < nl := by omega
  unfold V6
  by_cases s : stN x i p = 1
  · have := ((h.ci i hi' p (by omega)).cop s).2
    rw [this, N9 h hi']; simp
  · simp [s]
theorem Oa (h : Inv n nl x M) : Db x = true := by
  have h1 := h.nc
  have h2 := h.nh
  refine allN_iff.2 fun i hi => allN_iff.2 fun p hp => ?_
  have hi' : i < nl := by omega
  have hp' : p < n := by omega
  have c := h.ci i hi' p hp'
  have w2 := c.w2
  have a : stN x i p = 2 → (ent x i).owner = (p : Int) ∨ Gk x i p = true := fun s => by
    rcases (c.alo (.inl s)).1 with o | ⟨o1, o2, o3⟩
    · exact .inl o
    · refine .inr ?_
      obtain ⟨_, b⟩ := c.cur (by omega) o2
      unfold stN at s
      have e : (lin x i p).seen = (ent x i).turn := by
        rcases b with b | b
        · have := w2 (by omega); omega
        · exact b.2.2.1
      unfold Gk
      simp only [Bool.and_eq_true, beq_iff_eq]
      exact ⟨⟨o1, o2⟩, e⟩
  have b : stN x i p = 1 → K6 (ent x i).sharers p = true ∨ (ent x i).owner = (p : Int) ∨ Gk x i p = true := fun s => by
    rcases (c.cop s).1 with o | o | ⟨o1, o2, o3⟩
    · exact .inl ((Pd _ _).2 o)
    · exact .inr (.inl o)
    · refine .inr (.inr ?_)
      unfold Gk
      simp only [Bool.and_eq_true, beq_iff_eq]
      exact ⟨⟨o1, o2⟩, o3⟩
  unfold Ga
  by_cases s2 : stN x i p = 2
  · rcases a s2 with o | o <;> simp [s2, o]
  by_cases s1 : stN x i p = 1
  · rcases b s1 with o | o | o <;> simp [s1, o]
  · simp [s1, s2]
theorem Ro (h : Inv n nl x M) : Hi (I3 x) x.frames.length = true := by
 refine allN_iff.2 fun k hk => ?_
 have e : x.frames.getD k [] ∈ x.frames := by
  rw [List.getD_eq_getElem?_getD, List.getElem?_eq_getElem hk]; exact List.getElem_mem _
 unfold I3
 rw [(h.mi _ e).1]; rfl
theorem Tf (h : Inv n nl x M) : Cv x = 0 := by
 have := h.fr
 unfold Cv
 rw [if_neg (by omega), if_neg (by rw [Ob h]; decide), if_neg (by rw [Qb h, Oa h]; decide), if_neg (by rw [Ro h]; decide)]
end
theorem Va : Dd zChip = true ∧ Ee zChip = true ∧ Db zChip = true ∧ Cv zChip = 0 := by decide
theorem Yg : CX zChip := by
 refine ⟨by decide, by decide, fun p hp => ?_, fun i hi => ?_, fun i hi => ?_, fun i hi => ?_⟩ <;> exact absurd (show _ < 0 by assumption) (by omega)
theorem Hy (c : Config) (l : List Step) : build c l = (zChip, []) ∨ ∃ n nl : Nat, c = Ft n nl ∧ ∃ M, Inv n nl (build c l).1 M ∧ Ds (List.replicate nl 0) (build c l).2 M := by
  by_cases h : (Bt c).2 = 0
  · exact .inr (Ss h)
  · refine .inl ?_
    unfold build; rw [if_pos h]
theorem Cw (c : Config) (l : List Step) : CX (build c l).1 ∧ (Dd (build c l).1 = true ∧ Ee (build c l).1 = true ∧ Db (build c l).1 = true ∧ Cv (build c l).1 = 0) ∧ (build c l).1.frames.length ≤ 40 := by
  rcases Hy c l with h | ⟨n, nl, _, M, h, _⟩
  · rw [h]; exact ⟨Yg, Va, by decide⟩
  · exact ⟨h.cx, ⟨Ob h, Qb h, Oa h, Tf h⟩, h.fr⟩
theorem Np : ∀ {d : List Done} {M M' : List Int} {i : Int}, Ds M d M' → Es M i d = (M', -1)
  | [], M, M', i, h => by rw [show M' = M from h]; rfl
  | d :: r, M, M', i, ⟨h1, h2, h3, h4, h5⟩ => by
    have e : Ca M d.op = (M.set d.op.line.toNat (A0 (M.getD d.op.line.toNat 0) d.op).1, (A0 (M.getD d.op.line.toNat 0) d.op).2, 0) := by
      unfold Ca; rw [if_neg (by omega), if_neg (by omega)]
    have e2 : (A0 (M.getD d.op.line.toNat 0) d.op).2 = d.value := by
      rw [h4]; split
      · rename_i k; unfold A0; rw [if_neg (by omega), if_neg (by omega), if_neg (by omega)]
      · rfl
    rw [Kc (by rw [e]; simp only; rw [e2]; simp), e]
    exact Np h5
end Go.Proofs.Ytofgpimoekhfaaa

/- This file proves what frame.Sum and its twin in shref1 compute. No conditions. -/
set_option linter.unusedVariables false
set_option linter.unusedSimpArgs false
set_option maxHeartbeats 1000000
set_option maxRecDepth 8000
namespace Go.Proofs.Ytofgpimoekhfaaa
open Go
theorem Lb {L : List Chunk} {R : List Fact} {w : World} {v0 : Value} {b : List UInt8} (hs : St L R w) (h0 : sl v0 b ∈ R) : Calls Try.prog 103 [v0].toArray w (Cg (fun _ : Unit => vi (Hd b)) (fun _ => L) (fun _ => R)) := by
  have hlen := Bv h0 hs
  refine Ah Try.func103 rfl Try.ntmps103 rfl hs ?_
  clear hs
  repeat refine Bf ?_
  refine Aa ?_
  refine Bj rfl ?_
  refine J.nil ?_
  refine As ?_
  repeat refine Bf ?_
  refine Aa ?_
  refine Bj rfl ?_
  refine J.nil ?_
  refine As ?_
  repeat refine Bf ?_
  refine Aa ?_
  refine Bi rfl ?_
  refine Wi Try.underlying23 rfl (by first | exact Dn (by first | exact .hd | exact .tl .hd | exact .tl (.tl .hd) | exact .tl (.tl (.tl .hd)) | exact .tl (.tl (.tl (.tl .hd))) | exact .tl (.tl (.tl (.tl (.tl .hd)))) | exact .tl (.tl (.tl (.tl (.tl (.tl .hd))))) | exact .tl (.tl (.tl (.tl (.tl (.tl (.tl .hd)))))) | exact .tl (.tl (.tl (.tl (.tl (.tl (.tl (.tl .hd)))))))) | exact Ei (by first | assumption | exact .head _ | (refine .tail _ ?_; first | assumption | exact .head _ | (refine .tail _ ?_; first | assumption | exact .head _ | (refine .tail _ ?_; first | assumption | exact .head _ | (refine .tail _ ?_; first | assumption | exact .head _ | (refine .tail _ ?_; first | assumption | exact .head _ | (refine .tail _ ?_; first | assumption | exact .head _ | (refine .tail _ ?_; first | assumption | exact .head _ | (refine .tail _ ?_; first | assumption | exact .head _ | (refine .tail _ ?_; first | assumption | exact .head _))))))))))) ?_
  refine Bi rfl ?_
  refine J.nil ?_
  refine As ?_
  repeat refine Bf ?_
  refine C2 ?_
  refine Bg (γ := Nat) (fun k => k ≤ b.length) (fun _ => L) (fun _ => R) (fun k => [(0, v0), (6, v0), (7, vi (b.length : Int)), (8, vi (k : Int)), (3, vi ((Iw b k).toNat : Int))]) (fun k => b.length - k) 0 (by omega) ⟨rfl, rfl, rfl, rfl, rfl, trivial⟩ (fun w hs => hs) ?_
  intro k hk
  repeat refine Bf ?_
  refine Aa ?_
  refine Dl rfl rfl Jq ?_
  refine J.nil ?_
  refine As ?_
  repeat refine Bf ?_
  refine Bh rfl (fun ht9 => ?_) (fun ht9 => ?_)
  · -- t9 True
    try simp only [decide_eq_true_eq, decide_eq_false_iff_not, beq_iff_eq, bne_iff_ne, beq_eq_false_iff_ne, bne_eq_false_iff_eq, Int.not_lt, Int.not_le, Bool.not_eq_true, ne_eq, Bool.not_eq_eq_eq_not, Bool.not_true, Bool.not_false] at ht9
    refine Em ?_
    refine As ?_
    repeat refine Bf ?_
    refine C2 ?_
    repeat refine Bf ?_
    refine Aa ?_
    first | refine Gw By rfl rfl (by first | exact Dn (by first | exact .hd | exact .tl .hd | exact .tl (.tl .hd) | exact .tl (.tl (.tl .hd)) | exact .tl (.tl (.tl (.tl .hd))) | exact .tl (.tl (.tl (.tl (.tl .hd)))) | exact .tl (.tl (.tl (.tl (.tl (.tl .hd))))) | exact .tl (.tl (.tl (.tl (.tl (.tl (.tl .hd)))))) | exact .tl (.tl (.tl (.tl (.tl (.tl (.tl (.tl .hd)))))))) | exact Ei (by first | assumption | exact .head _ | (refine .tail _ ?_; first | assumption | exact .head _ | (refine .tail _ ?_; first | assumption | exact .head _ | (refine .tail _ ?_; first | assumption | exact .head _ | (refine .tail _ ?_; first | assumption | exact .head _ | (refine .tail _ ?_; first | assumption | exact .head _ | (refine .tail _ ?_; first | assumption | exact .head _ | (refine .tail _ ?_; first | assumption | exact .head _ | (refine .tail _ ?_; first | assumption | exact .head _ | (refine .tail _ ?_; first | assumption | exact .head _))))))))))) (by first | assumption | omega | (simp only [List.length_nil, List.length_cons, List.length_append, List.length_take, List.length_drop, List.length_set, List.length_replicate]; omega)) ?_ | refine F7 By rfl rfl (by first | exact Dn (by first | exact .hd | exact .tl .hd | exact .tl (.tl .hd) | exact .tl (.tl (.tl .hd)) | exact .tl (.tl (.tl (.tl .hd))) | exact .tl (.tl (.tl (.tl (.tl .hd)))) | exact .tl (.tl (.tl (.tl (.tl (.tl .hd))))) | exact .tl (.tl (.tl (.tl (.tl (.tl (.tl .hd)))))) | exact .tl (.tl (.tl (.tl (.tl (.tl (.tl (.tl .hd)))))))) | exact Ei (by first | assumption | exact .head _ | (refine .tail _ ?_; first | assumption | exact .head _ | (refine .tail _ ?_; first | assumption | exact .head _ | (refine .tail _ ?_; first | assumption | exact .head _ | (refine .tail _ ?_; first | assumption | exact .head _ | (refine .tail _ ?_; first | assumption | exact .head _ | (refine .tail _ ?_; first | assumption | exact .head _ | (refine .tail _ ?_; first | assumption | exact .head _ | (refine .tail _ ?_; first | assumption | exact .head _ | (refine .tail _ ?_; first | assumption | exact .head _))))))))))) (by first | assumption | omega | (simp only [List.length_nil, List.length_cons, List.length_append, List.length_take, List.length_drop, List.length_set, List.length_replicate]; omega)) (by first | assumption | omega | (simp only [List.length_nil, List.length_cons, List.length_append, List.length_take, List.length_drop, List.length_set, List.length_replicate]; omega)) ?_
    first | refine F6 Try.isAgg5 rfl (A9 (by first | exact .hd | exact .tl .hd | exact .tl (.tl .hd) | exact .tl (.tl (.tl .hd)) | exact .tl (.tl (.tl (.tl .hd))) | exact .tl (.tl (.tl (.tl (.tl .hd)))) | exact .tl (.tl (.tl (.tl (.tl (.tl .hd))))) | exact .tl (.tl (.tl (.tl (.tl (.tl (.tl .hd)))))) | exact .tl (.tl (.tl (.tl (.tl (.tl (.tl (.tl .hd)))))))) (by exact rfl)) ?_ | refine F6 Try.isAgg5 rfl (at_byterow (by first | exact .hd | exact .tl .hd | exact .tl (.tl .hd) | exact .tl (.tl (.tl .hd)) | exact .tl (.tl (.tl (.tl .hd))) | exact .tl (.tl (.tl (.tl (.tl .hd)))) | exact .tl (.tl (.tl (.tl (.tl (.tl .hd))))) | exact .tl (.tl (.tl (.tl (.tl (.tl (.tl .hd)))))) | exact .tl (.tl (.tl (.tl (.tl (.tl (.tl (.tl .hd)))))))) (by first | assumption | omega | (simp only [List.length_nil, List.length_cons, List.length_append, List.length_take, List.length_drop, List.length_set, List.length_replicate]; omega))) ?_ | refine F6 Try.isAgg5 rfl (Mt (by first | assumption | exact .head _ | (refine .tail _ ?_; first | assumption | exact .head _ | (refine .tail _ ?_; first | assumption | exact .head _ | (refine .tail _ ?_; first | assumption | exact .head _ | (refine .tail _ ?_; first | assumption | exact .head _ | (refine .tail _ ?_; first | assumption | exact .head _ | (refine .tail _ ?_; first | assumption | exact .head _ | (refine .tail _ ?_; first | assumption | exact .head _ | (refine .tail _ ?_; first | assumption | exact .head _ | (refine .tail _ ?_; first | assumption | exact .head _)))))))))) (by first | assumption | omega | (simp only [List.length_nil, List.length_cons, List.length_append, List.length_take, List.length_drop, List.length_set, List.length_replicate]; omega))) ?_
    refine Bj rfl ?_
    refine J.nil ?_
    refine As ?_
    repeat refine Bf ?_
    refine Aa ?_
    refine Bi rfl ?_
    refine Bi rfl ?_
    refine r_p (Aq Try.underlying5 Try.underlying3 rfl (Au _)) rfl ?_
    refine L6 rfl rfl (Ti (s := 8) (by omega) (by have := (b.getD k 0).toNat_lt; omega)) ?_
    refine Dl rfl rfl (Qe (lt63 _) (by have := (b.getD k 0).toNat_lt; omega)) ?_
    refine Bj rfl ?_
    refine J.nil ?_
    refine As ?_
    repeat refine Bf ?_
    refine Aa ?_
    refine Bi rfl ?_
    refine J.nil ?_
    refine As ?_
    refine C2 ?_
    refine Bg (γ := Nat) (fun j => j ≤ 8) (fun _ => L) (fun _ => R) (fun j => [(0, v0), (6, v0), (7, vi (b.length : Int)), (8, vi (k : Int)), (17, vi (j : Int)), (3, vi ((Ge j (Iw b k ^^^ (C7 (b.getD k 0) <<< 8))).toNat : Int))]) (fun j => 8 - j) 0 (by omega) ⟨rfl, rfl, rfl, rfl, rfl, congrArg (fun z : Nat => some (vi (z : Int))) (crc_in _ _), trivial⟩ (fun w hs => hs) ?_
    intro j hj
    generalize hx : Ge j (Iw b k ^^^ (C7 (b.getD k 0) <<< 8)) = x
    have hcb : Ge (j + 1) (Iw b k ^^^ (C7 (b.getD k 0) <<< 8)) = Gj x := by rw [← hx]; rfl
    repeat refine Bf ?_
    refine Aa ?_
    refine Dl rfl rfl Jq ?_
    refine J.nil ?_
    refine As ?_
    repeat refine Bf ?_
    refine Bh rfl (fun ht18 => ?_) (fun ht18 => ?_)
    · -- t18 True
      try simp only [decide_eq_true_eq, decide_eq_false_iff_not, beq_iff_eq, bne_iff_ne, beq_eq_false_iff_ne, bne_eq_false_iff_eq, Int.not_lt, Int.not_le, Bool.not_eq_true, ne_eq, Bool.not_eq_eq_eq_not, Bool.not_true, Bool.not_false] at ht18
      refine Em ?_
      refine As ?_
      repeat refine Bf ?_
      refine C2 ?_
      repeat refine Bf ?_
      refine Aa ?_
      refine Bi rfl ?_
      refine Dl rfl rfl (Qg (b := 32768) (lt63 _) (by omega)) ?_
      refine Dl rfl rfl Tj ?_
      refine J.nil ?_
      refine As ?_
      repeat refine Bf ?_
      refine Bh rfl (fun ht21 => ?_) (fun ht21 => ?_)
      · -- t21 True
        try simp only [decide_eq_true_eq, decide_eq_false_iff_not, beq_iff_eq, bne_iff_ne, beq_eq_false_iff_ne, bne_eq_false_iff_eq, Int.not_lt, Int.not_le, Bool.not_eq_true, ne_eq, Bool.not_eq_eq_eq_not, Bool.not_true, Bool.not_false] at ht21
        replace ht21 : x.toNat &&& 32768 ≠ 0 := by intro h; apply ht21; rw [h]; rfl
        refine Aa ?_
        refine Bi rfl ?_
        refine L6 rfl rfl (Ti (s := 1) (by omega) (by have := x.isLt; omega)) ?_
        refine Dl rfl rfl (Qe (b := 4129) (by have := x.isLt; omega) (by omega)) ?_
        refine Bj rfl ?_
        refine J.nil ?_
        refine As ?_
        refine Aa ?_
        refine Bi rfl ?_
        refine Dl rfl rfl (Qg (b := 65535) (Pn (by have := x.isLt; omega) (by omega)) (by omega)) ?_
        refine Bj rfl ?_
        refine J.nil ?_
        refine Dk ?_
        refine As ?_
        refine Aa ?_
        refine Dl rfl rfl (Jr (by omega) (by omega)) ?_
        refine Bi rfl ?_
        refine J.nil ?_
        refine A1 (j + 1) (by omega) (by omega) ⟨rfl, rfl, rfl, rfl, rfl, ?_, trivial⟩ (fun w hs => hs)
        rw [hcb]; exact congrArg (fun z : Nat => some (vi (z : Int))) (crc_hi x ht21)
      · -- t21 False
        try simp only [decide_eq_true_eq, decide_eq_false_iff_not, beq_iff_eq, bne_iff_ne, beq_eq_false_iff_ne, bne_eq_false_iff_eq, Int.not_lt, Int.not_le, Bool.not_eq_true, ne_eq, Bool.not_eq_eq_eq_not, Bool.not_true, Bool.not_false] at ht21
        replace ht21 : x.toNat &&& 32768 = 0 := by omega
        refine Aa ?_
        refine Bi rfl ?_
        refine L6 rfl rfl (Ti (s := 1) (by omega) (by have := x.isLt; omega)) ?_
        refine Bj rfl ?_
        refine J.nil ?_
        refine As ?_
        refine Aa ?_
        refine Bi rfl ?_
        refine Dl rfl rfl (Qg (b := 65535) (by have := x.isLt; omega) (by omega)) ?_
        refine Bj rfl ?_
        refine J.nil ?_
        refine Dk ?_
        refine As ?_
        refine Aa ?_
        refine Dl rfl rfl (Jr (by omega) (by omega)) ?_
        refine Bi rfl ?_
        refine J.nil ?_
        refine A1 (j + 1) (by omega) (by omega) ⟨rfl, rfl, rfl, rfl, rfl, ?_, trivial⟩ (fun w hs => hs)
        rw [hcb]; exact congrArg (fun z : Nat => some (vi (z : Int))) (crc_lo x ht21)
    · -- t18 False
      try simp only [decide_eq_true_eq, decide_eq_false_iff_not, beq_iff_eq, bne_iff_ne, beq_eq_false_iff_ne, bne_eq_false_iff_eq, Int.not_lt, Int.not_le, Bool.not_eq_true, ne_eq, Bool.not_eq_eq_eq_not, Bool.not_true, Bool.not_false] at ht18
      refine Fq ?_
      repeat (first | refine Cy ?_ | refine Dq rfl ?_)
      refine Cz ?_
      refine Dk ?_
      refine As ?_
      refine Aa ?_
      refine Dl rfl rfl (Jr (by omega) (by omega)) ?_
      refine Bi rfl ?_
      refine J.nil ?_
      refine A1 (k + 1) (by omega) (by omega) ⟨rfl, rfl, rfl, rfl, ?_, trivial⟩ (fun w hs => hs)
      have h8 : j = 8 := by omega
      subst h8
      rw [Li (by omega), ← hx]; rfl
  · -- t9 False
    try simp only [decide_eq_true_eq, decide_eq_false_iff_not, beq_iff_eq, bne_iff_ne, beq_eq_false_iff_ne, bne_eq_false_iff_eq, Int.not_lt, Int.not_le, Bool.not_eq_true, ne_eq, Bool.not_eq_eq_eq_not, Bool.not_true, Bool.not_false] at ht9
    refine Fq ?_
    repeat (first | refine Cy ?_ | refine Dq rfl ?_)
    refine Cz ?_
    refine As ?_
    repeat refine Bf ?_
    refine Aa ?_
    refine Bi rfl ?_
    refine Bj rfl ?_
    refine J.nil ?_
    refine As ?_
    refine Ki ?_
    repeat (first | refine El ?_ | refine D6 ?_)
    have hkl : k = b.length := by omega
    subst hkl
    rw [Vq]
    refine Fp (.inr rfl) (fun B w _ => res1 rfl rfl B w) (fun w hs => ⟨(), ?_, hs.sub (by repeat (first | exact .refl | exact .nil | refine .cons (by first | exact .hd | exact .tl .hd | exact .tl (.tl .hd) | exact .tl (.tl (.tl .hd)) | exact .tl (.tl (.tl (.tl .hd))) | exact .tl (.tl (.tl (.tl (.tl .hd)))) | exact .tl (.tl (.tl (.tl (.tl (.tl .hd))))) | exact .tl (.tl (.tl (.tl (.tl (.tl (.tl .hd)))))) | exact .tl (.tl (.tl (.tl (.tl (.tl (.tl (.tl .hd)))))))) ?_ | refine .drop ?_)) (by repeat (first | exact FSub.refl | exact FSub.nil | refine FSub.cons (by first | assumption | (repeat (first | assumption | exact List.Mem.head _ | refine .tail _ ?_))) ?_ | refine FSub.drop ?_))⟩)
    rfl
theorem Gs {L : List Chunk} {R : List Fact} {w : World} {v0 : Value} {b : List UInt8} (hs : St L R w) (h0 : sl v0 b ∈ R) : Calls Try.prog 91 [v0].toArray w (Cg (fun _ : Unit => vi (Hd b)) (fun _ => L) (fun _ => R)) := by
  have hlen := Bv h0 hs
  refine Ah Try.func91 rfl Try.ntmps91 rfl hs ?_
  clear hs
  repeat refine Bf ?_
  refine Aa ?_
  refine Bj rfl ?_
  refine J.nil ?_
  refine As ?_
  repeat refine Bf ?_
  refine Aa ?_
  refine Bj rfl ?_
  refine J.nil ?_
  refine As ?_
  repeat refine Bf ?_
  refine Aa ?_
  refine Bi rfl ?_
  refine Wi Try.underlying23 rfl (by first | exact Dn (by first | exact .hd | exact .tl .hd | exact .tl (.tl .hd) | exact .tl (.tl (.tl .hd)) | exact .tl (.tl (.tl (.tl .hd))) | exact .tl (.tl (.tl (.tl (.tl .hd)))) | exact .tl (.tl (.tl (.tl (.tl (.tl .hd))))) | exact .tl (.tl (.tl (.tl (.tl (.tl (.tl .hd)))))) | exact .tl (.tl (.tl (.tl (.tl (.tl (.tl (.tl .hd)))))))) | exact Ei (by first | assumption | exact .head _ | (refine .tail _ ?_; first | assumption | exact .head _ | (refine .tail _ ?_; first | assumption | exact .head _ | (refine .tail _ ?_; first | assumption | exact .head _ | (refine .tail _ ?_; first | assumption | exact .head _ | (refine .tail _ ?_; first | assumption | exact .head _ | (refine .tail _ ?_; first | assumption | exact .head _ | (refine .tail _ ?_; first | assumption | exact .head _ | (refine .tail _ ?_; first | assumption | exact .head _ | (refine .tail _ ?_; first | assumption | exact .head _))))))))))) ?_
  refine Bi rfl ?_
  refine J.nil ?_
  refine As ?_
  repeat refine Bf ?_
  refine C2 ?_
  refine Bg (γ := Nat) (fun k => k ≤ b.length) (fun _ => L) (fun _ => R) (fun k => [(0, v0), (9, v0), (10, vi (b.length : Int)), (11, vi (k : Int)), (3, vi ((Iw b k).toNat : Int))]) (fun k => b.length - k) 0 (by omega) ⟨rfl, rfl, rfl, rfl, rfl, trivial⟩ (fun w hs => hs) ?_
  intro k hk
  repeat refine Bf ?_
  refine Aa ?_
  refine Dl rfl rfl Jq ?_
  refine J.nil ?_
  refine As ?_
  repeat refine Bf ?_
  refine Bh rfl (fun ht12 => ?_) (fun ht12 => ?_)
  · -- t12 True
    try simp only [decide_eq_true_eq, decide_eq_false_iff_not, beq_iff_eq, bne_iff_ne, beq_eq_false_iff_ne, bne_eq_false_iff_eq, Int.not_lt, Int.not_le, Bool.not_eq_true, ne_eq, Bool.not_eq_eq_eq_not, Bool.not_true, Bool.not_false] at ht12
    refine Em ?_
    refine As ?_
    repeat refine Bf ?_
    refine C2 ?_
    repeat refine Bf ?_
    refine Aa ?_
    first | refine Gw By rfl rfl (by first | exact Dn (by first | exact .hd | exact .tl .hd | exact .tl (.tl .hd) | exact .tl (.tl (.tl .hd)) | exact .tl (.tl (.tl (.tl .hd))) | exact .tl (.tl (.tl (.tl (.tl .hd)))) | exact .tl (.tl (.tl (.tl (.tl (.tl .hd))))) | exact .tl (.tl (.tl (.tl (.tl (.tl (.tl .hd)))))) | exact .tl (.tl (.tl (.tl (.tl (.tl (.tl (.tl .hd)))))))) | exact Ei (by first | assumption | exact .head _ | (refine .tail _ ?_; first | assumption | exact .head _ | (refine .tail _ ?_; first | assumption | exact .head _ | (refine .tail _ ?_; first | assumption | exact .head _ | (refine .tail _ ?_; first | assumption | exact .head _ | (refine .tail _ ?_; first | assumption | exact .head _ | (refine .tail _ ?_; first | assumption | exact .head _ | (refine .tail _ ?_; first | assumption | exact .head _ | (refine .tail _ ?_; first | assumption | exact .head _ | (refine .tail _ ?_; first | assumption | exact .head _))))))))))) (by first | assumption | omega | (simp only [List.length_nil, List.length_cons, List.length_append, List.length_take, List.length_drop, List.length_set, List.length_replicate]; omega)) ?_ | refine F7 By rfl rfl (by first | exact Dn (by first | exact .hd | exact .tl .hd | exact .tl (.tl .hd) | exact .tl (.tl (.tl .hd)) | exact .tl (.tl (.tl (.tl .hd))) | exact .tl (.tl (.tl (.tl (.tl .hd)))) | exact .tl (.tl (.tl (.tl (.tl (.tl .hd))))) | exact .tl (.tl (.tl (.tl (.tl (.tl (.tl .hd)))))) | exact .tl (.tl (.tl (.tl (.tl (.tl (.tl (.tl .hd)))))))) | exact Ei (by first | assumption | exact .head _ | (refine .tail _ ?_; first | assumption | exact .head _ | (refine .tail _ ?_; first | assumption | exact .head _ | (refine .tail _ ?_; first | assumption | exact .head _ | (refine .tail _ ?_; first | assumption | exact .head _ | (refine .tail _ ?_; first | assumption | exact .head _ | (refine .tail _ ?_; first | assumption | exact .head _ | (refine .tail _ ?_; first | assumption | exact .head _ | (refine .tail _ ?_; first | assumption | exact .head _ | (refine .tail _ ?_; first | assumption | exact .head _))))))))))) (by first | assumption | omega | (simp only [List.length_nil, List.length_cons, List.length_append, List.length_take, List.length_drop, List.length_set, List.length_replicate]; omega)) (by first | assumption | omega | (simp only [List.length_nil, List.length_cons, List.length_append, List.length_take, List.length_drop, List.length_set, List.length_replicate]; omega)) ?_
    first | refine F6 Try.isAgg5 rfl (A9 (by first | exact .hd | exact .tl .hd | exact .tl (.tl .hd) | exact .tl (.tl (.tl .hd)) | exact .tl (.tl (.tl (.tl .hd))) | exact .tl (.tl (.tl (.tl (.tl .hd)))) | exact .tl (.tl (.tl (.tl (.tl (.tl .hd))))) | exact .tl (.tl (.tl (.tl (.tl (.tl (.tl .hd)))))) | exact .tl (.tl (.tl (.tl (.tl (.tl (.tl (.tl .hd)))))))) (by exact rfl)) ?_ | refine F6 Try.isAgg5 rfl (at_byterow (by first | exact .hd | exact .tl .hd | exact .tl (.tl .hd) | exact .tl (.tl (.tl .hd)) | exact .tl (.tl (.tl (.tl .hd))) | exact .tl (.tl (.tl (.tl (.tl .hd)))) | exact .tl (.tl (.tl (.tl (.tl (.tl .hd))))) | exact .tl (.tl (.tl (.tl (.tl (.tl (.tl .hd)))))) | exact .tl (.tl (.tl (.tl (.tl (.tl (.tl (.tl .hd)))))))) (by first | assumption | omega | (simp only [List.length_nil, List.length_cons, List.length_append, List.length_take, List.length_drop, List.length_set, List.length_replicate]; omega))) ?_ | refine F6 Try.isAgg5 rfl (Mt (by first | assumption | exact .head _ | (refine .tail _ ?_; first | assumption | exact .head _ | (refine .tail _ ?_; first | assumption | exact .head _ | (refine .tail _ ?_; first | assumption | exact .head _ | (refine .tail _ ?_; first | assumption | exact .head _ | (refine .tail _ ?_; first | assumption | exact .head _ | (refine .tail _ ?_; first | assumption | exact .head _ | (refine .tail _ ?_; first | assumption | exact .head _ | (refine .tail _ ?_; first | assumption | exact .head _ | (refine .tail _ ?_; first | assumption | exact .head _)))))))))) (by first | assumption | omega | (simp only [List.length_nil, List.length_cons, List.length_append, List.length_take, List.length_drop, List.length_set, List.length_replicate]; omega))) ?_
    refine Bj rfl ?_
    refine J.nil ?_
    refine As ?_
    repeat refine Bf ?_
    refine Aa ?_
    refine Bj rfl ?_
    refine J.nil ?_
    refine As ?_
    refine C2 ?_
    refine Bg (γ := Nat) (fun j => j ≤ 8) (fun _ => L) (fun _ => R) (fun j => [(0, v0), (9, v0), (10, vi (b.length : Int)), (11, vi (k : Int)), (5, vb (b.getD k 0)), (6, vi (7 - (j : Int))), (3, vi ((Gu (b.getD k 0) j (Iw b k)).toNat : Int))]) (fun j => 8 - j) 0 (by omega) ⟨rfl, rfl, rfl, rfl, rfl, rfl, rfl, trivial⟩ (fun w hs => hs) ?_
    intro j hj
    generalize hx : Gu (b.getD k 0) j (Iw b k) = x
    repeat refine Bf ?_
    refine Aa ?_
    refine Bi rfl ?_
    refine Dl rfl rfl Oj ?_
    refine J.nil ?_
    refine As ?_
    repeat refine Bf ?_
    refine Bh rfl (fun ht16 => ?_) (fun ht16 => ?_)
    · -- t16 True
      try simp only [decide_eq_true_eq, decide_eq_false_iff_not, beq_iff_eq, bne_iff_ne, beq_eq_false_iff_ne, bne_eq_false_iff_eq, Int.not_lt, Int.not_le, Bool.not_eq_true, ne_eq, Bool.not_eq_eq_eq_not, Bool.not_true, Bool.not_false] at ht16
      refine Em ?_
      refine As ?_
      repeat refine Bf ?_
      refine C2 ?_
      repeat refine Bf ?_
      obtain ⟨q, hq⟩ : ∃ q : Nat, 7 - (j : Int) = (q : Int) := ⟨7 - j, by omega⟩
      have hq2 : q = 7 - j := by omega
      rw [hq]
      refine Aa ?_
      refine Bi rfl ?_
      refine r_p (Aq Try.underlying5 Try.underlying3 rfl (Au _)) rfl ?_
      refine Bi rfl ?_
      refine L6 rfl rfl (b_shr (by omega) (by omega)) ?_
      rw [Int.toNat_natCast, show ((b.getD k 0).toNat : Int) / 2 ^ q = ((((b.getD k 0).toNat : Int) / 2 ^ q).toNat : Int) from (Int.toNat_of_nonneg (Int.ediv_nonneg (by omega) (Int.pow_nonneg (by omega)))).symm]
      refine Dl rfl rfl (Qg (b := 1) (by have := (b.getD k 0).toNat_lt; have h1 := Int.ediv_le_self (a := ((b.getD k 0).toNat : Int)) (2 ^ q) (by omega); omega) (by omega)) ?_
      rw [Ty _ _ (by omega)]
      refine Bj rfl ?_
      refine J.nil ?_
      refine As ?_
      repeat refine Bf ?_
      refine Aa ?_
      refine Bi rfl ?_
      refine Dl rfl rfl (b_quo (by decide) (by rw [Oy]; split <;> omega) (by rw [Oy]; split <;> omega)) ?_
      rw [Oy]
      refine Bj rfl ?_
      refine J.nil ?_
      refine As ?_
      repeat refine Bf ?_
      refine Aa ?_
      refine Bi rfl ?_
      refine Dl rfl rfl b_mulw ?_
      refine Dl rfl rfl (Vl (by decide) (by rw [Oz]; omega) (by rw [Oz]; have := (x <<< 1).isLt; omega)) ?_
      rw [Oz]
      refine Bj rfl ?_
      refine J.nil ?_
      refine As ?_
      repeat refine Bf ?_
      refine Aa ?_
      refine Bi rfl ?_
      refine Bi rfl ?_
      refine Dl rfl rfl Tj ?_
      refine J.nil ?_
      refine As ?_
      refine Bh rfl (fun ht31 => ?_) (fun ht31 => ?_)
      · -- t31 True
        try simp only [decide_eq_true_eq, decide_eq_false_iff_not, beq_iff_eq, bne_iff_ne, beq_eq_false_iff_ne, bne_eq_false_iff_eq, Int.not_lt, Int.not_le, Bool.not_eq_true, ne_eq, Bool.not_eq_eq_eq_not, Bool.not_true, Bool.not_false] at ht31
        replace ht31 : (x.msb ^^ (b.getD k 0).toBitVec.getLsbD (7 - j)) = true := by rw [← hq2]; generalize b.getD k 0 = c at ht31 ⊢; cases h1 : x.msb <;> cases h2 : c.toBitVec.getLsbD q <;> simp [h1, h2] at ht31 ⊢
        refine Aa ?_
        refine Bi rfl ?_
        refine Dl rfl rfl (Qe (b := 4129) (lt63 _) (by omega)) ?_
        refine Bj rfl ?_
        refine J.nil ?_
        refine Dk ?_
        refine As ?_
        refine Aa ?_
        refine Bi rfl ?_
        refine Dl rfl rfl (Th (by omega) (by omega)) ?_
        refine Bj rfl ?_
        refine J.nil ?_
        refine A1 (j + 1) (by omega) (by omega) ⟨rfl, rfl, rfl, rfl, rfl, ?_, ?_, trivial⟩ (fun w hs => hs)
        · exact congrArg (fun z => some (vi z)) (show (q : Int) - 1 = 7 - ((j + 1 : Nat) : Int) by omega)
        rw [Jb, hx]
        exact congrArg (fun z : Nat => some (vi (z : Int))) (by rw [Wa]; unfold Lm; rw [if_pos ht31])
      · -- t31 False
        try simp only [decide_eq_true_eq, decide_eq_false_iff_not, beq_iff_eq, bne_iff_ne, beq_eq_false_iff_ne, bne_eq_false_iff_eq, Int.not_lt, Int.not_le, Bool.not_eq_true, ne_eq, Bool.not_eq_eq_eq_not, Bool.not_true, Bool.not_false] at ht31
        replace ht31 : (x.msb ^^ (b.getD k 0).toBitVec.getLsbD (7 - j)) = false := by rw [← hq2]; generalize b.getD k 0 = c at ht31 ⊢; cases h1 : x.msb <;> cases h2 : c.toBitVec.getLsbD q <;> simp [h1, h2] at ht31 ⊢
        refine Em ?_
        refine Dk ?_
        refine As ?_
        refine Aa ?_
        refine Bi rfl ?_
        refine Dl rfl rfl (Th (by omega) (by omega)) ?_
        refine Bj rfl ?_
        refine J.nil ?_
        refine A1 (j + 1) (by omega) (by omega) ⟨rfl, rfl, rfl, rfl, rfl, ?_, ?_, trivial⟩ (fun w hs => hs)
        · exact congrArg (fun z => some (vi z)) (show (q : Int) - 1 = 7 - ((j + 1 : Nat) : Int) by omega)
        rw [Jb, hx]
        exact congrArg (fun z : Nat => some (vi (z : Int))) (by unfold Lm; rw [if_neg (by rw [ht31]; decide), BitVec.xor_zero])
    · -- t16 False
      try simp only [decide_eq_true_eq, decide_eq_false_iff_not, beq_iff_eq, bne_iff_ne, beq_eq_false_iff_ne, bne_eq_false_iff_eq, Int.not_lt, Int.not_le, Bool.not_eq_true, ne_eq, Bool.not_eq_eq_eq_not, Bool.not_true, Bool.not_false] at ht16
      refine Fq ?_
      repeat (first | refine Cy ?_ | refine Dq rfl ?_)
      refine Cz ?_
      refine Dk ?_
      refine As ?_
      refine Aa ?_
      refine Dl rfl rfl (Jr (by omega) (by omega)) ?_
      refine Bi rfl ?_
      refine J.nil ?_
      refine A1 (k + 1) (by omega) (by omega) ⟨rfl, rfl, rfl, rfl, ?_, trivial⟩ (fun w hs => hs)
      have h8 : j = 8 := by omega
      subst h8
      rw [Li (by omega), Ph, hx]; rfl
  · -- t12 False
    try simp only [decide_eq_true_eq, decide_eq_false_iff_not, beq_iff_eq, bne_iff_ne, beq_eq_false_iff_ne, bne_eq_false_iff_eq, Int.not_lt, Int.not_le, Bool.not_eq_true, ne_eq, Bool.not_eq_eq_eq_not, Bool.not_true, Bool.not_false] at ht12
    refine Fq ?_
    repeat (first | refine Cy ?_ | refine Dq rfl ?_)
    refine Cz ?_
    refine As ?_
    repeat refine Bf ?_
    refine Aa ?_
    refine Bi rfl ?_
    refine Bj rfl ?_
    refine J.nil ?_
    refine As ?_
    refine Ki ?_
    repeat (first | refine El ?_ | refine D6 ?_)
    have hkl : k = b.length := by omega
    subst hkl
    rw [Vq]
    refine Fp (.inr rfl) (fun B w _ => res1 rfl rfl B w) (fun w hs => ⟨(), ?_, hs.sub (by repeat (first | exact .refl | exact .nil | refine .cons (by first | exact .hd | exact .tl .hd | exact .tl (.tl .hd) | exact .tl (.tl (.tl .hd)) | exact .tl (.tl (.tl (.tl .hd))) | exact .tl (.tl (.tl (.tl (.tl .hd)))) | exact .tl (.tl (.tl (.tl (.tl (.tl .hd))))) | exact .tl (.tl (.tl (.tl (.tl (.tl (.tl .hd)))))) | exact .tl (.tl (.tl (.tl (.tl (.tl (.tl (.tl .hd)))))))) ?_ | refine .drop ?_)) (by repeat (first | exact FSub.refl | exact FSub.nil | refine FSub.cons (by first | assumption | (repeat (first | assumption | exact List.Mem.head _ | refine .tail _ ?_))) ?_ | refine FSub.drop ?_))⟩)
    rfl
end Go.Proofs.Ytofgpimoekhfaaa

/- This file proves what the document's answer tells of frames: what is wrong with a message, its bytes, and the message of bytes. No conditions. -/
set_option linter.unusedVariables false
set_option linter.unusedSimpArgs false
set_option maxHeartbeats 1000000
set_option maxRecDepth 8000
namespace Go.Proofs.Ytofgpimoekhfaaa
open Go
theorem Tz {L : List Chunk} {R : List Fact} {w : World} {c : Config} {m : Msg} (hs : St (L) R w) (hcw : c.wf) (hm : m.wf) : Calls Try.prog 92 [.agg c.cells.toArray, .agg m.cells.toArray].toArray w (Cg (fun _ : Unit => vi (A5 c m)) (fun _ => L) (fun _ => R)) := by
  refine Ah Try.func92 rfl Try.ntmps92 rfl hs ?_
  clear hs
  refine Gm ?_
  refine bx ?_; intro b2
  refine bx ?_; intro b3
  refine Ga1 ?_
  rcases (show (m.kind < 1) ∨ (¬ m.kind < 1 ∧ 11 < m.kind) ∨ (1 ≤ m.kind ∧ m.kind ≤ 11) from by omega) with hc | hc | hc
  ·
   refine Aa ?_
   refine rn2 ?_
   refine ob (Ae rfl rfl (Co (by omega))) ?_
   refine Gd5 ?_
   refine Ga1 ?_
   have er : A5 c m = 1 := by unfold A5; rw [if_pos (by omega)]
   rw [er]
   exact Bm ()
  ·
   refine Aa ?_
   refine rn2 ?_
   refine ob (Ae rfl rfl (Al (by omega))) ?_
   refine rn3 ?_
   refine gy ?_
   refine ob (Ae rfl rfl (C5 (by omega))) ?_
   refine Gd1 ?_
   refine Ga1 ?_
   have er : A5 c m = 1 := by unfold A5; rw [if_pos (by omega)]
   rw [er]
   exact Bm ()
  ·
   refine Aa ?_
   refine rn2 ?_
   refine ob (Ae rfl rfl (Al (by omega))) ?_
   refine rn3 ?_
   refine gy ?_
   refine ob (Ae rfl rfl (Bu (by omega))) ?_
   refine Gd1 ?_
   refine rn4 ?_
   refine ob (H9 Try.underlying143 Try.sizeOf3 Try.zeroValue143 rfl rfl) ?_
   refine rn4 ?_
   refine ob (H9 Try.underlying143 Try.sizeOf3 Try.zeroValue143 rfl rfl) ?_
   refine rn2 ?_
   refine ob (H9 Try.underlying143 Try.sizeOf3 Try.zeroValue143 rfl rfl) ?_
   refine rn2 ?_
   refine ob (H9 Try.underlying143 Try.sizeOf3 Try.zeroValue143 rfl rfl) ?_
   refine rn2 ?_
   refine ob (H9 Try.underlying143 Try.sizeOf3 Try.zeroValue143 rfl rfl) ?_
   refine li (α := Int × Int) [(m.src, c.cores), (m.dst, c.cores), (m.serial, 65535), (m.turn, 65535), (m.value, 255)] eo_144 rfl (fun j hj => ⟨⟨_, rfl, rfl, hm.2.1, hcw.1⟩, ⟨_, rfl, rfl, hm.2.2.1, hcw.1⟩, ⟨_, rfl, rfl, hm.2.2.2.2.1, by unfold An; simp only; omega⟩, ⟨_, rfl, rfl, hm.2.2.2.2.2.1, by unfold An; simp only; omega⟩, ⟨_, rfl, rfl, hm.2.2.2.2.2.2, by unfold An; simp only; omega⟩, trivial⟩) ?_; intro v34
   have hxl : ([(m.src, c.cores), (m.dst, c.cores), (m.serial, 65535), (m.turn, 65535), (m.value, 255)] : List (Int × Int)).length = 5 := rfl
   generalize hxs : ([(m.src, c.cores), (m.dst, c.cores), (m.serial, 65535), (m.turn, 65535), (m.value, 255)] : List (Int × Int)) = xs at hxl ⊢
   refine Ga2 ?_
   refine Bg (γ := Nat) (fun k => k ≤ 5 ∧ (0 < k → ¬ (m.line < 0 ∨ c.lines ≤ m.line)) ∧ ∀ i, i < k → ¬ ((xs.getD i (0, 0)).1 < 0 ∨ (xs.getD i (0, 0)).2 < (xs.getD i (0, 0)).1)) (fun _ => blk b3 42 m.cells :: blk b2 39 c.cells :: L) (fun _ => sl v34 xs :: R) (fun k => [(2, bp b2 0), (3, bp b3 0), (34, v34), (35, vi (5 : Int)), (36, vi (k : Int))]) (fun k => 5 - k) 0 ⟨by omega, fun h => by omega, fun i hi => by omega⟩ ⟨rfl, rfl, rfl, congrArg (fun z : Nat => some (vi (z : Int))) hxl, rfl, trivial⟩ (fun w hs => Aj hs) ?_
   rintro k ⟨hk, hkl, hkx⟩
   refine Gl ?_
   refine kp [2, 3, 4, 34, 35, 36, 37] ?_
   refine Aa ?_
   refine Ga1 ?_
   refine cdx (p := ?p1) (hd := ?d1) ?e1 ?_ ?_; case e1 => exact rfl
   ·
    intro ht37
    refine Gl ?_
    refine JC.open0 (xs := xs) (v := v34) k mm (by omega) (fun hpw => ?_)
    refine Aa ?_
    refine rn2 ?_
    refine al_ (cs := [vi 0, vi 0]) Try.zeroValue143 ?_; intro b6
    refine s_B (cs := [vi (xs.getD k (0, 0)).1, vi (xs.getD k (0, 0)).2]) Try.sizeOf143 ?_
    refine Gl ?_
    refine kp [2, 3, 4, 6, 34, 35, 36, 37, 38, 39, 40, 41, 42, 43, 44, 45, 46, 47, 48, 49, 50, 51, 52, 53, 54, 55, 56, 57, 58, 59, 60, 61] ?_
    refine Da 61 (.bool (decide (((xs.getD k (0, 0)).1 < 0) ∨ ((xs.getD k (0, 0)).2 < (xs.getD k (0, 0)).1) ∨ (m.line < 0) ∨ (c.lines ≤ m.line)))) ?_ ?_
    ·
     rcases (show (((xs.getD k (0, 0)).1 < 0)) ∨ (¬ ((xs.getD k (0, 0)).1 < 0) ∧ ((xs.getD k (0, 0)).2 < (xs.getD k (0, 0)).1)) ∨ (¬ ((xs.getD k (0, 0)).1 < 0) ∧ ¬ ((xs.getD k (0, 0)).2 < (xs.getD k (0, 0)).1) ∧ (m.line < 0)) ∨ (¬ ((xs.getD k (0, 0)).1 < 0) ∧ ¬ ((xs.getD k (0, 0)).2 < (xs.getD k (0, 0)).1) ∧ ¬ (m.line < 0) ∧ (c.lines ≤ m.line)) ∨ (¬ ((xs.getD k (0, 0)).1 < 0) ∧ ¬ ((xs.getD k (0, 0)).2 < (xs.getD k (0, 0)).1) ∧ ¬ (m.line < 0) ∧ ¬ (c.lines ≤ m.line)) from by omega) with hm | hm | hm | hm | hm
     ·
      refine Aa ?_
      refine ob (Bw (i := 0) Try.underlying143 Try.sizeOf3 rfl rfl rfl) ?_
      refine rn1 ?_
      refine ob (Ae rfl rfl (Co (by omega))) ?_
      refine Ga19 ?_
      refine Ap ?_ (fun w hs => hs)
      refine ⟨by first | exact congrArg (fun b => some (Value.bool b)) (decide_eq_true (by omega)).symm | exact congrArg (fun b => some (Value.bool b)) (by simp; omega), alT⟩
     ·
      refine Aa ?_
      refine ob (Bw (i := 0) Try.underlying143 Try.sizeOf3 rfl rfl rfl) ?_
      refine rn1 ?_
      refine ob (Ae rfl rfl (Al (by omega))) ?_
      refine rn1 ?_
      refine gy ?_
      refine ob (Bw (i := 0) Try.underlying143 Try.sizeOf3 rfl rfl rfl) ?_
      refine rn1 ?_
      refine gy ?_
      refine ob (Bw (i := 1) Try.underlying143 Try.sizeOf3 rfl rfl rfl) ?_
      refine rn1 ?_
      refine gy ?_
      refine ob (Ae rfl rfl (C5 (by omega))) ?_
      refine Ga13 ?_
      refine Ap ?_ (fun w hs => hs)
      refine ⟨by first | exact congrArg (fun b => some (Value.bool b)) (decide_eq_true (by omega)).symm | exact congrArg (fun b => some (Value.bool b)) (by simp; omega), alT⟩
     ·
      refine kp [2, 3, 4, 6, 34, 35, 36, 37, 38, 39, 40, 41, 42, 43, 44, 45, 46, 47, 48, 49, 50, 51, 52, 53, 54, 55, 56, 57, 58, 59, 60, 61] ?_
      refine Aa ?_
      refine ob (Bw (i := 0) Try.underlying143 Try.sizeOf3 rfl rfl rfl) ?_
      refine rn1 ?_
      refine ob (Ae rfl rfl (Al (by omega))) ?_
      refine rn1 ?_
      refine gy ?_
      refine ob (Bw (i := 0) Try.underlying143 Try.sizeOf3 rfl rfl rfl) ?_
      refine rn1 ?_
      refine gy ?_
      refine ob (Bw (i := 1) Try.underlying143 Try.sizeOf3 rfl rfl rfl) ?_
      refine rn1 ?_
      refine gy ?_
      refine ob (Ae rfl rfl (Bu (by omega))) ?_
      refine rn4 ?_
      refine gy ?_
      refine ob (Ae rfl rfl (Co (by omega))) ?_
      refine Ga8 ?_
      refine Ap ?_ (fun w hs => hs)
      refine ⟨by first | exact congrArg (fun b => some (Value.bool b)) (decide_eq_true (by omega)).symm | exact congrArg (fun b => some (Value.bool b)) (by simp; omega), alT⟩
     ·
      refine Aa ?_
      refine ob (Bw (i := 0) Try.underlying143 Try.sizeOf3 rfl rfl rfl) ?_
      refine rn1 ?_
      refine ob (Ae rfl rfl (Al (by omega))) ?_
      refine rn1 ?_
      refine gy ?_
      refine ob (Bw (i := 0) Try.underlying143 Try.sizeOf3 rfl rfl rfl) ?_
      refine rn1 ?_
      refine gy ?_
      refine ob (Bw (i := 1) Try.underlying143 Try.sizeOf3 rfl rfl rfl) ?_
      refine rn1 ?_
      refine gy ?_
      refine ob (Ae rfl rfl (Bu (by omega))) ?_
      refine rn4 ?_
      refine gy ?_
      refine ob (Ae rfl rfl (Al (by omega))) ?_
      refine rn6 ?_
      refine gy ?_
      refine ob (Ae rfl rfl (D7 (by omega))) ?_
      refine Ga1 ?_
      refine Ap ?_ (fun w hs => hs)
      refine ⟨by first | exact congrArg (fun b => some (Value.bool b)) (decide_eq_true (by omega)).symm | exact congrArg (fun b => some (Value.bool b)) (by simp; omega), alT⟩
     ·
      refine kp [2, 3, 4, 6, 34, 35, 36, 37, 38, 39, 40, 41, 42, 43, 44, 45, 46, 47, 48, 49, 50, 51, 52, 53, 54, 55, 56, 57, 58, 59, 60, 61] ?_
      refine Aa ?_
      refine ob (Bw (i := 0) Try.underlying143 Try.sizeOf3 rfl rfl rfl) ?_
      refine rn1 ?_
      refine ob (Ae rfl rfl (Al (by omega))) ?_
      refine rn1 ?_
      refine gy ?_
      refine ob (Bw (i := 0) Try.underlying143 Try.sizeOf3 rfl rfl rfl) ?_
      refine rn1 ?_
      refine gy ?_
      refine ob (Bw (i := 1) Try.underlying143 Try.sizeOf3 rfl rfl rfl) ?_
      refine rn1 ?_
      refine gy ?_
      refine ob (Ae rfl rfl (Bu (by omega))) ?_
      refine rn4 ?_
      refine gy ?_
      refine ob (Ae rfl rfl (Al (by omega))) ?_
      refine rn6 ?_
      refine gy ?_
      refine ob (Ae rfl rfl (Bc (by omega))) ?_
      refine Ga1 ?_
      refine Ap ?_ (fun w hs => hs)
      refine ⟨by first | exact congrArg (fun b => some (Value.bool b)) (decide_eq_false (by omega)).symm | exact congrArg (fun b => some (Value.bool b)) (by simp; omega), alT⟩
    ·
     refine As ?_
     first | (refine cdx (p := ?p2) (hd := ?d2) ?e2 ?_ ?_; case e2 => exact rfl) | (refine Bh (b := ?b2) ?e2 ?_ ?_; case e2 => exact rfl)
     ·
      intro ht61
      refine Gm ?_
      refine Ga1 ?_
      have hr : m.src < 0 ∨ c.cores < m.src ∨ m.dst < 0 ∨ c.cores < m.dst ∨ m.line < 0 ∨ c.lines ≤ m.line ∨ m.serial < 0 ∨ 65535 < m.serial ∨ m.turn < 0 ∨ 65535 < m.turn ∨ m.value < 0 ∨ 255 < m.value := by
       subst hxs
       have hk5 : k = 0 ∨ k = 1 ∨ k = 2 ∨ k = 3 ∨ k = 4 := by omega
       rcases hk5 with rfl | rfl | rfl | rfl | rfl <;> simp only [List.getD_cons_zero, List.getD_cons_succ] at ht61 <;> omega
      have er : A5 c m = 3 := by unfold A5; rw [if_neg (by omega), if_pos hr]
      rw [er]
      exact Bm ()
     ·
      intro ht61
      refine Gm ?_
      refine Ga2 ?_
      refine A1 (k + 1) ⟨by omega, fun _ => by omega, fun i hi => ?_⟩ (by omega) alT (fun w hs => Aj hs)
      by_cases hik : i = k
      ·
       subst hik; omega
      ·
       exact hkx i (by omega)
   ·
    intro ht37
    refine Gl ?_
    refine kp [2, 3, 4, 6, 34, 35, 36, 37, 38, 39, 40, 41, 42, 43, 44, 45, 46, 47, 48, 49, 50, 51, 52, 53, 54, 55, 56, 57, 58, 59, 60, 61, 62, 63, 64, 65, 66, 67, 68, 69, 70, 71, 72, 73, 74, 75, 76, 77, 78, 79, 80, 81, 82, 83, 84, 85, 86, 87, 88] ?_
    refine Da 88 (.bool (decide (m.src = c.cores ↔ m.dst = c.cores))) ?_ ?_
    ·
     rcases (show (m.src = c.cores ∧ m.dst = c.cores) ∨ (m.src = c.cores ∧ m.dst ≠ c.cores) ∨ (m.src ≠ c.cores ∧ m.dst = c.cores) ∨ (m.src ≠ c.cores ∧ m.dst ≠ c.cores) from by omega) with hm | hm | hm | hm
     ·
      refine Aa ?_
      refine rn4 ?_
      refine ob (Ae rfl rfl (Av (by omega))) ?_
      refine rn5 ?_
      refine gy ?_
      refine ob (Ae rfl rfl (Av (by omega))) ?_
      refine Ga15 ?_
      refine Ap ?_ (fun w hs => hs)
      refine ⟨by first | exact congrArg (fun b => some (Value.bool b)) (decide_eq_true (by omega)).symm | exact congrArg (fun b => some (Value.bool b)) (by simp; omega), alT⟩
     ·
      refine Aa ?_
      refine rn4 ?_
      refine ob (Ae rfl rfl (Av (by omega))) ?_
      refine rn5 ?_
      refine gy ?_
      refine ob (Ae rfl rfl (Ak (by omega))) ?_
      refine rn6 ?_
      refine gy ?_
      refine ob (Ae rfl rfl (Cb (by omega))) ?_
      refine Ga8 ?_
      refine Ap ?_ (fun w hs => hs)
      refine ⟨by first | exact congrArg (fun b => some (Value.bool b)) (decide_eq_false (by omega)).symm | exact congrArg (fun b => some (Value.bool b)) (by simp; omega), alT⟩
     ·
      refine kp [2, 3, 4, 6, 34, 35, 36, 37, 38, 39, 40, 41, 42, 43, 44, 45, 46, 47, 48, 49, 50, 51, 52, 53, 54, 55, 56, 57, 58, 59, 60, 61, 62, 63, 64, 65, 66, 67, 68, 69, 70, 71, 72, 73, 74, 75, 76, 77, 78, 79, 80, 81, 82, 83, 84, 85, 86, 87, 88] ?_
      refine Aa ?_
      refine rn4 ?_
      refine ob (Ae rfl rfl (Ak (by omega))) ?_
      refine rn12 ?_
      refine gy ?_
      refine ob (Ae rfl rfl (Cn (by omega))) ?_
      refine rn5 ?_
      refine gy ?_
      refine ob (Ae rfl rfl (Cb (by omega))) ?_
      refine Ga2 ?_
      refine Ap ?_ (fun w hs => hs)
      refine ⟨by first | exact congrArg (fun b => some (Value.bool b)) (decide_eq_false (by omega)).symm | exact congrArg (fun b => some (Value.bool b)) (by simp; omega), alT⟩
     ·
      refine Aa ?_
      refine rn4 ?_
      refine ob (Ae rfl rfl (Ak (by omega))) ?_
      refine rn12 ?_
      refine gy ?_
      refine ob (Ae rfl rfl (Cn (by omega))) ?_
      refine rn5 ?_
      refine gy ?_
      refine ob (Ae rfl rfl (Cn (by omega))) ?_
      refine Ga2 ?_
      refine Ap ?_ (fun w hs => hs)
      refine ⟨by first | exact congrArg (fun b => some (Value.bool b)) (decide_eq_true (by omega)).symm | exact congrArg (fun b => some (Value.bool b)) (by simp; omega), alT⟩
    ·
     refine As ?_
     refine Gl ?_
     first | (refine cdx (p := ?p3) (hd := ?d3) ?e3 ?_ ?_; case e3 => exact rfl) | (refine Bh (b := ?b3) ?e3 ?_ ?_; case e3 => exact rfl)
     ·
      intro ht88
      refine Gl ?_
      refine kp [4] ?_
      refine Aa ?_
      refine Ga1 ?_
      have hk5 : k = 5 := by omega
      subst hk5
      have hl := hkl (by omega)
      subst hxs
      have q0 := hkx 0 (by omega)
      have q1 := hkx 1 (by omega)
      have q2 := hkx 2 (by omega)
      have q3 := hkx 3 (by omega)
      have q4 := hkx 4 (by omega)
      simp only [List.getD_cons_zero, List.getD_cons_succ] at q0 q1 q2 q3 q4
      have hr : ¬ (m.src < 0 ∨ c.cores < m.src ∨ m.dst < 0 ∨ c.cores < m.dst ∨ m.line < 0 ∨ c.lines ≤ m.line ∨ m.serial < 0 ∨ 65535 < m.serial ∨ m.turn < 0 ∨ 65535 < m.turn ∨ m.value < 0 ∨ 255 < m.value) := by omega
      have er : A5 c m = 6 := by unfold A5; rw [if_neg (by omega), if_neg hr, if_pos ht88]
      rw [er]
      exact Bm ()
     ·
      intro ht88
      refine Gl ?_
      refine kp [4] ?_
      refine Aa ?_
      refine Ga1 ?_
      have hk5 : k = 5 := by omega
      subst hk5
      have hl := hkl (by omega)
      subst hxs
      have q0 := hkx 0 (by omega)
      have q1 := hkx 1 (by omega)
      have q2 := hkx 2 (by omega)
      have q3 := hkx 3 (by omega)
      have q4 := hkx 4 (by omega)
      simp only [List.getD_cons_zero, List.getD_cons_succ] at q0 q1 q2 q3 q4
      have hr : ¬ (m.src < 0 ∨ c.cores < m.src ∨ m.dst < 0 ∨ c.cores < m.dst ∨ m.line < 0 ∨ c.lines ≤ m.line ∨ m.serial < 0 ∨ 65535 < m.serial ∨ m.turn < 0 ∨ 65535 < m.turn ∨ m.value < 0 ∨ 255 < m.value) := by omega
      have er : A5 c m = 0 := by unfold A5; rw [if_neg (by omega), if_neg hr, if_neg ht88]
      rw [er]
      exact Bm ()
theorem Ue {L : List Chunk} {R : List Fact} {w : World} {m : Msg} (hs : St (L) R w) (hin : MsgIn m) : Calls Try.prog 105 [.agg m.cells.toArray].toArray w (Cg (fun v : Value => v) (fun v => L) (fun v => sl v (Bx m) :: R)) := by
  obtain ⟨k0, k1, k2, k3, k4, k5, k6⟩ := hin
  refine Ah Try.func105 rfl Try.ntmps105 rfl hs ?_
  clear hs
  refine Gm ?_
  refine bx ?_; intro b1
  refine Gb1 ?_
  refine Gb1 ?_
  refine Ga2 ?_
  refine Bh (b := ?b1) ?e1 ?_ ?_; case e1 => exact rfl
  ·
   intro ht9
   refine Aa ?_
   refine Gb1 ?_
   refine Gb1 ?_
   refine rn12 ?_
   refine ob (Ae rfl rfl (Ji (b := 256) (by omega) (by omega) (by omega))) ?_
   refine rn2 ?_
   refine ob (Ae rfl rfl (Jh (b := 256) (by omega) (by omega) (by omega))) ?_
   refine rn2 ?_
   refine ob (Ae rfl rfl (Ji (b := 256) (by omega) (by omega) (by omega))) ?_
   refine rn2 ?_
   refine ob (Ae rfl rfl (Jh (b := 256) (by omega) (by omega) (by omega))) ?_
   refine rn3 ?_
   refine li (α := Int) ([m.kind, 16 * m.src + m.dst, m.line, m.serial / 256, m.serial % 256, m.turn / 256, m.turn % 256, m.value, 1, 0] : List Int) D3 rfl (fun j hj => ⟨⟨_, rfl, rfl, by unfold An; omega⟩, ⟨⟨_, rfl, rfl, by unfold An; omega⟩, ⟨⟨_, rfl, rfl, by unfold An; omega⟩, ⟨⟨_, rfl, rfl, by unfold An; omega⟩, ⟨⟨_, rfl, rfl, by unfold An; omega⟩, ⟨⟨_, rfl, rfl, by unfold An; omega⟩, ⟨⟨_, rfl, rfl, by unfold An; omega⟩, ⟨⟨_, rfl, rfl, by unfold An; omega⟩, ⟨⟨_, rfl, rfl, by unfold An; omega⟩, ⟨⟨_, rfl, rfl, by unfold An; omega⟩, trivial⟩⟩⟩⟩⟩⟩⟩⟩⟩⟩) ?_; intro v35
   have hxl : ([m.kind, 16 * m.src + m.dst, m.line, m.serial / 256, m.serial % 256, m.turn / 256, m.turn % 256, m.value, 1, 0] : List Int).length = 10 := rfl
   have hxb : ([m.kind, 16 * m.src + m.dst, m.line, m.serial / 256, m.serial % 256, m.turn / 256, m.turn % 256, m.value, 1, 0] : List Int).map u8 = Cr m := by
    have e : ∀ x y : Int, x % 256 = y % 256 → u8 x = u8 y := fun x y h => by unfold u8; rw [h]
    unfold Cr
    simp only [List.map_cons, List.map_nil]
    rw [ht9, e (m.serial % 256) m.serial (by omega), e (m.turn % 256) m.turn (by omega)]; rfl
   generalize hxs : ([m.kind, 16 * m.src + m.dst, m.line, m.serial / 256, m.serial % 256, m.turn / 256, m.turn % 256, m.value, 1, 0] : List Int) = xs at hxl hxb ⊢
   refine Ga2 ?_
   refine JC.rowNil 5 UInt8 ?_
   refine Bg (γ := Nat × Value) (fun g => g.1 ≤ 10) (fun g => row 5 g.2 ((xs.map u8).take g.1) :: L) (fun _ => sl v35 xs :: R) (fun g => [(4, g.2), (35, v35), (36, vi (10 : Int)), (37, vi (g.1 : Int))]) (fun g => 10 - g.1) (0, .slice none 0 0) (by omega) ⟨rfl, rfl, congrArg (fun z : Nat => some (vi (z : Int))) hxl, rfl, trivial⟩ (fun w hs => Aj hs) ?_
   rintro ⟨k, v4⟩ hk
   try simp only at hk ⊢
   refine Gl ?_
   refine kp [2, 4, 35, 36, 37, 38] ?_
   refine Aa ?_
   refine Ga1 ?_
   refine cdx (p := ?p2) (hd := ?d2) ?e2 ?_ ?_; case e2 => exact rfl
   ·
    intro ht38
    refine Gl ?_
    refine JC.open0 (xs := xs) (v := v35) k mm (by omega) (fun hpw => ?_)
    refine Aa ?_
    refine Gb3 ?_
    refine rn2 ?_
    refine ob (Aq Try.underlying3 Try.underlying5 rfl (F3 _)) ?_
    refine li (α := UInt8) ([u8 (xs.getD k 0)] : List UInt8) Hk rfl (fun j hj => ⟨⟨_, rfl, rfl⟩, trivial⟩) ?_; intro v44
    refine ap Hk (hb := fun w hs => by have : maxN = 16777216 := rfl; first | (rw [Jx]; simp only [List.length_cons, List.length_nil]; omega) | (rw [List.length_take, List.length_map]; simp only [List.length_cons, List.length_nil]; omega)) (k := ?_); intro v45
    refine Gb1 ?_
    refine Ga2 ?_
    refine A1 (k + 1, v45) (by show k + 1 ≤ 10; omega) (by show 10 - (k + 1) < 10 - k; omega) alT (fun w hs => ?_)
    try simp only
    have e9 : (xs.map u8).take (k + 1) = (xs.map u8).take k ++ [u8 (xs.getD k 0)] := by rw [Hu 0 (by rw [List.length_map]; omega)]; simp [List.getD_eq_getElem?_getD, List.getElem?_map, List.getElem?_eq_getElem (show k < xs.length by omega)]
    rw [e9]; exact Aj hs
   ·
    intro ht38
    refine Gl ?_
    have hk10 : k = 10 := by omega
    subst hk10
    rw [List.take_of_length_le (by rw [List.length_map]; omega), hxb]
    have hsm := Pq (Cr m)
    refine Aa ?_
    refine rn1 ?_
    refine Ar (γ := Unit) (val := fun _ => vi (Hd (Cr m))) Try.call91 rfl (fun w hs => lend .hd (fun L R w hs hf _ => Gs hs hf) hs) ?_; intro _
    refine Gb1 ?_
    refine rn2 ?_
    refine ob (Ae rfl rfl (Ji (b := 256) (by omega) (by omega) (by omega))) ?_
    refine ob (Aq Try.underlying3 Try.underlying5 rfl (F3 _)) ?_
    refine rn1 ?_
    refine ob (Ae rfl rfl (Jh (b := 256) (by omega) (by omega) (by omega))) ?_
    refine ob (Aq Try.underlying3 Try.underlying5 rfl (F3 _)) ?_
    have hsr : u8 (Hd (Cr m) % 256) = u8 (Hd (Cr m)) := by unfold u8; rw [Int.emod_emod_of_dvd _ (by decide)]
    refine li (α := UInt8) ([u8 (Hd (Cr m) / 256), u8 (Hd (Cr m) % 256)] : List UInt8) Hk rfl (fun j hj => ⟨⟨_, rfl, rfl⟩, ⟨⟨_, rfl, rfl⟩, trivial⟩⟩) ?_; intro v56
    rw [hsr]
    refine ap Hk (hb := fun w hs => by have : maxN = 16777216 := rfl; first | (rw [Jx]; simp only [List.length_cons, List.length_nil]; omega) | (rw [List.length_take, List.length_map]; simp only [List.length_cons, List.length_nil]; omega)) (k := ?_); intro v57
    refine Ga1 ?_
    exact Bm v57 (hs := fun w hs => Aj (St.shut (hs.pick pkk)))
  ·
   intro ht9
   refine Gm ?_
   refine Gb1 ?_
   refine rn12 ?_
   refine ob (Ae rfl rfl (Ji (b := 256) (by omega) (by omega) (by omega))) ?_
   refine rn2 ?_
   refine ob (Ae rfl rfl (Jh (b := 256) (by omega) (by omega) (by omega))) ?_
   refine rn2 ?_
   refine ob (Ae rfl rfl (Ji (b := 256) (by omega) (by omega) (by omega))) ?_
   refine rn2 ?_
   refine ob (Ae rfl rfl (Jh (b := 256) (by omega) (by omega) (by omega))) ?_
   refine rn3 ?_
   refine li (α := Int) ([m.kind, 16 * m.src + m.dst, m.line, m.serial / 256, m.serial % 256, m.turn / 256, m.turn % 256, m.value, 0, 0] : List Int) D3 rfl (fun j hj => ⟨⟨_, rfl, rfl, by unfold An; omega⟩, ⟨⟨_, rfl, rfl, by unfold An; omega⟩, ⟨⟨_, rfl, rfl, by unfold An; omega⟩, ⟨⟨_, rfl, rfl, by unfold An; omega⟩, ⟨⟨_, rfl, rfl, by unfold An; omega⟩, ⟨⟨_, rfl, rfl, by unfold An; omega⟩, ⟨⟨_, rfl, rfl, by unfold An; omega⟩, ⟨⟨_, rfl, rfl, by unfold An; omega⟩, ⟨⟨_, rfl, rfl, by unfold An; omega⟩, ⟨⟨_, rfl, rfl, by unfold An; omega⟩, trivial⟩⟩⟩⟩⟩⟩⟩⟩⟩⟩) ?_; intro v35
   have hxl : ([m.kind, 16 * m.src + m.dst, m.line, m.serial / 256, m.serial % 256, m.turn / 256, m.turn % 256, m.value, 0, 0] : List Int).length = 10 := rfl
   have hxb : ([m.kind, 16 * m.src + m.dst, m.line, m.serial / 256, m.serial % 256, m.turn / 256, m.turn % 256, m.value, 0, 0] : List Int).map u8 = Cr m := by
    have e : ∀ x y : Int, x % 256 = y % 256 → u8 x = u8 y := fun x y h => by unfold u8; rw [h]
    unfold Cr
    simp only [List.map_cons, List.map_nil]
    rw [ht9, e (m.serial % 256) m.serial (by omega), e (m.turn % 256) m.turn (by omega)]; rfl
   generalize hxs : ([m.kind, 16 * m.src + m.dst, m.line, m.serial / 256, m.serial % 256, m.turn / 256, m.turn % 256, m.value, 0, 0] : List Int) = xs at hxl hxb ⊢
   refine Ga2 ?_
   refine JC.rowNil 5 UInt8 ?_
   refine Bg (γ := Nat × Value) (fun g => g.1 ≤ 10) (fun g => row 5 g.2 ((xs.map u8).take g.1) :: L) (fun _ => sl v35 xs :: R) (fun g => [(4, g.2), (35, v35), (36, vi (10 : Int)), (37, vi (g.1 : Int))]) (fun g => 10 - g.1) (0, .slice none 0 0) (by omega) ⟨rfl, rfl, congrArg (fun z : Nat => some (vi (z : Int))) hxl, rfl, trivial⟩ (fun w hs => Aj hs) ?_
   rintro ⟨k, v4⟩ hk
   try simp only at hk ⊢
   refine Gl ?_
   refine kp [2, 4, 35, 36, 37, 38] ?_
   refine Aa ?_
   refine Ga1 ?_
   refine cdx (p := ?p3) (hd := ?d3) ?e3 ?_ ?_; case e3 => exact rfl
   ·
    intro ht38
    refine Gl ?_
    refine JC.open0 (xs := xs) (v := v35) k mm (by omega) (fun hpw => ?_)
    refine Aa ?_
    refine Gb3 ?_
    refine rn2 ?_
    refine ob (Aq Try.underlying3 Try.underlying5 rfl (F3 _)) ?_
    refine li (α := UInt8) ([u8 (xs.getD k 0)] : List UInt8) Hk rfl (fun j hj => ⟨⟨_, rfl, rfl⟩, trivial⟩) ?_; intro v44
    refine ap Hk (hb := fun w hs => by have : maxN = 16777216 := rfl; first | (rw [Jx]; simp only [List.length_cons, List.length_nil]; omega) | (rw [List.length_take, List.length_map]; simp only [List.length_cons, List.length_nil]; omega)) (k := ?_); intro v45
    refine Gb1 ?_
    refine Ga2 ?_
    refine A1 (k + 1, v45) (by show k + 1 ≤ 10; omega) (by show 10 - (k + 1) < 10 - k; omega) alT (fun w hs => ?_)
    try simp only
    have e9 : (xs.map u8).take (k + 1) = (xs.map u8).take k ++ [u8 (xs.getD k 0)] := by rw [Hu 0 (by rw [List.length_map]; omega)]; simp [List.getD_eq_getElem?_getD, List.getElem?_map, List.getElem?_eq_getElem (show k < xs.length by omega)]
    rw [e9]; exact Aj hs
   ·
    intro ht38
    refine Gl ?_
    have hk10 : k = 10 := by omega
    subst hk10
    rw [List.take_of_length_le (by rw [List.length_map]; omega), hxb]
    have hsm := Pq (Cr m)
    refine Aa ?_
    refine rn1 ?_
    refine Ar (γ := Unit) (val := fun _ => vi (Hd (Cr m))) Try.call91 rfl (fun w hs => lend .hd (fun L R w hs hf _ => Gs hs hf) hs) ?_; intro _
    refine Gb1 ?_
    refine rn2 ?_
    refine ob (Ae rfl rfl (Ji (b := 256) (by omega) (by omega) (by omega))) ?_
    refine ob (Aq Try.underlying3 Try.underlying5 rfl (F3 _)) ?_
    refine rn1 ?_
    refine ob (Ae rfl rfl (Jh (b := 256) (by omega) (by omega) (by omega))) ?_
    refine ob (Aq Try.underlying3 Try.underlying5 rfl (F3 _)) ?_
    have hsr : u8 (Hd (Cr m) % 256) = u8 (Hd (Cr m)) := by unfold u8; rw [Int.emod_emod_of_dvd _ (by decide)]
    refine li (α := UInt8) ([u8 (Hd (Cr m) / 256), u8 (Hd (Cr m) % 256)] : List UInt8) Hk rfl (fun j hj => ⟨⟨_, rfl, rfl⟩, ⟨⟨_, rfl, rfl⟩, trivial⟩⟩) ?_; intro v56
    rw [hsr]
    refine ap Hk (hb := fun w hs => by have : maxN = 16777216 := rfl; first | (rw [Jx]; simp only [List.length_cons, List.length_nil]; omega) | (rw [List.length_take, List.length_map]; simp only [List.length_cons, List.length_nil]; omega)) (k := ?_); intro v57
    refine Ga1 ?_
    exact Bm v57 (hs := fun w hs => Aj (St.shut (hs.pick pkk)))
theorem E4 {P : Program} {n : Nat} {Q : Exit → Act → World → Prop} {L : List Chunk} {R : List Fact} {al : List (Nat × Value)} {c : Code} {v : Value} {b : List UInt8} (i : Nat) (hm : sl v b ∈ R) (hi : i < b.length) (k : JC P n c Q L (cF v 1 i [vb (b.getD i 0)] :: R) al) : JC P n c Q L R al := JC.open0 (xs := b) i hm hi (fun _ => k)
theorem L3 {L : List Chunk} {R : List Fact} {w : World} {v1 : Value} {b : List UInt8} {c : Config} (hs : St (L) R w) (h1 : sl v1 b ∈ R) (hc : c.wf) : Calls Try.prog 57 [.agg c.cells.toArray, v1].toArray w (Cg (fun _ : Unit => .tuple #[.agg (Af c b).1.cells.toArray, vi (Af c b).2]) (fun _ => L) (fun _ => R)) := by
  have hlen := Bv h1 hs
  have B : ∀ i, (b.getD i 0).toNat < 256 := fun i => (b.getD i 0).toNat_lt
  refine Ah Try.func57 rfl Try.ntmps57 rfl hs ?_
  clear hs
  refine Gm ?_
  refine bx ?_; intro b2
  refine al_ (cs := zMsg.cells) Try.zeroValue42 ?_; intro b4
  refine Gb1 ?_
  refine Ga3 ?_
  refine cdx (p := ?p1) (hd := ?d1) ?e1 ?_ ?_; case e1 => exact rfl
  ·
   intro ht10
   refine Gm ?_
   refine ob (Gp (cs := zMsg.cells) F4) ?_
   refine s_B Try.sizeOf42 ?_
   refine Ga1 ?_
   have er : Af c b = (zMsg, 2) := by
    unfold Af
    rw [if_pos (by omega)]
   rw [er]
   exact Fv () Try.isAgg42 Try.sizeOf42
  ·
   intro ht10
   refine Gl ?_
   have B0 := B 0; have B1 := B 1; have B2 := B 2; have B3 := B 3; have B4 := B 4; have B5 := B 5; have B6 := B 6; have B7 := B 7; have B8 := B 8; have B9 := B 9; have B10 := B 10; have B11 := B 11
   refine E4 (v := v1) (b := b) 10 mm (by omega) ?_
   refine E4 (v := v1) (b := b) 11 mm (by omega) ?_
   refine Gi ?_
   refine dn1 ?_
   refine dj ?_
   refine P8 (α := UInt8) (xs := b) (lo := 0) (hi := 10) By (fun _ => rfl) mm (fun _ => rfl) (fun _ => rfl) (by omega) (by omega) (fun _ _ _ _ => rfl) ?_
   refine dj ?_
   refine Kv (γ := Unit) (val := fun _ => vi (Hd (b.take 10))) (F := fun _ => []) (C := fun _ => []) Try.call91 (fun _ => rfl) (fun _ _ _ _ => rfl) (fun ρ L R w hd hs => Gs hs (hd.dep (it := ⟨1, _, _, _, _⟩) (by repeat (first | exact List.Mem.head _ | refine List.Mem.tail _ ?_)) ⟨9, rfl⟩ (List.Mem.head _))) ?_
   refine dn1 ?_
   refine dj ?_
   first | refine dc (fun _ _ => D4 (i := 10) By) ?_ | refine dp (fun _ _ => D4 (i := 10) By) ?_
   refine dj ?_
   first | refine dc (fun _ _ => C6 Try.isAgg5) ?_ | refine dp (fun _ _ => C6 Try.isAgg5) ?_
   refine dj ?_
   first | refine dc (fun _ _ => Aq Try.underlying5 Try.underlying3 rfl (Au _)) ?_ | refine dp (fun _ _ => Aq Try.underlying5 Try.underlying3 rfl (Au _)) ?_
   refine dj ?_
   first | refine dc (fun _ _ => La) ?_ | refine dp (fun _ _ => La) ?_
   refine dn1 ?_
   refine dj ?_
   first | refine dc (fun _ _ => D4 (i := 11) By) ?_ | refine dp (fun _ _ => D4 (i := 11) By) ?_
   refine dj ?_
   first | refine dc (fun _ _ => C6 Try.isAgg5) ?_ | refine dp (fun _ _ => C6 Try.isAgg5) ?_
   refine dj ?_
   first | refine dc (fun _ _ => Aq Try.underlying5 Try.underlying3 rfl (Au _)) ?_ | refine dp (fun _ _ => Aq Try.underlying5 Try.underlying3 rfl (Au _)) ?_
   refine dj ?_
   first | refine dc (fun _ _ => D9) ?_ | refine dc (fun _ _ => Fb) ?_ | refine dp (fun _ _ => D9) ?_ | refine dp (fun _ _ => Fb) ?_
   refine dj ?_
   first | refine dc (fun _ _ => Fi Oh) ?_ | refine dp (fun _ _ => Fi Oh) ?_
   refine dnl ?_; intro ρ
   refine Gl ?_
   refine cdx (p := ?p2) (hd := ?d2) ?e2 ?_ ?_; case e2 => exact rfl
   ·
    intro ht25
    refine Gm ?_
    refine ob (Gp (cs := zMsg.cells) F4) ?_
    refine s_B Try.sizeOf42 ?_
    refine Ga1 ?_
    have er : Af c b = (zMsg, 7) := by
     unfold Af
     rw [if_neg (by omega), if_pos (by show Hd (b.take 10) ≠ _; unfold at8; omega)]
    rw [er]
    exact Fv () Try.isAgg42 Try.sizeOf42
   ·
    intro ht25
    refine Gl ?_
    refine E4 (v := v1) (b := b) 8 mm (by omega) ?_
    refine E4 (v := v1) (b := b) 9 mm (by omega) ?_
    refine Aa ?_
    refine rn1 ?_
    refine ob (D4 (i := 8) By) ?_
    refine rn3 ?_
    refine jgx (t := 31) (p := ?p3) (hd := ?d3) ?e3 ?_ ?_; case e3 => exact rfl
    ·
     intro ht31
     refine Gd5 ?_
     refine ob (Gp (cs := zMsg.cells) F4) ?_
     refine s_B Try.sizeOf42 ?_
     refine Ga1 ?_
     have er : Af c b = (zMsg, 2) := by
      unfold Af
      rw [if_neg (by omega), if_neg (by show ¬ Hd (b.take 10) ≠ _; unfold at8; omega), if_pos (by unfold at8; omega)]
     rw [er]
     exact Fv () Try.isAgg42 Try.sizeOf42
    ·
     intro ht31
     refine rn1 ?_
     refine gy ?_
     refine ob (D4 (i := 9) By) ?_
     refine Ga3 ?_
     refine cdx (p := ?p4) (hd := ?d4) ?e4 ?_ ?_; case e4 => exact rfl
     ·
      intro ht36
      refine Gm ?_
      refine ob (Gp (cs := zMsg.cells) F4) ?_
      refine s_B Try.sizeOf42 ?_
      refine Ga1 ?_
      have er : Af c b = (zMsg, 2) := by
       unfold Af
       rw [if_neg (by omega), if_neg (by show ¬ Hd (b.take 10) ≠ _; unfold at8; omega), if_pos (by unfold at8; omega)]
      rw [er]
      exact Fv () Try.isAgg42 Try.sizeOf42
     ·
      intro ht36
      refine Gl ?_
      refine E4 (v := v1) (b := b) 0 mm (by omega) ?_
      refine E4 (v := v1) (b := b) 1 mm (by omega) ?_
      refine E4 (v := v1) (b := b) 2 mm (by omega) ?_
      refine E4 (v := v1) (b := b) 3 mm (by omega) ?_
      refine E4 (v := v1) (b := b) 4 mm (by omega) ?_
      refine E4 (v := v1) (b := b) 5 mm (by omega) ?_
      refine E4 (v := v1) (b := b) 6 mm (by omega) ?_
      refine E4 (v := v1) (b := b) 7 mm (by omega) ?_
      refine cq_ (blk b4 42 zMsg.cells :: blk b2 39 c.cells :: L) ?_
      refine jd_ (fun ρ S => blk b4 42 zMsg.cells :: blk b2 39 c.cells :: ((bif S 47 then [blk (Gh.dec (γ := Nat) (ρ 47)) 42 (bif S 48 then (Fj b).cells else zMsg.cells)] else []) ++ (L))) ?_
      refine dn1 ?_
      first | refine epc (fun _ _ => D4 (i := 0) By) ?_ | refine epp (fun _ _ => D4 (i := 0) By) ?_
      first | refine epc (fun _ _ => C6 Try.isAgg5) ?_ | refine epp (fun _ _ => C6 Try.isAgg5) ?_
      first | refine epc (fun _ _ => Aq Try.underlying5 Try.underlying3 rfl (Au _)) ?_ | refine epp (fun _ _ => Aq Try.underlying5 Try.underlying3 rfl (Au _)) ?_
      refine dn1 ?_
      first | refine epc (fun _ _ => D4 (i := 1) By) ?_ | refine epp (fun _ _ => D4 (i := 1) By) ?_
      first | refine epc (fun _ _ => C6 Try.isAgg5) ?_ | refine epp (fun _ _ => C6 Try.isAgg5) ?_
      first | refine epc (fun _ _ => Aq Try.underlying5 Try.underlying3 rfl (Au _)) ?_ | refine epp (fun _ _ => Aq Try.underlying5 Try.underlying3 rfl (Au _)) ?_
      refine Yc (fun _ _ => Ae rfl rfl (Ji (b := 16) (by omega) (by omega) (by omega))) (fun _ _ _ _ _ => rfl) ?_
      refine dn1 ?_
      first | refine epc (fun _ _ => D4 (i := 1) By) ?_ | refine epp (fun _ _ => D4 (i := 1) By) ?_
      first | refine epc (fun _ _ => C6 Try.isAgg5) ?_ | refine epp (fun _ _ => C6 Try.isAgg5) ?_
      first | refine epc (fun _ _ => Aq Try.underlying5 Try.underlying3 rfl (Au _)) ?_ | refine epp (fun _ _ => Aq Try.underlying5 Try.underlying3 rfl (Au _)) ?_
      refine Yc (fun _ _ => Ae rfl rfl (Jh (b := 16) (by omega) (by omega) (by omega))) (fun _ _ _ _ _ => rfl) ?_
      refine dn1 ?_
      first | refine epc (fun _ _ => D4 (i := 2) By) ?_ | refine epp (fun _ _ => D4 (i := 2) By) ?_
      first | refine epc (fun _ _ => C6 Try.isAgg5) ?_ | refine epp (fun _ _ => C6 Try.isAgg5) ?_
      first | refine epc (fun _ _ => Aq Try.underlying5 Try.underlying3 rfl (Au _)) ?_ | refine epp (fun _ _ => Aq Try.underlying5 Try.underlying3 rfl (Au _)) ?_
      refine dn1 ?_
      first | refine epc (fun _ _ => D4 (i := 3) By) ?_ | refine epp (fun _ _ => D4 (i := 3) By) ?_
      first | refine epc (fun _ _ => C6 Try.isAgg5) ?_ | refine epp (fun _ _ => C6 Try.isAgg5) ?_
      first | refine epc (fun _ _ => Aq Try.underlying5 Try.underlying3 rfl (Au _)) ?_ | refine epp (fun _ _ => Aq Try.underlying5 Try.underlying3 rfl (Au _)) ?_
      first | refine epc (fun _ _ => La) ?_ | refine epp (fun _ _ => La) ?_
      refine dn1 ?_
      first | refine epc (fun _ _ => D4 (i := 4) By) ?_ | refine epp (fun _ _ => D4 (i := 4) By) ?_
      first | refine epc (fun _ _ => C6 Try.isAgg5) ?_ | refine epp (fun _ _ => C6 Try.isAgg5) ?_
      first | refine epc (fun _ _ => Aq Try.underlying5 Try.underlying3 rfl (Au _)) ?_ | refine epp (fun _ _ => Aq Try.underlying5 Try.underlying3 rfl (Au _)) ?_
      first | refine epc (fun _ _ => D9) ?_ | refine epc (fun _ _ => Fb) ?_ | refine epp (fun _ _ => D9) ?_ | refine epp (fun _ _ => Fb) ?_
      refine dn1 ?_
      first | refine epc (fun _ _ => D4 (i := 5) By) ?_ | refine epp (fun _ _ => D4 (i := 5) By) ?_
      first | refine epc (fun _ _ => C6 Try.isAgg5) ?_ | refine epp (fun _ _ => C6 Try.isAgg5) ?_
      first | refine epc (fun _ _ => Aq Try.underlying5 Try.underlying3 rfl (Au _)) ?_ | refine epp (fun _ _ => Aq Try.underlying5 Try.underlying3 rfl (Au _)) ?_
      first | refine epc (fun _ _ => La) ?_ | refine epp (fun _ _ => La) ?_
      refine dn1 ?_
      first | refine epc (fun _ _ => D4 (i := 6) By) ?_ | refine epp (fun _ _ => D4 (i := 6) By) ?_
      first | refine epc (fun _ _ => C6 Try.isAgg5) ?_ | refine epp (fun _ _ => C6 Try.isAgg5) ?_
      first | refine epc (fun _ _ => Aq Try.underlying5 Try.underlying3 rfl (Au _)) ?_ | refine epp (fun _ _ => Aq Try.underlying5 Try.underlying3 rfl (Au _)) ?_
      first | refine epc (fun _ _ => D9) ?_ | refine epc (fun _ _ => Fb) ?_ | refine epp (fun _ _ => D9) ?_ | refine epp (fun _ _ => Fb) ?_
      refine dn1 ?_
      first | refine epc (fun _ _ => D4 (i := 7) By) ?_ | refine epp (fun _ _ => D4 (i := 7) By) ?_
      first | refine epc (fun _ _ => C6 Try.isAgg5) ?_ | refine epp (fun _ _ => C6 Try.isAgg5) ?_
      first | refine epc (fun _ _ => Aq Try.underlying5 Try.underlying3 rfl (Au _)) ?_ | refine epp (fun _ _ => Aq Try.underlying5 Try.underlying3 rfl (Au _)) ?_
      refine dn1 ?_
      first | refine epc (fun _ _ => D4 (i := 8) By) ?_ | refine epp (fun _ _ => D4 (i := 8) By) ?_
      first | refine epc (fun _ _ => C6 Try.isAgg5) ?_ | refine epp (fun _ _ => C6 Try.isAgg5) ?_
      first | refine epc (fun _ _ => Fi Ok) ?_ | refine epp (fun _ _ => Fi Ok) ?_
      first | refine epc (fun _ _ => Gp F4) ?_ | refine epc (fun _ _ => Jm F4) ?_ | refine epp (fun _ _ => Gp F4) ?_ | refine epp (fun _ _ => Jm F4) ?_
      refine Kt (cs := zMsg.cells) Try.zeroValue42 rfl (fun ρ b S hS hA => ?_) ?_
      ·
       have ui : upS S 47 47 = true := rfl; have u48 : upS S 47 48 = S 48 := rfl; have h48 : S 48 = false := hA 48 ⟨0, rfl⟩; have rs : (Gh.dec (γ := Nat) (Rho.set ρ 47 (Gh.enc b) 47)) = b := rfl
       simp only [ui, hS, u48, h48, rs, cond_true, cond_false, List.nil_append]
       exact Ins.perm (by repeat (first | exact .hd | exact .hc | refine .tl ?_ | refine .ap ?_))
      refine es_ 42 0 [47] [] (fun ρ => (Gh.dec (γ := Nat) (ρ 47))) (fun ρ => zMsg.cells) (fun ρ => (Fj b).cells) Try.sizeOf42 ?_
      refine dnl ?_; intro ρ
      refine xq_ (blk b4 42 zMsg.cells :: blk b2 39 c.cells :: (blk (Gh.dec (γ := Nat) (ρ 47)) 42 (Fj b).cells :: L)) ?_
      generalize (Gh.dec (γ := Nat) (ρ 47)) = b6
      refine Gl ?_
      refine kp [2, 4, 5, 6, 7, 85, 86, 87] ?_
      refine Aa ?_
      refine rn2 ?_
      refine Ar Try.call92 rfl (fun w hs => Tz (c := c) (m := Fj b) hs hc (Pw b)) ?_; intro _
      refine Gb1 ?_
      refine Ga2 ?_
      refine cdx (p := ?p5) (hd := ?d5) ?e5 ?_ ?_; case e5 => exact rfl
      ·
       intro ht89
       refine Gm ?_
       refine ob (Gp (cs := zMsg.cells) F4) ?_
       refine rn1 ?_
       refine s_B Try.sizeOf42 ?_
       refine Ga1 ?_
       have er : Af c b = (zMsg, A5 c (Fj b)) := by
        unfold Af
        rw [if_neg (by omega), if_neg (by show ¬ Hd (b.take 10) ≠ _; unfold at8; omega), if_neg (by unfold at8; omega), if_pos (by omega)]
       rw [er]
       exact Fv () Try.isAgg42 Try.sizeOf42
      ·
       intro ht89
       refine Gm ?_
       refine rn1 ?_
       refine s_B Try.sizeOf42 ?_
       refine Ga1 ?_
       have er : Af c b = (Fj b, 0) := by
        unfold Af
        rw [if_neg (by omega), if_neg (by show ¬ Hd (b.take 10) ≠ _; unfold at8; omega), if_neg (by unfold at8; omega), if_neg (by omega)]
       rw [er]
       exact Fv () Try.isAgg42 Try.sizeOf42
end Go.Proofs.Ytofgpimoekhfaaa

/- This file proves what net.Own, Send, and copies of slices compute. No conditions. -/
set_option linter.unusedVariables false
set_option linter.unusedSimpArgs false
set_option maxHeartbeats 1000000
set_option maxRecDepth 8000
namespace Go.Proofs.Ytofgpimoekhfaaa
open Go
theorem Rn {L : List Chunk} {R : List Fact} {w : World} {v0 : Value} {xs : List UInt8} (hs : St (L) R w) (h0 : sl v0 xs ∈ R) : Calls Try.prog 61 [v0].toArray w (Cg (fun v : Value => v) (fun v => row 5 v xs :: L) (fun v => R)) := by
  refine Ah Try.func61 rfl Try.ntmps61 rfl hs ?_
  clear hs
  refine Gm ?_
  refine Gb1 ?_
  refine rn1 ?_
  refine ob (Wk Try.underlying23 (Ei h0)) ?_
  refine Gl ?_
  refine Bh (b := ?b1) ?e1 ?_ ?_; case e1 => exact rfl
  ·
   intro ht4
   refine JC.nilOf ht4 h0 (fun hx => ?_)
   refine Gm ?_
   refine Ga1 ?_
   exact Bm (.slice none 0 0) (hs := fun w hs => by rw [hx]; exact Aj (hs.rowNil 5 UInt8))
  ·
   intro ht4
   refine Gm ?_
   refine liO ([] : List UInt8) Hk rfl (fun j h => Fa) ?_; intro v5
   refine rn1 ?_
   refine ap Hk (hb := fun w hs => by have := Bv h0 hs; have : maxN = 16777216 := rfl; simp; omega) (k := ?_); intro v7
   refine Ga1 ?_
   exact Bm v7
theorem netOwn {L : List Chunk} {R : List Fact} {w : World} {v0 : Value} {l : Frames} (hs : St (L) R w) (h0 : sl v0 l ∈ R) : Calls Try.prog 19 [v0].toArray w (Cg (fun v : Value => v) (fun v => row 23 v l :: L) (fun v => R)) := by
  have hlen := Bv h0 hs
  refine Ah Try.func19 rfl Try.ntmps19 rfl hs ?_
  clear hs
  refine Gm ?_
  refine Gb1 ?_
  refine Gb1 ?_
  refine Ga3 ?_
  refine JC.rowNil 23 (List UInt8) ?_
  refine Bg (γ := Nat × Value) (fun g => g.1 ≤ l.length) (fun g => row 23 g.2 (l.take g.1) :: L) (fun _ => R) (fun g => [(0, v0), (3, g.2), (6, v0), (7, vi (l.length : Int)), (8, vi (g.1 : Int))]) (fun g => l.length - g.1) (0, .slice none 0 0) (Nat.zero_le _) alT (fun w hs => hs) ?_
  rintro ⟨k, vs⟩ hk
  try simp only at hk ⊢
  refine Gm ?_
  refine Ga1 ?_
  refine cdx (p := ?p1) (hd := ?d1) ?e1 ?_ ?_; case e1 => exact rfl
  ·
   intro ht9
   refine Gl ?_
   refine JC.open1 (xs := l) k mm (by omega) (fun _ u => ?_)
   refine Aa ?_
   refine Gb3 ?_
   refine rn2 ?_
   refine Ar Try.call61 rfl (fun w hs => Rn hs mm) ?_; intro v14
   refine J.shut .hd ?_
   refine li [_] Lc rfl We ?_; intro v15
   refine ap Lc (hb := fun w hs => by have : maxN = 16777216 := rfl; have := hlen; simp only [List.length_cons, List.length_nil, List.length_take, List.length_append]; omega) (k := ?_); intro v16
   refine Gb1 ?_
   refine Ga2 ?_
   refine A1 (k + 1, v16) (by show k + 1 ≤ l.length; omega) (by show l.length - (k + 1) < l.length - k; omega) alT (fun w hs => ?_)
   try simp only
   rw [Hu [] (by omega)]; exact Aj hs
  ·
   intro ht9
   refine Gm ?_
   refine Ga2 ?_
   have hkl : k = l.length := by omega
   subst hkl
   exact Bm vs (hs := fun w hs => by rw [List.take_length] at hs; exact Aj hs)
theorem Sc {L : List Chunk} {R : List Fact} {w : World} {v0 v1 : Value} {l : Frames} {b : List UInt8} (hs : St (L) R w) (h0 : sl v0 l ∈ R) (h1 : sl v1 b ∈ R) : Calls Try.prog 21 [v0, v1].toArray w (Cg (fun v : Value => v) (fun v => L) (fun v => sl v (Fo l b) :: R)) := by
  have hlen := Bv h0 hs
  refine Ah Try.func21 rfl Try.ntmps21 rfl hs ?_
  clear hs
  refine Gm ?_
  refine Gb1 ?_
  refine Ga3 ?_
  refine cdx (p := ?p1) (hd := ?d1) ?e1 ?_ ?_; case e1 => exact rfl
  ·
   intro ht7
   refine Gm ?_
   refine Ga2 ?_
   have e : Fo l b = l := by unfold Fo; rw [if_neg (by omega)]
   rw [e]
   exact Bm v0
  ·
   intro ht7
   refine Gm ?_
   refine liO ([] : Frames) Lc rfl (fun j h => Fa) ?_; intro v9
   refine rn1 ?_
   refine ap Lc (hb := fun w hs => by have : maxN = 16777216 := rfl; have := hlen; simp only [List.length_cons, List.length_nil, List.length_take, List.length_append]; omega) (k := ?_); intro v11
   refine rn1 ?_
   refine li [_] Lc rfl We ?_; intro v13
   refine ap Lc (hb := fun w hs => by have : maxN = 16777216 := rfl; have := hlen; simp only [List.length_cons, List.length_nil, List.length_take, List.length_append]; omega) (k := ?_); intro v14
   refine Ga1 ?_
   have e : Fo l b = l ++ [b] := by unfold Fo; rw [if_pos (by omega)]
   rw [e]
   exact Bm v14 (hs := fun w hs => Aj (St.shut hs))
end Go.Proofs.Ytofgpimoekhfaaa

/- This file proves what frame.Turn and its twin in shref1 compute. No conditions. -/
set_option linter.unusedVariables false
set_option linter.unusedSimpArgs false
set_option maxHeartbeats 1000000
set_option maxRecDepth 8000
namespace Go.Proofs.Ytofgpimoekhfaaa
open Go
theorem J7 {L : List Chunk} {R : List Fact} {w : World} {v0 : Value} {b : List UInt8} {bit : Int} (hs : St L R w) (h0 : sl v0 b ∈ R) (hbit : An bit) : Calls Try.prog 26 [v0, vi bit].toArray w (Cg (fun v : Value => v) (fun _ => L) (fun v => sl v (Bn b bit) :: R)) := by
  have hlen := Bv h0 hs
  have hbit' := hbit
  unfold An at hbit'
  refine Ah Try.func26 rfl Try.ntmps26 rfl hs ?_
  clear hs
  repeat refine Bf ?_
  refine Aa ?_
  refine Bj rfl ?_
  refine J.nil ?_
  refine As ?_
  repeat refine Bf ?_
  refine Aa ?_
  refine Bj rfl ?_
  refine J.nil ?_
  refine As ?_
  repeat refine Bf ?_
  refine Aa ?_
  refine Bi rfl ?_
  refine Wi Try.underlying23 rfl (by first | exact Dn (by first | exact .hd | exact .tl .hd | exact .tl (.tl .hd) | exact .tl (.tl (.tl .hd)) | exact .tl (.tl (.tl (.tl .hd))) | exact .tl (.tl (.tl (.tl (.tl .hd)))) | exact .tl (.tl (.tl (.tl (.tl (.tl .hd))))) | exact .tl (.tl (.tl (.tl (.tl (.tl (.tl .hd)))))) | exact .tl (.tl (.tl (.tl (.tl (.tl (.tl (.tl .hd)))))))) | exact Ei (by first | assumption | exact .head _ | (refine .tail _ ?_; first | assumption | exact .head _ | (refine .tail _ ?_; first | assumption | exact .head _ | (refine .tail _ ?_; first | assumption | exact .head _ | (refine .tail _ ?_; first | assumption | exact .head _ | (refine .tail _ ?_; first | assumption | exact .head _ | (refine .tail _ ?_; first | assumption | exact .head _ | (refine .tail _ ?_; first | assumption | exact .head _ | (refine .tail _ ?_; first | assumption | exact .head _ | (refine .tail _ ?_; first | assumption | exact .head _))))))))))) ?_
  refine Bi rfl ?_
  refine J.nil ?_
  refine As ?_
  repeat refine Bf ?_
  refine C2 ?_
  have hbl : (Bn b bit).length = b.length := Hc b bit
  refine JC.rowNil 5 UInt8 ?_
  refine Bg (γ := Nat × Value) (fun g => g.1 ≤ b.length) (fun g => row 5 g.2 ((Bn b bit).take g.1) :: L) (fun _ => R) (fun g => [(1, vi bit), (5, g.2), (9, v0), (10, vi (b.length : Int)), (11, vi (g.1 : Int))]) (fun g => b.length - g.1) (0, .slice none 0 0) (by omega) ⟨rfl, rfl, rfl, rfl, rfl, trivial⟩ (fun w hs => hs) ?_
  rintro ⟨k, v5⟩ hk
  simp only at hk ⊢
  repeat refine Bf ?_
  refine Aa ?_
  refine Dl rfl rfl Jq ?_
  refine J.nil ?_
  refine As ?_
  repeat refine Bf ?_
  refine Bh rfl (fun ht12 => ?_) (fun ht12 => ?_)
  · -- t12 True
    try simp only [decide_eq_true_eq, decide_eq_false_iff_not, beq_iff_eq, bne_iff_ne, beq_eq_false_iff_ne, bne_eq_false_iff_eq, Int.not_lt, Int.not_le, Bool.not_eq_true, ne_eq, Bool.not_eq_eq_eq_not, Bool.not_true, Bool.not_false] at ht12
    refine Em ?_
    refine As ?_
    repeat refine Bf ?_
    refine C2 ?_
    repeat refine Bf ?_
    refine Aa ?_
    refine Bi rfl ?_
    first | refine Gw By rfl rfl (by first | exact Dn (by first | exact .hd | exact .tl .hd | exact .tl (.tl .hd) | exact .tl (.tl (.tl .hd)) | exact .tl (.tl (.tl (.tl .hd))) | exact .tl (.tl (.tl (.tl (.tl .hd)))) | exact .tl (.tl (.tl (.tl (.tl (.tl .hd))))) | exact .tl (.tl (.tl (.tl (.tl (.tl (.tl .hd)))))) | exact .tl (.tl (.tl (.tl (.tl (.tl (.tl (.tl .hd)))))))) | exact Ei (by first | assumption | exact .head _ | (refine .tail _ ?_; first | assumption | exact .head _ | (refine .tail _ ?_; first | assumption | exact .head _ | (refine .tail _ ?_; first | assumption | exact .head _ | (refine .tail _ ?_; first | assumption | exact .head _ | (refine .tail _ ?_; first | assumption | exact .head _ | (refine .tail _ ?_; first | assumption | exact .head _ | (refine .tail _ ?_; first | assumption | exact .head _ | (refine .tail _ ?_; first | assumption | exact .head _ | (refine .tail _ ?_; first | assumption | exact .head _))))))))))) (by first | assumption | omega | (simp only [List.length_nil, List.length_cons, List.length_append, List.length_take, List.length_drop, List.length_set, List.length_replicate]; omega)) ?_ | refine F7 By rfl rfl (by first | exact Dn (by first | exact .hd | exact .tl .hd | exact .tl (.tl .hd) | exact .tl (.tl (.tl .hd)) | exact .tl (.tl (.tl (.tl .hd))) | exact .tl (.tl (.tl (.tl (.tl .hd)))) | exact .tl (.tl (.tl (.tl (.tl (.tl .hd))))) | exact .tl (.tl (.tl (.tl (.tl (.tl (.tl .hd)))))) | exact .tl (.tl (.tl (.tl (.tl (.tl (.tl (.tl .hd)))))))) | exact Ei (by first | assumption | exact .head _ | (refine .tail _ ?_; first | assumption | exact .head _ | (refine .tail _ ?_; first | assumption | exact .head _ | (refine .tail _ ?_; first | assumption | exact .head _ | (refine .tail _ ?_; first | assumption | exact .head _ | (refine .tail _ ?_; first | assumption | exact .head _ | (refine .tail _ ?_; first | assumption | exact .head _ | (refine .tail _ ?_; first | assumption | exact .head _ | (refine .tail _ ?_; first | assumption | exact .head _ | (refine .tail _ ?_; first | assumption | exact .head _))))))))))) (by first | assumption | omega | (simp only [List.length_nil, List.length_cons, List.length_append, List.length_take, List.length_drop, List.length_set, List.length_replicate]; omega)) (by first | assumption | omega | (simp only [List.length_nil, List.length_cons, List.length_append, List.length_take, List.length_drop, List.length_set, List.length_replicate]; omega)) ?_
    first | refine F6 Try.isAgg5 rfl (A9 (by first | exact .hd | exact .tl .hd | exact .tl (.tl .hd) | exact .tl (.tl (.tl .hd)) | exact .tl (.tl (.tl (.tl .hd))) | exact .tl (.tl (.tl (.tl (.tl .hd)))) | exact .tl (.tl (.tl (.tl (.tl (.tl .hd))))) | exact .tl (.tl (.tl (.tl (.tl (.tl (.tl .hd)))))) | exact .tl (.tl (.tl (.tl (.tl (.tl (.tl (.tl .hd)))))))) (by exact rfl)) ?_ | refine F6 Try.isAgg5 rfl (at_byterow (by first | exact .hd | exact .tl .hd | exact .tl (.tl .hd) | exact .tl (.tl (.tl .hd)) | exact .tl (.tl (.tl (.tl .hd))) | exact .tl (.tl (.tl (.tl (.tl .hd)))) | exact .tl (.tl (.tl (.tl (.tl (.tl .hd))))) | exact .tl (.tl (.tl (.tl (.tl (.tl (.tl .hd)))))) | exact .tl (.tl (.tl (.tl (.tl (.tl (.tl (.tl .hd)))))))) (by first | assumption | omega | (simp only [List.length_nil, List.length_cons, List.length_append, List.length_take, List.length_drop, List.length_set, List.length_replicate]; omega))) ?_ | refine F6 Try.isAgg5 rfl (Mt (by first | assumption | exact .head _ | (refine .tail _ ?_; first | assumption | exact .head _ | (refine .tail _ ?_; first | assumption | exact .head _ | (refine .tail _ ?_; first | assumption | exact .head _ | (refine .tail _ ?_; first | assumption | exact .head _ | (refine .tail _ ?_; first | assumption | exact .head _ | (refine .tail _ ?_; first | assumption | exact .head _ | (refine .tail _ ?_; first | assumption | exact .head _ | (refine .tail _ ?_; first | assumption | exact .head _ | (refine .tail _ ?_; first | assumption | exact .head _)))))))))) (by first | assumption | omega | (simp only [List.length_nil, List.length_cons, List.length_append, List.length_take, List.length_drop, List.length_set, List.length_replicate]; omega))) ?_
    refine Bj rfl ?_
    refine Bj rfl ?_
    refine J.nil ?_
    refine As ?_
    repeat refine Bf ?_
    refine Aa ?_
    refine Bi rfl ?_
    refine Bi rfl ?_
    refine Dl rfl rfl (Oi (by omega) (by omega)) ?_
    refine Dl rfl rfl Oj ?_
    refine Bi rfl ?_
    refine Md (t := 20) (b := ?b1) ?e1 ?_ ?_
    case e1 => exact rfl
    · -- t20 True
      intro ht20
      try simp only [decide_eq_true_eq, decide_eq_false_iff_not, beq_iff_eq, bne_iff_ne, beq_eq_false_iff_ne, bne_eq_false_iff_eq, Int.not_lt, Int.not_le, Bool.not_eq_true, ne_eq, Bool.not_eq_eq_eq_not, Bool.not_true, Bool.not_false] at ht20
      refine J.guardYes ?_ ?_
      · exact rfl
      refine Bi rfl ?_
      refine J.guardYes ?_ ?_
      · exact rfl
      refine Bi rfl ?_
      refine J.guardYes ?_ ?_
      · exact rfl
      refine Dl rfl rfl (Oi (by omega) (by omega)) ?_
      refine J.guardYes ?_ ?_
      · exact rfl
      refine Dl rfl rfl (Jr (by omega) (by omega)) ?_
      refine J.guardYes ?_ ?_
      · exact rfl
      refine Dl rfl rfl Jq ?_
      refine Wg rfl rfl ?_
      refine J.nil ?_
      refine As ?_
      repeat refine Bf ?_
      refine Bh rfl (fun ht26 => ?_) (fun ht26 => ?_)
      · -- t26 True
        try simp only [decide_eq_true_eq, decide_eq_false_iff_not, beq_iff_eq, bne_iff_ne, beq_eq_false_iff_ne, bne_eq_false_iff_eq, Int.not_lt, Int.not_le, Bool.not_eq_true, ne_eq, Bool.not_eq_eq_eq_not, Bool.not_true, Bool.not_false] at ht26
        repeat refine Bf ?_
        obtain ⟨r, hr⟩ : ∃ r : Nat, bit = 8 * (k : Int) + r := ⟨(bit - 8 * (k : Int)).toNat, by omega⟩
        have hr8 : r < 8 := by omega
        have hget : (Bn b bit).getD k 0 = b.getD k 0 ^^^ ((1 : UInt8) <<< UInt8.ofNat r) := by
          have e1 : (bit / 8).toNat = k := by omega
          have e2 : (bit % 8).toNat = r := by omega
          unfold Bn
          rw [if_pos (by omega), e1, e2, Cs _ _ _ _ _ (by omega), if_pos rfl]
        refine Aa ?_
        refine Bj rfl ?_
        refine J.nil ?_
        refine As ?_
        repeat refine Bf ?_
        refine Aa ?_
        refine Bi rfl ?_
        refine Bi rfl ?_
        refine Dl rfl rfl (Oi (by omega) (by omega)) ?_
        refine Dl rfl rfl (Th (by omega) (by omega)) ?_
        refine Bi rfl ?_
        refine J.nil ?_
        refine As ?_
        repeat refine Bf ?_
        refine C2 ?_
        rw [show bit - 8 * (k : Int) = (r : Int) by omega]
        refine Bg (γ := Nat) (fun j => j ≤ r) (fun _ => row 5 v5 ((Bn b bit).take k) :: L) (fun _ => R) (fun j => [(1, vi bit), (5, v5), (9, v0), (10, vi (b.length : Int)), (11, vi (k : Int)), (7, vb (b.getD k 0)), (30, vi (r : Int)), (31, vi (j : Int)), (8, vi ((2 ^ j : Nat) : Int))]) (fun j => r - j) 0 (by omega) ⟨rfl, rfl, rfl, rfl, rfl, rfl, rfl, rfl, rfl, trivial⟩ (fun w hs => hs.sub (by repeat (first | exact .refl | exact .nil | refine .cons (by first | exact .hd | exact .tl .hd | exact .tl (.tl .hd) | exact .tl (.tl (.tl .hd)) | exact .tl (.tl (.tl (.tl .hd))) | exact .tl (.tl (.tl (.tl (.tl .hd)))) | exact .tl (.tl (.tl (.tl (.tl (.tl .hd))))) | exact .tl (.tl (.tl (.tl (.tl (.tl (.tl .hd)))))) | exact .tl (.tl (.tl (.tl (.tl (.tl (.tl (.tl .hd)))))))) ?_ | refine .drop ?_)) (by repeat (first | exact FSub.refl | exact FSub.nil | refine FSub.cons (by first | assumption | (repeat (first | assumption | exact List.Mem.head _ | refine .tail _ ?_))) ?_ | refine FSub.drop ?_))) ?_
        intro j hj
        repeat refine Bf ?_
        refine Aa ?_
        refine Dl rfl rfl Jq ?_
        refine J.nil ?_
        refine As ?_
        repeat refine Bf ?_
        refine Bh rfl (fun ht32 => ?_) (fun ht32 => ?_)
        · -- t32 True
          try simp only [decide_eq_true_eq, decide_eq_false_iff_not, beq_iff_eq, bne_iff_ne, beq_eq_false_iff_ne, bne_eq_false_iff_eq, Int.not_lt, Int.not_le, Bool.not_eq_true, ne_eq, Bool.not_eq_eq_eq_not, Bool.not_true, Bool.not_false] at ht32
          refine Em ?_
          refine As ?_
          repeat refine Bf ?_
          refine C2 ?_
          refine Aa ?_
          refine Bi rfl ?_
          have hp := Nat.pow_le_pow_right (show 0 < 2 by decide) (show j ≤ 8 by omega)
          have hp1 : (0 : Int) ≤ ((2 ^ j : Nat) : Int) := Int.natCast_nonneg _
          have hp2 : ((2 ^ j : Nat) : Int) ≤ 256 := Int.ofNat_le.2 hp
          refine Dl rfl rfl (Oi (by omega) (by omega)) ?_
          refine Bj rfl ?_
          refine J.nil ?_
          refine Dk ?_
          refine As ?_
          refine Aa ?_
          refine Dl rfl rfl (Jr (by omega) (by omega)) ?_
          refine Bi rfl ?_
          refine J.nil ?_
          have hp3 : 2 ^ (j + 1) = 2 ^ j * 2 := Nat.pow_succ ..
          refine A1 (j + 1) (by omega) (by omega) ⟨rfl, rfl, rfl, rfl, rfl, rfl, rfl, rfl, ?_, trivial⟩ (fun w hs => hs)
          exact congrArg (fun z => some (vi z)) (show 2 * ((2 ^ j : Nat) : Int) = ((2 ^ (j + 1) : Nat) : Int) by rw [hp3, Int.natCast_mul]; exact Int.mul_comm _ _)
        · -- t32 False
          try simp only [decide_eq_true_eq, decide_eq_false_iff_not, beq_iff_eq, bne_iff_ne, beq_eq_false_iff_ne, bne_eq_false_iff_eq, Int.not_lt, Int.not_le, Bool.not_eq_true, ne_eq, Bool.not_eq_eq_eq_not, Bool.not_true, Bool.not_false] at ht32
          refine Fq ?_
          repeat (first | refine Cy ?_ | refine Dq rfl ?_)
          refine Cz ?_
          refine As ?_
          refine Aa ?_
          refine Bi rfl ?_
          refine r_p (Aq Try.underlying5 Try.underlying3 rfl (Au _)) rfl ?_
          refine Bi rfl ?_
          have hjr : j = r := by omega
          subst hjr
          have hp := Nat.pow_le_pow_right (show 0 < 2 by decide) (show j ≤ 8 by omega)
          refine r_p (Ae rfl rfl (Qe (by have := (b.getD k 0).toNat_lt; omega) (by omega))) rfl ?_
          refine r_p (Aq Try.underlying3 Try.underlying5 rfl (F3 _)) rfl ?_
          rw [Tr _ _ hr8]
          refine Bj rfl ?_
          refine J.nil ?_
          refine As ?_
          refine Aa ?_
          refine Bi rfl ?_
          refine Bi rfl ?_
          refine Sg (α := UInt8) [b.getD k 0 ^^^ ((1 : UInt8) <<< UInt8.ofNat j)] Hk rfl rfl rfl rfl rfl rfl (fun j hj => ⟨⟨_, rfl, rfl⟩, trivial⟩) ?_; intro v43
          refine J.shut .hd ?_
          refine Ju Hk rfl rfl rfl (by decide) (by first | exact .hd | exact .tl .hd | exact .tl (.tl .hd) | exact .tl (.tl (.tl .hd)) | exact .tl (.tl (.tl (.tl .hd))) | exact .tl (.tl (.tl (.tl (.tl .hd)))) | exact .tl (.tl (.tl (.tl (.tl (.tl .hd))))) | exact .tl (.tl (.tl (.tl (.tl (.tl (.tl .hd)))))) | exact .tl (.tl (.tl (.tl (.tl (.tl (.tl (.tl .hd)))))))) (.head _) (fun w hs => by have : maxN = 16777216 := rfl; rw [List.length_take, Hc]; simp only [List.length_cons, List.length_nil]; omega) ?_; intro v44
          refine Bj rfl ?_
          refine J.nil ?_
          refine Dk ?_
          refine As ?_
          refine Aa ?_
          refine Dl rfl rfl (Jr (by omega) (by omega)) ?_
          refine Bi rfl ?_
          refine J.nil ?_
          refine A1 (k + 1, v44) (by show k + 1 ≤ b.length; omega) (by show b.length - (k + 1) < b.length - k; omega) ⟨rfl, rfl, rfl, rfl, rfl, trivial⟩ (fun w hs => ?_)
          have hxk : ((Bn b bit)[k]?).toList = [b.getD k 0 ^^^ ((1 : UInt8) <<< UInt8.ofNat j)] := by
            rw [getD_some 0 (show k < (Bn b bit).length by omega)]
            have hg : (Bn b bit).getD k 0 = b.getD k 0 ^^^ ((1 : UInt8) <<< UInt8.ofNat j) := hget
            rw [hg]; rfl
          show St (row 5 v44 ((Bn b bit).take (k + 1)) :: _) _ w
          rw [List.take_add_one, hxk]; exact hs.sub (by repeat (first | exact .refl | exact .nil | refine .cons (by first | exact .hd | exact .tl .hd | exact .tl (.tl .hd) | exact .tl (.tl (.tl .hd)) | exact .tl (.tl (.tl (.tl .hd))) | exact .tl (.tl (.tl (.tl (.tl .hd)))) | exact .tl (.tl (.tl (.tl (.tl (.tl .hd))))) | exact .tl (.tl (.tl (.tl (.tl (.tl (.tl .hd)))))) | exact .tl (.tl (.tl (.tl (.tl (.tl (.tl (.tl .hd)))))))) ?_ | refine .drop ?_)) (by repeat (first | exact FSub.refl | exact FSub.nil | refine FSub.cons (by first | assumption | (repeat (first | assumption | exact List.Mem.head _ | refine .tail _ ?_))) ?_ | refine FSub.drop ?_))
      · -- t26 False
        try simp only [decide_eq_true_eq, decide_eq_false_iff_not, beq_iff_eq, bne_iff_ne, beq_eq_false_iff_ne, bne_eq_false_iff_eq, Int.not_lt, Int.not_le, Bool.not_eq_true, ne_eq, Bool.not_eq_eq_eq_not, Bool.not_true, Bool.not_false] at ht26
        have hget : (Bn b bit).getD k 0 = b.getD k 0 := by
          unfold Bn
          split
          · rw [Cs _ _ _ _ _ (by omega), if_neg (by omega)]
          · rfl
        refine Em ?_
        refine As ?_
        refine Aa ?_
        refine Bi rfl ?_
        refine Bi rfl ?_
        refine Sg (α := UInt8) [b.getD k 0] Hk rfl rfl rfl rfl rfl rfl (fun j hj => ⟨⟨_, rfl, rfl⟩, trivial⟩) ?_; intro v43
        refine J.shut .hd ?_
        refine Ju Hk rfl rfl rfl (by decide) (by first | exact .hd | exact .tl .hd | exact .tl (.tl .hd) | exact .tl (.tl (.tl .hd)) | exact .tl (.tl (.tl (.tl .hd))) | exact .tl (.tl (.tl (.tl (.tl .hd)))) | exact .tl (.tl (.tl (.tl (.tl (.tl .hd))))) | exact .tl (.tl (.tl (.tl (.tl (.tl (.tl .hd)))))) | exact .tl (.tl (.tl (.tl (.tl (.tl (.tl (.tl .hd)))))))) (.head _) (fun w hs => by have : maxN = 16777216 := rfl; rw [List.length_take, Hc]; simp only [List.length_cons, List.length_nil]; omega) ?_; intro v44
        refine Bj rfl ?_
        refine J.nil ?_
        refine Dk ?_
        refine As ?_
        refine Aa ?_
        refine Dl rfl rfl (Jr (by omega) (by omega)) ?_
        refine Bi rfl ?_
        refine J.nil ?_
        refine A1 (k + 1, v44) (by show k + 1 ≤ b.length; omega) (by show b.length - (k + 1) < b.length - k; omega) ⟨rfl, rfl, rfl, rfl, rfl, trivial⟩ (fun w hs => ?_)
        have hxk : ((Bn b bit)[k]?).toList = [b.getD k 0] := by
          rw [getD_some 0 (show k < (Bn b bit).length by omega)]
          have hg : (Bn b bit).getD k 0 = b.getD k 0 := hget
          rw [hg]; rfl
        show St (row 5 v44 ((Bn b bit).take (k + 1)) :: _) _ w
        rw [List.take_add_one, hxk]; exact hs.sub (by repeat (first | exact .refl | exact .nil | refine .cons (by first | exact .hd | exact .tl .hd | exact .tl (.tl .hd) | exact .tl (.tl (.tl .hd)) | exact .tl (.tl (.tl (.tl .hd))) | exact .tl (.tl (.tl (.tl (.tl .hd)))) | exact .tl (.tl (.tl (.tl (.tl (.tl .hd))))) | exact .tl (.tl (.tl (.tl (.tl (.tl (.tl .hd)))))) | exact .tl (.tl (.tl (.tl (.tl (.tl (.tl (.tl .hd)))))))) ?_ | refine .drop ?_)) (by repeat (first | exact FSub.refl | exact FSub.nil | refine FSub.cons (by first | assumption | (repeat (first | assumption | exact List.Mem.head _ | refine .tail _ ?_))) ?_ | refine FSub.drop ?_))
    · -- t20 False
      intro ht20
      try simp only [decide_eq_true_eq, decide_eq_false_iff_not, beq_iff_eq, bne_iff_ne, beq_eq_false_iff_ne, bne_eq_false_iff_eq, Int.not_lt, Int.not_le, Bool.not_eq_true, ne_eq, Bool.not_eq_eq_eq_not, Bool.not_true, Bool.not_false] at ht20
      have hget : (Bn b bit).getD k 0 = b.getD k 0 := by
        unfold Bn
        split
        · rw [Cs _ _ _ _ _ (by omega), if_neg (by omega)]
        · rfl
      refine J.guardNo ?_ ?_
      · exact rfl
      refine J.guardNo ?_ ?_
      · exact rfl
      refine J.guardNo ?_ ?_
      · exact rfl
      refine J.guardNo ?_ ?_
      · exact rfl
      refine J.guardNo ?_ ?_
      · exact rfl
      refine Wh rfl rfl ?_
      refine J.nil ?_
      refine As ?_
      repeat refine Bf ?_
      refine Mc rfl ?_
      refine Em ?_
      refine As ?_
      refine Aa ?_
      refine Bi rfl ?_
      refine Bi rfl ?_
      refine Sg (α := UInt8) [b.getD k 0] Hk rfl rfl rfl rfl rfl rfl (fun j hj => ⟨⟨_, rfl, rfl⟩, trivial⟩) ?_; intro v43
      refine J.shut .hd ?_
      refine Ju Hk rfl rfl rfl (by decide) (by first | exact .hd | exact .tl .hd | exact .tl (.tl .hd) | exact .tl (.tl (.tl .hd)) | exact .tl (.tl (.tl (.tl .hd))) | exact .tl (.tl (.tl (.tl (.tl .hd)))) | exact .tl (.tl (.tl (.tl (.tl (.tl .hd))))) | exact .tl (.tl (.tl (.tl (.tl (.tl (.tl .hd)))))) | exact .tl (.tl (.tl (.tl (.tl (.tl (.tl (.tl .hd)))))))) (.head _) (fun w hs => by have : maxN = 16777216 := rfl; rw [List.length_take, Hc]; simp only [List.length_cons, List.length_nil]; omega) ?_; intro v44
      refine Bj rfl ?_
      refine J.nil ?_
      refine Dk ?_
      refine As ?_
      refine Aa ?_
      refine Dl rfl rfl (Jr (by omega) (by omega)) ?_
      refine Bi rfl ?_
      refine J.nil ?_
      refine A1 (k + 1, v44) (by show k + 1 ≤ b.length; omega) (by show b.length - (k + 1) < b.length - k; omega) ⟨rfl, rfl, rfl, rfl, rfl, trivial⟩ (fun w hs => ?_)
      have hxk : ((Bn b bit)[k]?).toList = [b.getD k 0] := by
        rw [getD_some 0 (show k < (Bn b bit).length by omega)]
        have hg : (Bn b bit).getD k 0 = b.getD k 0 := hget
        rw [hg]; rfl
      show St (row 5 v44 ((Bn b bit).take (k + 1)) :: _) _ w
      rw [List.take_add_one, hxk]; exact hs.sub (by repeat (first | exact .refl | exact .nil | refine .cons (by first | exact .hd | exact .tl .hd | exact .tl (.tl .hd) | exact .tl (.tl (.tl .hd)) | exact .tl (.tl (.tl (.tl .hd))) | exact .tl (.tl (.tl (.tl (.tl .hd)))) | exact .tl (.tl (.tl (.tl (.tl (.tl .hd))))) | exact .tl (.tl (.tl (.tl (.tl (.tl (.tl .hd)))))) | exact .tl (.tl (.tl (.tl (.tl (.tl (.tl (.tl .hd)))))))) ?_ | refine .drop ?_)) (by repeat (first | exact FSub.refl | exact FSub.nil | refine FSub.cons (by first | assumption | (repeat (first | assumption | exact List.Mem.head _ | refine .tail _ ?_))) ?_ | refine FSub.drop ?_))
  · -- t12 False
    try simp only [decide_eq_true_eq, decide_eq_false_iff_not, beq_iff_eq, bne_iff_ne, beq_eq_false_iff_ne, bne_eq_false_iff_eq, Int.not_lt, Int.not_le, Bool.not_eq_true, ne_eq, Bool.not_eq_eq_eq_not, Bool.not_true, Bool.not_false] at ht12
    refine Fq ?_
    repeat (first | refine Cy ?_ | refine Dq rfl ?_)
    refine Cz ?_
    refine As ?_
    repeat refine Bf ?_
    refine Aa ?_
    refine Bi rfl ?_
    refine Bj rfl ?_
    refine J.nil ?_
    refine As ?_
    refine Ki ?_
    repeat (first | refine El ?_ | refine D6 ?_)
    have hkl : k = b.length := by omega
    refine Fp (.inr rfl) (fun B w hs => res1 rfl rfl B w) (fun w hs => ?_)
    refine ⟨v5, rfl, ?_⟩
    have h := St.shut (hs.pick (by first | exact .hd | exact .tl .hd | exact .tl (.tl .hd) | exact .tl (.tl (.tl .hd)) | exact .tl (.tl (.tl (.tl .hd))) | exact .tl (.tl (.tl (.tl (.tl .hd)))) | exact .tl (.tl (.tl (.tl (.tl (.tl .hd))))) | exact .tl (.tl (.tl (.tl (.tl (.tl (.tl .hd)))))) | exact .tl (.tl (.tl (.tl (.tl (.tl (.tl (.tl .hd)))))))))
    rw [List.take_of_length_le (by omega)] at h
    exact h.sub (by repeat (first | exact .refl | exact .nil | refine .cons (by first | exact .hd | exact .tl .hd | exact .tl (.tl .hd) | exact .tl (.tl (.tl .hd)) | exact .tl (.tl (.tl (.tl .hd))) | exact .tl (.tl (.tl (.tl (.tl .hd)))) | exact .tl (.tl (.tl (.tl (.tl (.tl .hd))))) | exact .tl (.tl (.tl (.tl (.tl (.tl (.tl .hd)))))) | exact .tl (.tl (.tl (.tl (.tl (.tl (.tl (.tl .hd)))))))) ?_ | refine .drop ?_)) (by repeat (first | exact FSub.refl | exact FSub.nil | refine FSub.cons (by first | assumption | (repeat (first | assumption | exact List.Mem.head _ | refine .tail _ ?_))) ?_ | refine FSub.drop ?_))
end Go.Proofs.Ytofgpimoekhfaaa

/- This file proves what net.Take, Twice, Spoil and their twins compute. No conditions. -/
set_option linter.unusedVariables false
set_option linter.unusedSimpArgs false
set_option maxHeartbeats 1000000
set_option maxRecDepth 8000
namespace Go.Proofs.Ytofgpimoekhfaaa
open Go
theorem Pf {α : Type} {l : List α} {i : Nat} : l.eraseIdx i = l.take i ++ l.drop (i + 1) := List.eraseIdx_eq_take_drop_succ ..
theorem RdL.erase {α : Type} [Enc α] {m : Mem} {xs : List α} {cs : List Value} {i : Nat} (hz : Enc.sz α = 1) (hi : i < xs.length) (h : RdL xs cs m) : RdL (xs.eraseIdx i) (cs.take i ++ cs.drop (i + 1)) m := by
 have h1 : xs = xs.take i ++ xs.drop i := (List.take_append_drop i xs).symm
 rw [h1] at h
 obtain ⟨a, b, e1, e2, e3⟩ := RdL.split h
 have la : a.length = i := by rw [e2.len, hz, List.length_take]; omega
 rw [List.drop_eq_getElem_cons hi] at e3
 obtain ⟨c1, c2, g1, g2, g3⟩ := e3
 have lc : c1.length = 1 := by rw [Enc.len _ _ _ g2, hz]
 rw [Pf]
 have ea : cs.take i = a := by rw [e1, ← la]; simp
 have eb : cs.drop (i + 1) = c2 := by
  rw [e1, g1, ← la, List.drop_append, show a.length + 1 - a.length = 1 by omega, List.drop_append, lc]
  simp [List.drop_of_length_le, lc]
 rw [ea, eb]
 exact RdL.append g3 e2
end Go.Proofs.Ytofgpimoekhfaaa

/- This file proves what small functions of the document's answer compute: comparing, what is put on the way, and new chips. No conditions. -/
set_option linter.unusedVariables false
set_option linter.unusedSimpArgs false
set_option maxHeartbeats 1000000
set_option maxRecDepth 8000
namespace Go.Proofs.Ytofgpimoekhfaaa
open Go
theorem Vr {L : List Chunk} {R : List Fact} {w : World} {f : Fact} (hs : St L R w) (h : f ∈ R) : St L (f :: R) w := hs.sub .refl (fun g hg => by
  rcases List.mem_cons.1 hg with e | e
  · rw [e]; exact h
  · exact e)
theorem Nb {L : List Chunk} {R : List Fact} {w : World} {v0 v1 : Value} {fs : Frames} {ms : List Msg} (hs : St (L) R w) (h0 : sl v0 fs ∈ R) (h1 : sl v1 ms ∈ R) (hm : ∀ m ∈ ms, MsgIn m) : Calls Try.prog 97 [v0, v1].toArray w (Cg (fun v : Value => v) (fun v => L) (fun v => sl v (way fs ms) :: R)) := by
  have hlen := Bv h1 hs
  refine Ah Try.func97 rfl Try.ntmps97 rfl hs ?_
  clear hs
  refine Gm ?_
  refine Gb1 ?_
  refine Ga3 ?_
  refine Bg (γ := Nat × Value) (fun g => g.1 ≤ ms.length) (fun _ => L) (fun g => sl g.2 (way fs (ms.take g.1)) :: R) (fun g => [(0, g.2), (7, v1), (8, vi (ms.length : Int)), (9, vi (g.1 : Int))]) (fun g => ms.length - g.1) (0, v0) (Nat.zero_le _) alT (fun w hs => Vr hs h0) ?_
  rintro ⟨k, vs⟩ hk
  try simp only at hk ⊢
  refine Gm ?_
  refine Ga1 ?_
  refine cdx (p := ?p1) (hd := ?d1) ?e1 ?_ ?_; case e1 => exact rfl
  ·
   intro ht10
   refine Gl ?_
   refine JC.open0 (xs := ms) (v := v1) k mm (by omega) (fun _ => ?_)
   have hin : MsgIn (ms.getD k zMsg) := hm _ (by rw [List.getD_eq_getElem?_getD, List.getElem?_eq_getElem (by omega)]; exact List.getElem_mem _)
   refine Aa ?_
   refine rn2 ?_
   refine al_ (cs := zMsg.cells) Try.zeroValue42 ?_; intro b6
   refine s_B (cs := (ms.getD k zMsg).cells) Try.sizeOf42 ?_
   refine Gm ?_
   refine rn2 ?_
   refine Ar Try.call105 rfl (fun w hs => Ue hs hin) ?_; intro v15
   refine Ar Try.call21 rfl (fun w hs => Sc hs (l := way fs (ms.take k)) (b := Bx (ms.getD k zMsg)) mm mm) ?_; intro v16
   refine Gb1 ?_
   refine Ga2 ?_
   refine A1 (k + 1, v16) (by show k + 1 ≤ ms.length; omega) (by show ms.length - (k + 1) < ms.length - k; omega) alT (fun w hs => ?_)
   try simp only
   rw [Hu zMsg (by omega), Iu]; exact Aj hs
  ·
   intro ht10
   refine Gm ?_
   refine Ga2 ?_
   have hkl : k = ms.length := by omega
   subst hkl
   rw [List.take_length]
   exact Bm vs
theorem Iy {L : List Chunk} {R : List Fact} {w : World} {e : Int} (hs : St (L) R w) : Calls Try.prog 95 [vi e].toArray w (Cg (fun _ : Unit => .tuple #[.agg #[.slice none 0 0, .slice none 0 0, .slice none 0 0], .slice none 0 0, vi e]) (fun _ => L) (fun _ => R)) := by
 refine Ah Try.func95 rfl Try.ntmps95 rfl hs ?_
 clear hs
 refine Gm ?_
 refine al_ (cs := [.slice none 0 0, .slice none 0 0, .slice none 0 0]) Try.zeroValue46 ?_; intro b2
 refine Gb2 ?_
 refine ob (Gp (cs := [.slice none 0 0, .slice none 0 0, .slice none 0 0]) Ou) ?_
 refine rn1 ?_
 refine s_B Try.sizeOf46 ?_
 refine Ga2 ?_
 exact Cu () Try.isAgg46 Try.sizeOf46
theorem Uo {P : Program} {n : Nat} {Q : Exit → Act → World → Prop} {L : List Chunk} {R : List Fact} {al : List (Nat × Value)} {c : Code} {v : Value} {l : List Entry} (i : Nat) (hm : sl v l ∈ R) (hi : i < l.length) (k : (l.getD i A8).wf → ∀ u, JC P n c Q L (cF v 10 i (Entry.cells u (l.getD i A8)) :: sl u (l.getD i A8).last :: R) al) : JC P n c Q L R al := JC.open1 i hm hi k
end Go.Proofs.Ytofgpimoekhfaaa

/- This file proves what small functions of the program's core and of its plain memory compute. No conditions. -/
set_option linter.unusedVariables false
set_option linter.unusedSimpArgs false
set_option maxHeartbeats 1000000
set_option maxRecDepth 8000
namespace Go.Proofs.Ytofgpimoekhfaaa
open Go
theorem q_mx {P : Program} {n : Nat} {L : List Chunk} {R : List Fact} {al : List (Nat × Value)} {d : Nat} {x : Operand} {T ty : TypeId} {pos : String} {aft : Array Edge} {a : Int} (hx : ev n al x = some (vi a)) (h0 : 0 ≤ a) : Az P n al L R ⟨some d, .call { callee := .builtin .max, args := #[x, .const (.int .i64 0)], argTypes := #[T, T] }, ty, pos, aft, none⟩ (vi a) :=
 ⟨rfl, fun ρ w h _ => by
  have hx' := h x (by simp [Op.operands, Call.operands]) _ hx
  have hc' := h (.const (.int .i64 0)) (by simp [Op.operands, Call.operands]) _ rfl
  simp [execOp, resolve, invoke, builtin, hx', hc', Builtin.max_, Builtin.max2, show ¬ (a < 0) from by omega]⟩
theorem Rm {L : List Chunk} {R : List Fact} {w : World} {v0 : Value} {xs : List Line} (hs : St (L) R w) (h0 : sl v0 xs ∈ R) : Calls Try.prog 80 [v0].toArray w (Cg (fun v : Value => v) (fun v => row 82 v xs :: L) (fun v => R)) := by
  refine Ah Try.func80 rfl Try.ntmps80 rfl hs ?_
  clear hs
  refine Gm ?_
  refine Gb1 ?_
  refine rn1 ?_
  refine ob (Wk Try.underlying67 (Ei h0)) ?_
  refine Gl ?_
  refine Bh (b := ?b1) ?e1 ?_ ?_; case e1 => exact rfl
  ·
   intro ht4
   refine JC.nilOf ht4 h0 (fun hx => ?_)
   refine Gm ?_
   refine Ga1 ?_
   exact Bm (.slice none 0 0) (hs := fun w hs => by rw [hx]; exact Aj (hs.rowNil 82 Line))
  ·
   intro ht4
   refine Gm ?_
   refine liO ([] : List Line) S1 rfl (fun j h => Fa) ?_; intro v5
   refine rn1 ?_
   refine ap S1 (hb := fun w hs => by have := Bv h0 hs; have : maxN = 16777216 := rfl; simp; omega) (k := ?_); intro v7
   refine Ga1 ?_
   exact Bm v7
end Go.Proofs.Ytofgpimoekhfaaa

/- This file proves what the looks at a chip compute: who has a line alone, and its value. No conditions. -/
set_option linter.unusedVariables false
set_option linter.unusedSimpArgs false
set_option maxHeartbeats 1000000
set_option maxRecDepth 8000
namespace Go.Proofs.Ytofgpimoekhfaaa
open Go
theorem F9 {P : Program} {n : Nat} {Q : Exit → Act → World → Prop} {L : List Chunk} {R : List Fact} {al : List (Nat × Value)} {cd : Code} {v : Value} {x : Chip} (p : Nat) (hm : sl v x.cores ∈ R) (hp : p < x.cores.length) (k : (cor x p).wait.wf → ∀ u, u.oneCell' = true → JC P n cd Q L (cF v 4 p (Core.cells u (cor x p)) :: sl u (cor x p).lines :: R) al) : JC P n cd Q L R al :=
 JC.open1 p hm hp fun hw u => JC.know (p := u.oneCell' = true) (fun w hs => isSlice.one (hs.fact (.tail _ (.head _)))) (k hw u)
theorem Jw {P : Program} {n : Nat} {Q : Exit → Act → World → Prop} {L : List Chunk} {R : List Fact} {al : List (Nat × Value)} {cd : Code} {v : Value} {x : Chip} (i : Nat) (hm : sl v x.home ∈ R) (hi : i < x.home.length) (k : (ent x i).wf → ∀ u, u.oneCell' = true → JC P n cd Q L (cF v 10 i (Entry.cells u (ent x i)) :: sl u (ent x i).last :: R) al) : JC P n cd Q L R al :=
 JC.open1 i hm hi fun hw u => JC.know (p := u.oneCell' = true) (fun w hs => isSlice.one (hs.fact (.tail _ (.head _)))) (k hw u)
theorem Ia {P : Program} {n : Nat} {Q : Exit → Act → World → Prop} {L : List Chunk} {R : List Fact} {al : List (Nat × Value)} {cd : Code} {u : Value} {x : Chip} {p : Nat} (i : Nat) (hm : sl u (cor x p).lines ∈ R) (hi : i < (cor x p).lines.length) (k : (lin x i p).wf → JC P n cd Q L (cF u 7 i (lin x i p).cells :: R) al) : JC P n cd Q L R al := JC.open0 i hm hi k
theorem Un {P : Program} {n : Nat} {Q : Exit → Act → World → Prop} {L : List Chunk} {R : List Fact} {al : List (Nat × Value)} {cd : Code} {u : Value} {x : Chip} {i : Nat} (p : Nat) (hm : sl u (ent x i).last ∈ R) (hp : p < (ent x i).last.length) (k : An ((ent x i).last.getD p 0) → JC P n cd Q L (cF u 1 p [vi ((ent x i).last.getD p 0)] :: R) al) : JC P n cd Q L R al := JC.open0 (xs := (ent x i).last) p hm hp k
def Q4 (p : Nat → Bool) : Nat → Int
 | 0 => -1
 | k + 1 => if 0 ≤ Q4 p k then Q4 p k else if p k = true then (k : Int) else -1
theorem P0 {p : Nat → Bool} : ∀ {k : Nat}, (∀ i, i < k → p i = false) → Q4 p k = -1
 | 0, _ => rfl
 | k + 1, h => by
  simp only [Q4]
  rw [P0 (k := k) fun i hi => h i (by omega), if_neg (by decide), if_neg (by rw [h k (by omega)]; decide)]
theorem Sw {p : Nat → Bool} {k : Nat} (h : ∀ i, i < k → p i = false) (hk : p k = true) : ∀ {n : Nat}, k < n → Q4 p n = (k : Int)
  | 0, hn => absurd hn (by omega)
  | n + 1, hn => by
    simp only [Q4]
    by_cases e : k = n
    · rw [← e, P0 h, if_neg (by decide), if_pos hk]
    · rw [Sw h hk (n := n) (by omega), if_pos (by omega)]
theorem Sv {p : Nat → Bool} : ∀ {n : Nat}, Hi (fun k => !p k) n = false → 0 ≤ Q4 p n
  | 0, e => by cases e
  | n + 1, e => by
    simp only [Hi, Bool.and_eq_false_iff] at e
    simp only [Q4]
    by_cases h : 0 ≤ Q4 p n
    · rw [if_pos h]; exact h
    · rw [if_neg h]
      rcases e with e | e
      · exact absurd (Sv e) h
      · rw [if_pos (by simpa using e)]; omega
theorem Wy {p : Nat → Bool} {n : Nat} : decide (0 ≤ Q4 p n) = !Hi (fun k => !p k) n := by
 cases e : Hi (fun k => !p k) n with
 | true => rw [P0 fun i hi => by have := allN_iff.1 e i hi; simpa using this]; rfl
 | false => rw [decide_eq_true (Sv e)]; rfl
theorem Wz {L : List Chunk} {R : List Fact} {w : World} {cv : Value} {x : Chip} {ff : Nat} {caps : List Value} {p : Nat → Bool} (hs : St (L) R w) (hv : sl cv x.cores ∈ R) (hf : ∀ args w, (callFunc ff args).run Try.prog w = .ok (.enter ff args) w) (hc : ∀ k, k < x.cores.length → (cor x k).wait.wf → ∀ uk, uk.oneCell' = true → ∀ R' w, sl uk (cor x k).lines ∈ R' → St L R' w → Calls Try.prog ff ([Value.agg (Core.cells uk (cor x k)).toArray] ++ caps).toArray w (Cg (fun _ : Unit => .bool (p k)) (fun _ => L) (fun _ => R'))) : Calls Try.prog 102 [cv, .func (.func ff) #[] caps.toArray].toArray w (Cg (fun _ : Unit => vi (Q4 p x.cores.length)) (fun _ => L) (fun _ => R)) := by
  have hlen := Bv hv hs
  refine Ah Try.func102 rfl Try.ntmps102 rfl hs ?_
  clear hs
  refine Gm ?_
  refine Gb1 ?_
  refine Ga3 ?_
  refine Bg (γ := Nat) (fun k => k ≤ x.cores.length ∧ ∀ i, i < k → p i = false) (fun _ => L) (fun _ => R) (fun k => [(0, cv), (1, .func (.func ff) #[] caps.toArray), (7, vi (x.cores.length : Int)), (8, vi (k : Int))]) (fun k => x.cores.length - k) 0 ⟨Nat.zero_le _, fun i hi => absurd hi (by omega)⟩ alT (fun w hs => hs) ?_
  rintro k ⟨hk, hp0⟩
  refine Gm ?_
  refine Ga1 ?_
  refine cdx (p := ?p1) (hd := ?d1) ?e1 ?_ ?_; case e1 => exact rfl
  ·
   intro ht9
   refine Gm ?_
   refine Ga2 ?_
   refine F9 k (v := cv) mm (by omega) (fun hwk uk honek => ?_)
   refine Aa ?_
   refine rn5 ?_
   refine Bk (γ := Unit) (val := fun _ => .bool (p k)) (caps := caps) (vs := [.agg (Core.cells uk (cor x k)).toArray]) rfl hf rfl (fun w hs => hc k (by omega) hwk uk honek _ w mm hs) ?_; intro _
   refine Gl ?_
   first | (refine cdx (p := ?p2) (hd := ?d2) ?e2 ?_ ?_; case e2 => exact rfl) | (refine Bh (b := ?b2) ?e2 ?_ ?_; case e2 => exact rfl)
   ·
    intro ht16
    refine Gm ?_
    refine Ga2 ?_
    have er : Q4 p x.cores.length = (k : Int) := Sw hp0 ht16 (by omega)
    rw [er]
    exact Bm ()
   ·
    intro ht16
    refine Gm ?_
    refine Ga2 ?_
    refine A1 (k + 1) ⟨by omega, fun i hi => ?_⟩ (by omega) alT (fun w hs => Aj hs)
    by_cases e : i = k
    ·
     rw [e]; exact ht16
    ·
     exact hp0 i (by omega)
  ·
   intro ht9
   refine Gm ?_
   refine Ga1 ?_
   have er : Q4 p x.cores.length = -1 := P0 fun i hi => hp0 i (by omega)
   rw [er]
   exact Bm ()
theorem Tc {L : List Chunk} {R : List Fact} {w : World} {cv : Value} {x : Chip} {ff : Nat} {caps : List Value} {p : Nat → Bool} (hs : St (L) R w) (hv : sl cv x.cores ∈ R) (hf : ∀ args w, (callFunc ff args).run Try.prog w = .ok (.enter ff args) w) (hc : ∀ k, k < x.cores.length → (cor x k).wait.wf → ∀ uk, uk.oneCell' = true → ∀ R' w, sl uk (cor x k).lines ∈ R' → St L R' w → Calls Try.prog ff ([Value.agg (Core.cells uk (cor x k)).toArray] ++ caps).toArray w (Cg (fun _ : Unit => .bool (p k)) (fun _ => L) (fun _ => R'))) : Calls Try.prog 88 [cv, .func (.func ff) #[] caps.toArray].toArray w (Cg (fun _ : Unit => .bool (!Hi (fun k => !p k) x.cores.length)) (fun _ => L) (fun _ => R)) := by
 refine Ah Try.func88 rfl Try.ntmps88 rfl hs ?_
 clear hs
 refine Gm ?_
 refine Gb1 ?_
 refine rn2 ?_
 refine Ar Try.call102 rfl (fun w hs => Wz (ff := ff) (caps := caps) (p := p) hs hv hf hc) ?_; intro _
 refine Ga2 ?_
 rw [← Wy]
 exact Bm ()
theorem G7 {L : List Chunk} {R : List Fact} {w : World} {cv hv fv : Value} {x : Chip} (hs : St (L) R w) (hcv : sl cv x.cores ∈ R) (hhv : sl hv x.home ∈ R) (hx : CX x) (honef : fv.oneCell' = true) : Calls Try.prog 51 [.agg #[cv, hv, fv]].toArray w (Cg (fun _ : Unit => .bool (Dd x)) (fun _ => L) (fun _ => R)) := by
  have honec : cv.oneCell' = true := isSlice.one (hs.fact hcv)
  have honeh : hv.oneCell' = true := isSlice.one (hs.fact hhv)
  have hn4 := hx.n4
  have hh4 := hx.h4
  refine Ah Try.func51 rfl Try.ntmps51 rfl hs ?_
  clear hs
  refine Gm ?_
  refine bx ?_; intro b1
  refine Gb1 ?_
  refine Ga4 ?_
  refine Bg (γ := Nat) (fun i => i ≤ x.home.length ∧ Hi (Ff x) i = true) (fun _ => blk b1 46 [cv, hv, fv] :: L) (fun _ => R) (fun i => [(1, bp b1 0), (10, vi (x.home.length : Int)), (11, vi (i : Int))]) (fun i => x.home.length - i) 0 ⟨Nat.zero_le _, rfl⟩ alT (fun w hs => Aj hs) ?_
  rintro i ⟨hi, hal⟩
  refine Gm ?_
  refine Ga1 ?_
  refine cdx (p := ?p1) (hd := ?d1) ?e1 ?_ ?_; case e1 => exact rfl
  ·
   intro ht12
   refine Gm ?_
   refine Gb2 ?_
   refine Gb2 ?_
   refine Ga4 ?_
   refine Bg (γ := Nat) (fun p => p ≤ x.cores.length) (fun _ => blk b1 46 [cv, hv, fv] :: L) (fun _ => R) (fun p => [(1, bp b1 0), (3, vi (i : Int)), (4, vi (E0 (fun p => stN x i p == 2) p : Int)), (5, vi (E0 (fun p => stN x i p == 1) p : Int)), (10, vi (x.home.length : Int)), (11, vi (i : Int)), (15, cv), (16, vi (x.cores.length : Int)), (17, vi (p : Int))]) (fun p => x.cores.length - p) 0 (Nat.zero_le _) alT (fun w hs => Aj hs) ?_
   intro p hp
   have hc2 := Kw (f := fun p => stN x i p == 2) (k := p)
   have hc1 := Kw (f := fun p => stN x i p == 1) (k := p)
   refine Gm ?_
   refine Ga1 ?_
   refine cdx (p := ?p2) (hd := ?d2) ?e2 ?_ ?_; case e2 => exact rfl
   ·
    intro ht18
    refine Gl ?_
    refine F9 p (v := cv) mm (by omega) (fun hwp up honeu => ?_)
    have hln := hx.ln p (by omega)
    refine Aa ?_
    refine rn2 ?_
    refine al_ (cs := [.slice none 0 0, vi 0, vi 0, vi 0]) Try.zeroValue69 ?_; intro b7
    refine s_B (cs := Core.cells up (cor x p)) Try.sizeOf69 ?_
    refine Gl ?_
    refine Ia (x := x) (p := p) i (u := up) mm (by omega) (fun hwl => ?_)
    refine Aa ?_
    refine Gb6 ?_
    refine Ga2 ?_
    refine cdx (p := ?p3) (hd := ?d3) ?e3 ?_ ?_; case e3 => exact rfl
    ·
     intro ht27
     refine Aa ?_
     refine Ga3 ?_
     refine kp [1, 2, 3, 4, 5, 7, 10, 11, 12, 13, 14, 15, 16, 17, 18, 19, 20, 21, 22, 23, 24, 25, 26, 27, 28, 29, 30, 31, 32, 33, 34, 35] ?_
     refine Aa ?_
     refine Ga2 ?_
     refine A1 (p + 1) (by omega) (by omega) ⟨rfl, rfl, congrArg (fun z : Nat => some (vi (z : Int))) (show _ = E0 (fun p => stN x i p == 2) (p + 1) from (N8 (by simp [stN, ht27])).symm), congrArg (fun z : Nat => some (vi (z : Int))) (show _ = E0 (fun p => stN x i p == 1) (p + 1) from (Jg (by simp [stN, ht27])).symm), alT⟩ (fun w hs => Aj hs)
    ·
     intro ht27
     refine Gm ?_
     refine Ga2 ?_
     refine cdx (p := ?p4) (hd := ?d4) ?e4 ?_ ?_; case e4 => exact rfl
     ·
      intro ht31
      refine Aa ?_
      refine Ga3 ?_
      refine kp [1, 2, 3, 4, 5, 7, 10, 11, 12, 13, 14, 15, 16, 17, 18, 19, 20, 21, 22, 23, 24, 25, 26, 27, 28, 29, 30, 31, 32, 33, 34, 35] ?_
      refine Aa ?_
      refine Ga2 ?_
      refine A1 (p + 1) (by omega) (by omega) ⟨rfl, rfl, congrArg (fun z : Nat => some (vi (z : Int))) (show _ = E0 (fun p => stN x i p == 2) (p + 1) from (Jg (by simp [stN, ht27])).symm), congrArg (fun z : Nat => some (vi (z : Int))) (show _ = E0 (fun p => stN x i p == 1) (p + 1) from (N8 (by simp [stN, ht31])).symm), alT⟩ (fun w hs => Aj hs)
     ·
      intro ht31
      refine Gm ?_
      refine Ga2 ?_
      refine A1 (p + 1) (by omega) (by omega) ⟨rfl, rfl, congrArg (fun z : Nat => some (vi (z : Int))) (show _ = E0 (fun p => stN x i p == 2) (p + 1) from (Jg (by simp [stN, ht27])).symm), congrArg (fun z : Nat => some (vi (z : Int))) (show _ = E0 (fun p => stN x i p == 1) (p + 1) from (Jg (by simp [stN, ht31])).symm), alT⟩ (fun w hs => Aj hs)
   ·
    intro ht18
    refine Gl ?_
    have hpe : x.cores.length = p := by omega
    rw [← hpe]
    rcases (show (1 < (E0 (fun p => stN x i p == 2) x.cores.length : Int)) ∨ (¬ 1 < (E0 (fun p => stN x i p == 2) x.cores.length : Int) ∧ (E0 (fun p => stN x i p == 2) x.cores.length : Int) = 1 ∧ 0 < (E0 (fun p => stN x i p == 1) x.cores.length : Int)) ∨ (¬ 1 < (E0 (fun p => stN x i p == 2) x.cores.length : Int) ∧ (E0 (fun p => stN x i p == 2) x.cores.length : Int) = 1 ∧ ¬ 0 < (E0 (fun p => stN x i p == 1) x.cores.length : Int)) ∨ (¬ 1 < (E0 (fun p => stN x i p == 2) x.cores.length : Int) ∧ (E0 (fun p => stN x i p == 2) x.cores.length : Int) ≠ 1) from by omega) with hc | hc | hc | hc
    ·
     have hat : Ff x i = false := by
      unfold Ff
      generalize E0 (fun p => stN x i p == 2) x.cores.length = a at hc ⊢
      generalize E0 (fun p => stN x i p == 1) x.cores.length = b at hc ⊢
      simp; omega
     refine Aa ?_
     refine rn1 ?_
     refine ob (Ae rfl rfl (C5 (by omega))) ?_
     refine Gd8 ?_
     refine Ga1 ?_
     have er : Dd x = false := Fg (show i < x.home.length by omega) hat
     rw [er]
     exact Bm ()
    ·
     have hat : Ff x i = false := by
      unfold Ff
      generalize E0 (fun p => stN x i p == 2) x.cores.length = a at hc ⊢
      generalize E0 (fun p => stN x i p == 1) x.cores.length = b at hc ⊢
      simp; omega
     refine Aa ?_
     refine rn1 ?_
     refine ob (Ae rfl rfl (Bu (by omega))) ?_
     refine rn2 ?_
     refine gy ?_
     refine ob (Ae rfl rfl (Av (by omega))) ?_
     refine rn2 ?_
     refine gy ?_
     refine ob (Ae rfl rfl (C5 (by omega))) ?_
     refine Gd2 ?_
     refine Ga1 ?_
     have er : Dd x = false := Fg (show i < x.home.length by omega) hat
     rw [er]
     exact Bm ()
    ·
     have hat : Ff x i = true := by
      unfold Ff
      generalize E0 (fun p => stN x i p == 2) x.cores.length = a at hc ⊢
      generalize E0 (fun p => stN x i p == 1) x.cores.length = b at hc ⊢
      simp; omega
     refine Aa ?_
     refine rn1 ?_
     refine ob (Ae rfl rfl (Bu (by omega))) ?_
     refine rn2 ?_
     refine gy ?_
     refine ob (Ae rfl rfl (Av (by omega))) ?_
     refine rn2 ?_
     refine gy ?_
     refine ob (Ae rfl rfl (Bu (by omega))) ?_
     refine Gd2 ?_
     refine Ga2 ?_
     refine A1 (i + 1) ⟨by omega, Eg hal hat⟩ (by omega) alT (fun w hs => Aj hs)
    ·
     have hat : Ff x i = true := by
      unfold Ff
      generalize E0 (fun p => stN x i p == 2) x.cores.length = a at hc ⊢
      generalize E0 (fun p => stN x i p == 1) x.cores.length = b at hc ⊢
      simp; omega
     refine Aa ?_
     refine rn1 ?_
     refine ob (Ae rfl rfl (Bu (by omega))) ?_
     refine rn2 ?_
     refine gy ?_
     refine ob (Ae rfl rfl (Ak (by omega))) ?_
     refine Gd5 ?_
     refine Ga2 ?_
     refine A1 (i + 1) ⟨by omega, Eg hal hat⟩ (by omega) alT (fun w hs => Aj hs)
  ·
   intro ht12
   refine Gm ?_
   refine Ga1 ?_
   have er : Dd x = true := by unfold Dd; rw [show x.home.length = i by omega]; exact hal
   rw [er]
   exact Bm ()
end Go.Proofs.Ytofgpimoekhfaaa

/- This file proves how copies of a home's lines lie in memory, and what small functions of the program's home compute. No conditions. -/
set_option linter.unusedVariables false
set_option linter.unusedSimpArgs false
set_option maxHeartbeats 1000000
set_option maxRecDepth 8000
namespace Go.Proofs.Ytofgpimoekhfaaa
open Go
theorem Te {L : List Chunk} {R : List Fact} {w : World} {v0 : Value} {xs : List Int} (hs : St (L) R w) (h0 : sl v0 xs ∈ R) : Calls Try.prog 73 [v0].toArray w (Cg (fun v : Value => v) (fun v => row 3 v xs :: L) (fun v => R)) := by
  refine Ah Try.func73 rfl Try.ntmps73 rfl hs ?_
  clear hs
  refine Gm ?_
  refine Gb1 ?_
  refine rn1 ?_
  refine ob (Wk Try.underlying56 (Ei h0)) ?_
  refine Gl ?_
  refine Bh (b := ?b1) ?e1 ?_ ?_; case e1 => exact rfl
  ·
   intro ht4
   refine JC.nilOf ht4 h0 (fun hx => ?_)
   refine Gm ?_
   refine Ga1 ?_
   exact Bm (.slice none 0 0) (hs := fun w hs => by rw [hx]; exact Aj (hs.rowNil 3 Int))
  ·
   intro ht4
   refine Gm ?_
   refine liO ([] : List Int) D3 rfl (fun j h => Fa) ?_; intro v5
   refine rn1 ?_
   refine ap D3 (hb := fun w hs => by have := Bv h0 hs; have : maxN = 16777216 := rfl; simp; omega) (k := ?_); intro v7
   refine Ga1 ?_
   exact Bm v7
def pr (p : Prop) : Fact := ⟨fun _ => p, fun _ _ _ h => h⟩
theorem St.pr {L : List Chunk} {R : List Fact} {w : World} {p : Prop} (h : p) (hs : St L R w) : St L (pr p :: R) w := by
  obtain ⟨m, j, hd, hm, hj, hst, hr⟩ := hs
  exact ⟨m, j, hd, hm, hj, hst, fun q hq => by
    rcases List.mem_cons.1 hq with e | e
    · rw [e]; exact h
    · exact hr q e⟩
theorem pr_of {L : List Chunk} {R : List Fact} {w : World} {p : Prop} (hm : pr p ∈ R) (hs : St L R w) : p := hs.fact hm
theorem I8 {P : Program} {γ δ : Type} {f : FuncId} {args : Array Value} {w : World} {val : γ → Value} {val2 : δ → Value} {L : γ → List Chunk} {R : γ → List Fact} {L2 : δ → List Chunk} {R2 : δ → List Fact} (h : Calls P f args w (Cg val L R)) (hk : ∀ g w', St (L g) (R g) w' → ∃ d, val g = val2 d ∧ St (L2 d) (R2 d) w') : Calls P f args w (Cg val2 L2 R2) := by
 refine h.mono ?_
 rintro e w' ⟨g, rfl, hs'⟩
 obtain ⟨d, h1, h2⟩ := hk g w' hs'
 exact ⟨d, by rw [h1], h2⟩
structure EV where
 e : Entry
 u : Value
instance instEncEV : Enc EV where
 sz := 10
 rd x cs _ := cs = x.e.cells x.u ∧ x.e.wf ∧ x.u.oneCell' = true
 mono _ _ _ _ _ h := h
 len x cs _ h := by rw [h.1]; rfl
 one x cs _ h := by have := h.2.2; rw [h.1]; simp [Entry.cells, Value.oneCell'] at this ⊢; exact this
def Pb (x : EV) : Chunk := row 3 x.u x.e.last
def lastF (x : EV) : Fact := sl x.u x.e.last
theorem Lp {L : List Chunk} {w : World} : ∀ (l : List EV) {R : List Fact}, St (l.map Pb ++ L) R w → St L (l.map lastF ++ R) w
  | [], _, hs => hs
  | x :: l, R, hs => by
    have h1 : St (row 3 x.u x.e.last :: (l.map Pb ++ L)) R w := hs
    have h2 := Lp l h1.shut
    exact h2.sub .refl (fun f hf => by
      simp only [List.map_cons, List.cons_append, List.mem_append, List.mem_cons] at hf ⊢
      rcases hf with e | e | e
      · exact .inr (.inl e)
      · exact .inl e
      · exact .inr (.inr e))
theorem Qw {L : List Chunk} {R : List Fact} {w : World} {T : TypeId} {v : Value} {l : List EV} (hf : ∀ x ∈ l, lastF x ∈ R) (hs : St (row T v l :: L) R w) : St (row T v (l.map EV.e) :: L) R w := by
  obtain ⟨m, j, hd, hm, hj, ⟨m1, m2, hd', h1, h2, hc, hst⟩, hr⟩ := hs
  obtain ⟨rs, r1, r2, r3⟩ := R9 hc
  refine ⟨m, j, hd, hm, hj, ⟨m1, m2, hd', h1, h2, Sf (xs := l.map EV.e) (rs := rs) r1 (by rw [r2]; simp) (fun k e r he hkr => ?_), hst⟩, hr⟩
  rw [List.getElem?_map] at he
  obtain ⟨x, hx, hxe⟩ := Option.map_eq_some_iff.1 he
  have h3 := r3 k x r hx hkr
  refine ⟨x.u, ?_, ?_, ?_⟩
  · rw [← hxe]; exact h3.1
  · rw [← hxe]; exact hr _ (hf x (List.mem_of_getElem? hx))
  · rw [← hxe]; exact h3.2.1
theorem X9 {L : List Chunk} {R : List Fact} {w : World} {v : Value} {l : List EV} (hs : St (row 58 v l :: (l.map Pb ++ L)) R w) : St L (sl v (l.map EV.e) :: R) w := by
  have h1 : St (l.map Pb ++ (row 58 v l :: L)) R w := hs.perm List.perm_middle.symm
  have h2 := Qw (fun x hx => List.mem_append.2 (.inl (List.mem_map.2 ⟨x, hx, rfl⟩))) (Lp l h1)
  exact h2.shut.sub .refl (fun f hf => by
    rcases List.mem_cons.1 hf with e | e
    · exact List.mem_cons.2 (.inl e)
    · exact List.mem_cons.2 (.inr (List.mem_append.2 (.inr e))))
theorem W0 {L : List Chunk} {R : List Fact} {w : World} {v0 : Value} {l : List Entry} (hs : St (L) R w) (h0 : sl v0 l ∈ R) : Calls Try.prog 33 [v0].toArray w (Cg (fun g : Value × List EV => g.1) (fun g => row 58 g.1 g.2 :: (g.2.map Pb ++ L)) (fun g => pr (g.2.map EV.e = l) :: R)) := by
  have hlen := Bv h0 hs
  refine Ah Try.func33 rfl Try.ntmps33 rfl hs ?_
  clear hs
  refine Gm ?_
  refine Gb1 ?_
  refine Gb1 ?_
  refine Ga3 ?_
  refine JC.rowNil 58 EV ?_
  refine Bg (γ := Nat × Value × List EV) (fun g => g.1 ≤ l.length ∧ g.2.2.map EV.e = l.take g.1) (fun g => row 58 g.2.1 g.2.2 :: (g.2.2.map Pb ++ L)) (fun _ => R) (fun g => [(3, g.2.1), (6, v0), (7, vi (l.length : Int)), (8, vi (g.1 : Int))]) (fun g => l.length - g.1) (0, .slice none 0 0, []) ⟨Nat.zero_le _, by simp⟩ alT (fun w hs => hs) ?_
  rintro ⟨k, vs, xs⟩ ⟨hk, hx⟩
  try simp only at hk hx ⊢
  have hxl : xs.length = k := by
   have := congrArg List.length hx
   simp at this; omega
  refine Gm ?_
  refine Ga1 ?_
  refine cdx (p := ?p1) (hd := ?d1) ?e1 ?_ ?_; case e1 => exact rfl
  ·
   intro ht9
   refine Gl ?_
   refine JC.open1 (xs := l) (v := v0) k mm (by omega) (fun hwE u => ?_)
   refine JC.know (p := u.oneCell' = true) (fun w hs => isSlice.one (hs.fact (.tail _ (.head _)))) (fun honeu => ?_)
   refine Aa ?_
   refine rn2 ?_
   refine al_ (cs := zEC) Try.zeroValue58 ?_; intro b5
   refine s_B (cs := Entry.cells u (l.getD k A8)) Try.sizeOf58 ?_
   refine Gm ?_
   refine rn2 ?_
   refine Ar Try.call73 rfl (fun w hs => Te (xs := (l.getD k A8).last) hs mm) ?_; intro v14
   refine J.know (p := v14.oneCell' = true) (fun w hs => Hv .hd hs) (fun honev => ?_)
   refine rn1 ?_
   refine sc ?_
   refine Gm ?_
   refine rn2 ?_
   refine li (α := EV) [⟨(l.getD k A8), v14⟩] Rb rfl (fun j hj => ⟨⟨_, rfl, rfl, hwE, honev⟩, trivial⟩) ?_; intro v18
   refine ap Rb (hb := fun w hs => by have : maxN = 16777216 := rfl; simp only [List.length_cons, List.length_nil]; omega) (k := ?_); intro v19
   refine Gb1 ?_
   refine Ga2 ?_
   refine A1 (k + 1, v19, xs ++ [⟨(l.getD k A8), v14⟩]) ⟨by show k + 1 ≤ l.length; omega, by rw [List.map_append, hx, Hu A8 (by omega)]; rfl⟩ (by show l.length - (k + 1) < l.length - k; omega) alT (fun w hs => ?_)
   try simp only
   have h9 : St (row 58 v19 (xs ++ [⟨(l.getD k A8), v14⟩]) :: row 3 v14 (l.getD k A8).last :: (xs.map Pb ++ L)) R w := Aj hs
   refine h9.perm (.cons _ ?_)
   rw [List.map_append, List.append_assoc]
   exact List.perm_middle.symm
  ·
   intro ht9
   refine Gm ?_
   refine Ga2 ?_
   have hkl : k = l.length := by omega
   rw [hkl, List.take_length] at hx
   exact Bm (vs, xs) (hs := fun w hs => St.pr hx (Aj hs))
theorem Uz {L : List Chunk} {R : List Fact} {w : World} {v0 : Value} {l : List Entry} (hs : St (L) R w) (h0 : sl v0 l ∈ R) : Calls Try.prog 33 [v0].toArray w (Cg (fun v : Value => v) (fun _ => L) (fun v => sl v l :: R)) :=
  I8 (W0 hs h0) (fun g w' hs' => ⟨g.1, rfl, by
    have h1 : g.2.map EV.e = l := pr_of (.head _) hs'
    have h2 := X9 hs'
    rw [h1] at h2
    exact h2.sub .refl (fun f hf => by
      rcases List.mem_cons.1 hf with e | e
      · exact List.mem_cons.2 (.inl e)
      · exact List.mem_cons.2 (.inr (.tail _ e)))⟩)
end Go.Proofs.Ytofgpimoekhfaaa

/- This file proves what a keeper of the program's home says, and does. No conditions. -/
set_option linter.unusedVariables false
set_option linter.unusedSimpArgs false
set_option maxHeartbeats 1000000
set_option maxRecDepth 8000
namespace Go.Proofs.Ytofgpimoekhfaaa
open Go
section
variable {P : Program} {T : TypeId} {s k : Int}
theorem Qf (h0 : 0 ≤ s) (h1 : s < 16) (h2 : 0 ≤ k) (h3 : k < 4) (w : World) : (binOp .shr T (vi s) (vi k)).run P w = .ok (vi ((s.toNat / 2 ^ k.toNat : Nat) : Int)) w := by
 rcases (show s = 0 ∨ s = 1 ∨ s = 2 ∨ s = 3 ∨ s = 4 ∨ s = 5 ∨ s = 6 ∨ s = 7 ∨ s = 8 ∨ s = 9 ∨ s = 10 ∨ s = 11 ∨ s = 12 ∨ s = 13 ∨ s = 14 ∨ s = 15 by omega) with h | h | h | h | h | h | h | h | h | h | h | h | h | h | h | h <;> rcases (show k = 0 ∨ k = 1 ∨ k = 2 ∨ k = 3 by omega) with g | g | g | g <;> subst h <;> subst g <;> rfl
theorem Ms (h0 : 0 ≤ s) (h1 : s < 16) (h2 : 0 ≤ k) (h3 : k < 4) (w : World) : (binOp .and T (vi ((s.toNat / 2 ^ k.toNat : Nat) : Int)) (vi 1)).run P w = .ok (vi (if K6 s k then 1 else 0)) w := by
 rcases (show s = 0 ∨ s = 1 ∨ s = 2 ∨ s = 3 ∨ s = 4 ∨ s = 5 ∨ s = 6 ∨ s = 7 ∨ s = 8 ∨ s = 9 ∨ s = 10 ∨ s = 11 ∨ s = 12 ∨ s = 13 ∨ s = 14 ∨ s = 15 by omega) with h | h | h | h | h | h | h | h | h | h | h | h | h | h | h | h <;> rcases (show k = 0 ∨ k = 1 ∨ k = 2 ∨ k = 3 by omega) with g | g | g | g <;> subst h <;> subst g <;> rfl
end
end Go.Proofs.Ytofgpimoekhfaaa
