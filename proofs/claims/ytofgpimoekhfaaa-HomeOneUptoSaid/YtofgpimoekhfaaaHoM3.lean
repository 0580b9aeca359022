/- This file proves parts of what its law needs: each part is told ahead of it. No conditions. -/
import Derived.Test.YtofgpimoekhfaaaHoM2
/- This file proves how a core begins an operation, by the document's answer. No conditions. -/
set_option linter.unusedVariables false
set_option linter.unusedSimpArgs false
set_option maxHeartbeats 1000000
set_option maxRecDepth 8000
namespace Go.Proofs.Ytofgpimoekhfaaa
open Go
structure KB (c : Core) : Prop where
 n : c.lines.length ≤ 4
 v : ∀ i, i < c.lines.length → 0 ≤ (c.lines.getD i zLine).value ∧ (c.lines.getD i zLine).value ≤ 255
 w : CW c c.lines.length
theorem F5 {P : Program} {n : Nat} {Q : Exit → Act → World → Prop} {L : List Chunk} {R : List Fact} {al : List (Nat × Value)} {cd : Code} {v : Value} {c : Core} (i : Int) (hm : sl v c.lines ∈ R) (h0 : 0 ≤ i) (hi : i < c.lines.length) (k : (Ac c i).wf → JC P n cd Q L (cF v 7 i.toNat (Ac c i).cells :: R) al) : JC P n cd Q L R al := JC.open0 i.toNat hm (by omega) k
theorem Td {L : List Chunk} {R : List Fact} {w : World} {u : Value} {c : Core} {id home : Int} {q : Op} (hs : St (L) R w) (hu : sl u c.lines ∈ R) (hk : KB c) (hid : Ax id) (hhome : Ax home) (hq : q.wf) : Calls Try.prog 40 [.agg (c.cells u).toArray, vi id, vi home, .agg q.cells.toArray].toArray w (C2 (fun v : Value × Value × Value => .tuple #[.agg (Core.cells v.1 (Ar c id home q).1).toArray, v.2.1, v.2.2, vi (Ar c id home q).2.2.2]) (fun v => L) (fun v => sl v.1 (Ar c id home q).1.lines :: sl v.2.1 (Ar c id home q).2.1 :: sl v.2.2 (Ar c id home q).2.2.1 :: R)) := by
  have hlen := Bv hu hs
  have hone0 : u.oneCell' = true := isSlice.one (hs.fact hu)
  have hn4 := hk.n
  refine Au Try.func40 rfl Try.ntmps40 rfl hs ?_
  clear hs
  refine sr ?_
  refine bx ?_; intro b4
  refine bx ?_; intro b7
  refine al_ (cs := [.slice none 0 0, vi 0, vi 0, vi 0]) Try.zeroValue69 ?_; intro b8
  refine rn3 ?_
  refine nx ?_
  rcases (show (q.kind < 1) ∨ (¬ q.kind < 1 ∧ 4 < q.kind) ∨ (1 ≤ q.kind ∧ q.kind ≤ 4) from by omega) with hc | hc | hc
  ·
   refine Aa ?_
   refine rn2 ?_
   refine ob (Ah rfl rfl (C8 (by omega))) ?_
   refine rn5 ?_
   refine nx ?_
   refine cT ?_
   refine sq ?_
   refine JC.slNil Line ?_
   refine JC.slNil Msg ?_
   refine JC.slNil Done ?_
   refine Aa ?_
   refine ob (Ge (cs := [.slice none 0 0, vi 0, vi 0, vi 0]) Kg) ?_
   refine s_B Try.sizeOf69 ?_
   refine rn3 ?_
   refine nx ?_
   refine rt ?_
   have er : Ar c id home q = (Hi, [], [], 1) := by unfold Ar; rw [if_pos (by omega)]
   rw [er]
   refine Aj (.inr rfl) (fun B w hs => F2 rfl rfl rfl rfl rfl Try.isAgg69 Try.sizeOf69 pkk rfl B w hs) (fun w hs => ⟨(.slice none 0 0, .slice none 0 0, .slice none 0 0), ?_, Ag hs⟩)
   rfl
  ·
   refine Aa ?_
   refine rn2 ?_
   refine ob (Ah rfl rfl (Az (by omega))) ?_
   refine rn3 ?_
   refine gy ?_
   refine ob (Ah rfl rfl (En (by omega))) ?_
   refine rn1 ?_
   refine nx ?_
   refine cT ?_
   refine sq ?_
   refine JC.slNil Line ?_
   refine JC.slNil Msg ?_
   refine JC.slNil Done ?_
   refine Aa ?_
   refine ob (Ge (cs := [.slice none 0 0, vi 0, vi 0, vi 0]) Kg) ?_
   refine s_B Try.sizeOf69 ?_
   refine rn3 ?_
   refine nx ?_
   refine rt ?_
   have er : Ar c id home q = (Hi, [], [], 1) := by unfold Ar; rw [if_pos (by omega)]
   rw [er]
   refine Aj (.inr rfl) (fun B w hs => F2 rfl rfl rfl rfl rfl Try.isAgg69 Try.sizeOf69 pkk rfl B w hs) (fun w hs => ⟨(.slice none 0 0, .slice none 0 0, .slice none 0 0), ?_, Ag hs⟩)
   rfl
  ·
   refine Aa ?_
   refine rn2 ?_
   refine ob (Ah rfl rfl (Az (by omega))) ?_
   refine rn3 ?_
   refine gy ?_
   refine ob (Ah rfl rfl (D2 (by omega))) ?_
   refine rn1 ?_
   refine nx ?_
   refine cF_ ?_
   refine Ak ?_
   refine Ae ?_
   refine sq ?_
   rcases (show (q.line < 0) ∨ (0 ≤ q.line ∧ (c.lines.length : Int) ≤ q.line) ∨ (0 ≤ q.line ∧ q.line < (c.lines.length : Int) ∧ q.value < 0) ∨ (0 ≤ q.line ∧ q.line < (c.lines.length : Int) ∧ 255 < q.value) ∨ (0 ≤ q.line ∧ q.line < (c.lines.length : Int) ∧ 0 ≤ q.value ∧ q.value ≤ 255) from by omega) with hc | hc | hc | hc | hc
   ·
    refine Aa ?_
    refine rn2 ?_
    refine ob (Ah rfl rfl (C8 (by omega))) ?_
    refine rn18 ?_
    refine nx ?_
    refine cT ?_
    refine sq ?_
    refine JC.slNil Line ?_
    refine JC.slNil Msg ?_
    refine JC.slNil Done ?_
    refine kp [1, 2, 4, 7, 8, 9, 10, 11, 46] ?_
    refine Aa ?_
    refine ob (Ge (cs := [.slice none 0 0, vi 0, vi 0, vi 0]) Kg) ?_
    refine s_B Try.sizeOf69 ?_
    refine rn3 ?_
    refine nx ?_
    refine rt ?_
    have er : Ar c id home q = (Hi, [], [], 3) := by unfold Ar; rw [if_neg (by omega), if_pos (by omega)]
    rw [er]
    refine Aj (.inr rfl) (fun B w hs => F2 rfl rfl rfl rfl rfl Try.isAgg69 Try.sizeOf69 pkk rfl B w hs) (fun w hs => ⟨(.slice none 0 0, .slice none 0 0, .slice none 0 0), ?_, Ag hs⟩)
    rfl
   ·
    refine Aa ?_
    refine rn2 ?_
    refine ob (Ah rfl rfl (Az (by omega))) ?_
    refine rn6 ?_
    refine gy ?_
    refine ob (Ah rfl rfl (D7 (by omega))) ?_
    refine rn11 ?_
    refine nx ?_
    refine cT ?_
    refine sq ?_
    refine JC.slNil Line ?_
    refine JC.slNil Msg ?_
    refine JC.slNil Done ?_
    refine kp [1, 2, 4, 7, 8, 9, 10, 11, 46] ?_
    refine Aa ?_
    refine ob (Ge (cs := [.slice none 0 0, vi 0, vi 0, vi 0]) Kg) ?_
    refine s_B Try.sizeOf69 ?_
    refine rn3 ?_
    refine nx ?_
    refine rt ?_
    have er : Ar c id home q = (Hi, [], [], 3) := by unfold Ar; rw [if_neg (by omega), if_pos (by omega)]
    rw [er]
    refine Aj (.inr rfl) (fun B w hs => F2 rfl rfl rfl rfl rfl Try.isAgg69 Try.sizeOf69 pkk rfl B w hs) (fun w hs => ⟨(.slice none 0 0, .slice none 0 0, .slice none 0 0), ?_, Ag hs⟩)
    rfl
   ·
    refine Aa ?_
    refine rn2 ?_
    refine ob (Ah rfl rfl (Az (by omega))) ?_
    refine rn6 ?_
    refine gy ?_
    refine ob (Ah rfl rfl (Bd (by omega))) ?_
    refine rn4 ?_
    refine gy ?_
    refine ob (Ah rfl rfl (C8 (by omega))) ?_
    refine rn6 ?_
    refine nx ?_
    refine cT ?_
    refine sq ?_
    refine JC.slNil Line ?_
    refine JC.slNil Msg ?_
    refine JC.slNil Done ?_
    refine kp [1, 2, 4, 7, 8, 9, 10, 11, 46] ?_
    refine Aa ?_
    refine ob (Ge (cs := [.slice none 0 0, vi 0, vi 0, vi 0]) Kg) ?_
    refine s_B Try.sizeOf69 ?_
    refine rn3 ?_
    refine nx ?_
    refine rt ?_
    have er : Ar c id home q = (Hi, [], [], 3) := by unfold Ar; rw [if_neg (by omega), if_pos (by omega)]
    rw [er]
    refine Aj (.inr rfl) (fun B w hs => F2 rfl rfl rfl rfl rfl Try.isAgg69 Try.sizeOf69 pkk rfl B w hs) (fun w hs => ⟨(.slice none 0 0, .slice none 0 0, .slice none 0 0), ?_, Ag hs⟩)
    rfl
   ·
    refine Aa ?_
    refine rn2 ?_
    refine ob (Ah rfl rfl (Az (by omega))) ?_
    refine rn6 ?_
    refine gy ?_
    refine ob (Ah rfl rfl (Bd (by omega))) ?_
    refine rn4 ?_
    refine gy ?_
    refine ob (Ah rfl rfl (Az (by omega))) ?_
    refine rn4 ?_
    refine gy ?_
    refine ob (Ah rfl rfl (En (by omega))) ?_
    refine rn1 ?_
    refine nx ?_
    refine cT ?_
    refine sq ?_
    refine JC.slNil Line ?_
    refine JC.slNil Msg ?_
    refine JC.slNil Done ?_
    refine kp [1, 2, 4, 7, 8, 9, 10, 11, 46] ?_
    refine Aa ?_
    refine ob (Ge (cs := [.slice none 0 0, vi 0, vi 0, vi 0]) Kg) ?_
    refine s_B Try.sizeOf69 ?_
    refine rn3 ?_
    refine nx ?_
    refine rt ?_
    have er : Ar c id home q = (Hi, [], [], 3) := by unfold Ar; rw [if_neg (by omega), if_pos (by omega)]
    rw [er]
    refine Aj (.inr rfl) (fun B w hs => F2 rfl rfl rfl rfl rfl Try.isAgg69 Try.sizeOf69 pkk rfl B w hs) (fun w hs => ⟨(.slice none 0 0, .slice none 0 0, .slice none 0 0), ?_, Ag hs⟩)
    rfl
   ·
    refine Aa ?_
    refine rn2 ?_
    refine ob (Ah rfl rfl (Az (by omega))) ?_
    refine rn6 ?_
    refine gy ?_
    refine ob (Ah rfl rfl (Bd (by omega))) ?_
    refine rn4 ?_
    refine gy ?_
    refine ob (Ah rfl rfl (Az (by omega))) ?_
    refine rn4 ?_
    refine gy ?_
    refine ob (Ah rfl rfl (D2 (by omega))) ?_
    refine rn1 ?_
    refine nx ?_
    refine cF_ ?_
    refine Ak ?_
    refine Ae ?_
    refine sq ?_
    refine F5 (c := c) (v := u) q.line mm (by omega) (by omega) (fun hlw => ?_)
    refine kp [1, 2, 4, 7, 8, 9, 10, 11, 12, 47, 48, 49, 50, 51, 52] ?_
    refine Aa ?_
    refine rn6 ?_
    refine al_ (cs := zLine.cells) Try.zeroValue82 ?_; intro b12
    refine s_B (cs := (Ac c q.line).cells) Try.sizeOf82 ?_
    refine nx ?_
    rcases (show (c.wait.kind ≠ 0) ∨ (c.wait.kind = 0 ∧ 65535 ≤ (Ac c q.line).serial) ∨ (c.wait.kind = 0 ∧ (Ac c q.line).serial < 65535) from by omega) with hc | hc | hc
    ·
     refine Aa ?_
     refine rn3 ?_
     refine ob (Ah rfl rfl (C0 (by omega))) ?_
     refine rn5 ?_
     refine nx ?_
     refine cT ?_
     refine sq ?_
     refine JC.slNil Line ?_
     refine JC.slNil Msg ?_
     refine JC.slNil Done ?_
     refine Aa ?_
     refine ob (Ge (cs := [.slice none 0 0, vi 0, vi 0, vi 0]) Kg) ?_
     refine s_B Try.sizeOf69 ?_
     refine rn3 ?_
     refine nx ?_
     refine rt ?_
     have er : Ar c id home q = (Hi, [], [], 8) := by unfold Ar; rw [if_neg (by omega), if_neg (by omega), if_pos (by omega)]
     rw [er]
     refine Aj (.inr rfl) (fun B w hs => F2 rfl rfl rfl rfl rfl Try.isAgg69 Try.sizeOf69 pkk rfl B w hs) (fun w hs => ⟨(.slice none 0 0, .slice none 0 0, .slice none 0 0), ?_, Ag hs⟩)
     rfl
    ·
     refine Aa ?_
     refine rn3 ?_
     refine ob (Ah rfl rfl (Bu (by omega))) ?_
     refine rn3 ?_
     refine gy ?_
     refine ob (Ah rfl rfl (D7 (by omega))) ?_
     refine rn1 ?_
     refine nx ?_
     refine cT ?_
     refine sq ?_
     refine JC.slNil Line ?_
     refine JC.slNil Msg ?_
     refine JC.slNil Done ?_
     refine Aa ?_
     refine ob (Ge (cs := [.slice none 0 0, vi 0, vi 0, vi 0]) Kg) ?_
     refine s_B Try.sizeOf69 ?_
     refine rn3 ?_
     refine nx ?_
     refine rt ?_
     have er : Ar c id home q = (Hi, [], [], 8) := by unfold Ar; rw [if_neg (by omega), if_neg (by omega), if_pos (by omega)]
     rw [er]
     refine Aj (.inr rfl) (fun B w hs => F2 rfl rfl rfl rfl rfl Try.isAgg69 Try.sizeOf69 pkk rfl B w hs) (fun w hs => ⟨(.slice none 0 0, .slice none 0 0, .slice none 0 0), ?_, Ag hs⟩)
     rfl
    ·
     refine Aa ?_
     refine rn3 ?_
     refine ob (Ah rfl rfl (Bu (by omega))) ?_
     refine rn3 ?_
     refine gy ?_
     refine ob (Ah rfl rfl (Bd (by omega))) ?_
     refine rn1 ?_
     refine nx ?_
     refine cF_ ?_
     refine Ak ?_
     refine Ae ?_
     refine sr ?_
     refine rn1 ?_
     refine nr ?_
     refine rn2 ?_
     refine nx ?_
     refine Av ?_
     refine sr ?_
     refine rn2 ?_
     refine nx ?_
     refine cdx (p := ?p1) (hd := ?d1) ?e1 ?_ ?_; case e1 => exact rfl
     ·
      intro ht68
      refine sr ?_
      refine rn3 ?_
      refine nx ?_
      refine cdx (p := ?p2) (hd := ?d2) ?e2 ?_ ?_; case e2 => exact rfl
      ·
       intro ht72
       refine Aa ?_
       refine rn1 ?_
       refine J.nil ?_
       refine As ?_
       refine Ae ?_
       refine sr ?_
       refine rn2 ?_
       refine nx ?_
       refine cTp (p := (3 : Int) ≠ 0) (by decide) ?_
       refine sr ?_
       refine rn3 ?_
       refine ob (E7 (by exact rfl) (by exact rfl) (by unfold Line.wf Ax at hlw; omega) (by unfold Line.wf Ax at hlw; omega)) ?_
       refine rn1 ?_
       refine sc ?_
       refine rn1 ?_
       refine sc ?_
       refine nx ?_
       refine kp [1, 2, 4, 7, 8, 9, 10, 11, 12, 13, 91, 92] ?_
       refine Aa ?_
       refine rn2 ?_
       refine nx ?_
       refine cTp (p := (3 : Int) = 3) (by decide) ?_
       refine Aa ?_
       refine rn1 ?_
       refine sc ?_
       refine nr ?_
       refine rn4 ?_
       have hXw : ({ (Ac c q.line) with state := 3, want := 3, serial := (Ac c q.line).serial + 1 } : Line).wf := by unfold Line.wf Ax at hlw ⊢; simp only; omega
       refine A1 Try.call77 rfl (fun w hs => Bn (l := { (Ac c q.line) with state := 3, want := 3, serial := (Ac c q.line).serial + 1 }) hs mm hXw (by omega)) ?_; intro v98
       refine J.know (p := v98.oneCell' = true) (fun w hs => isSlice.one (hs.fact (List.Mem.head _))) (fun hone98 => ?_)
       refine al_ (cs := [.slice none 0 0, vi 0, vi 0, vi 0]) Try.zeroValue69 ?_; intro b14
       refine s_B (cs := [v98, vi c.wait.kind, vi c.wait.line, vi c.wait.value]) Try.sizeOf69 ?_
       refine nr ?_
       refine rn2 ?_
       refine s_N [v98, vi q.kind, vi q.line, vi q.value] Try.sizeOf66 ?_
       refine nx ?_
       refine JC.slNil Done ?_
       refine JC.conseq (L' := blk b8 69 [.slice none 0 0, vi 0, vi 0, vi 0] :: blk b14 69 [v98, vi q.kind, vi q.line, vi q.value] :: blk b12 82 [vi 3, vi (Ac c q.line).value, vi 3, vi ((Ac c q.line).serial + 1), vi (Ac c q.line).seen, vi (Ac c q.line).gave, vi (Ac c q.line).given] :: blk b7 66 q.cells :: L) (fun w hs => Ag hs) ?_
       refine Al Ay (by kernel_rfl) (by kernel_rfl) (fun ρ S => blk b8 69 (bif S 8 then [v98, vi q.kind, vi q.line, vi q.value] else [.slice none 0 0, vi 0, vi 0, vi 0]) :: blk b14 69 [v98, vi q.kind, vi q.line, vi q.value] :: blk b12 82 [vi 3, vi (Ac c q.line).value, vi 3, vi ((Ac c q.line).serial + 1), vi (Ac c q.line).seen, vi (Ac c q.line).gave, vi (Ac c q.line).given] :: blk b7 66 q.cells :: L) (fun _ => rfl) ?_
       refine dn6 ?_
       refine Cb (γ := Unit) (val := fun _ => .agg (Dd ({ (Ac c q.line) with state := 3, want := 3, serial := (Ac c q.line).serial + 1 }) id home q.line).cells.toArray) (F := fun _ => []) Try.call78 (fun _ => rfl) (fun ρ L R w hd hs => Lj (l := { (Ac c q.line) with state := 3, want := 3, serial := (Ac c q.line).serial + 1 }) (id := id) (home := home) (i := q.line) hs ) (fun _ _ _ _ _ => rfl) ?_
       refine Fl ([Dd ({ (Ac c q.line) with state := 3, want := 3, serial := (Ac c q.line).serial + 1 }) id home q.line] : List Msg) Em rfl (fun _ => rfl) rfl (fun _ => rfl) rfl rfl (fun ρ R hd => Gy (Pk hXw hid hhome hq.2.1)) (fun _ _ _ _ _ => rfl) ?_
       refine Be (T0 := 69) (f := 0) (vs := fun ρ => [.slice none 0 0, vi 0, vi 0, vi 0]) (us := fun ρ => [v98, vi q.kind, vi q.line, vi q.value]) (sz := 4) (fun ρ => b8) Try.sizeOf69 (fun _ => rfl) (fun _ => rfl) (fun _ => rfl) (fun _ => rfl) (fun _ _ _ _ _ _ => by repeat (first | exact Co | refine Bi (by first | exact rfl | assumption) ?_)) (fun _ => rfl) (fun ρ g S hS hB hA => ?_) ?_
       ·
        have ui : upS S 8 8 = true := rfl
        simp only [ui, hS, cond_true, cond_false]
        exact Pos.ex (by repeat (first | exact .hd | exact .hc | apply Pos.tl | apply Pos.ap))
       refine e_p (v := fun ρ => (Gh.dec (γ := Value) (ρ 7))) (fun _ _ => Cz) (Ind.gh (h := fun g => ((Gh.dec (γ := Value) g) : Value)) 7 0 rfl) (fun _ _ _ _ _ => rfl) ?_
       refine dn2 ?_
       refine Aw ?_; intro ρ; simp only [Ao, facts, Bb, List.append_nil, List.nil_append, List.cons_append]
       refine JX.conseq (L' := blk b8 69 [v98, vi q.kind, vi q.line, vi q.value] :: blk b14 69 [v98, vi q.kind, vi q.line, vi q.value] :: blk b12 82 [vi 3, vi (Ac c q.line).value, vi 3, vi ((Ac c q.line).serial + 1), vi (Ac c q.line).seen, vi (Ac c q.line).gave, vi (Ac c q.line).given] :: blk b7 66 q.cells :: L) (fun w hs => hs) ?_
       generalize (Gh.dec (γ := Value) (ρ 7)) = v108
       refine Ae ?_
       refine rt ?_
       have eb : Bf (Ac c q.line) q = { (Ac c q.line) with state := 3, want := 3, serial := (Ac c q.line).serial + 1 } := by unfold Bf; rw [if_pos (by omega), if_pos (by omega)]
       have ed : Bm (Ac c q.line) q = false := by unfold Bm; split <;> simp <;> omega
       have er : Ar c id home q = (A6 c q.line ({ (Ac c q.line) with state := 3, want := 3, serial := (Ac c q.line).serial + 1 }) q, [Dd ({ (Ac c q.line) with state := 3, want := 3, serial := (Ac c q.line).serial + 1 }) id home q.line], [], 0) := by unfold Ar; rw [if_neg (by omega), if_neg (by omega), if_neg (by omega), ed, if_neg (by decide), eb]
       rw [er]
       refine Aj (.inr rfl) (fun B w hs => F2 rfl rfl rfl rfl rfl Try.isAgg69 Try.sizeOf69 pkk rfl B w hs) (fun w hs => ⟨(v98, v108, .slice none 0 0), ?_, Ag hs⟩)
       rfl
      ·
       intro ht72
       refine Ak ?_
       refine As ?_
       refine Ae ?_
       refine sr ?_
       refine rn2 ?_
       refine nx ?_
       refine cFp (p := (0 : Int) ≠ 0) (by decide) ?_
       refine Ak ?_
       refine Ae ?_
       refine sr ?_
       refine rn1 ?_
       refine nr ?_
       refine rn3 ?_
       refine nx ?_
       refine cdx (p := ?p3) (hd := ?d3) ?e3 ?_ ?_; case e3 => exact rfl
       ·
        intro ht111
        refine kp [1, 4, 7, 8, 9, 10, 11, 12, 15, 112, 113] ?_
        refine Aa ?_
        refine rn1 ?_
        refine sc ?_
        refine rn1 ?_
        refine sc ?_
        refine nx ?_
        have hXw : ({ (Ac c q.line) with state := 0, value := 0 } : Line).wf := by unfold Line.wf Ax at hlw ⊢; simp only; omega
        have hvb := E3 (v := (Ac c q.line).value) (o := q) (hk.v q.line.toNat (by omega)) (by omega)
        refine JC.slNil Msg ?_
        refine JC.conseq (L' := blk b8 69 [.slice none 0 0, vi 0, vi 0, vi 0] :: blk b4 69 (c.cells u) :: blk b12 82 [vi 0, vi 0, vi (Ac c q.line).want, vi (Ac c q.line).serial, vi (Ac c q.line).seen, vi (Ac c q.line).gave, vi (Ac c q.line).given] :: blk b7 66 q.cells :: L) (fun w hs => Ag hs) ?_
        refine Al Ay (by kernel_rfl) (by kernel_rfl) (fun ρ S => blk b8 69 (bif S 10 then [Gh.dec (γ := Value) (ρ 4), vi c.wait.kind, vi c.wait.line, vi c.wait.value] else [.slice none 0 0, vi 0, vi 0, vi 0]) :: blk b4 69 (c.cells u) :: blk b12 82 [vi 0, vi 0, vi (Ac c q.line).want, vi (Ac c q.line).serial, vi (Ac c q.line).seen, vi (Ac c q.line).gave, vi (Ac c q.line).given] :: blk b7 66 q.cells :: L) (fun _ => rfl) ?_
        refine dn4 ?_
        refine Cb (γ := Value) (val := fun v => .agg (Core.cells v (A6 c q.line ({ (Ac c q.line) with state := 0, value := 0 }) c.wait)).toArray) (F := fun v => [sl v (c.lines.set q.line.toNat ({ (Ac c q.line) with state := 0, value := 0 }))]) Try.call77 (fun _ => rfl) (fun ρ L R w hd hs => Bn (l := { (Ac c q.line) with state := 0, value := 0 }) hs (hd.base mm) hXw (by omega)) (fun ρ g S hS hA => by have u10 : upS S 4 10 = S 10 := rfl; have h10 : S 10 = false := hA 10 ⟨0, rfl⟩; simp only [u10, h10, cond_false]) ?_
        refine dn4 ?_
        refine Fl ([⟨id, q, 0⟩] : List Done) I2 rfl (fun _ => rfl) rfl (fun _ => rfl) rfl rfl (fun ρ R hd => Gl ⟨hid, hq.1, hq.2.1, hq.2.2, by unfold Ax; simp only; omega⟩) (fun _ _ _ _ _ => rfl) ?_
        refine Be (T0 := 69) (f := 0) (vs := fun ρ => [.slice none 0 0, vi 0, vi 0, vi 0]) (us := fun ρ => [Gh.dec (γ := Value) (ρ 4), vi c.wait.kind, vi c.wait.line, vi c.wait.value]) (sz := 4) (fun ρ => b8) Try.sizeOf69 (fun _ => rfl) (fun _ => rfl) (fun _ => rfl) (fun _ => rfl) (fun ρ R w L' hd hs => Bi (isSlice.one (hs.fact (hd.dep (it := ⟨4, _, _, _, _⟩) (by repeat (first | exact List.Mem.head _ | refine List.Mem.tail _ ?_)) ⟨9, rfl⟩ (List.Mem.head _)))) (by repeat (first | exact Co | refine Bi rfl ?_))) (fun _ => rfl) (fun ρ g S hS hB hA => ?_) ?_
        ·
         have ui : upS S 10 10 = true := rfl; have r4 : Rho.set ρ 10 g 4 = ρ 4 := rfl
         simp only [ui, hS, r4, cond_true, cond_false]
         exact Pos.ex (by repeat (first | exact .hd | exact .hc | apply Pos.tl | apply Pos.ap))
        refine dn1 ?_
        refine e_p (v := fun ρ => (Gh.dec (γ := Value) (ρ 9))) (fun _ _ => Cz) (Ind.gh (h := fun g => ((Gh.dec (γ := Value) g) : Value)) 9 0 rfl) (fun _ _ _ _ _ => rfl) ?_
        refine dn1 ?_
        refine Aw ?_; intro ρ; simp only [Ao, facts, Bb, List.append_nil, List.nil_append, List.cons_append]
        refine JX.conseq (L' := blk b8 69 [Gh.dec (γ := Value) (ρ 4), vi c.wait.kind, vi c.wait.line, vi c.wait.value] :: blk b4 69 (c.cells u) :: blk b12 82 [vi 0, vi 0, vi (Ac c q.line).want, vi (Ac c q.line).serial, vi (Ac c q.line).seen, vi (Ac c q.line).gave, vi (Ac c q.line).given] :: blk b7 66 q.cells :: L) (fun w hs => hs) ?_
        generalize (Gh.dec (γ := Value) (ρ 4)) = v126
        generalize (Gh.dec (γ := Value) (ρ 9)) = v131
        refine Ae ?_
        refine rt ?_
        have eb : Bf (Ac c q.line) q = { (Ac c q.line) with state := 0, value := 0 } := by unfold Bf; rw [if_pos (by omega), if_neg (by omega)]
        have ed : Bm (Ac c q.line) q = true := by unfold Bm; split <;> simp <;> omega
        have hz : c.wait = zOp := (hk.w.free (by omega)).1
        have et : Cd (Ac c q.line) q = 0 := by unfold Cd; rw [if_pos (by omega)]
        have er : Ar c id home q = (A6 c q.line ({ (Ac c q.line) with state := 0, value := 0 }) c.wait, [], [⟨id, q, 0⟩], 0) := by unfold Ar; rw [if_neg (by omega), if_neg (by omega), if_neg (by omega), ed, if_pos rfl, eb, et, hz]
        rw [er]
        refine Aj (.inr rfl) (fun B w hs => F2 rfl rfl rfl rfl rfl Try.isAgg69 Try.sizeOf69 pkk rfl B w hs) (fun w hs => ⟨(v126, .slice none 0 0, v131), ?_, Ag hs⟩)
        rfl
       ·
        intro ht111
        refine kp [1, 4, 7, 8, 9, 10, 11, 12, 15, 114, 115, 116, 117, 118, 119, 120, 121] ?_
        refine Aa ?_
        refine rn3 ?_
        refine A1 Try.call79 rfl (fun w hs => Jj (v := (Ac c q.line).value) (o := q) hs (by unfold Line.wf at hlw; exact hlw.2.1) (by omega) (by omega) (by omega)) ?_; intro _
        refine rn4 ?_
        refine sc ?_
        refine rn1 ?_
        refine nx ?_
        have hvb := E3 (v := (Ac c q.line).value) (o := q) (hk.v q.line.toNat (by omega)) (by omega)
        have hXw : ({ (Ac c q.line) with value := (A8 (Ac c q.line).value q).1 } : Line).wf := by unfold Line.wf Ax at hlw ⊢; simp only; omega
        have hvb := E3 (v := (Ac c q.line).value) (o := q) (hk.v q.line.toNat (by omega)) (by omega)
        refine JC.slNil Msg ?_
        refine JC.conseq (L' := blk b8 69 [.slice none 0 0, vi 0, vi 0, vi 0] :: blk b4 69 (c.cells u) :: blk b12 82 [vi (Ac c q.line).state, vi (A8 (Ac c q.line).value q).1, vi (Ac c q.line).want, vi (Ac c q.line).serial, vi (Ac c q.line).seen, vi (Ac c q.line).gave, vi (Ac c q.line).given] :: blk b7 66 q.cells :: L) (fun w hs => Ag hs) ?_
        refine Al Ay (by kernel_rfl) (by kernel_rfl) (fun ρ S => blk b8 69 (bif S 10 then [Gh.dec (γ := Value) (ρ 4), vi c.wait.kind, vi c.wait.line, vi c.wait.value] else [.slice none 0 0, vi 0, vi 0, vi 0]) :: blk b4 69 (c.cells u) :: blk b12 82 [vi (Ac c q.line).state, vi (A8 (Ac c q.line).value q).1, vi (Ac c q.line).want, vi (Ac c q.line).serial, vi (Ac c q.line).seen, vi (Ac c q.line).gave, vi (Ac c q.line).given] :: blk b7 66 q.cells :: L) (fun _ => rfl) ?_
        refine dn4 ?_
        refine Cb (γ := Value) (val := fun v => .agg (Core.cells v (A6 c q.line ({ (Ac c q.line) with value := (A8 (Ac c q.line).value q).1 }) c.wait)).toArray) (F := fun v => [sl v (c.lines.set q.line.toNat ({ (Ac c q.line) with value := (A8 (Ac c q.line).value q).1 }))]) Try.call77 (fun _ => rfl) (fun ρ L R w hd hs => Bn (l := { (Ac c q.line) with value := (A8 (Ac c q.line).value q).1 }) hs (hd.base mm) hXw (by omega)) (fun ρ g S hS hA => by have u10 : upS S 4 10 = S 10 := rfl; have h10 : S 10 = false := hA 10 ⟨0, rfl⟩; simp only [u10, h10, cond_false]) ?_
        refine dn4 ?_
        refine Fl ([⟨id, q, (A8 (Ac c q.line).value q).2⟩] : List Done) I2 rfl (fun _ => rfl) rfl (fun _ => rfl) rfl rfl (fun ρ R hd => Gl ⟨hid, hq.1, hq.2.1, hq.2.2, by unfold Ax; simp only; omega⟩) (fun _ _ _ _ _ => rfl) ?_
        refine Be (T0 := 69) (f := 0) (vs := fun ρ => [.slice none 0 0, vi 0, vi 0, vi 0]) (us := fun ρ => [Gh.dec (γ := Value) (ρ 4), vi c.wait.kind, vi c.wait.line, vi c.wait.value]) (sz := 4) (fun ρ => b8) Try.sizeOf69 (fun _ => rfl) (fun _ => rfl) (fun _ => rfl) (fun _ => rfl) (fun ρ R w L' hd hs => Bi (isSlice.one (hs.fact (hd.dep (it := ⟨4, _, _, _, _⟩) (by repeat (first | exact List.Mem.head _ | refine List.Mem.tail _ ?_)) ⟨9, rfl⟩ (List.Mem.head _)))) (by repeat (first | exact Co | refine Bi rfl ?_))) (fun _ => rfl) (fun ρ g S hS hB hA => ?_) ?_
        ·
         have ui : upS S 10 10 = true := rfl; have r4 : Rho.set ρ 10 g 4 = ρ 4 := rfl
         simp only [ui, hS, r4, cond_true, cond_false]
         exact Pos.ex (by repeat (first | exact .hd | exact .hc | apply Pos.tl | apply Pos.ap))
        refine dn1 ?_
        refine e_p (v := fun ρ => (Gh.dec (γ := Value) (ρ 9))) (fun _ _ => Cz) (Ind.gh (h := fun g => ((Gh.dec (γ := Value) g) : Value)) 9 0 rfl) (fun _ _ _ _ _ => rfl) ?_
        refine dn1 ?_
        refine Aw ?_; intro ρ; simp only [Ao, facts, Bb, List.append_nil, List.nil_append, List.cons_append]
        refine JX.conseq (L' := blk b8 69 [Gh.dec (γ := Value) (ρ 4), vi c.wait.kind, vi c.wait.line, vi c.wait.value] :: blk b4 69 (c.cells u) :: blk b12 82 [vi (Ac c q.line).state, vi (A8 (Ac c q.line).value q).1, vi (Ac c q.line).want, vi (Ac c q.line).serial, vi (Ac c q.line).seen, vi (Ac c q.line).gave, vi (Ac c q.line).given] :: blk b7 66 q.cells :: L) (fun w hs => hs) ?_
        generalize (Gh.dec (γ := Value) (ρ 4)) = v126
        generalize (Gh.dec (γ := Value) (ρ 9)) = v131
        refine Ae ?_
        refine rt ?_
        have eb : Bf (Ac c q.line) q = { (Ac c q.line) with value := (A8 (Ac c q.line).value q).1 } := by unfold Bf; rw [if_neg (by omega), if_pos (by omega)]
        have ed : Bm (Ac c q.line) q = true := by unfold Bm; split <;> simp <;> omega
        have hz : c.wait = zOp := (hk.w.free (by omega)).1
        have et : Cd (Ac c q.line) q = (A8 (Ac c q.line).value q).2 := by unfold Cd; rw [if_neg (by omega)]
        have er : Ar c id home q = (A6 c q.line ({ (Ac c q.line) with value := (A8 (Ac c q.line).value q).1 }) c.wait, [], [⟨id, q, (A8 (Ac c q.line).value q).2⟩], 0) := by unfold Ar; rw [if_neg (by omega), if_neg (by omega), if_neg (by omega), ed, if_pos rfl, eb, et, hz]
        rw [er]
        refine Aj (.inr rfl) (fun B w hs => F2 rfl rfl rfl rfl rfl Try.isAgg69 Try.sizeOf69 pkk rfl B w hs) (fun w hs => ⟨(v126, .slice none 0 0, v131), ?_, Ag hs⟩)
        rfl
     ·
      intro ht68
      refine sr ?_
      refine rn2 ?_
      refine nx ?_
      refine cdx (p := ?p4) (hd := ?d4) ?e4 ?_ ?_; case e4 => exact rfl
      ·
       intro ht73
       refine sr ?_
       refine rn4 ?_
       refine jgx (t := 78) (p := ?p5) (hd := ?d5) ?e5 ?_ ?_; case e5 => exact rfl
       ·
        intro ht78
        refine rn4 ?_
        refine nx ?_
        refine cdx (p := ?p6) (hd := ?d6) ?e6 ?_ ?_; case e6 => exact rfl
        ·
         intro ht82
         refine kp [1, 2, 4, 7, 8, 9, 10, 11, 12, 13] ?_
         refine Aa ?_
         refine rn1 ?_
         refine J.nil ?_
         refine As ?_
         refine Ae ?_
         refine sr ?_
         refine rn2 ?_
         refine nx ?_
         refine cTp (p := (1 : Int) ≠ 0) (by decide) ?_
         refine sr ?_
         refine rn3 ?_
         refine ob (E7 (by exact rfl) (by exact rfl) (by unfold Line.wf Ax at hlw; omega) (by unfold Line.wf Ax at hlw; omega)) ?_
         refine rn1 ?_
         refine sc ?_
         refine rn1 ?_
         refine sc ?_
         refine nr ?_
         refine rn2 ?_
         refine nx ?_
         refine cFp (p := (1 : Int) = 3) (by decide) ?_
         refine Ak ?_
         refine Ae ?_
         refine sr ?_
         refine rn4 ?_
         have hXw : ({ (Ac c q.line) with want := 1, serial := (Ac c q.line).serial + 1 } : Line).wf := by unfold Line.wf Ax at hlw ⊢; simp only; omega
         refine A1 Try.call77 rfl (fun w hs => Bn (l := { (Ac c q.line) with want := 1, serial := (Ac c q.line).serial + 1 }) hs mm hXw (by omega)) ?_; intro v98
         refine J.know (p := v98.oneCell' = true) (fun w hs => isSlice.one (hs.fact (List.Mem.head _))) (fun hone98 => ?_)
         refine al_ (cs := [.slice none 0 0, vi 0, vi 0, vi 0]) Try.zeroValue69 ?_; intro b14
         refine s_B (cs := [v98, vi c.wait.kind, vi c.wait.line, vi c.wait.value]) Try.sizeOf69 ?_
         refine nr ?_
         refine rn2 ?_
         refine s_N [v98, vi q.kind, vi q.line, vi q.value] Try.sizeOf66 ?_
         refine nx ?_
         refine JC.slNil Done ?_
         refine JC.conseq (L' := blk b8 69 [.slice none 0 0, vi 0, vi 0, vi 0] :: blk b14 69 [v98, vi q.kind, vi q.line, vi q.value] :: blk b12 82 [vi (Ac c q.line).state, vi (Ac c q.line).value, vi 1, vi ((Ac c q.line).serial + 1), vi (Ac c q.line).seen, vi (Ac c q.line).gave, vi (Ac c q.line).given] :: blk b7 66 q.cells :: L) (fun w hs => Ag hs) ?_
         refine Al Ay (by kernel_rfl) (by kernel_rfl) (fun ρ S => blk b8 69 (bif S 8 then [v98, vi q.kind, vi q.line, vi q.value] else [.slice none 0 0, vi 0, vi 0, vi 0]) :: blk b14 69 [v98, vi q.kind, vi q.line, vi q.value] :: blk b12 82 [vi (Ac c q.line).state, vi (Ac c q.line).value, vi 1, vi ((Ac c q.line).serial + 1), vi (Ac c q.line).seen, vi (Ac c q.line).gave, vi (Ac c q.line).given] :: blk b7 66 q.cells :: L) (fun _ => rfl) ?_
         refine dn6 ?_
         refine Cb (γ := Unit) (val := fun _ => .agg (Dd ({ (Ac c q.line) with want := 1, serial := (Ac c q.line).serial + 1 }) id home q.line).cells.toArray) (F := fun _ => []) Try.call78 (fun _ => rfl) (fun ρ L R w hd hs => Lj (l := { (Ac c q.line) with want := 1, serial := (Ac c q.line).serial + 1 }) (id := id) (home := home) (i := q.line) hs ) (fun _ _ _ _ _ => rfl) ?_
         refine Fl ([Dd ({ (Ac c q.line) with want := 1, serial := (Ac c q.line).serial + 1 }) id home q.line] : List Msg) Em rfl (fun _ => rfl) rfl (fun _ => rfl) rfl rfl (fun ρ R hd => Gy (Pk hXw hid hhome hq.2.1)) (fun _ _ _ _ _ => rfl) ?_
         refine Be (T0 := 69) (f := 0) (vs := fun ρ => [.slice none 0 0, vi 0, vi 0, vi 0]) (us := fun ρ => [v98, vi q.kind, vi q.line, vi q.value]) (sz := 4) (fun ρ => b8) Try.sizeOf69 (fun _ => rfl) (fun _ => rfl) (fun _ => rfl) (fun _ => rfl) (fun _ _ _ _ _ _ => by repeat (first | exact Co | refine Bi (by first | exact rfl | assumption) ?_)) (fun _ => rfl) (fun ρ g S hS hB hA => ?_) ?_
         ·
          have ui : upS S 8 8 = true := rfl
          simp only [ui, hS, cond_true, cond_false]
          exact Pos.ex (by repeat (first | exact .hd | exact .hc | apply Pos.tl | apply Pos.ap))
         refine e_p (v := fun ρ => (Gh.dec (γ := Value) (ρ 7))) (fun _ _ => Cz) (Ind.gh (h := fun g => ((Gh.dec (γ := Value) g) : Value)) 7 0 rfl) (fun _ _ _ _ _ => rfl) ?_
         refine dn2 ?_
         refine Aw ?_; intro ρ; simp only [Ao, facts, Bb, List.append_nil, List.nil_append, List.cons_append]
         refine JX.conseq (L' := blk b8 69 [v98, vi q.kind, vi q.line, vi q.value] :: blk b14 69 [v98, vi q.kind, vi q.line, vi q.value] :: blk b12 82 [vi (Ac c q.line).state, vi (Ac c q.line).value, vi 1, vi ((Ac c q.line).serial + 1), vi (Ac c q.line).seen, vi (Ac c q.line).gave, vi (Ac c q.line).given] :: blk b7 66 q.cells :: L) (fun w hs => hs) ?_
         generalize (Gh.dec (γ := Value) (ρ 7)) = v108
         refine Ae ?_
         refine rt ?_
         have eb : Bf (Ac c q.line) q = { (Ac c q.line) with want := 1, serial := (Ac c q.line).serial + 1 } := by unfold Bf; rw [if_neg (by omega), if_neg (by omega), if_pos (by omega)]
         have ed : Bm (Ac c q.line) q = false := by unfold Bm; split <;> simp <;> omega
         have er : Ar c id home q = (A6 c q.line ({ (Ac c q.line) with want := 1, serial := (Ac c q.line).serial + 1 }) q, [Dd ({ (Ac c q.line) with want := 1, serial := (Ac c q.line).serial + 1 }) id home q.line], [], 0) := by unfold Ar; rw [if_neg (by omega), if_neg (by omega), if_neg (by omega), ed, if_neg (by decide), eb]
         rw [er]
         refine Aj (.inr rfl) (fun B w hs => F2 rfl rfl rfl rfl rfl Try.isAgg69 Try.sizeOf69 pkk rfl B w hs) (fun w hs => ⟨(v98, v108, .slice none 0 0), ?_, Ag hs⟩)
         rfl
        ·
         intro ht82
         refine Ak ?_
         refine As ?_
         refine Ae ?_
         refine sq ?_
         refine kp [1, 2, 4, 7, 8, 9, 10, 11, 12, 13, 83, 84] ?_
         refine Aa ?_
         refine rn2 ?_
         refine nx ?_
         refine cFp (p := (0 : Int) ≠ 0) (by decide) ?_
         refine Ak ?_
         refine Ae ?_
         refine sr ?_
         refine rn1 ?_
         refine nr ?_
         refine rn3 ?_
         refine nx ?_
         refine cdx (p := ?p7) (hd := ?d7) ?e7 ?_ ?_; case e7 => exact rfl
         ·
          intro ht111
          refine Aa ?_
          refine rn1 ?_
          refine sc ?_
          refine rn1 ?_
          refine sc ?_
          refine nx ?_
          have hXw : ({ (Ac c q.line) with state := 0, value := 0 } : Line).wf := by unfold Line.wf Ax at hlw ⊢; simp only; omega
          have hvb := E3 (v := (Ac c q.line).value) (o := q) (hk.v q.line.toNat (by omega)) (by omega)
          refine JC.slNil Msg ?_
          refine JC.conseq (L' := blk b8 69 [.slice none 0 0, vi 0, vi 0, vi 0] :: blk b4 69 (c.cells u) :: blk b12 82 [vi 0, vi 0, vi (Ac c q.line).want, vi (Ac c q.line).serial, vi (Ac c q.line).seen, vi (Ac c q.line).gave, vi (Ac c q.line).given] :: blk b7 66 q.cells :: L) (fun w hs => Ag hs) ?_
          refine Al Ay (by kernel_rfl) (by kernel_rfl) (fun ρ S => blk b8 69 (bif S 10 then [Gh.dec (γ := Value) (ρ 4), vi c.wait.kind, vi c.wait.line, vi c.wait.value] else [.slice none 0 0, vi 0, vi 0, vi 0]) :: blk b4 69 (c.cells u) :: blk b12 82 [vi 0, vi 0, vi (Ac c q.line).want, vi (Ac c q.line).serial, vi (Ac c q.line).seen, vi (Ac c q.line).gave, vi (Ac c q.line).given] :: blk b7 66 q.cells :: L) (fun _ => rfl) ?_
          refine dn4 ?_
          refine Cb (γ := Value) (val := fun v => .agg (Core.cells v (A6 c q.line ({ (Ac c q.line) with state := 0, value := 0 }) c.wait)).toArray) (F := fun v => [sl v (c.lines.set q.line.toNat ({ (Ac c q.line) with state := 0, value := 0 }))]) Try.call77 (fun _ => rfl) (fun ρ L R w hd hs => Bn (l := { (Ac c q.line) with state := 0, value := 0 }) hs (hd.base mm) hXw (by omega)) (fun ρ g S hS hA => by have u10 : upS S 4 10 = S 10 := rfl; have h10 : S 10 = false := hA 10 ⟨0, rfl⟩; simp only [u10, h10, cond_false]) ?_
          refine dn4 ?_
          refine Fl ([⟨id, q, 0⟩] : List Done) I2 rfl (fun _ => rfl) rfl (fun _ => rfl) rfl rfl (fun ρ R hd => Gl ⟨hid, hq.1, hq.2.1, hq.2.2, by unfold Ax; simp only; omega⟩) (fun _ _ _ _ _ => rfl) ?_
          refine Be (T0 := 69) (f := 0) (vs := fun ρ => [.slice none 0 0, vi 0, vi 0, vi 0]) (us := fun ρ => [Gh.dec (γ := Value) (ρ 4), vi c.wait.kind, vi c.wait.line, vi c.wait.value]) (sz := 4) (fun ρ => b8) Try.sizeOf69 (fun _ => rfl) (fun _ => rfl) (fun _ => rfl) (fun _ => rfl) (fun ρ R w L' hd hs => Bi (isSlice.one (hs.fact (hd.dep (it := ⟨4, _, _, _, _⟩) (by repeat (first | exact List.Mem.head _ | refine List.Mem.tail _ ?_)) ⟨9, rfl⟩ (List.Mem.head _)))) (by repeat (first | exact Co | refine Bi rfl ?_))) (fun _ => rfl) (fun ρ g S hS hB hA => ?_) ?_
          ·
           have ui : upS S 10 10 = true := rfl; have r4 : Rho.set ρ 10 g 4 = ρ 4 := rfl
           simp only [ui, hS, r4, cond_true, cond_false]
           exact Pos.ex (by repeat (first | exact .hd | exact .hc | apply Pos.tl | apply Pos.ap))
          refine dn1 ?_
          refine e_p (v := fun ρ => (Gh.dec (γ := Value) (ρ 9))) (fun _ _ => Cz) (Ind.gh (h := fun g => ((Gh.dec (γ := Value) g) : Value)) 9 0 rfl) (fun _ _ _ _ _ => rfl) ?_
          refine dn1 ?_
          refine Aw ?_; intro ρ; simp only [Ao, facts, Bb, List.append_nil, List.nil_append, List.cons_append]
          refine JX.conseq (L' := blk b8 69 [Gh.dec (γ := Value) (ρ 4), vi c.wait.kind, vi c.wait.line, vi c.wait.value] :: blk b4 69 (c.cells u) :: blk b12 82 [vi 0, vi 0, vi (Ac c q.line).want, vi (Ac c q.line).serial, vi (Ac c q.line).seen, vi (Ac c q.line).gave, vi (Ac c q.line).given] :: blk b7 66 q.cells :: L) (fun w hs => hs) ?_
          generalize (Gh.dec (γ := Value) (ρ 4)) = v126
          generalize (Gh.dec (γ := Value) (ρ 9)) = v131
          refine Ae ?_
          refine rt ?_
          have eb : Bf (Ac c q.line) q = { (Ac c q.line) with state := 0, value := 0 } := by unfold Bf; rw [if_pos (by omega), if_neg (by omega)]
          have ed : Bm (Ac c q.line) q = true := by unfold Bm; split <;> simp <;> omega
          have hz : c.wait = zOp := (hk.w.free (by omega)).1
          have et : Cd (Ac c q.line) q = 0 := by unfold Cd; rw [if_pos (by omega)]
          have er : Ar c id home q = (A6 c q.line ({ (Ac c q.line) with state := 0, value := 0 }) c.wait, [], [⟨id, q, 0⟩], 0) := by unfold Ar; rw [if_neg (by omega), if_neg (by omega), if_neg (by omega), ed, if_pos rfl, eb, et, hz]
          rw [er]
          refine Aj (.inr rfl) (fun B w hs => F2 rfl rfl rfl rfl rfl Try.isAgg69 Try.sizeOf69 pkk rfl B w hs) (fun w hs => ⟨(v126, .slice none 0 0, v131), ?_, Ag hs⟩)
          rfl
         ·
          intro ht111
          refine Aa ?_
          refine rn3 ?_
          refine A1 Try.call79 rfl (fun w hs => Jj (v := (Ac c q.line).value) (o := q) hs (by unfold Line.wf at hlw; exact hlw.2.1) (by omega) (by omega) (by omega)) ?_; intro _
          refine rn4 ?_
          refine sc ?_
          refine rn1 ?_
          refine nx ?_
          have hvb := E3 (v := (Ac c q.line).value) (o := q) (hk.v q.line.toNat (by omega)) (by omega)
          have hXw : ({ (Ac c q.line) with value := (A8 (Ac c q.line).value q).1 } : Line).wf := by unfold Line.wf Ax at hlw ⊢; simp only; omega
          have hvb := E3 (v := (Ac c q.line).value) (o := q) (hk.v q.line.toNat (by omega)) (by omega)
          refine JC.slNil Msg ?_
          refine JC.conseq (L' := blk b8 69 [.slice none 0 0, vi 0, vi 0, vi 0] :: blk b4 69 (c.cells u) :: blk b12 82 [vi (Ac c q.line).state, vi (A8 (Ac c q.line).value q).1, vi (Ac c q.line).want, vi (Ac c q.line).serial, vi (Ac c q.line).seen, vi (Ac c q.line).gave, vi (Ac c q.line).given] :: blk b7 66 q.cells :: L) (fun w hs => Ag hs) ?_
          refine Al Ay (by kernel_rfl) (by kernel_rfl) (fun ρ S => blk b8 69 (bif S 10 then [Gh.dec (γ := Value) (ρ 4), vi c.wait.kind, vi c.wait.line, vi c.wait.value] else [.slice none 0 0, vi 0, vi 0, vi 0]) :: blk b4 69 (c.cells u) :: blk b12 82 [vi (Ac c q.line).state, vi (A8 (Ac c q.line).value q).1, vi (Ac c q.line).want, vi (Ac c q.line).serial, vi (Ac c q.line).seen, vi (Ac c q.line).gave, vi (Ac c q.line).given] :: blk b7 66 q.cells :: L) (fun _ => rfl) ?_
          refine dn4 ?_
          refine Cb (γ := Value) (val := fun v => .agg (Core.cells v (A6 c q.line ({ (Ac c q.line) with value := (A8 (Ac c q.line).value q).1 }) c.wait)).toArray) (F := fun v => [sl v (c.lines.set q.line.toNat ({ (Ac c q.line) with value := (A8 (Ac c q.line).value q).1 }))]) Try.call77 (fun _ => rfl) (fun ρ L R w hd hs => Bn (l := { (Ac c q.line) with value := (A8 (Ac c q.line).value q).1 }) hs (hd.base mm) hXw (by omega)) (fun ρ g S hS hA => by have u10 : upS S 4 10 = S 10 := rfl; have h10 : S 10 = false := hA 10 ⟨0, rfl⟩; simp only [u10, h10, cond_false]) ?_
          refine dn4 ?_
          refine Fl ([⟨id, q, (A8 (Ac c q.line).value q).2⟩] : List Done) I2 rfl (fun _ => rfl) rfl (fun _ => rfl) rfl rfl (fun ρ R hd => Gl ⟨hid, hq.1, hq.2.1, hq.2.2, by unfold Ax; simp only; omega⟩) (fun _ _ _ _ _ => rfl) ?_
          refine Be (T0 := 69) (f := 0) (vs := fun ρ => [.slice none 0 0, vi 0, vi 0, vi 0]) (us := fun ρ => [Gh.dec (γ := Value) (ρ 4), vi c.wait.kind, vi c.wait.line, vi c.wait.value]) (sz := 4) (fun ρ => b8) Try.sizeOf69 (fun _ => rfl) (fun _ => rfl) (fun _ => rfl) (fun _ => rfl) (fun ρ R w L' hd hs => Bi (isSlice.one (hs.fact (hd.dep (it := ⟨4, _, _, _, _⟩) (by repeat (first | exact List.Mem.head _ | refine List.Mem.tail _ ?_)) ⟨9, rfl⟩ (List.Mem.head _)))) (by repeat (first | exact Co | refine Bi rfl ?_))) (fun _ => rfl) (fun ρ g S hS hB hA => ?_) ?_
          ·
           have ui : upS S 10 10 = true := rfl; have r4 : Rho.set ρ 10 g 4 = ρ 4 := rfl
           simp only [ui, hS, r4, cond_true, cond_false]
           exact Pos.ex (by repeat (first | exact .hd | exact .hc | apply Pos.tl | apply Pos.ap))
          refine dn1 ?_
          refine e_p (v := fun ρ => (Gh.dec (γ := Value) (ρ 9))) (fun _ _ => Cz) (Ind.gh (h := fun g => ((Gh.dec (γ := Value) g) : Value)) 9 0 rfl) (fun _ _ _ _ _ => rfl) ?_
          refine dn1 ?_
          refine Aw ?_; intro ρ; simp only [Ao, facts, Bb, List.append_nil, List.nil_append, List.cons_append]
          refine JX.conseq (L' := blk b8 69 [Gh.dec (γ := Value) (ρ 4), vi c.wait.kind, vi c.wait.line, vi c.wait.value] :: blk b4 69 (c.cells u) :: blk b12 82 [vi (Ac c q.line).state, vi (A8 (Ac c q.line).value q).1, vi (Ac c q.line).want, vi (Ac c q.line).serial, vi (Ac c q.line).seen, vi (Ac c q.line).gave, vi (Ac c q.line).given] :: blk b7 66 q.cells :: L) (fun w hs => hs) ?_
          generalize (Gh.dec (γ := Value) (ρ 4)) = v126
          generalize (Gh.dec (γ := Value) (ρ 9)) = v131
          refine Ae ?_
          refine rt ?_
          have eb : Bf (Ac c q.line) q = { (Ac c q.line) with value := (A8 (Ac c q.line).value q).1 } := by unfold Bf; rw [if_neg (by omega), if_pos (by omega)]
          have ed : Bm (Ac c q.line) q = true := by unfold Bm; split <;> simp <;> omega
          have hz : c.wait = zOp := (hk.w.free (by omega)).1
          have et : Cd (Ac c q.line) q = (A8 (Ac c q.line).value q).2 := by unfold Cd; rw [if_neg (by omega)]
          have er : Ar c id home q = (A6 c q.line ({ (Ac c q.line) with value := (A8 (Ac c q.line).value q).1 }) c.wait, [], [⟨id, q, (A8 (Ac c q.line).value q).2⟩], 0) := by unfold Ar; rw [if_neg (by omega), if_neg (by omega), if_neg (by omega), ed, if_pos rfl, eb, et, hz]
          rw [er]
          refine Aj (.inr rfl) (fun B w hs => F2 rfl rfl rfl rfl rfl Try.isAgg69 Try.sizeOf69 pkk rfl B w hs) (fun w hs => ⟨(v126, .slice none 0 0, v131), ?_, Ag hs⟩)
          rfl
       ·
        intro ht78
        refine rn4 ?_
        refine nx ?_
        refine cF_ ?_
        refine Ak ?_
        refine As ?_
        refine Ae ?_
        refine sq ?_
        refine kp [1, 2, 4, 7, 8, 9, 10, 11, 12, 13, 83, 84] ?_
        refine Aa ?_
        refine rn2 ?_
        refine nx ?_
        refine cFp (p := (0 : Int) ≠ 0) (by decide) ?_
        refine Ak ?_
        refine Ae ?_
        refine sr ?_
        refine rn1 ?_
        refine nr ?_
        refine rn3 ?_
        refine nx ?_
        refine cdx (p := ?p8) (hd := ?d8) ?e8 ?_ ?_; case e8 => exact rfl
        ·
         intro ht111
         refine Aa ?_
         refine rn1 ?_
         refine sc ?_
         refine rn1 ?_
         refine sc ?_
         refine nx ?_
         have hXw : ({ (Ac c q.line) with state := 0, value := 0 } : Line).wf := by unfold Line.wf Ax at hlw ⊢; simp only; omega
         have hvb := E3 (v := (Ac c q.line).value) (o := q) (hk.v q.line.toNat (by omega)) (by omega)
         refine JC.slNil Msg ?_
         refine JC.conseq (L' := blk b8 69 [.slice none 0 0, vi 0, vi 0, vi 0] :: blk b4 69 (c.cells u) :: blk b12 82 [vi 0, vi 0, vi (Ac c q.line).want, vi (Ac c q.line).serial, vi (Ac c q.line).seen, vi (Ac c q.line).gave, vi (Ac c q.line).given] :: blk b7 66 q.cells :: L) (fun w hs => Ag hs) ?_
         refine Al Ay (by kernel_rfl) (by kernel_rfl) (fun ρ S => blk b8 69 (bif S 10 then [Gh.dec (γ := Value) (ρ 4), vi c.wait.kind, vi c.wait.line, vi c.wait.value] else [.slice none 0 0, vi 0, vi 0, vi 0]) :: blk b4 69 (c.cells u) :: blk b12 82 [vi 0, vi 0, vi (Ac c q.line).want, vi (Ac c q.line).serial, vi (Ac c q.line).seen, vi (Ac c q.line).gave, vi (Ac c q.line).given] :: blk b7 66 q.cells :: L) (fun _ => rfl) ?_
         refine dn4 ?_
         refine Cb (γ := Value) (val := fun v => .agg (Core.cells v (A6 c q.line ({ (Ac c q.line) with state := 0, value := 0 }) c.wait)).toArray) (F := fun v => [sl v (c.lines.set q.line.toNat ({ (Ac c q.line) with state := 0, value := 0 }))]) Try.call77 (fun _ => rfl) (fun ρ L R w hd hs => Bn (l := { (Ac c q.line) with state := 0, value := 0 }) hs (hd.base mm) hXw (by omega)) (fun ρ g S hS hA => by have u10 : upS S 4 10 = S 10 := rfl; have h10 : S 10 = false := hA 10 ⟨0, rfl⟩; simp only [u10, h10, cond_false]) ?_
         refine dn4 ?_
         refine Fl ([⟨id, q, 0⟩] : List Done) I2 rfl (fun _ => rfl) rfl (fun _ => rfl) rfl rfl (fun ρ R hd => Gl ⟨hid, hq.1, hq.2.1, hq.2.2, by unfold Ax; simp only; omega⟩) (fun _ _ _ _ _ => rfl) ?_
         refine Be (T0 := 69) (f := 0) (vs := fun ρ => [.slice none 0 0, vi 0, vi 0, vi 0]) (us := fun ρ => [Gh.dec (γ := Value) (ρ 4), vi c.wait.kind, vi c.wait.line, vi c.wait.value]) (sz := 4) (fun ρ => b8) Try.sizeOf69 (fun _ => rfl) (fun _ => rfl) (fun _ => rfl) (fun _ => rfl) (fun ρ R w L' hd hs => Bi (isSlice.one (hs.fact (hd.dep (it := ⟨4, _, _, _, _⟩) (by repeat (first | exact List.Mem.head _ | refine List.Mem.tail _ ?_)) ⟨9, rfl⟩ (List.Mem.head _)))) (by repeat (first | exact Co | refine Bi rfl ?_))) (fun _ => rfl) (fun ρ g S hS hB hA => ?_) ?_
         ·
          have ui : upS S 10 10 = true := rfl; have r4 : Rho.set ρ 10 g 4 = ρ 4 := rfl
          simp only [ui, hS, r4, cond_true, cond_false]
          exact Pos.ex (by repeat (first | exact .hd | exact .hc | apply Pos.tl | apply Pos.ap))
         refine dn1 ?_
         refine e_p (v := fun ρ => (Gh.dec (γ := Value) (ρ 9))) (fun _ _ => Cz) (Ind.gh (h := fun g => ((Gh.dec (γ := Value) g) : Value)) 9 0 rfl) (fun _ _ _ _ _ => rfl) ?_
         refine dn1 ?_
         refine Aw ?_; intro ρ; simp only [Ao, facts, Bb, List.append_nil, List.nil_append, List.cons_append]
         refine JX.conseq (L' := blk b8 69 [Gh.dec (γ := Value) (ρ 4), vi c.wait.kind, vi c.wait.line, vi c.wait.value] :: blk b4 69 (c.cells u) :: blk b12 82 [vi 0, vi 0, vi (Ac c q.line).want, vi (Ac c q.line).serial, vi (Ac c q.line).seen, vi (Ac c q.line).gave, vi (Ac c q.line).given] :: blk b7 66 q.cells :: L) (fun w hs => hs) ?_
         generalize (Gh.dec (γ := Value) (ρ 4)) = v126
         generalize (Gh.dec (γ := Value) (ρ 9)) = v131
         refine Ae ?_
         refine rt ?_
         have eb : Bf (Ac c q.line) q = { (Ac c q.line) with state := 0, value := 0 } := by unfold Bf; rw [if_pos (by omega), if_neg (by omega)]
         have ed : Bm (Ac c q.line) q = true := by unfold Bm; split <;> simp <;> omega
         have hz : c.wait = zOp := (hk.w.free (by omega)).1
         have et : Cd (Ac c q.line) q = 0 := by unfold Cd; rw [if_pos (by omega)]
         have er : Ar c id home q = (A6 c q.line ({ (Ac c q.line) with state := 0, value := 0 }) c.wait, [], [⟨id, q, 0⟩], 0) := by unfold Ar; rw [if_neg (by omega), if_neg (by omega), if_neg (by omega), ed, if_pos rfl, eb, et, hz]
         rw [er]
         refine Aj (.inr rfl) (fun B w hs => F2 rfl rfl rfl rfl rfl Try.isAgg69 Try.sizeOf69 pkk rfl B w hs) (fun w hs => ⟨(v126, .slice none 0 0, v131), ?_, Ag hs⟩)
         rfl
        ·
         intro ht111
         refine Aa ?_
         refine rn3 ?_
         refine A1 Try.call79 rfl (fun w hs => Jj (v := (Ac c q.line).value) (o := q) hs (by unfold Line.wf at hlw; exact hlw.2.1) (by omega) (by omega) (by omega)) ?_; intro _
         refine rn4 ?_
         refine sc ?_
         refine rn1 ?_
         refine nx ?_
         have hvb := E3 (v := (Ac c q.line).value) (o := q) (hk.v q.line.toNat (by omega)) (by omega)
         have hXw : ({ (Ac c q.line) with value := (A8 (Ac c q.line).value q).1 } : Line).wf := by unfold Line.wf Ax at hlw ⊢; simp only; omega
         have hvb := E3 (v := (Ac c q.line).value) (o := q) (hk.v q.line.toNat (by omega)) (by omega)
         refine JC.slNil Msg ?_
         refine JC.conseq (L' := blk b8 69 [.slice none 0 0, vi 0, vi 0, vi 0] :: blk b4 69 (c.cells u) :: blk b12 82 [vi (Ac c q.line).state, vi (A8 (Ac c q.line).value q).1, vi (Ac c q.line).want, vi (Ac c q.line).serial, vi (Ac c q.line).seen, vi (Ac c q.line).gave, vi (Ac c q.line).given] :: blk b7 66 q.cells :: L) (fun w hs => Ag hs) ?_
         refine Al Ay (by kernel_rfl) (by kernel_rfl) (fun ρ S => blk b8 69 (bif S 10 then [Gh.dec (γ := Value) (ρ 4), vi c.wait.kind, vi c.wait.line, vi c.wait.value] else [.slice none 0 0, vi 0, vi 0, vi 0]) :: blk b4 69 (c.cells u) :: blk b12 82 [vi (Ac c q.line).state, vi (A8 (Ac c q.line).value q).1, vi (Ac c q.line).want, vi (Ac c q.line).serial, vi (Ac c q.line).seen, vi (Ac c q.line).gave, vi (Ac c q.line).given] :: blk b7 66 q.cells :: L) (fun _ => rfl) ?_
         refine dn4 ?_
         refine Cb (γ := Value) (val := fun v => .agg (Core.cells v (A6 c q.line ({ (Ac c q.line) with value := (A8 (Ac c q.line).value q).1 }) c.wait)).toArray) (F := fun v => [sl v (c.lines.set q.line.toNat ({ (Ac c q.line) with value := (A8 (Ac c q.line).value q).1 }))]) Try.call77 (fun _ => rfl) (fun ρ L R w hd hs => Bn (l := { (Ac c q.line) with value := (A8 (Ac c q.line).value q).1 }) hs (hd.base mm) hXw (by omega)) (fun ρ g S hS hA => by have u10 : upS S 4 10 = S 10 := rfl; have h10 : S 10 = false := hA 10 ⟨0, rfl⟩; simp only [u10, h10, cond_false]) ?_
         refine dn4 ?_
         refine Fl ([⟨id, q, (A8 (Ac c q.line).value q).2⟩] : List Done) I2 rfl (fun _ => rfl) rfl (fun _ => rfl) rfl rfl (fun ρ R hd => Gl ⟨hid, hq.1, hq.2.1, hq.2.2, by unfold Ax; simp only; omega⟩) (fun _ _ _ _ _ => rfl) ?_
         refine Be (T0 := 69) (f := 0) (vs := fun ρ => [.slice none 0 0, vi 0, vi 0, vi 0]) (us := fun ρ => [Gh.dec (γ := Value) (ρ 4), vi c.wait.kind, vi c.wait.line, vi c.wait.value]) (sz := 4) (fun ρ => b8) Try.sizeOf69 (fun _ => rfl) (fun _ => rfl) (fun _ => rfl) (fun _ => rfl) (fun ρ R w L' hd hs => Bi (isSlice.one (hs.fact (hd.dep (it := ⟨4, _, _, _, _⟩) (by repeat (first | exact List.Mem.head _ | refine List.Mem.tail _ ?_)) ⟨9, rfl⟩ (List.Mem.head _)))) (by repeat (first | exact Co | refine Bi rfl ?_))) (fun _ => rfl) (fun ρ g S hS hB hA => ?_) ?_
         ·
          have ui : upS S 10 10 = true := rfl; have r4 : Rho.set ρ 10 g 4 = ρ 4 := rfl
          simp only [ui, hS, r4, cond_true, cond_false]
          exact Pos.ex (by repeat (first | exact .hd | exact .hc | apply Pos.tl | apply Pos.ap))
         refine dn1 ?_
         refine e_p (v := fun ρ => (Gh.dec (γ := Value) (ρ 9))) (fun _ _ => Cz) (Ind.gh (h := fun g => ((Gh.dec (γ := Value) g) : Value)) 9 0 rfl) (fun _ _ _ _ _ => rfl) ?_
         refine dn1 ?_
         refine Aw ?_; intro ρ; simp only [Ao, facts, Bb, List.append_nil, List.nil_append, List.cons_append]
         refine JX.conseq (L' := blk b8 69 [Gh.dec (γ := Value) (ρ 4), vi c.wait.kind, vi c.wait.line, vi c.wait.value] :: blk b4 69 (c.cells u) :: blk b12 82 [vi (Ac c q.line).state, vi (A8 (Ac c q.line).value q).1, vi (Ac c q.line).want, vi (Ac c q.line).serial, vi (Ac c q.line).seen, vi (Ac c q.line).gave, vi (Ac c q.line).given] :: blk b7 66 q.cells :: L) (fun w hs => hs) ?_
         generalize (Gh.dec (γ := Value) (ρ 4)) = v126
         generalize (Gh.dec (γ := Value) (ρ 9)) = v131
         refine Ae ?_
         refine rt ?_
         have eb : Bf (Ac c q.line) q = { (Ac c q.line) with value := (A8 (Ac c q.line).value q).1 } := by unfold Bf; rw [if_neg (by omega), if_pos (by omega)]
         have ed : Bm (Ac c q.line) q = true := by unfold Bm; split <;> simp <;> omega
         have hz : c.wait = zOp := (hk.w.free (by omega)).1
         have et : Cd (Ac c q.line) q = (A8 (Ac c q.line).value q).2 := by unfold Cd; rw [if_neg (by omega)]
         have er : Ar c id home q = (A6 c q.line ({ (Ac c q.line) with value := (A8 (Ac c q.line).value q).1 }) c.wait, [], [⟨id, q, (A8 (Ac c q.line).value q).2⟩], 0) := by unfold Ar; rw [if_neg (by omega), if_neg (by omega), if_neg (by omega), ed, if_pos rfl, eb, et, hz]
         rw [er]
         refine Aj (.inr rfl) (fun B w hs => F2 rfl rfl rfl rfl rfl Try.isAgg69 Try.sizeOf69 pkk rfl B w hs) (fun w hs => ⟨(v126, .slice none 0 0, v131), ?_, Ag hs⟩)
         rfl
      ·
       intro ht73
       refine sr ?_
       refine rn3 ?_
       refine nx ?_
       refine cdx (p := ?p9) (hd := ?d9) ?e9 ?_ ?_; case e9 => exact rfl
       ·
        intro ht67
        refine Aa ?_
        refine rn1 ?_
        refine J.nil ?_
        refine As ?_
        refine Ae ?_
        refine sr ?_
        refine rn2 ?_
        refine nx ?_
        refine cTp (p := (2 : Int) ≠ 0) (by decide) ?_
        refine sr ?_
        refine rn3 ?_
        refine ob (E7 (by exact rfl) (by exact rfl) (by unfold Line.wf Ax at hlw; omega) (by unfold Line.wf Ax at hlw; omega)) ?_
        refine rn1 ?_
        refine sc ?_
        refine rn1 ?_
        refine sc ?_
        refine nx ?_
        refine kp [1, 2, 4, 7, 8, 9, 10, 11, 12, 13, 91, 92] ?_
        refine Aa ?_
        refine rn2 ?_
        refine nx ?_
        refine cFp (p := (2 : Int) = 3) (by decide) ?_
        refine Ak ?_
        refine Ae ?_
        refine sr ?_
        refine rn4 ?_
        have hXw : ({ (Ac c q.line) with want := 2, serial := (Ac c q.line).serial + 1 } : Line).wf := by unfold Line.wf Ax at hlw ⊢; simp only; omega
        refine A1 Try.call77 rfl (fun w hs => Bn (l := { (Ac c q.line) with want := 2, serial := (Ac c q.line).serial + 1 }) hs mm hXw (by omega)) ?_; intro v98
        refine J.know (p := v98.oneCell' = true) (fun w hs => isSlice.one (hs.fact (List.Mem.head _))) (fun hone98 => ?_)
        refine al_ (cs := [.slice none 0 0, vi 0, vi 0, vi 0]) Try.zeroValue69 ?_; intro b14
        refine s_B (cs := [v98, vi c.wait.kind, vi c.wait.line, vi c.wait.value]) Try.sizeOf69 ?_
        refine nr ?_
        refine rn2 ?_
        refine s_N [v98, vi q.kind, vi q.line, vi q.value] Try.sizeOf66 ?_
        refine nx ?_
        refine JC.slNil Done ?_
        refine JC.conseq (L' := blk b8 69 [.slice none 0 0, vi 0, vi 0, vi 0] :: blk b14 69 [v98, vi q.kind, vi q.line, vi q.value] :: blk b12 82 [vi (Ac c q.line).state, vi (Ac c q.line).value, vi 2, vi ((Ac c q.line).serial + 1), vi (Ac c q.line).seen, vi (Ac c q.line).gave, vi (Ac c q.line).given] :: blk b7 66 q.cells :: L) (fun w hs => Ag hs) ?_
        refine Al Ay (by kernel_rfl) (by kernel_rfl) (fun ρ S => blk b8 69 (bif S 8 then [v98, vi q.kind, vi q.line, vi q.value] else [.slice none 0 0, vi 0, vi 0, vi 0]) :: blk b14 69 [v98, vi q.kind, vi q.line, vi q.value] :: blk b12 82 [vi (Ac c q.line).state, vi (Ac c q.line).value, vi 2, vi ((Ac c q.line).serial + 1), vi (Ac c q.line).seen, vi (Ac c q.line).gave, vi (Ac c q.line).given] :: blk b7 66 q.cells :: L) (fun _ => rfl) ?_
        refine dn6 ?_
        refine Cb (γ := Unit) (val := fun _ => .agg (Dd ({ (Ac c q.line) with want := 2, serial := (Ac c q.line).serial + 1 }) id home q.line).cells.toArray) (F := fun _ => []) Try.call78 (fun _ => rfl) (fun ρ L R w hd hs => Lj (l := { (Ac c q.line) with want := 2, serial := (Ac c q.line).serial + 1 }) (id := id) (home := home) (i := q.line) hs ) (fun _ _ _ _ _ => rfl) ?_
        refine Fl ([Dd ({ (Ac c q.line) with want := 2, serial := (Ac c q.line).serial + 1 }) id home q.line] : List Msg) Em rfl (fun _ => rfl) rfl (fun _ => rfl) rfl rfl (fun ρ R hd => Gy (Pk hXw hid hhome hq.2.1)) (fun _ _ _ _ _ => rfl) ?_
        refine Be (T0 := 69) (f := 0) (vs := fun ρ => [.slice none 0 0, vi 0, vi 0, vi 0]) (us := fun ρ => [v98, vi q.kind, vi q.line, vi q.value]) (sz := 4) (fun ρ => b8) Try.sizeOf69 (fun _ => rfl) (fun _ => rfl) (fun _ => rfl) (fun _ => rfl) (fun _ _ _ _ _ _ => by repeat (first | exact Co | refine Bi (by first | exact rfl | assumption) ?_)) (fun _ => rfl) (fun ρ g S hS hB hA => ?_) ?_
        ·
         have ui : upS S 8 8 = true := rfl
         simp only [ui, hS, cond_true, cond_false]
         exact Pos.ex (by repeat (first | exact .hd | exact .hc | apply Pos.tl | apply Pos.ap))
        refine e_p (v := fun ρ => (Gh.dec (γ := Value) (ρ 7))) (fun _ _ => Cz) (Ind.gh (h := fun g => ((Gh.dec (γ := Value) g) : Value)) 7 0 rfl) (fun _ _ _ _ _ => rfl) ?_
        refine dn2 ?_
        refine Aw ?_; intro ρ; simp only [Ao, facts, Bb, List.append_nil, List.nil_append, List.cons_append]
        refine JX.conseq (L' := blk b8 69 [v98, vi q.kind, vi q.line, vi q.value] :: blk b14 69 [v98, vi q.kind, vi q.line, vi q.value] :: blk b12 82 [vi (Ac c q.line).state, vi (Ac c q.line).value, vi 2, vi ((Ac c q.line).serial + 1), vi (Ac c q.line).seen, vi (Ac c q.line).gave, vi (Ac c q.line).given] :: blk b7 66 q.cells :: L) (fun w hs => hs) ?_
        generalize (Gh.dec (γ := Value) (ρ 7)) = v108
        refine Ae ?_
        refine rt ?_
        have eb : Bf (Ac c q.line) q = { (Ac c q.line) with want := 2, serial := (Ac c q.line).serial + 1 } := by unfold Bf; rw [if_neg (by omega), if_neg (by omega), if_neg (by omega)]
        have ed : Bm (Ac c q.line) q = false := by unfold Bm; split <;> simp <;> omega
        have er : Ar c id home q = (A6 c q.line ({ (Ac c q.line) with want := 2, serial := (Ac c q.line).serial + 1 }) q, [Dd ({ (Ac c q.line) with want := 2, serial := (Ac c q.line).serial + 1 }) id home q.line], [], 0) := by unfold Ar; rw [if_neg (by omega), if_neg (by omega), if_neg (by omega), ed, if_neg (by decide), eb]
        rw [er]
        refine Aj (.inr rfl) (fun B w hs => F2 rfl rfl rfl rfl rfl Try.isAgg69 Try.sizeOf69 pkk rfl B w hs) (fun w hs => ⟨(v98, v108, .slice none 0 0), ?_, Ag hs⟩)
        rfl
       ·
        intro ht67
        refine Ak ?_
        refine As ?_
        refine Ae ?_
        refine sr ?_
        refine rn2 ?_
        refine nx ?_
        refine cFp (p := (0 : Int) ≠ 0) (by decide) ?_
        refine Ak ?_
        refine Ae ?_
        refine sr ?_
        refine rn1 ?_
        refine nr ?_
        refine rn3 ?_
        refine nx ?_
        refine cdx (p := ?p10) (hd := ?d10) ?e10 ?_ ?_; case e10 => exact rfl
        ·
         intro ht111
         refine kp [1, 4, 7, 8, 9, 10, 11, 12, 15, 112, 113] ?_
         refine Aa ?_
         refine rn1 ?_
         refine sc ?_
         refine rn1 ?_
         refine sc ?_
         refine nx ?_
         have hXw : ({ (Ac c q.line) with state := 0, value := 0 } : Line).wf := by unfold Line.wf Ax at hlw ⊢; simp only; omega
         have hvb := E3 (v := (Ac c q.line).value) (o := q) (hk.v q.line.toNat (by omega)) (by omega)
         refine JC.slNil Msg ?_
         refine JC.conseq (L' := blk b8 69 [.slice none 0 0, vi 0, vi 0, vi 0] :: blk b4 69 (c.cells u) :: blk b12 82 [vi 0, vi 0, vi (Ac c q.line).want, vi (Ac c q.line).serial, vi (Ac c q.line).seen, vi (Ac c q.line).gave, vi (Ac c q.line).given] :: blk b7 66 q.cells :: L) (fun w hs => Ag hs) ?_
         refine Al Ay (by kernel_rfl) (by kernel_rfl) (fun ρ S => blk b8 69 (bif S 10 then [Gh.dec (γ := Value) (ρ 4), vi c.wait.kind, vi c.wait.line, vi c.wait.value] else [.slice none 0 0, vi 0, vi 0, vi 0]) :: blk b4 69 (c.cells u) :: blk b12 82 [vi 0, vi 0, vi (Ac c q.line).want, vi (Ac c q.line).serial, vi (Ac c q.line).seen, vi (Ac c q.line).gave, vi (Ac c q.line).given] :: blk b7 66 q.cells :: L) (fun _ => rfl) ?_
         refine dn4 ?_
         refine Cb (γ := Value) (val := fun v => .agg (Core.cells v (A6 c q.line ({ (Ac c q.line) with state := 0, value := 0 }) c.wait)).toArray) (F := fun v => [sl v (c.lines.set q.line.toNat ({ (Ac c q.line) with state := 0, value := 0 }))]) Try.call77 (fun _ => rfl) (fun ρ L R w hd hs => Bn (l := { (Ac c q.line) with state := 0, value := 0 }) hs (hd.base mm) hXw (by omega)) (fun ρ g S hS hA => by have u10 : upS S 4 10 = S 10 := rfl; have h10 : S 10 = false := hA 10 ⟨0, rfl⟩; simp only [u10, h10, cond_false]) ?_
         refine dn4 ?_
         refine Fl ([⟨id, q, 0⟩] : List Done) I2 rfl (fun _ => rfl) rfl (fun _ => rfl) rfl rfl (fun ρ R hd => Gl ⟨hid, hq.1, hq.2.1, hq.2.2, by unfold Ax; simp only; omega⟩) (fun _ _ _ _ _ => rfl) ?_
         refine Be (T0 := 69) (f := 0) (vs := fun ρ => [.slice none 0 0, vi 0, vi 0, vi 0]) (us := fun ρ => [Gh.dec (γ := Value) (ρ 4), vi c.wait.kind, vi c.wait.line, vi c.wait.value]) (sz := 4) (fun ρ => b8) Try.sizeOf69 (fun _ => rfl) (fun _ => rfl) (fun _ => rfl) (fun _ => rfl) (fun ρ R w L' hd hs => Bi (isSlice.one (hs.fact (hd.dep (it := ⟨4, _, _, _, _⟩) (by repeat (first | exact List.Mem.head _ | refine List.Mem.tail _ ?_)) ⟨9, rfl⟩ (List.Mem.head _)))) (by repeat (first | exact Co | refine Bi rfl ?_))) (fun _ => rfl) (fun ρ g S hS hB hA => ?_) ?_
         ·
          have ui : upS S 10 10 = true := rfl; have r4 : Rho.set ρ 10 g 4 = ρ 4 := rfl
          simp only [ui, hS, r4, cond_true, cond_false]
          exact Pos.ex (by repeat (first | exact .hd | exact .hc | apply Pos.tl | apply Pos.ap))
         refine dn1 ?_
         refine e_p (v := fun ρ => (Gh.dec (γ := Value) (ρ 9))) (fun _ _ => Cz) (Ind.gh (h := fun g => ((Gh.dec (γ := Value) g) : Value)) 9 0 rfl) (fun _ _ _ _ _ => rfl) ?_
         refine dn1 ?_
         refine Aw ?_; intro ρ; simp only [Ao, facts, Bb, List.append_nil, List.nil_append, List.cons_append]
         refine JX.conseq (L' := blk b8 69 [Gh.dec (γ := Value) (ρ 4), vi c.wait.kind, vi c.wait.line, vi c.wait.value] :: blk b4 69 (c.cells u) :: blk b12 82 [vi 0, vi 0, vi (Ac c q.line).want, vi (Ac c q.line).serial, vi (Ac c q.line).seen, vi (Ac c q.line).gave, vi (Ac c q.line).given] :: blk b7 66 q.cells :: L) (fun w hs => hs) ?_
         generalize (Gh.dec (γ := Value) (ρ 4)) = v126
         generalize (Gh.dec (γ := Value) (ρ 9)) = v131
         refine Ae ?_
         refine rt ?_
         have eb : Bf (Ac c q.line) q = { (Ac c q.line) with state := 0, value := 0 } := by unfold Bf; rw [if_pos (by omega), if_neg (by omega)]
         have ed : Bm (Ac c q.line) q = true := by unfold Bm; split <;> simp <;> omega
         have hz : c.wait = zOp := (hk.w.free (by omega)).1
         have et : Cd (Ac c q.line) q = 0 := by unfold Cd; rw [if_pos (by omega)]
         have er : Ar c id home q = (A6 c q.line ({ (Ac c q.line) with state := 0, value := 0 }) c.wait, [], [⟨id, q, 0⟩], 0) := by unfold Ar; rw [if_neg (by omega), if_neg (by omega), if_neg (by omega), ed, if_pos rfl, eb, et, hz]
         rw [er]
         refine Aj (.inr rfl) (fun B w hs => F2 rfl rfl rfl rfl rfl Try.isAgg69 Try.sizeOf69 pkk rfl B w hs) (fun w hs => ⟨(v126, .slice none 0 0, v131), ?_, Ag hs⟩)
         rfl
        ·
         intro ht111
         refine kp [1, 4, 7, 8, 9, 10, 11, 12, 15, 114, 115, 116, 117, 118, 119, 120, 121] ?_
         refine Aa ?_
         refine rn3 ?_
         refine A1 Try.call79 rfl (fun w hs => Jj (v := (Ac c q.line).value) (o := q) hs (by unfold Line.wf at hlw; exact hlw.2.1) (by omega) (by omega) (by omega)) ?_; intro _
         refine rn4 ?_
         refine sc ?_
         refine rn1 ?_
         refine nx ?_
         have hvb := E3 (v := (Ac c q.line).value) (o := q) (hk.v q.line.toNat (by omega)) (by omega)
         have hXw : ({ (Ac c q.line) with value := (A8 (Ac c q.line).value q).1 } : Line).wf := by unfold Line.wf Ax at hlw ⊢; simp only; omega
         have hvb := E3 (v := (Ac c q.line).value) (o := q) (hk.v q.line.toNat (by omega)) (by omega)
         refine JC.slNil Msg ?_
         refine JC.conseq (L' := blk b8 69 [.slice none 0 0, vi 0, vi 0, vi 0] :: blk b4 69 (c.cells u) :: blk b12 82 [vi (Ac c q.line).state, vi (A8 (Ac c q.line).value q).1, vi (Ac c q.line).want, vi (Ac c q.line).serial, vi (Ac c q.line).seen, vi (Ac c q.line).gave, vi (Ac c q.line).given] :: blk b7 66 q.cells :: L) (fun w hs => Ag hs) ?_
         refine Al Ay (by kernel_rfl) (by kernel_rfl) (fun ρ S => blk b8 69 (bif S 10 then [Gh.dec (γ := Value) (ρ 4), vi c.wait.kind, vi c.wait.line, vi c.wait.value] else [.slice none 0 0, vi 0, vi 0, vi 0]) :: blk b4 69 (c.cells u) :: blk b12 82 [vi (Ac c q.line).state, vi (A8 (Ac c q.line).value q).1, vi (Ac c q.line).want, vi (Ac c q.line).serial, vi (Ac c q.line).seen, vi (Ac c q.line).gave, vi (Ac c q.line).given] :: blk b7 66 q.cells :: L) (fun _ => rfl) ?_
         refine dn4 ?_
         refine Cb (γ := Value) (val := fun v => .agg (Core.cells v (A6 c q.line ({ (Ac c q.line) with value := (A8 (Ac c q.line).value q).1 }) c.wait)).toArray) (F := fun v => [sl v (c.lines.set q.line.toNat ({ (Ac c q.line) with value := (A8 (Ac c q.line).value q).1 }))]) Try.call77 (fun _ => rfl) (fun ρ L R w hd hs => Bn (l := { (Ac c q.line) with value := (A8 (Ac c q.line).value q).1 }) hs (hd.base mm) hXw (by omega)) (fun ρ g S hS hA => by have u10 : upS S 4 10 = S 10 := rfl; have h10 : S 10 = false := hA 10 ⟨0, rfl⟩; simp only [u10, h10, cond_false]) ?_
         refine dn4 ?_
         refine Fl ([⟨id, q, (A8 (Ac c q.line).value q).2⟩] : List Done) I2 rfl (fun _ => rfl) rfl (fun _ => rfl) rfl rfl (fun ρ R hd => Gl ⟨hid, hq.1, hq.2.1, hq.2.2, by unfold Ax; simp only; omega⟩) (fun _ _ _ _ _ => rfl) ?_
         refine Be (T0 := 69) (f := 0) (vs := fun ρ => [.slice none 0 0, vi 0, vi 0, vi 0]) (us := fun ρ => [Gh.dec (γ := Value) (ρ 4), vi c.wait.kind, vi c.wait.line, vi c.wait.value]) (sz := 4) (fun ρ => b8) Try.sizeOf69 (fun _ => rfl) (fun _ => rfl) (fun _ => rfl) (fun _ => rfl) (fun ρ R w L' hd hs => Bi (isSlice.one (hs.fact (hd.dep (it := ⟨4, _, _, _, _⟩) (by repeat (first | exact List.Mem.head _ | refine List.Mem.tail _ ?_)) ⟨9, rfl⟩ (List.Mem.head _)))) (by repeat (first | exact Co | refine Bi rfl ?_))) (fun _ => rfl) (fun ρ g S hS hB hA => ?_) ?_
         ·
          have ui : upS S 10 10 = true := rfl; have r4 : Rho.set ρ 10 g 4 = ρ 4 := rfl
          simp only [ui, hS, r4, cond_true, cond_false]
          exact Pos.ex (by repeat (first | exact .hd | exact .hc | apply Pos.tl | apply Pos.ap))
         refine dn1 ?_
         refine e_p (v := fun ρ => (Gh.dec (γ := Value) (ρ 9))) (fun _ _ => Cz) (Ind.gh (h := fun g => ((Gh.dec (γ := Value) g) : Value)) 9 0 rfl) (fun _ _ _ _ _ => rfl) ?_
         refine dn1 ?_
         refine Aw ?_; intro ρ; simp only [Ao, facts, Bb, List.append_nil, List.nil_append, List.cons_append]
         refine JX.conseq (L' := blk b8 69 [Gh.dec (γ := Value) (ρ 4), vi c.wait.kind, vi c.wait.line, vi c.wait.value] :: blk b4 69 (c.cells u) :: blk b12 82 [vi (Ac c q.line).state, vi (A8 (Ac c q.line).value q).1, vi (Ac c q.line).want, vi (Ac c q.line).serial, vi (Ac c q.line).seen, vi (Ac c q.line).gave, vi (Ac c q.line).given] :: blk b7 66 q.cells :: L) (fun w hs => hs) ?_
         generalize (Gh.dec (γ := Value) (ρ 4)) = v126
         generalize (Gh.dec (γ := Value) (ρ 9)) = v131
         refine Ae ?_
         refine rt ?_
         have eb : Bf (Ac c q.line) q = { (Ac c q.line) with value := (A8 (Ac c q.line).value q).1 } := by unfold Bf; rw [if_neg (by omega), if_pos (by omega)]
         have ed : Bm (Ac c q.line) q = true := by unfold Bm; split <;> simp <;> omega
         have hz : c.wait = zOp := (hk.w.free (by omega)).1
         have et : Cd (Ac c q.line) q = (A8 (Ac c q.line).value q).2 := by unfold Cd; rw [if_neg (by omega)]
         have er : Ar c id home q = (A6 c q.line ({ (Ac c q.line) with value := (A8 (Ac c q.line).value q).1 }) c.wait, [], [⟨id, q, (A8 (Ac c q.line).value q).2⟩], 0) := by unfold Ar; rw [if_neg (by omega), if_neg (by omega), if_neg (by omega), ed, if_pos rfl, eb, et, hz]
         rw [er]
         refine Aj (.inr rfl) (fun B w hs => F2 rfl rfl rfl rfl rfl Try.isAgg69 Try.sizeOf69 pkk rfl B w hs) (fun w hs => ⟨(v126, .slice none 0 0, v131), ?_, Ag hs⟩)
         rfl
end Go.Proofs.Ytofgpimoekhfaaa

/- This file proves what small functions within a core's hearing make, by the document's answer. No conditions. -/
set_option linter.unusedVariables false
set_option linter.unusedSimpArgs false
set_option maxHeartbeats 1000000
set_option maxRecDepth 8000
namespace Go.Proofs.Ytofgpimoekhfaaa
open Go
theorem Nf {L : List Chunk} {R : List Fact} {w : World} {b5 b6 b7 : Nat} {kind turn v id home line : Int} (hs : St (L) R w) (c5 : Cq L R (bp b5 0) [vi id]) (c6 : Cq L R (bp b6 0) [vi home]) (c7 : Cq L R (bp b7 3) [vi line]) (hkd : Ax kind) (ht : Ax turn) (hv : Ax v) (hid : Ax id) (hhome : Ax home) (hl : Ax line) : Calls Try.prog 85 [vi kind, vi turn, vi v, bp b5 0, bp b6 0, bp b7 0].toArray w (C2 (fun u : Value => u) (fun u => L) (fun u => sl u [Cn kind id home line turn v] :: R)) := by
 refine Au Try.func85 rfl Try.ntmps85 rfl hs ?_
 clear hs
 refine sr ?_
 refine rn1 ?_
 refine nr ?_
 refine rn1 ?_
 refine ob (Dn Try.isAgg3 (hc := c5)) ?_
 refine ob (Dn Try.isAgg3 (hc := c6)) ?_
 refine rn1 ?_
 refine ob (Dn Try.isAgg3 (hc := c7)) ?_
 refine rn3 ?_
 refine li ([Cn kind id home line turn v] : List Msg) Em rfl (Gy (by unfold Msg.wf Cn Ax at *; simp only; omega)) ?_; intro v18
 refine rn1 ?_
 refine nx ?_
 refine rt ?_
 refine Aj (.inr rfl) (fun B w hs => Ek rfl rfl B w) (fun w hs => ⟨v18, ?_, Ag hs⟩)
 rfl
theorem Vv {L : List Chunk} {R : List Fact} {w : World} {b5 b4 : Nat} {id : Int} {q : Op} (hs : St (L) R w) (c5 : Cq L R (bp b5 0) [vi id]) (c4 : Cq L R (bp b4 1) q.cells) (hid : Ax id) (hq : q.wf) : Calls Try.prog 86 [bp b5 0, bp b4 0].toArray w (C2 (fun u : Value => u) (fun u => L) (fun u => sl u [(⟨id, q, 0⟩ : Done)] :: R)) := by
 refine Au Try.func86 rfl Try.ntmps86 rfl hs ?_
 clear hs
 refine sr ?_
 refine rn1 ?_
 refine nr ?_
 refine ob (Dn Try.isAgg3 (hc := c5)) ?_
 refine rn1 ?_
 refine ob (Uw Try.isAgg66 Try.sizeOf66 (hc := c4)) ?_
 refine rn1 ?_
 refine li ([⟨id, q, 0⟩] : List Done) I2 rfl (Gl ⟨hid, hq.1, hq.2.1, hq.2.2, by unfold Ax; simp only; omega⟩) ?_; intro v7
 refine rn1 ?_
 refine nx ?_
 refine rt ?_
 refine Aj (.inr rfl) (fun B w hs => Ek rfl rfl B w) (fun w hs => ⟨v7, ?_, Ag hs⟩)
 rfl
theorem M5 {v : Int} {o : Op} (hv : Ax v) : Ax (A8 v o).2 := by
  unfold A8; split
  · exact hv
  split
  · unfold Ax; simp only; omega
  split
  · exact hv
  · unfold Ax; simp only; omega
theorem KB.wait {c : Core} (h : KB c) (i : Int) (hi : i.toNat < c.lines.length) (hw : (Ac c i).want ≠ 0) : (1 ≤ c.wait.kind ∧ c.wait.kind ≤ 4) ∧ (0 ≤ c.wait.line ∧ c.wait.line < c.lines.length) ∧ (0 ≤ c.wait.value ∧ c.wait.value ≤ 255) := by
 have hb := h.w.busy (fun h0 => hw ((h.w.free h0).2 i.toNat hi))
 exact ⟨hb.1, hb.2.1, hb.2.2.1⟩
theorem KB.wwf {c : Core} (h : KB c) : c.wait.wf := by
  by_cases h0 : c.wait.kind = 0
  · rw [(h.w.free h0).1]; unfold Op.wf Ax zOp; simp only; omega
  · obtain ⟨h1, h2, h3, _⟩ := h.w.busy h0
    have := h.n
    unfold Op.wf Ax; omega
theorem O9 {c : Core} {id home : Int} {m : Msg} (h : m.line < 0 ∨ (c.lines.length : Int) ≤ m.line) : Ap c id home m = (c, [], []) := by unfold Ap; rw [if_pos h]
end Go.Proofs.Ytofgpimoekhfaaa

/- This file proves that each step of a chip keeps what must hold, and that what is done by it is as of memory that is one. No program in sight. No conditions. -/
set_option linter.unusedVariables false
set_option linter.unusedSimpArgs false
namespace Go.Proofs.Ytofgpimoekhfaaa
open Abs
def Eb (M : List Int) : List Done → List Int → Prop
 | [], M' => M' = M
 | d :: r, M' => (1 ≤ d.op.kind ∧ d.op.kind ≤ 4) ∧ (0 ≤ d.op.line ∧ d.op.line < M.length) ∧ (0 ≤ d.op.value ∧ d.op.value ≤ 255) ∧
   d.value = (if d.op.kind = 4 then 0 else (A8 (M.getD d.op.line.toNat 0) d.op).2) ∧ Eb (M.set d.op.line.toNat (A8 (M.getD d.op.line.toNat 0) d.op).1) r M'
theorem Jp {v : Int} {o : Op} (hv : 0 ≤ v ∧ v ≤ 255) (ho : 0 ≤ o.value ∧ o.value ≤ 255) : 0 ≤ (A8 v o).1 ∧ (A8 v o).1 ≤ 255 := by
  unfold A8
  split
  · exact hv
  · split
    · exact ho
    · split
      · simp only; omega
      · exact hv
theorem Fv {v : Int} {o : Op} (h : o.kind = 1 ∨ o.kind = 4) : (A8 v o).1 = v := by
 unfold A8
 rcases h with h | h <;> simp [h]
section
variable {n nl : Nat} {x : Chip} {M : List Int}
theorem Ef {α : Type} (l : List α) (i : Nat) (d : α) (h : i < l.length) : l.set i (l.getD i d) = l := by
  apply List.ext_getElem?
  intro j
  by_cases hj : j = i
  · subst hj; rw [List.getElem?_set_self h, List.getD_eq_getElem?_getD, List.getElem?_eq_getElem h]; rfl
  · rw [List.getElem?_set_ne (Ne.symm hj)]
theorem Inv.same (h : Inv n nl x M) (i : Nat) (hi : i < nl) : M.set i (M.getD i 0) = M := Ef _ _ _ (by rw [h.ml]; exact hi)
theorem Gg (h : Inv n nl x M) {p i : Nat} (hp : p < n) (hi : i < nl) {kind serial turn value : Int} {al : Bool} (hk : 1 ≤ kind ∧ kind ≤ 11) (hs : 0 ≤ serial ∧ serial ≤ 65535) (ht : 0 ≤ turn ∧ turn ≤ 65535) (hv : 0 ≤ value ∧ value ≤ 255) :
  Bq (Fz n nl) ⟨kind, p, n, i, serial, turn, value, al⟩ = 0 :=
 Ov hk (by simp only [Fz]; omega) (by simp only [Fz]; omega) hs ht hv (by simp only [Fz]; intro h; have h' := h.2 trivial; omega)
theorem La (h : Inv n nl x M) {p i : Nat} (hp : p < n) (hi : i < nl) {kind serial turn value : Int} {al : Bool} (hk : 1 ≤ kind ∧ kind ≤ 11) (hs : 0 ≤ serial ∧ serial ≤ 65535) (ht : 0 ≤ turn ∧ turn ≤ 65535) (hv : 0 ≤ value ∧ value ≤ 255) :
  Bq (Fz n nl) ⟨kind, n, p, i, serial, turn, value, al⟩ = 0 :=
 Ov hk (by simp only [Fz]; omega) (by simp only [Fz]; omega) hs ht hv (by simp only [Fz]; intro h; have h' := h.1 trivial; omega)
theorem Jo {p i : Nat} {kind serial turn value : Int} {al : Bool} : P2 n ⟨kind, p, n, i, serial, turn, value, al⟩ = p := by simp [P2]
theorem M4 {p i : Nat} (hp : p < n) {kind serial turn value : Int} {al : Bool} : P2 n ⟨kind, n, p, i, serial, turn, value, al⟩ = p := by
 unfold P2
 rw [if_neg (by simp only; omega)]; simp
theorem O4 {p i : Nat} {l' : Line} {w' : Op} (h : Inv n nl x M) (hp : p < n) (hi : i < nl) {fr : Frames} : lin ⟨x.cores.set p (A6 (cor x p) i l' w'), x.home, fr⟩ i p = l' := by
 unfold lin cor
 rw [C5 _ _ _ _ _ (by rw [h.nc]; exact hp), if_pos rfl]
 show ((cor x p).lines.set _ l').getD i zLine = l'
 rw [Int.toNat_natCast, C5 _ _ _ _ _ (by rw [h.ncl p hp]; exact hi), if_pos rfl]
theorem W9 {k : Core} {i : Nat} {l' : Line} {o : Op} (hl : k.lines.length = nl) (h : CW k nl) (h0 : k.wait.kind = 0) (hi : i < nl) (ho : (1 ≤ o.kind ∧ o.kind ≤ 4) ∧ o.line = i ∧ (0 ≤ o.value ∧ o.value ≤ 255)) (hw : l'.want = Ff o.kind) : CW (A6 k i l' o) nl := by
  constructor
  · intro h'; exact absurd h' (by show o.kind ≠ 0; omega)
  · intro _
    refine ⟨ho.1, ?_, ho.2.2, fun j hj => ?_⟩
    · show 0 ≤ o.line ∧ o.line < nl; omega
    · show ((k.lines.set _ l').getD j zLine).want = if (j : Int) = o.line then _ else _
      rw [Int.toNat_natCast, C5 _ _ _ _ _ (by rw [hl]; exact hi), ho.2.1]
      by_cases hj' : j = i
      · rw [if_pos hj', if_pos (by rw [hj'])]; exact hw
      · rw [if_neg hj', if_neg (by omega)]; exact (h.free h0).2 j hj
theorem Im {k : Core} {i : Nat} {l' : Line} (hl : k.lines.length = nl) (h : CW k nl) (hi : i < nl) (h0 : k.wait.kind = 0 ∨ k.wait.line = i) (hw : l'.want = 0) : CW (A6 k i l' zOp) nl := by
  constructor
  · intro _
    refine ⟨rfl, fun j hj => ?_⟩
    show ((k.lines.set _ l').getD j zLine).want = 0
    rw [Int.toNat_natCast, C5 _ _ _ _ _ (by rw [hl]; exact hi)]
    by_cases hj' : j = i
    · rw [if_pos hj']; exact hw
    · rw [if_neg hj']
      by_cases h00 : k.wait.kind = 0
      · exact (h.free h00).2 j hj
      · have := (h.busy h00).2.2.2 j hj
        rw [this, if_neg (by omega)]
  · intro h'; exact absurd rfl h'
theorem R6 {k : Core} {i : Nat} {l' : Line} (hl : k.lines.length = nl) (h : CW k nl) (hi : i < nl) (hw : l'.want = (k.lines.getD i zLine).want) : CW (A6 k i l' k.wait) nl := by
  have hg : ∀ j, ((A6 k i l' k.wait).lines.getD j zLine).want = (k.lines.getD j zLine).want := by
    intro j
    show ((k.lines.set _ l').getD j zLine).want = _
    rw [Int.toNat_natCast, C5 _ _ _ _ _ (by rw [hl]; exact hi)]
    by_cases hj' : j = i
    · rw [if_pos hj', hj']; exact hw
    · rw [if_neg hj']
  constructor
  · intro h0
    exact ⟨(h.free h0).1, fun j hj => by rw [hg]; exact (h.free h0).2 j hj⟩
  · intro h0
    obtain ⟨h1, h2, h3, h4⟩ := h.busy h0
    exact ⟨h1, h2, h3, fun j hj => by rw [hg]; exact h4 j hj⟩
theorem Om {k : Core} {i : Nat} (h : CW k nl) (hi : i < nl) (hw : (k.lines.getD i zLine).want ≠ 0) : k.wait.kind ≠ 0 ∧ k.wait.line = i ∧ (k.lines.getD i zLine).want = Ff k.wait.kind := by
  have h0 : k.wait.kind ≠ 0 := fun h0 => hw ((h.free h0).2 i hi)
  have h1 := (h.busy h0).2.2.2 i hi
  by_cases he : (i : Int) = k.wait.line
  · rw [if_pos he] at h1; exact ⟨h0, he.symm, h1⟩
  · rw [if_neg he] at h1; exact absurd h1 hw
theorem Rq {p : Nat} {o : Op} (h : Inv n nl x M) (hp : p < n) (hok : (Ar (cor x p) p n o).2.2.2 = 0) :
    ∃ M', Inv n nl (Df x p (Ar (cor x p) p n o).1 (Ar (cor x p) p n o).2.1) M' ∧ Eb M (Ar (cor x p) p n o).2.2.1 M' := by
  have hcl := h.ncl p hp
  have hcw := h.cw p hp
  unfold Ar at hok ⊢
  split at hok
  · cases hok
  split at hok
  · cases hok
  split at hok
  · cases hok
  rename_i k1 k2 k3
  rw [if_neg k1, if_neg k2, if_neg k3]
  obtain ⟨i, hi⟩ : ∃ i : Nat, o.line = i := ⟨o.line.toNat, by omega⟩
  have hin : i < nl := by omega
  have hlat : Ac (cor x p) o.line = lin x i p := by unfold Ac lin; rw [hi, Int.toNat_natCast]
  rw [hlat] at k3 ⊢
  have hci := h.ci i hin p hp
  have hgi := h.gi i hin
  have hw0 : (lin x i p).want = 0 := (hcw.free (by omega)).2 i hin
  have hval := h.mv i hin
  have hov : 0 ≤ o.value ∧ o.value ≤ 255 := by omega
  by_cases hd : Bm (lin x i p) o = true
  · rw [if_pos hd]
    unfold Df
    simp only [Int.toNat_natCast, way, hi]
    by_cases h4 : o.kind = 4
    · have hs : (lin x i p).state ≠ 2 := by unfold Bm at hd; rw [if_pos h4] at hd; simpa using hd
      have hb : Bf (lin x i p) o = { lin x i p with state := 0, value := 0 } := by unfold Bf; rw [if_pos h4, if_neg hs]
      have ht : Cd (lin x i p) o = 0 := by unfold Cd; rw [if_pos h4]
      rw [hb, ht]
      obtain ⟨c1, c2⟩ := Ui hgi hci hw0 hs
      have hI := h.core (w' := zOp) hp hin c1 (fun _ _ _ hh => hh) c2 (Im hcl hcw hin (.inl (by omega)) hw0) hval
      refine ⟨_, hI, ?_, ?_, hov, ?_, ?_⟩
      · show 1 ≤ o.kind ∧ o.kind ≤ 4; omega
      · show 0 ≤ o.line ∧ o.line < M.length; rw [h.ml]; omega
      · show (0 : Int) = _; rw [if_pos h4]
      · show Eb _ [] _
        simp only [Eb, hi, Int.toNat_natCast]
        rw [Fv (.inr h4)]
    · have hs : (lin x i p).state = 2 ∨ (lin x i p).state = 1 ∧ o.kind = 1 := by unfold Bm at hd; rw [if_neg h4] at hd; simpa using hd
      have hb : Bf (lin x i p) o = { lin x i p with value := (A8 (lin x i p).value o).1 } := by unfold Bf; rw [if_neg h4, if_pos hs]
      have ht : Cd (lin x i p) o = (A8 (lin x i p).value o).2 := by unfold Cd; rw [if_neg h4]
      have hV : (lin x i p).value = M.getD i 0 := by
        rcases hs with hs | hs
        · exact (hci.alo (.inl hs)).2
        · exact (hci.cop hs.1).2
      rw [hb, ht]
      have hr := Jp (o := o) hci.va hov
      have hI : Inv n nl ⟨x.cores.set p (A6 (cor x p) i { lin x i p with value := (A8 (lin x i p).value o).1 } zOp), x.home, x.frames⟩ (M.set i (A8 (lin x i p).value o).1) := by
        rcases hs with hs | hs
        · obtain ⟨c1, c2⟩ := Xf hgi hci hs hr
          exact h.core (w' := zOp) hp hin c1 (fun q hq hqp hh => Uh hgi hci (by omega) (by omega) hqp hh) c2 (Im hcl hcw hin (.inl (by omega)) hw0) hr
        · have e : (A8 (lin x i p).value o).1 = (lin x i p).value := Fv (.inl hs.2)
          rw [e]
          exact h.core (w' := zOp) hp hin (by show CI _ p (lin x i p) (lin x i p).value; rw [hV]; exact hci) (fun _ _ _ hh => by rw [hV]; exact hh) (fun _ hm => hm) (Im hcl hcw hin (.inl (by omega)) hw0) hci.va
      refine ⟨_, hI, ?_, ?_, hov, ?_, ?_⟩
      · show 1 ≤ o.kind ∧ o.kind ≤ 4; omega
      · show 0 ≤ o.line ∧ o.line < M.length; rw [h.ml]; omega
      · show (A8 (lin x i p).value o).2 = _; rw [if_neg h4]; simp only [hi, Int.toNat_natCast]; rw [hV]
      · show Eb _ [] _
        simp only [Eb, hi, Int.toNat_natCast]
        rw [hV]
  · rw [if_neg hd]
    unfold Df
    simp only [Int.toNat_natCast, hi]
    -- it asks
    have key : ∃ l', Bf (lin x i p) o = l' ∧ CI (ab (ent x i)) p l' (M.getD i 0) ∧ (∀ m, MI (ab (ent x i)) p (lin x i p) m → MI (ab (ent x i)) p l' m) ∧ l'.want = Ff o.kind ∧ l'.serial = (lin x i p).serial + 1 := by
      by_cases h4 : o.kind = 4
      · have hs : (lin x i p).state = 2 := by unfold Bm at hd; rw [if_pos h4] at hd; simpa using hd
        obtain ⟨c1, c2⟩ := c_put hgi hci hw0 hs (by omega)
        refine ⟨_, rfl, ?_⟩
        have hb : Bf (lin x i p) o = { lin x i p with state := 3, want := 3, serial := (lin x i p).serial + 1 } := by unfold Bf; rw [if_pos h4, if_pos hs]
        rw [hb]
        exact ⟨c1, c2, by simp [Ff, h4], rfl⟩
      · have hs : ¬ ((lin x i p).state = 2 ∨ (lin x i p).state = 1 ∧ o.kind = 1) := by unfold Bm at hd; rw [if_neg h4] at hd; simpa using hd
        have hst := hci.st
        have hlv := hci.leav
        have hkk : (if o.kind = 1 then (1 : Int) else 2) = Ff o.kind := by unfold Ff; split <;> first | rfl | rw [if_neg h4]
        obtain ⟨c1, c2⟩ := c_ask (k := if o.kind = 1 then 1 else 2) hgi hci hw0 (by split <;> omega) (by omega)
        refine ⟨_, rfl, ?_⟩
        have hb : Bf (lin x i p) o = { lin x i p with want := if o.kind = 1 then 1 else 2, serial := (lin x i p).serial + 1 } := by unfold Bf; rw [if_neg h4, if_neg hs]
        rw [hb]
        exact ⟨c1, c2, hkk, rfl⟩
    obtain ⟨l', hb, c1, c2, c3, c4⟩ := key
    rw [hb]
    have hI := h.core (w' := o) hp hin c1 (fun _ _ _ hh => hh) c2 (W9 hcl hcw (by omega) hin ⟨by omega, hi, hov⟩ c3) hval
    rw [h.same i hin] at hI
    refine ⟨M, ?_, rfl⟩
    refine hI.way fun m hm => ?_
    rw [List.mem_singleton.1 hm]
    have hwr : 1 ≤ l'.want ∧ l'.want ≤ 3 := by rw [c3]; unfold Ff; split <;> (try split) <;> omega
    refine ⟨Gg h hp hin (by omega) c1.se ⟨by omega, by omega⟩ (by have := c1.va; split <;> omega), ?_⟩
    unfold MX
    have hpe : P2 n (Dd l' p n i) = p := Jo
    rw [hpe]
    show MI (ab (ent x _)) p (lin _ _ p) _
    rw [show ((Dd l' p n i).line).toNat = i from Int.toNat_natCast i, O4 h hp hin]
    have hla := hci.la
    have e1 : (Dd l' p n i).kind = l'.want := rfl
    have e2 : (Dd l' p n i).serial = l'.serial := rfl
    have e3 : (Dd l' p n i).value = if l'.want = 3 then l'.value else 0 := rfl
    constructor <;> rw [e1] <;> (try rw [e2]) <;> (try rw [e3])
    · intro hk; exact ⟨Int.le_refl _, fun _ => ⟨rfl, rfl⟩⟩
    · intro hk; exact ⟨Int.le_refl _, fun _ => .inl ⟨rfl, hk, by rw [if_pos hk]⟩⟩
    all_goals intro hk; omega
theorem MX.said {p i : Nat} {l' : Line} {w' : Op} (h : Inv n nl x M) (hp : p < n) (hi : i < nl) {kind serial turn value : Int} {al : Bool} (hm : MI (ab (ent x i)) p l' ⟨kind, p, n, i, serial, turn, value, al⟩) {fr : Frames} :
  MX n ⟨x.cores.set p (A6 (cor x p) i l' w'), x.home, fr⟩ ⟨kind, p, n, i, serial, turn, value, al⟩ := by
 unfold MX
 rw [Jo]
 show MI (ab (ent x ((i : Int).toNat))) p (lin _ ((i : Int).toNat) p) _
 rw [Int.toNat_natCast, O4 h hp hi]
 exact hm
theorem MX.saidSame {p i : Nat} (hp : p < n) {kind serial turn value : Int} {al : Bool} (hm : MI (ab (ent x i)) p (lin x i p) ⟨kind, p, n, i, serial, turn, value, al⟩) : MX n x ⟨kind, p, n, i, serial, turn, value, al⟩ := by
 unfold MX
 rw [Jo]
 show MI (ab (ent x ((i : Int).toNat))) p (lin _ ((i : Int).toNat) p) _
 rw [Int.toNat_natCast]
 exact hm
theorem MX.told {p i : Nat} {e' : Entry} (h : Inv n nl x M) (hp : p < n) (hi : i < nl) {kind serial turn value : Int} {al : Bool} (hm : MI (ab e') p (lin x i p) ⟨kind, n, p, i, serial, turn, value, al⟩) {fr : Frames} :
  MX n ⟨x.cores, x.home.set i e', fr⟩ ⟨kind, n, p, i, serial, turn, value, al⟩ := by
 unfold MX
 rw [M4 hp]
 show MI (ab ((x.home.set i e').getD ((i : Int).toNat) Aq)) p (lin x ((i : Int).toNat) p) _
 rw [Int.toNat_natCast, C5 _ _ _ _ _ (by rw [h.nh]; exact hi), if_pos rfl]
 exact hm
theorem Tx {p : Nat} {m : Msg} (h : Inv n nl x M) (hp : p < n) (hd : m.dst = p) (hs : m.src = n) (hl : 0 ≤ m.line ∧ m.line < nl) (hr : (0 ≤ m.serial ∧ m.serial ≤ 65535) ∧ (0 ≤ m.turn ∧ m.turn ≤ 65535) ∧ (0 ≤ m.value ∧ m.value ≤ 255)) (hm : MX n x m) :
    ∃ M', Inv n nl (Df x p (Ap (cor x p) p n m).1 (Ap (cor x p) p n m).2.1) M' ∧ Eb M (Ap (cor x p) p n m).2.2 M' := by
  have hcl := h.ncl p hp
  have hcw := h.cw p hp
  obtain ⟨i, hi⟩ : ∃ i : Nat, m.line = i := ⟨m.line.toNat, by omega⟩
  have hin : i < nl := by omega
  have hlat : Ac (cor x p) m.line = lin x i p := by unfold Ac lin; rw [hi, Int.toNat_natCast]
  have hci := h.ci i hin p hp
  have hgi := h.gi i hin
  have hval := h.mv i hin
  have hMI : MI (ab (ent x i)) p (lin x i p) m := by
    unfold MX at hm
    have : P2 n m = p := by unfold P2; rw [if_neg (by omega), hd]; simp
    rw [this, hi, Int.toNat_natCast] at hm
    exact hm
  have hsame : Inv n nl (Df x p (cor x p) []) M := by
    unfold Df
    simp only [Int.toNat_natCast, way]
    have : x.cores.set p (cor x p) = x.cores := Ef _ _ _ (by rw [h.nc]; exact hp)
    rw [this]; exact h
  have hsaid : ∀ m', Bq (Fz n nl) m' = 0 → MX n x m' → Inv n nl (Df x p (cor x p) [m']) M := by
    intro m' h1 h2
    unfold Df
    simp only [Int.toNat_natCast]
    have : x.cores.set p (cor x p) = x.cores := Ef _ _ _ (by rw [h.nc]; exact hp)
    rw [this]
    exact h.way fun m'' hm'' => by rw [List.mem_singleton.1 hm'']; exact ⟨h1, h2⟩
  unfold Ap
  rw [if_neg (by rw [hcl]; omega)]
  rw [hlat]
  by_cases k4 : m.kind = 4
  · rw [if_pos k4]
    obtain ⟨c1, c2⟩ := c_inv hgi hci hMI k4
    have hwant : (Eh (lin x i p) m.turn).want = (lin x i p).want := by unfold Eh; split <;> (try split) <;> rfl
    have hI := h.core (w' := (cor x p).wait) hp hin c1 (fun _ _ _ hh => hh) c2 (R6 hcl hcw hin hwant) hval
    rw [h.same i hin] at hI
    refine ⟨M, ?_, rfl⟩
    unfold Df
    simp only [Int.toNat_natCast, hi]
    refine hI.way fun m' hm' => ?_
    rw [List.mem_singleton.1 hm']
    refine ⟨Gg h hp hin (by omega) (by omega) hr.2.1 (by omega), MX.said h hp hin ?_⟩
    have hseen : m.turn ≤ (Eh (lin x i p) m.turn).seen := by unfold Eh; split <;> (try split) <;> first | exact Int.le_refl _ | omega
    constructor <;> simp only <;> intro hk <;> first | omega | exact hseen
  rw [if_neg k4]
  by_cases k5 : m.kind = 5 ∨ m.kind = 6
  · rw [if_pos k5]
    by_cases hf : El (lin x i p) m.turn
    · rw [if_pos hf]
      obtain ⟨c1, c2, c3, c4⟩ := Xi hgi hci hMI k5 hf
      by_cases hw : (lin x i p).want = 3
      · rw [if_pos hw, if_pos hw]
        obtain ⟨w1, w2, w3⟩ := Om hcw hin (by show (lin x i p).want ≠ 0; omega)
        have hwant : (Dq (lin x i p) m.kind m.turn).want = 0 := by unfold Dq; rw [if_pos hw]
        have hI := h.core (w' := zOp) hp hin c1 (fun _ _ _ hh => hh) c2 (Im hcl hcw hin (.inr w2) hwant) hval
        rw [h.same i hin] at hI
        obtain ⟨b1, b2, b3, b4⟩ := hcw.busy w1
        have hk4 : (cor x p).wait.kind = 4 := by
          have : (3 : Int) = Ff (cor x p).wait.kind := by rw [← w3]; exact hw.symm
          unfold Ff at this; split at this <;> (try split at this) <;> omega
        refine ⟨M, ?_, b1, by rw [h.ml]; exact b2, b3, by show (0 : Int) = _; rw [if_pos hk4], ?_⟩
        · unfold Df
          simp only [Int.toNat_natCast, hi]
          refine hI.way fun m' hm' => ?_
          rw [List.mem_singleton.1 hm']
          exact ⟨Gg h hp hin (by omega) (by omega) hr.2.1 hci.va, MX.said h hp hin (c4 _ rfl rfl rfl)⟩
        · show Eb _ [] M
          simp only [Eb]
          rw [Fv (.inr hk4), w2, Int.toNat_natCast, h.same i hin]
      · rw [if_neg hw, if_neg hw]
        have hwant : (Dq (lin x i p) m.kind m.turn).want = (lin x i p).want := by unfold Dq; rw [if_neg hw]; split <;> rfl
        have hI := h.core (w' := (cor x p).wait) hp hin c1 (fun _ _ _ hh => hh) c2 (R6 hcl hcw hin hwant) hval
        rw [h.same i hin] at hI
        refine ⟨M, ?_, rfl⟩
        unfold Df
        simp only [Int.toNat_natCast, hi]
        refine hI.way fun m' hm' => ?_
        rw [List.mem_singleton.1 hm']
        exact ⟨Gg h hp hin (by omega) (by omega) hr.2.1 hci.va, MX.said h hp hin (c4 _ rfl rfl rfl)⟩
    · rw [if_neg hf]
      split
      · rename_i hg
        refine ⟨M, hsaid _ ?_ ?_, rfl⟩
        · rw [hi]; exact Gg h hp hin (by omega) (by omega) (by rw [← hg.1]; exact hr.2.1) hci.gi
        · rw [hi]; refine MX.saidSame hp ?_
          have := hci.ga
          constructor <;> simp only <;> intro hk <;> first | omega | exact ⟨this.2.1, fun a b c => ⟨a, trivial⟩⟩
      · exact ⟨M, hsame, rfl⟩
  rw [if_neg k5]
  by_cases k7 : m.kind = 7
  · rw [if_pos k7]
    by_cases hse : (lin x i p).serial < m.serial
    · rw [if_pos hse]; exact ⟨M, hsame, rfl⟩
    rw [if_neg hse]
    by_cases ha : Gr (lin x i p) m
    · rw [if_pos ha]
      have hwne : (lin x i p).want ≠ 0 := by have := ha.2; omega
      obtain ⟨w1, w2, w3⟩ := Om hcw hin hwne
      obtain ⟨b1, b2, b3, b4⟩ := hcw.busy w1
      have w3' : (lin x i p).want = Ff (cor x p).wait.kind := w3
      have hnk4 : (cor x p).wait.kind ≠ 4 := by
        intro e; rw [e] at w3'; simp [Ff] at w3'; have := ha.2; omega
      have hload : m.alone = false → (A8 m.value (cor x p).wait).1 = m.value := by
        intro hal
        have h2 := ha.2
        rw [hal] at h2
        have : (lin x i p).want = 1 := by simpa using h2
        refine Fv (.inl ?_)
        rw [this] at w3'
        unfold Ff at w3'; split at w3' <;> (try split at w3') <;> first | assumption | omega
      have hv := Jp (o := (cor x p).wait) hr.2.2 b3
      obtain ⟨c1, c2, c3, c4, c5⟩ := Xh (v := (A8 m.value (cor x p).wait).1) hgi hci hMI k7 ha hv hload
      have hI := h.core (w' := zOp) hp hin c1 (fun q _ hq hh => c4 q _ hq hh) c2 (Im hcl hcw hin (.inr w2) rfl) hv
      refine ⟨M.set i (A8 m.value (cor x p).wait).1, ?_, b1, by rw [h.ml]; exact b2, b3, ?_, ?_⟩
      · unfold Df
        simp only [Int.toNat_natCast, hi]
        refine hI.way fun m' hm' => ?_
        rw [List.mem_singleton.1 hm']
        exact ⟨Gg h hp hin (by omega) (by omega) hr.2.1 (by omega), MX.said h hp hin (c5 _ rfl rfl)⟩
      · show (A8 m.value (cor x p).wait).2 = _
        rw [if_neg hnk4, w2, Int.toNat_natCast, c3]
      · show Eb _ [] _
        simp only [Eb]
        rw [w2, Int.toNat_natCast, c3]
    · rw [if_neg ha]
      refine ⟨M, hsaid _ ?_ ?_, rfl⟩
      · rw [hi]; exact Gg h hp hin (by omega) (by omega) hr.2.1 (by omega)
      · rw [hi]; refine MX.saidSame hp ?_
        have hg := hMI.gra k7
        have hseen : m.turn ≤ (lin x i p).seen := by
          by_cases hc : m.serial = (lin x i p).serial ∧ (lin x i p).want ≠ 0
          · obtain ⟨g1, g2, g3, g4, g5⟩ := hg.2.1 hc.1 hc.2
            have hcur := hci.cur (by omega) g2
            exfalso
            apply ha
            refine ⟨hc.1, ?_⟩
            have hse' : (ab (ent x i)).serial = (lin x i p).serial := by have := hci.la; omega
            cases hal : m.alone with
            | true => right; have := g4.1 hal; exact ⟨by omega, rfl⟩
            | false =>
              left
              have hnot : ¬ (ab (ent x i)).alone = 1 := fun h1 => by have := g4.2 h1; rw [hal] at this; cases this
              have := hgi.al
              exact ⟨by omega, rfl⟩
          · exact hg.2.2 (by omega)
        constructor <;> simp only <;> intro hk <;> first | omega | exact hseen
  rw [if_neg k7]
  split
  · rename_i hk
    obtain ⟨k11, hw, hse⟩ := hk
    obtain ⟨c1, c2⟩ := Xg hgi hci hMI k11 hw hse
    obtain ⟨w1, w2, w3⟩ := Om hcw hin (by show (lin x i p).want ≠ 0; omega)
    obtain ⟨b1, b2, b3, b4⟩ := hcw.busy w1
    have hk4 : (cor x p).wait.kind = 4 := by
      have : (3 : Int) = Ff (cor x p).wait.kind := by rw [← w3]; exact hw.symm
      unfold Ff at this; split at this <;> (try split at this) <;> omega
    have hI := h.core (w' := zOp) hp hin c1 (fun _ _ _ hh => hh) c2 (Im hcl hcw hin (.inr w2) rfl) hval
    rw [h.same i hin] at hI
    refine ⟨M, ?_, b1, by rw [h.ml]; exact b2, b3, by show (0 : Int) = _; rw [if_pos hk4], ?_⟩
    · unfold Df
      simp only [Int.toNat_natCast, hi, way]
      exact hI
    · show Eb _ [] M
      simp only [Eb]
      rw [Fv (.inr hk4), w2, Int.toNat_natCast, h.same i hin]
  · exact ⟨M, hsame, rfl⟩
end
end Go.Proofs.Ytofgpimoekhfaaa

/- This file proves that the home, when it hears a message or says what its turns say, keeps what must hold; and so for each step of a chip. No program in sight. No conditions. -/
set_option linter.unusedVariables false
set_option linter.unusedSimpArgs false
namespace Go.Proofs.Ytofgpimoekhfaaa
open Abs
theorem Xc : ∀ (s : Fin 16) (p q : Fin 4), (Fm (s.val : Int) (p.val : Int)).toNat.testBit q.val = (decide (q ≠ p) && s.val.testBit q.val) := by decide
theorem R8 : ∀ (s : Fin 16) (p : Fin 4), 0 ≤ Fm (s.val : Int) (p.val : Int) ∧ Fm (s.val : Int) (p.val : Int) ≤ s.val := by decide
theorem Va : ∀ (s : Fin 16) (p q : Fin 4), (Gb (s.val : Int) (p.val : Int)).toNat.testBit q.val = (decide (q = p) || s.val.testBit q.val) := by decide
theorem Q5 : ∀ (n : Fin 5) (s : Fin 16) (p : Fin 4), p.val < n.val → s.val < 2 ^ n.val → 0 ≤ Gb (s.val : Int) (p.val : Int) ∧ Gb (s.val : Int) (p.val : Int) < (2 ^ n.val : Nat) := by decide
theorem Sk : ∀ (s : Fin 16), (∀ q : Fin 4, s.val.testBit q.val = false) → s.val = 0 := by decide
theorem high (s : Int) (h : 0 ≤ s ∧ s < 16) (q : Nat) (hq : 4 ≤ q) : s.toNat.testBit q = false := by
 apply Nat.testBit_lt_two_pow
 have : 2 ^ 4 ≤ 2 ^ q := Nat.pow_le_pow_right (by omega) hq
 omega
theorem Gx (s : Int) (h : 0 ≤ s ∧ s < 16) (q : Nat) (hq : 4 ≤ q) : D1 s q = 0 := by unfold D1; rw [high s h q hq]; rfl
theorem Ds (q : Nat) : D1 0 q = 0 := by simp [D1]
theorem Qz {s : Int} (h : 0 ≤ s ∧ s < 16) : ∃ f : Fin 16, (f.val : Int) = s := ⟨⟨s.toNat, by omega⟩, by simp only; omega⟩
theorem H1 {s : Int} {p : Nat} (h : 0 ≤ s ∧ s < 16) (hp : p < 4) : D1 (Fm s p) = upd (D1 s) p 0 := by
  obtain ⟨f, rfl⟩ := Qz h
  funext q
  have hr := R8 f ⟨p, hp⟩
  simp only at hr
  by_cases hq : q < 4
  · have := Xc f ⟨p, hp⟩ ⟨q, hq⟩
    simp only at this
    unfold D1 upd
    rw [this]
    by_cases hqp : q = p
    · subst hqp; simp
    · simp [hqp]
  · rw [Gx _ (by omega) _ (by omega)]
    unfold upd
    rw [if_neg (by omega), Gx _ (by omega) _ (by omega)]
theorem Np {s : Int} {p : Nat} (h : 0 ≤ s ∧ s < 16) (hp : p < 4) (q : Nat) : D1 (Gb s p) q = if q = p then 1 else D1 s q := by
  obtain ⟨f, rfl⟩ := Qz h
  have hr : 0 ≤ Gb (f.val : Int) (p : Int) ∧ Gb (f.val : Int) (p : Int) < 16 := Q5 4 f ⟨p, hp⟩ hp f.isLt
  by_cases hq : q < 4
  · have := Va f ⟨p, hp⟩ ⟨q, hq⟩
    simp only at this
    unfold D1
    rw [this]
    by_cases hqp : q = p
    · subst hqp; simp
    · simp [hqp]
  · rw [Gx _ (by omega) _ (by omega), if_neg (by omega), Gx _ (by omega) _ (by omega)]
theorem Pf {s : Int} {p n : Nat} (hn : n ≤ 4) (h : 0 ≤ s ∧ s < (2 ^ n : Nat)) (hp : p < 4) : 0 ≤ Fm s p ∧ Fm s p < (2 ^ n : Nat) := by
 have : (2 ^ n : Nat) ≤ 2 ^ 4 := Nat.pow_le_pow_right (by omega) hn
 obtain ⟨f, rfl⟩ := Qz (s := s) (by omega)
 have hr := R8 f ⟨p, hp⟩
 simp only at hr
 omega
theorem Ut {s : Int} {p n : Nat} (hn : n ≤ 4) (h : 0 ≤ s ∧ s < (2 ^ n : Nat)) (hp : p < n) : 0 ≤ Gb s p ∧ Gb s p < (2 ^ n : Nat) := by
 have : (2 ^ n : Nat) ≤ 2 ^ 4 := Nat.pow_le_pow_right (by omega) hn
 obtain ⟨f, rfl⟩ := Qz (s := s) (by omega)
 exact Q5 ⟨n, by omega⟩ f ⟨p, by omega⟩ hp (by simp only; omega)
theorem Jr {s : Int} {n : Nat} (hn : n ≤ 4) (h : 0 ≤ s ∧ s < (2 ^ n : Nat)) : 0 ≤ s ∧ s < 16 := by
 have : (2 ^ n : Nat) ≤ 2 ^ 4 := Nat.pow_le_pow_right (by omega) hn
 omega
theorem J9 {s : Int} (h : 0 ≤ s ∧ s < 16) (hb : ∀ q, q < 4 → D1 s q = 0) : s = 0 := by
 obtain ⟨f, rfl⟩ := Qz h
 have := Sk f fun q => by
  have := hb q.val q.isLt
  unfold D1 at this
  simp only [Int.toNat_natCast] at this
  cases ht : f.val.testBit q.val with
  | false => rfl
  | true => simp [ht] at this
 omega
theorem Nn {s : Int} {n : Nat} (hn : n ≤ 4) (h : 0 ≤ s ∧ s < (2 ^ n : Nat)) (h0 : s ≠ 0) : ∃ q : Nat, q < n ∧ D1 s q = 1 := by
  apply Classical.byContradiction
  intro hno
  apply h0
  refine J9 (Jr hn h) fun q _ => ?_
  by_cases hq : q < n
  · have : ¬ D1 s q = 1 := fun he => hno ⟨q, hq, he⟩
    unfold D1 at this ⊢
    split <;> rename_i hb
    · rw [if_pos hb] at this; exact absurd rfl this
    · rfl
  · unfold D1
    rw [Nat.testBit_lt_two_pow (show s.toNat < 2 ^ q by have : 2 ^ n ≤ 2 ^ q := Nat.pow_le_pow_right (by omega) (by omega); omega)]
    rfl
theorem Ru (s : Int) (p : Nat) : H2 s p = true ↔ D1 s p = 1 := by
 unfold H2 D1
 rw [Int.toNat_natCast]
 cases s.toNat.testBit p <;> simp
section
variable {n nl : Nat} {x : Chip} {M : List Int}
theorem N2 (h : Inv n nl x M) {i : Nat} (hi : i < nl) : ∀ m ∈ says (ent x i) i n, Bq (Fz n nl) m = 0 ∧ MX n x m := by
  intro m hm
  have hg := h.gi i hi
  have hn := h.n1
  have hto : ∀ {p : Nat} {kind serial turn value : Int} {al : Bool}, p < n → MI (ab (ent x i)) p (lin x i p) ⟨kind, n, p, i, serial, turn, value, al⟩ → MX n x ⟨kind, n, p, i, serial, turn, value, al⟩ := by
    intro p kind serial turn value al hp hmi
    unfold MX
    rw [M4 hp]
    show MI (ab (ent x ((i : Int).toNat))) p (lin x ((i : Int).toNat) p) _
    rw [Int.toNat_natCast]; exact hmi
  unfold says at hm
  by_cases h1 : (ent x i).phase = 1
  · rw [if_pos h1] at hm
    rw [List.mem_singleton.1 hm]
    have hf := hg.f1 h1
    have how := hg.own
    obtain ⟨p, hp⟩ : ∃ p : Nat, (ent x i).owner = p := ⟨(ent x i).owner.toNat, by show _ = _; have := hf.1; show (ent x i).owner = _; simp only [ab] at this; omega⟩
    have hpn : p < n := by have := how.2; simp only [ab] at this; omega
    rw [hp]
    refine ⟨La h hpn hi (by split <;> omega) (by omega) hg.tu (by omega), hto hpn ?_⟩
    have ha : (if (ent x i).alone = true then (6 : Int) else 5) = 5 + (ab (ent x i)).alone := by simp only [ab]; split <;> rfl
    rw [ha]
    have hal := hg.al
    constructor <;> simp only <;> intro hk <;> first | omega | exact ⟨Int.le_refl _, fun _ => ⟨rfl, h1, hp, trivial⟩⟩
  rw [if_neg h1] at hm
  by_cases h2 : (ent x i).phase = 2
  · rw [if_pos h2] at hm
    obtain ⟨q, hq, rfl⟩ := List.mem_map.1 hm
    obtain ⟨hq1, hq2⟩ := List.mem_filter.1 hq
    obtain ⟨p, rfl⟩ : ∃ p : Nat, q = p := ⟨q.toNat, by simp at hq1; omega⟩
    have hb := (Ru _ _).1 hq2
    have hpn : p < n := by
      apply Classical.byContradiction
      intro hge
      have hbit := (h.bit i hi).2
      unfold D1 at hb
      rw [Nat.testBit_lt_two_pow (show (ent x i).need.toNat < 2 ^ p by have : 2 ^ n ≤ 2 ^ p := Nat.pow_le_pow_right (by omega) (by omega); omega)] at hb
      simp at hb
    refine ⟨La h hpn hi (by omega) (by omega) hg.tu (by omega), hto hpn ?_⟩
    constructor <;> simp only <;> intro hk <;> first | omega | exact ⟨Int.le_refl _, fun _ => ⟨rfl, h2, hb⟩⟩
  rw [if_neg h2] at hm
  by_cases h3 : (ent x i).phase = 3
  · rw [if_pos h3] at hm
    rw [List.mem_singleton.1 hm]
    have hw := hg.whor (by show (ent x i).phase ≠ 0; omega)
    simp only [ab] at hw
    obtain ⟨p, hp⟩ : ∃ p : Nat, (ent x i).who = p := ⟨(ent x i).who.toNat, by omega⟩
    have hpn : p < n := by omega
    have hci := h.ci i hi p hpn
    have hcur := hci.cur (by show (ent x i).phase ≠ 0; omega) hp
    rw [hp]
    refine ⟨La h hpn hi (by omega) hg.se hg.tu hg.va, hto hpn ?_⟩
    constructor <;> simp only <;> intro hk <;> first | omega | skip
    refine ⟨by have := hcur.1; simp only [ab] at this ⊢; omega, fun e1 e2 => ⟨h3, hp, rfl, ?_, rfl⟩, fun hn' => ?_⟩
    · simp only [ab]; cases (ent x i).alone <;> simp
    · rcases hcur.2 with ⟨d1, d2, d3⟩ | ⟨d1, d2, d3, d4⟩
      · have hal := hg.al
        simp only [ab] at d1 d2 hal
        omega
      · simp only [ab] at d3 ⊢; omega
  · rw [if_neg h3] at hm; cases hm
theorem N4 (h : Inv n nl x M) : ∀ (k : Nat) (l : List Entry), x.home.drop k = l → ∀ m ∈ Cr n k l, Bq (Fz n nl) m = 0 ∧ MX n x m := by
  intro k l
  induction l generalizing k with
  | nil => intro _ m hm; cases hm
  | cons e l ih =>
    intro hd m hm
    have hk : k < x.home.length := by
      apply Classical.byContradiction
      intro hge
      rw [List.drop_of_length_le (by omega)] at hd; cases hd
    rw [List.drop_eq_getElem_cons hk] at hd
    injection hd with he hd
    simp only [Cr] at hm
    rcases List.mem_append.1 hm with hm | hm
    · have : ent x k = e := by unfold ent; rw [List.getD_eq_getElem?_getD, List.getElem?_eq_getElem hk, he]; rfl
      rw [← this] at hm
      exact N2 h (by rw [← h.nh]; exact hk) m hm
    · exact ih (k + 1) hd m (by push_cast; exact hm)
theorem Lu (h : Inv n nl x M) : Inv n nl ⟨x.cores, x.home, way x.frames (Fy x.home n)⟩ M :=
 h.way fun m hm => N4 h 0 x.home rfl m hm
theorem ask_ok (h : Inv n nl x M) {p i : Nat} (hp : p < n) (hi : i < nl) (hw : (lin x i p).want ≠ 0) : Bq (Fz n nl) (Dd (lin x i p) p n i) = 0 ∧ MX n x (Dd (lin x i p) p n i) := by
 have hci := h.ci i hi p hp
 have hwa := hci.wa
 refine ⟨Gg h hp hi (by omega) hci.se ⟨by omega, by omega⟩ (by have := hci.va; split <;> omega), MX.saidSame hp ?_⟩
 constructor <;> simp only <;> intro hk <;> first | exact ⟨Int.le_refl _, fun _ => ⟨trivial, trivial⟩⟩ | exact ⟨Int.le_refl _, fun _ => .inl ⟨trivial, hk, by rw [if_pos hk]⟩⟩ | omega
theorem Mj (h : Inv n nl x M) {p : Nat} (hp : p < n) : ∀ (k : Nat) (l : List Line), (cor x p).lines.drop k = l → ∀ m ∈ Da p n k l, Bq (Fz n nl) m = 0 ∧ MX n x m := by
  intro k l
  induction l generalizing k with
  | nil => intro _ m hm; cases hm
  | cons e l ih =>
    intro hd m hm
    have hk : k < (cor x p).lines.length := by
      apply Classical.byContradiction
      intro hge
      rw [List.drop_of_length_le (by omega)] at hd; cases hd
    rw [List.drop_eq_getElem_cons hk] at hd
    injection hd with he hd
    have hlin : lin x k p = e := by unfold lin; rw [List.getD_eq_getElem?_getD, List.getElem?_eq_getElem hk, he]; rfl
    simp only [Da] at hm
    split at hm
    · rename_i hw
      rcases List.mem_cons.1 hm with hm | hm
      · rw [hm, ← hlin]
        exact ask_ok h hp (by rw [← h.ncl p hp]; exact hk) (by rw [hlin]; exact hw)
      · exact ih (k + 1) hd m (by push_cast; exact hm)
    · exact ih (k + 1) hd m (by push_cast; exact hm)
theorem Lv (h : Inv n nl x M) {p : Nat} (hp : p < n) : Inv n nl ⟨x.cores, x.home, way x.frames (E1 (cor x p) p n)⟩ M :=
 h.way fun m hm => Mj h hp 0 _ rfl m hm
theorem W3 (h : Inv n nl x M) {i : Nat} (hi : i < nl) (e' : Entry) (fr : Frames) : ent ⟨x.cores, x.home.set i e', fr⟩ i = e' := by
 unfold ent
 rw [C5 _ _ _ _ _ (by rw [h.nh]; exact hi), if_pos rfl]
theorem Inv.homeSays {i : Nat} {e' : Entry} (h : Inv n nl x M) (hi : i < nl) (hI : Inv n nl ⟨x.cores, x.home.set i e', x.frames⟩ M) : Inv n nl ⟨x.cores, x.home.set i e', Go.Proofs.Ytofgpimoekhfaaa.way x.frames (says e' i n)⟩ M := by
 have := N2 hI hi
 rw [W3 h hi] at this
 exact hI.way this
end
end Go.Proofs.Ytofgpimoekhfaaa

/- This file proves that the home, when it hears a message that may be on the way, keeps what must hold; and so for each step of a chip. No program in sight. No conditions. -/
set_option linter.unusedVariables false
set_option linter.unusedSimpArgs false
namespace Go.Proofs.Ytofgpimoekhfaaa
open Abs
section
variable {n nl : Nat} {x : Chip} {M : List Int}
theorem Pl (e : Entry) : (ab e).alone = 1 ↔ e.alone = true := by simp only [ab]; cases e.alone <;> simp
theorem Nx (e : Entry) : (ab e).alone = 0 ↔ e.alone = false := by simp only [ab]; cases e.alone <;> simp
theorem Vq {p i : Nat} {m : Msg} (h : Inv n nl x M) (hp : p < n) (hi : i < nl) (hs : m.src = p) (hms : 0 ≤ m.serial ∧ m.serial ≤ 65535) (hM : MI (ab (ent x i)) p (lin x i p) m) (hk : m.kind = 1 ∨ m.kind = 2) (h0 : (ent x i).phase = 0)
    (hl : C6 (ent x i) m.src < m.serial) (ht : (ent x i).turn < 65535) : Inv n nl ⟨x.cores, x.home.set i (Gc (ent x i) m), x.frames⟩ M := by
  have hn := h.n1
  have hb := h.bit i hi
  have hgi := h.gi i hi
  have hlast : (ent x i).last.getD p 0 < m.serial := by unfold C6 at hl; rw [hs, Int.toNat_natCast] at hl; exact hl
  have hla := h.nla i hi
  have hlu : (fun q => ((ent x i).last.set p m.serial).getD q 0) = upd (ab (ent x i)).last p m.serial := by
    funext q; rw [C5 _ _ _ _ _ (by rw [hla]; exact hp)]; rfl
  have hclr := Pf (by omega) hb.1 (show p < 4 by omega)
  have hbc := H1 (Jr (by omega) hb.1) (show p < 4 by omega)
  have hal : (if (m.kind == 2) = true then (1 : Int) else 0) = m.kind - 1 := by rcases hk with hk | hk <;> simp [hk]
  unfold Gc A3
  simp only [hs, Int.toNat_natCast]
  by_cases ho : 0 ≤ (ent x i).owner
  · rw [if_pos ho]
    refine h.home hi (by simpa using hla) ⟨hb.1, ⟨by simp only; omega, by have : 0 < 2 ^ n := Nat.two_pow_pos n; simp only; omega⟩⟩ ?_
    exact Vw hgi (h.ci i hi) hp hM hk hms h0 hlast ht rfl rfl rfl rfl rfl hal rfl hlu (.inl ⟨ho, rfl, fun q => Ds q⟩)
  · rw [if_neg ho]
    by_cases hc : (m.kind == 2) = true ∧ Fm (ent x i).sharers p ≠ 0
    · rw [if_pos hc]
      refine h.home hi (by simpa using hla) ⟨hb.1, hclr⟩ ?_
      refine Vw hgi (h.ci i hi) hp hM hk hms h0 hlast ht rfl rfl rfl rfl rfl hal rfl hlu (.inr (.inl ⟨by simp only [ab]; omega, by simpa using hc.1, rfl, Nn (by omega) hclr hc.2, fun q => ?_⟩))
      show D1 (Fm (ent x i).sharers p) q = _
      rw [hbc]; rfl
    · rw [if_neg hc]
      refine h.home hi (by simpa using hla) ⟨hb.1, ⟨by simp only; omega, by have : 0 < 2 ^ n := Nat.two_pow_pos n; simp only; omega⟩⟩ ?_
      refine Vw hgi (h.ci i hi) hp hM hk hms h0 hlast ht rfl rfl rfl rfl rfl hal rfl hlu (.inr (.inr ⟨by simp only [ab]; omega, rfl, fun q => Ds q, fun hk2 q hq hqp => ?_⟩))
      have hz : Fm (ent x i).sharers p = 0 := Classical.byContradiction fun hz => hc ⟨by simp [hk2], hz⟩
      have := congrFun hbc q
      rw [hz, Ds] at this
      unfold upd at this
      rw [if_neg hqp] at this
      exact this.symm
theorem Vp {p i : Nat} {m : Msg} (h : Inv n nl x M) (hp : p < n) (hi : i < nl) (hs : m.src = p) (hms : 0 ≤ m.serial ∧ m.serial ≤ 65535) (hmv : 0 ≤ m.value ∧ m.value ≤ 255) (hM : MI (ab (ent x i)) p (lin x i p) m) (hk : m.kind = 3) (h0 : (ent x i).phase = 0) :
    Inv n nl ⟨x.cores, x.home.set i (C7 (ent x i) m), x.frames⟩ M ∧ m.serial ≤ (C7 (ent x i) m).last.getD p 0 := by
  have hb := h.bit i hi
  have hgi := h.gi i hi
  have hla := h.nla i hi
  have hlu : (fun q => ((ent x i).last.set p m.serial).getD q 0) = upd (ab (ent x i)).last p m.serial := by
    funext q; rw [C5 _ _ _ _ _ (by rw [hla]; exact hp)]; rfl
  have hlast : C6 (ent x i) m.src = (ent x i).last.getD p 0 := by unfold C6; rw [hs, Int.toNat_natCast]
  unfold C7
  simp only [hs, Int.toNat_natCast] at hlast ⊢
  rw [hlast]
  by_cases hl : (ent x i).last.getD p 0 < m.serial
  · rw [if_pos hl]
    by_cases ho : (ent x i).owner = p
    · rw [if_pos ho]
      refine ⟨h.home hi (by simpa using hla) hb ?_, ?_⟩
      · exact h_put hgi (h.ci i hi) hp hM hk hmv h0 hl rfl rfl rfl rfl rfl hlu rfl rfl (.inl ⟨ho, rfl, rfl⟩)
      · simp only; rw [C5 _ _ _ _ _ (by rw [hla]; exact hp), if_pos rfl]; exact Int.le_refl _
    · rw [if_neg ho]
      refine ⟨h.home hi (by simpa using hla) hb ?_, ?_⟩
      · exact h_put hgi (h.ci i hi) hp hM hk hmv h0 hl rfl rfl rfl rfl rfl hlu rfl rfl (.inr ⟨ho, rfl, rfl⟩)
      · simp only; rw [C5 _ _ _ _ _ (by rw [hla]; exact hp), if_pos rfl]; exact Int.le_refl _
  · rw [if_neg hl]
    have : x.home.set i (ent x i) = x.home := Ef _ _ _ (by rw [h.nh]; exact hi)
    rw [this]
    exact ⟨h, by omega⟩
theorem Tz {p i : Nat} {m : Msg} (h : Inv n nl x M) (hp : p < n) (hi : i < nl) (hs : m.src = p) (hmv : 0 ≤ m.value ∧ m.value ≤ 255) (hM : MI (ab (ent x i)) p (lin x i p) m) (hk : m.kind = 9) (h0 : (ent x i).phase = 1) (ht : m.turn = (ent x i).turn) (ho : m.src = (ent x i).owner) :
    Inv n nl ⟨x.cores, x.home.set i (De (ent x i) m), x.frames⟩ M := by
  have hn := h.n1
  have hb := h.bit i hi
  have hgi := h.gi i hi
  have hla := h.nla i hi
  have hop : (ent x i).owner = p := by rw [← ho]; exact hs
  have hf := hgi.f1 h0
  have hsh0 : ∀ q, q < n → D1 (ent x i).sharers q = 0 := by
    intro q hq
    have h1 := (h.ci i hi q hq).shs
    have h2 := (h.ci i hi q hq).bits
    simp only [ab] at h1 h2 hf
    omega
  have hz : (ent x i).sharers = 0 := by
    refine J9 (Jr (by omega) hb.1) fun q _ => ?_
    by_cases hq : q < n
    · exact hsh0 q hq
    · unfold D1
      rw [Nat.testBit_lt_two_pow (show (ent x i).sharers.toNat < 2 ^ q by have : 2 ^ n ≤ 2 ^ q := Nat.pow_le_pow_right (by omega) (by omega); omega)]
      rfl
  have hpos : 0 < 2 ^ n := Nat.two_pow_pos n
  unfold De A3
  simp only
  rw [if_neg (by omega)]
  have hclr0 : ∀ w : Int, Fm 0 w = 0 := by intro w; unfold Fm H2; simp
  have hc : ¬ ((ent x i).alone = true ∧ Fm (if (ent x i).alone = true then (ent x i).sharers else Gb (ent x i).sharers (ent x i).owner) (ent x i).who ≠ 0) := by
    rintro ⟨h1, h2⟩
    rw [if_pos h1, hz, hclr0] at h2
    exact h2 rfl
  rw [if_neg hc]
  refine h.home hi hla ⟨?_, ⟨by simp only; omega, by simp only; omega⟩⟩ ?_
  · simp only
    split
    · exact hb.1
    · rw [hop]; exact Ut (by omega) hb.1 hp
  · refine h_data hgi (h.ci i hi) hp hM hk hmv h0 ht hop rfl rfl (fun q => ?_) rfl rfl rfl rfl rfl rfl (fun q => Ds q)
    show D1 (if (ent x i).alone = true then (ent x i).sharers else Gb (ent x i).sharers (ent x i).owner) q = if q = p ∧ (ab (ent x i)).alone = 0 then 1 else D1 (ent x i).sharers q
    have ha0 := Nx (ent x i)
    have hbs := Np (Jr (by omega) hb.1) (show p < 4 by omega) q
    rw [hop]
    cases hal : (ent x i).alone with
    | true => rw [hal] at ha0; simp only [Bool.true_eq_false, iff_false] at ha0; simp [ha0]
    | false => rw [hal] at ha0; simp only [iff_true] at ha0; simp [ha0, hbs]
theorem Ty {p i : Nat} {m : Msg} (h : Inv n nl x M) (hp : p < n) (hi : i < nl) (hs : m.src = p) (hM : MI (ab (ent x i)) p (lin x i p) m) (hk : m.kind = 8) (h0 : (ent x i).phase = 2) (ht : m.turn = (ent x i).turn) (ho : H2 (ent x i).need m.src = true) :
    Inv n nl ⟨x.cores, x.home.set i (if (Bo (ent x i) m).need = 0 then A3 (Bo (ent x i) m) else Bo (ent x i) m), x.frames⟩ M := by
  have hn := h.n1
  have hb := h.bit i hi
  have hgi := h.gi i hi
  have hla := h.nla i hi
  have hnd : D1 (ent x i).need p = 1 := by rw [hs] at ho; exact (Ru _ _).1 ho
  have hc1 := Pf (by omega) hb.1 (show p < 4 by omega)
  have hc2 := Pf (by omega) hb.2 (show p < 4 by omega)
  have hb1 := H1 (Jr (by omega) hb.1) (show p < 4 by omega)
  have hb2 := H1 (Jr (by omega) hb.2) (show p < 4 by omega)
  have hown := hgi.f23 (by show 2 ≤ (ent x i).phase; omega)
  simp only [ab] at hown
  have hal := (hgi.c2 h0).1
  rw [Pl] at hal
  unfold Bo
  simp only [hs]
  by_cases hz : Fm (ent x i).need p = 0
  · rw [if_pos hz]
    have hrest : ∀ q : Nat, q ≠ p → q < n → D1 (ent x i).need q = 0 := by
      intro q hqp hq
      have := congrFun hb2 q
      rw [hz, Ds] at this
      unfold upd at this
      rw [if_neg hqp] at this
      exact this.symm
    have hpw : (ent x i).who ≠ p := ((h.ci i hi p hp).ned hnd).2.1
    have hsh : ∀ q, q < n → (ent x i).who ≠ q → q ≠ p → D1 (ent x i).sharers q = 0 := by
      intro q hq hqw hqp
      have := (h.ci i hi q hq).cle h0 hqw
      simp only [ab] at this
      rw [← this]; exact hrest q hqp hq
    have hw := hgi.whor (by show (ent x i).phase ≠ 0; omega)
    simp only [ab] at hw
    obtain ⟨w, hw'⟩ : ∃ w : Nat, (ent x i).who = w := ⟨(ent x i).who.toNat, by omega⟩
    have hcc : Fm (Fm (ent x i).sharers p) (ent x i).who = 0 := by
      rw [hw']
      have hc3 := Pf (by omega) hc1 (show w < 4 by omega)
      refine J9 (Jr (by omega) hc3) fun q hq4 => ?_
      rw [H1 (Jr (by omega) hc1) (by omega), hb1]
      unfold upd
      split
      · rfl
      · split
        · rfl
        · by_cases hq : q < n
          · exact hsh q hq (by omega) (by assumption)
          · unfold D1
            rw [Nat.testBit_lt_two_pow (show (ent x i).sharers.toNat < 2 ^ q by have : 2 ^ n ≤ 2 ^ q := Nat.pow_le_pow_right (by omega) (by omega); omega)]
            rfl
    have hne : A3 { ent x i with need := Fm (ent x i).need p, sharers := Fm (ent x i).sharers p } = { ent x i with need := 0, sharers := Fm (ent x i).sharers p, phase := 3 } := by
      unfold A3
      simp only
      rw [if_neg (by omega), if_neg (by rintro ⟨_, h2⟩; exact h2 hcc)]
    rw [hne]
    refine h.home hi hla ⟨hc1, ⟨by simp only; omega, by have : 0 < 2 ^ n := Nat.two_pow_pos n; simp only; omega⟩⟩ ?_
    exact Uz hgi (h.ci i hi) hp hM hk h0 ht hnd rfl rfl hb1 rfl rfl rfl rfl rfl (.inr ⟨rfl, fun q => Ds q, fun q h1 h2 => hrest q h1 h2⟩)
  · rw [if_neg hz]
    refine h.home hi hla ⟨hc1, hc2⟩ ?_
    exact Uz hgi (h.ci i hi) hp hM hk h0 ht hnd rfl rfl hb1 rfl rfl rfl rfl rfl (.inl ⟨h0, hb2, Nn (by omega) hc2 hz⟩)
theorem P6 {p i : Nat} {m : Msg} (h : Inv n nl x M) (hp : p < n) (hi : i < nl) (hs : m.src = p) (hM : MI (ab (ent x i)) p (lin x i p) m) (hk : m.kind = 10) (h0 : (ent x i).phase = 3) (ht : m.turn = (ent x i).turn) (ho : m.src = (ent x i).who) :
    Inv n nl ⟨x.cores, x.home.set i (Bs (ent x i)), x.frames⟩ M := by
  have hn := h.n1
  have hb := h.bit i hi
  have hgi := h.gi i hi
  have hla := h.nla i hi
  have hwp : (ent x i).who = p := by rw [← ho]; exact hs
  have hpos : 0 < 2 ^ n := Nat.two_pow_pos n
  unfold Bs
  split
  · rename_i hal
    refine h.home hi hla ⟨⟨by simp only; omega, by simp only; omega⟩, hb.2⟩ ?_
    exact Pa hgi (h.ci i hi) hp hM hk h0 ht hwp rfl rfl rfl rfl rfl rfl rfl (fun q => rfl) (.inl ⟨(Pl _).2 hal, hwp, fun q => Ds q⟩)
  · rename_i hal
    refine h.home hi hla ⟨by simp only; rw [hwp]; exact Ut (by omega) hb.1 hp, hb.2⟩ ?_
    refine Pa hgi (h.ci i hi) hp hM hk h0 ht hwp rfl rfl rfl rfl rfl rfl rfl (fun q => rfl) (.inr ⟨(Nx _).2 (by simpa using hal), rfl, fun q => ?_⟩)
    show D1 (Gb (ent x i).sharers (ent x i).who) q = _
    rw [hwp, Np (Jr (by omega) hb.1) (by omega)]; rfl
theorem Nb {p : Nat} {m : Msg} (h : Inv n nl x M) (hp : p < n) (hs : m.src = p) (hd : m.dst = n) (hl : 0 ≤ m.line ∧ m.line < nl) (hr : (0 ≤ m.serial ∧ m.serial ≤ 65535) ∧ (0 ≤ m.turn ∧ m.turn ≤ 65535) ∧ (0 ≤ m.value ∧ m.value ≤ 255)) (hm : MX n x m) :
    Inv n nl ⟨x.cores, (Ai x.home n m).1, way x.frames (Ai x.home n m).2⟩ M := by
  obtain ⟨i, hi⟩ : ∃ i : Nat, m.line = i := ⟨m.line.toNat, by omega⟩
  have hin : i < nl := by omega
  have hen : Ad x.home m.line = ent x i := by unfold Ad ent; rw [hi, Int.toNat_natCast]
  have hla := h.nla i hin
  have hMI : MI (ab (ent x i)) p (lin x i p) m := by
    unfold MX at hm
    have : P2 n m = p := by unfold P2; rw [if_pos hd, hs]; simp
    rw [this, hi, Int.toNat_natCast] at hm
    exact hm
  have hsame : x.home.set i (ent x i) = x.home := Ef _ _ _ (by rw [h.nh]; exact hin)
  unfold Ai
  rw [hen, if_neg (by rw [h.nh, hla]; omega)]
  simp only [hi, Int.toNat_natCast]
  unfold Af
  by_cases k1 : m.kind = 1 ∨ m.kind = 2
  · rw [if_pos k1]
    by_cases hc : (ent x i).phase ≠ 0 ∨ m.serial ≤ C6 (ent x i) m.src ∨ 65535 ≤ (ent x i).turn
    · rw [if_pos hc]; simp only [way]; rw [hsame]; exact h
    · rw [if_neg hc, hi]
      exact h.homeSays hin (Vq h hp hin hs hr.1 hMI k1 (by omega) (by omega) (by omega))
  rw [if_neg k1]
  by_cases k3 : m.kind = 3
  · rw [if_pos k3]
    by_cases hc : (ent x i).phase ≠ 0
    · rw [if_pos hc]; simp only [way]; rw [hsame]; exact h
    · rw [if_neg hc]
      obtain ⟨hI, hle⟩ := Vp h hp hin hs hr.1 hr.2.2 hMI k3 (by omega)
      refine hI.way fun m' hm' => ?_
      rw [List.mem_singleton.1 hm', hs, hi]
      refine ⟨La h hp hin (by omega) hr.1 (by omega) (by omega), MX.told h hp hin ?_⟩
      constructor <;> simp only <;> intro hk <;> first | omega | exact hle
  rw [if_neg k3]
  by_cases k9 : m.kind = 9 ∧ m.turn = (ent x i).turn ∧ (ent x i).phase = 1 ∧ m.src = (ent x i).owner
  · rw [if_pos k9, hi]
    exact h.homeSays hin (Tz h hp hin hs hr.2.2 hMI k9.1 k9.2.2.1 k9.2.1 k9.2.2.2)
  rw [if_neg k9]
  by_cases k8 : m.kind = 8 ∧ m.turn = (ent x i).turn ∧ (ent x i).phase = 2 ∧ H2 (ent x i).need m.src = true
  · rw [if_pos k8]
    have hI := Ty h hp hin hs hMI k8.1 k8.2.2.1 k8.2.1 k8.2.2.2
    by_cases hz : (Bo (ent x i) m).need = 0
    · rw [if_pos hz] at hI ⊢; rw [hi]; exact h.homeSays hin hI
    · rw [if_neg hz] at hI ⊢; exact hI
  rw [if_neg k8]
  by_cases k10 : m.kind = 10 ∧ m.turn = (ent x i).turn ∧ (ent x i).phase = 3 ∧ m.src = (ent x i).who
  · rw [if_pos k10]
    exact P6 h hp hin hs hMI k10.1 k10.2.2.1 k10.2.1 k10.2.2.2
  · rw [if_neg k10]; simp only [way]; rw [hsame]; exact h
theorem U4 (h : Inv n nl x M) : A5 x = Fz n nl := by unfold A5 Fz Cj; rw [h.nc, h.nh]
theorem Ma {p : Nat} : Ba x p = cor x p := by unfold Ba cor; rw [Int.toNat_natCast]
theorem Nc {b : List UInt8} (h : Inv n nl x M) (hb : b.length = 12 ∧ ∀ m, Am (Fz n nl) b = (m, 0) → MX n x m) :
    ∃ M', Inv n nl (Fa x b).1 M' ∧ Eb M (Fa x b).2 M' := by
  unfold Fa
  rw [U4 h]
  have hnc : Cj x = n := by unfold Cj; rw [h.nc]
  rw [hnc]
  by_cases he : (Am (Fz n nl) b).2 ≠ 0
  · rw [if_pos he]; exact ⟨M, h, rfl⟩
  rw [if_neg he]
  have hpar : Am (Fz n nl) b = ((Am (Fz n nl) b).1, 0) := by
    have : (Am (Fz n nl) b).2 = 0 := Classical.byContradiction he
    rw [← this]
  have hm := hb.2 _ hpar
  obtain ⟨w1, w2, w3, w4, w5, w6, w7⟩ := Hj (I5 hpar).2.2.2.2.1
  generalize (Am (Fz n nl) b).1 = m at hm w1 w2 w3 w4 w5 w6 w7 ⊢
  simp only [Fz] at w2 w3 w7
  by_cases hd : m.dst = (n : Int)
  · rw [if_pos hd]
    have hs : ¬ m.src = (n : Int) := fun hs => w7 ⟨fun _ => hd, fun _ => hs⟩
    obtain ⟨p, hp⟩ : ∃ p : Nat, m.src = p := ⟨m.src.toNat, by omega⟩
    exact ⟨M, Nb h (by omega) hp hd w3 ⟨w4, w5, w6⟩ hm, rfl⟩
  · rw [if_neg hd]
    have hs : m.src = (n : Int) := Classical.byContradiction fun hs => w7 ⟨fun h => absurd h hs, fun h => absurd h hd⟩
    obtain ⟨p, hp⟩ : ∃ p : Nat, m.dst = p := ⟨m.dst.toNat, by omega⟩
    rw [hp, Ma]
    exact Tx h (by omega) hp hs w3 ⟨w4, w5, w6⟩ hm
theorem inv_do {s : Step} (h : Inv n nl x M) (hok : (A0 x s).2.2 = 0) : ∃ M', Inv n nl (A0 x s).1 M' ∧ Eb M (A0 x s).2.1 M' := by
  have hnc : Cj x = n := by unfold Cj; rw [h.nc]
  have hcf := U4 h
  unfold A0 at hok ⊢
  rw [hnc] at hok ⊢
  rw [hcf] at hok ⊢
  by_cases k1 : s.kind = 1
  · rw [if_pos k1] at hok ⊢
    split at hok
    · cases hok
    rename_i hnode
    rw [if_neg hnode]
    obtain ⟨p, hp⟩ : ∃ p : Nat, s.node = p := ⟨s.node.toNat, by omega⟩
    have hpn : p < n := by omega
    rw [hp, Ma] at hok ⊢
    split at hok
    · rename_i hz; exact absurd hok hz
    rename_i hz
    rw [if_neg hz]
    exact Rq h hpn (Classical.byContradiction hz)
  rw [if_neg k1] at hok ⊢
  by_cases k2 : s.kind = 2
  · rw [if_pos k2] at hok ⊢
    split at hok
    · cases hok
    rename_i hf
    rw [if_neg hf]
    exact Nc (h.erase _) (h.mi _ (Hp hf))
  rw [if_neg k2] at hok ⊢
  by_cases k3 : s.kind = 3
  · rw [if_pos k3] at hok ⊢
    split at hok
    · cases hok
    rename_i hf
    rw [if_neg hf]
    exact ⟨M, h.erase _, rfl⟩
  rw [if_neg k3] at hok ⊢
  by_cases k4 : s.kind = 4
  · rw [if_pos k4] at hok ⊢
    split at hok
    · cases hok
    rename_i hf
    rw [if_neg hf]
    exact ⟨M, h.send (h.mi _ (Hp hf)), rfl⟩
  rw [if_neg k4] at hok ⊢
  by_cases k5 : s.kind = 5
  · rw [if_pos k5] at hok ⊢
    split at hok
    · cases hok
    rename_i hf
    rw [if_neg hf]
    split at hok
    · cases hok
    rename_i hq
    rw [if_neg hq]
    split at hok
    · rename_i hz; exact absurd hok hz
    rename_i hz
    rw [if_neg hz]
    have hf' : ¬ (s.n < 0 ∨ (x.frames.length : Int) ≤ s.n) := hf
    unfold Er at hz ⊢
    rw [if_neg hf'] at hz ⊢
    split at hz
    · exact absurd (show (3 : Int) ≠ 0 by decide) hz
    rename_i hbit
    rw [if_neg hbit]
    exact ⟨M, h.spoil hf' (Classical.byContradiction hq) (by omega) (by omega), rfl⟩
  rw [if_neg k5] at hok ⊢
  by_cases k6 : s.kind = 6
  · rw [if_pos k6] at hok ⊢
    split at hok
    · cases hok
    rename_i hnode
    rw [if_neg hnode]
    by_cases hh : s.node = (n : Int)
    · rw [if_pos hh, hh]; exact ⟨M, Lu h, rfl⟩
    · rw [if_neg hh]
      obtain ⟨p, hp⟩ : ∃ p : Nat, s.node = p := ⟨s.node.toNat, by omega⟩
      rw [hp, Ma]
      exact ⟨M, Lv h (by omega), rfl⟩
  · rw [if_neg k6] at hok; cases hok
end
end Go.Proofs.Ytofgpimoekhfaaa

/- This file proves that whatever steps there were a chip is as it must be, and all that is done is as of memory that is one. No program in sight. No conditions. -/
set_option linter.unusedVariables false
set_option linter.unusedSimpArgs false
namespace Go.Proofs.Ytofgpimoekhfaaa
open Abs
section
variable {n nl : Nat} {x : Chip} {M : List Int}
theorem Es {α : Type} (k i : Nat) (a d : α) (h : i < k) : (List.replicate k a).getD i d = a := by
 rw [List.getD_eq_getElem?_getD, List.getElem?_replicate, if_pos h]; rfl
theorem G4 {α : Type} (k i : Nat) (a : α) : (List.replicate k a).getD i a = a := by
 rw [List.getD_eq_getElem?_getD, List.getElem?_replicate]; split <;> rfl
def Gm (n nl : Nat) : Chip := ⟨List.replicate n ⟨List.replicate nl zLine, zOp⟩, List.replicate nl { Aq with last := List.replicate n 0 }, []⟩
theorem Ro (hn : 1 ≤ n ∧ n ≤ 4) (hl : 1 ≤ nl ∧ nl ≤ 4) : Inv n nl (Gm n nl) (List.replicate nl 0) := by
  have hcor : ∀ p, p < n → cor (Gm n nl) p = ⟨List.replicate nl zLine, zOp⟩ := fun p hp => Es _ _ _ _ hp
  have hlin : ∀ i p, i < nl → p < n → lin (Gm n nl) i p = zLine := by
    intro i p hi hp; unfold lin; rw [hcor p hp]; exact Es _ _ _ _ hi
  have hent : ∀ i, i < nl → ent (Gm n nl) i = { Aq with last := List.replicate n 0 } := fun i hi => Es _ _ _ _ hi
  have hpos : 0 < 2 ^ n := Nat.two_pow_pos n
  have hM : ∀ i, (List.replicate nl (0 : Int)).getD i 0 = 0 := fun i => G4 _ _ _
  refine ⟨hn, hl, by simp [Gm], by simp [Gm], ?_, ?_, by simp, ?_, ?_, ?_, ?_, ?_, by simp [Gm], ?_⟩
  · intro p hp; rw [hcor p hp]; simp
  · intro i hi; rw [hent i hi]; simp
  · intro i hi; rw [hM]; omega
  · intro i hi; rw [hent i hi]; simp only [Aq]; omega
  · intro i hi; rw [hent i hi]
    have h1 : ∀ q, D1 0 q = 0 := fun q => Ds q
    constructor <;> simp only [ab, Aq] <;> first | omega | (intro h; omega) | simp
  · intro i hi p hp
    rw [hent i hi, hlin i p hi hp, hM]
    have h1 : D1 0 p = 0 := Ds p
    have h2 : (List.replicate n (0 : Int)).getD p 0 = 0 := G4 _ _ _
    constructor <;> simp only [ab, Aq, zLine] <;> (try rw [h1]) <;> (try rw [h2]) <;> first | omega | simp
  · intro p hp
    rw [hcor p hp]
    constructor
    · intro _; exact ⟨rfl, fun i hi => by rw [Es _ _ _ _ hi]; rfl⟩
    · intro h; exact absurd rfl h
  · intro b hb; cases hb
theorem K6 {c : Config} (h : (Cc c).2 = 0) : ∃ n nl : Nat, (1 ≤ n ∧ n ≤ 4) ∧ (1 ≤ nl ∧ nl ≤ 4) ∧ c = Fz n nl ∧ Cc c = (Gm n nl, 0) := by
  unfold Cc at h ⊢
  split at h
  · cases h
  rename_i hc
  have hc0 : H0 c = 0 := Classical.byContradiction hc
  unfold H0 at hc0
  split at hc0
  · cases hc0
  rename_i hr
  refine ⟨c.cores.toNat, c.lines.toNat, by omega, by omega, ?_, ?_⟩
  · unfold Fz; cases c; simp only [Config.mk.injEq]; simp only at hr; omega
  · rw [if_neg hc]; rfl
theorem Hu {M M' M'' : List Int} : ∀ {a b : List Done}, Eb M a M' → Eb M' b M'' → Eb M (a ++ b) M''
 | [], b, h1, h2 => by rw [show M' = M from h1] at h2; exact h2
 | d :: a, b, ⟨h1, h2, h3, h4, h5⟩, h6 => ⟨h1, h2, h3, h4, Hu h5 h6⟩
theorem Hq : ∀ (l : List Step) {x : Chip} {M : List Int}, Inv n nl x M → ∃ M', Inv n nl (E0 x l).1 M' ∧ Eb M (E0 x l).2 M'
  | [], x, M, h => ⟨M, h, rfl⟩
  | s :: r, x, M, h => by
    simp only [E0]
    split
    · rename_i hok
      obtain ⟨M1, h1, d1⟩ := inv_do h hok
      obtain ⟨M2, h2, d2⟩ := Hq r h1
      exact ⟨M2, h2, Hu d1 d2⟩
    · exact Hq r h
theorem Rp {c : Config} {l : List Step} (h : (Cc c).2 = 0) : ∃ n nl : Nat, c = Fz n nl ∧ ∃ M, Inv n nl (build c l).1 M ∧ Eb (List.replicate nl 0) (build c l).2 M := by
 obtain ⟨n, nl, h1, h2, h3, h4⟩ := K6 h
 refine ⟨n, nl, h3, ?_⟩
 unfold build
 rw [if_neg (by rw [h]; simp), h4]
 exact Hq _ (Ro h1 h2)
end
end Go.Proofs.Ytofgpimoekhfaaa

/- This file proves that numbers in chips that come of steps, and in what is said there, lie within bounds. No program in sight. No conditions. -/
set_option linter.unusedVariables false
set_option linter.unusedSimpArgs false
set_option maxHeartbeats 1000000
set_option maxRecDepth 8000
namespace Go.Proofs.Ytofgpimoekhfaaa
open Go
theorem T3 {α : Type} {l : List α} {d : α} {P : α → Prop} (h : ∀ i, i < l.length → P (l.getD i d)) : ∀ x ∈ l, P x := by
 intro x hx
 obtain ⟨i, hi, rfl⟩ := List.getElem_of_mem hx
 have := h i hi
 rwa [List.getD_eq_getElem?_getD, List.getElem?_eq_getElem hi] at this
section
variable {n nl : Nat} {x : Chip} {M : List Int}
open Abs
theorem Inv.kb (h : Inv n nl x M) {p : Nat} (hp : p < n) : KB (cor x p) := by
 have h1 := h.ncl p hp
 have h2 := h.l1
 refine ⟨by omega, fun i hi => (h.ci i (by omega) p hp).va, by rw [h1]; exact h.cw p hp⟩
theorem Inv.eb (h : Inv n nl x M) {i : Nat} (hi : i < nl) : EB (ent x i) := by
  have hg := h.gi i hi
  have hb := h.bit i hi
  have hn := h.n1
  have b1 := Jr hn.2 hb.1
  have b2 := Jr hn.2 hb.2
  have w : 0 ≤ (ent x i).who ∧ (ent x i).who < 4 := by
    by_cases h0 : (ent x i).phase = 0
    · have := (hg.idle h0).1; simp only [ab] at this; omega
    · have := hg.whor h0; simp only [ab] at this; omega
  have o := hg.own; have ph := hg.ph; have tu := hg.tu; have va := hg.va; have se := hg.se
  simp only [ab] at o ph tu va se
  unfold EB Entry.wf Ax
  omega
theorem Inv.ebd (h : Inv n nl x M) {i : Nat} (hi : i < nl) : ((ent x i).turn ≤ 65535) ∧ (0 ≤ (ent x i).serial ∧ (ent x i).serial ≤ 65535) ∧ (0 ≤ (ent x i).value ∧ (ent x i).value ≤ 255) := by
 have hg := h.gi i hi
 exact ⟨hg.tu.2, hg.se, hg.va⟩
def LB (l : Line) : Prop := (0 ≤ l.value ∧ l.value ≤ 255) ∧ (0 ≤ l.want ∧ l.want ≤ 3) ∧ (0 ≤ l.serial ∧ l.serial ≤ 65535) ∧ (0 ≤ l.gave ∧ l.gave ≤ 65535) ∧ (0 ≤ l.given ∧ l.given ≤ 255) ∧ (0 ≤ l.seen ∧ l.seen ≤ 65535) ∧ (0 ≤ l.state ∧ l.state ≤ 3)
theorem Inv.lb (h : Inv n nl x M) {i p : Nat} (hi : i < nl) (hp : p < n) : LB (lin x i p) := by
 have hc := h.ci i hi p hp
 have ht := (h.gi i hi).tu
 have h1 := hc.ga
 exact ⟨hc.va, hc.wa, hc.se, by omega, hc.gi, by omega, hc.st⟩
end
theorem U7 {l : Line} (h : LB l) {id home i : Int} (h1 : 0 ≤ id ∧ id ≤ 15) (h2 : 0 ≤ home ∧ home ≤ 15) (h3 : 0 ≤ i ∧ i ≤ 255) : MsgIn (Dd l id home i) := by
 unfold Dd MsgIn; unfold LB at h; simp only; split <;> omega
theorem Ja {kind id home i t v : Int} (h1 : 0 ≤ id ∧ id ≤ 15) (h2 : 0 ≤ home ∧ home ≤ 15) (h3 : 0 ≤ i ∧ i ≤ 255) (hk : 0 ≤ kind ∧ kind ≤ 255) (ht : 0 ≤ t ∧ t ≤ 65535) (hv : 0 ≤ v ∧ v ≤ 255) : MsgIn (Cn kind id home i t v) := by
 unfold Cn MsgIn; simp only; omega
theorem Um {c : Core} {id home : Int} {o : Op} (h1 : 0 ≤ id ∧ id ≤ 15) (h2 : 0 ≤ home ∧ home ≤ 15) (hl : c.lines.length ≤ 4) (hb : ∀ i, i < c.lines.length → LB (c.lines.getD i zLine)) : ∀ m ∈ (Ar c id home o).2.1, MsgIn m := by
  unfold Ar
  split
  · intro m hm; cases hm
  split
  · intro m hm; cases hm
  split
  · intro m hm; cases hm
  rename_i k1 k2 k3
  split
  · intro m hm; cases hm
  · intro m hm
    rw [List.mem_singleton.1 hm]
    have hL : LB (Ac c o.line) := hb o.line.toNat (by omega)
    refine U7 ?_ h1 h2 (by omega)
    unfold LB at hL ⊢
    unfold Bf
    split
    · split <;> simp only <;> omega
    split
    · exfalso
      rename_i h3 h4 h5
      apply h3
      unfold Bm
      rw [if_neg h4]
      simp; omega
    · split <;> simp only <;> omega
theorem Vu {c : Core} {id home : Int} {m : Msg} (h1 : 0 ≤ id ∧ id ≤ 15) (h2 : 0 ≤ home ∧ home ≤ 15) (hl : c.lines.length ≤ 4) (hb : ∀ i, i < c.lines.length → LB (c.lines.getD i zLine)) (ht : 0 ≤ m.turn ∧ m.turn ≤ 65535) : ∀ a ∈ (Ap c id home m).2.1, MsgIn a := by
  unfold Ap
  split
  · intro a ha; cases ha
  rename_i k1
  have hL : LB (Ac c m.line) := hb m.line.toNat (by omega)
  have h3 : 0 ≤ m.line ∧ m.line ≤ 255 := by omega
  unfold LB at hL
  split
  · intro a ha; rw [List.mem_singleton.1 ha]; exact Ja h1 h2 h3 (by omega) ht (by omega)
  split
  · split
    · intro a ha; rw [List.mem_singleton.1 ha]; exact Ja h1 h2 h3 (by omega) ht (by omega)
    split
    · intro a ha; rw [List.mem_singleton.1 ha]; exact Ja h1 h2 h3 (by omega) (by omega) (by omega)
    · intro a ha; cases ha
  split
  · split
    · intro a ha; cases ha
    split
    · intro a ha; rw [List.mem_singleton.1 ha]; exact Ja h1 h2 h3 (by omega) ht (by omega)
    · intro a ha; rw [List.mem_singleton.1 ha]; exact Ja h1 h2 h3 (by omega) ht (by omega)
  split
  · intro a ha; cases ha
  · intro a ha; cases ha
theorem says_in {e : Entry} {i id : Int} (he : EB e) (ht : e.turn ≤ 65535) (hs : 0 ≤ e.serial ∧ e.serial ≤ 65535) (hv : 0 ≤ e.value ∧ e.value ≤ 255) (hp : e.phase = 1 → 0 ≤ e.owner) (hi : 0 ≤ i ∧ i ≤ 255) (hd : 0 ≤ id ∧ id ≤ 15) : ∀ a ∈ says e i id, MsgIn a := by
  unfold says
  unfold EB at he
  split
  · rename_i h1
    have := hp h1
    intro a ha; rw [List.mem_singleton.1 ha]; unfold MsgIn; simp only; split <;> omega
  split
  · intro a ha
    obtain ⟨p, hp, rfl⟩ := List.mem_map.1 ha
    have h4 := (List.mem_filter.1 hp).1
    have : 0 ≤ p ∧ p ≤ 3 := by
      simp only [List.mem_cons, List.not_mem_nil, or_false] at h4; omega
    unfold MsgIn; simp only; omega
  split
  · intro a ha; rw [List.mem_singleton.1 ha]; unfold MsgIn; simp only; omega
  · intro a ha; cases ha
theorem Lr {e : Entry} : (A3 e).phase = 1 → 0 ≤ (A3 e).owner := by
  unfold A3; split
  · intro _; assumption
  split
  · intro h; simp at h
  · intro h; simp at h
theorem Dr (e : Entry) : (A3 e).turn = e.turn ∧ (A3 e).serial = e.serial ∧ (A3 e).value = e.value ∧ (A3 e).owner = e.owner ∧ (A3 e).last = e.last := by
  unfold A3; split
  · simp
  split <;> simp
theorem Oi {l : List Entry} {id : Int} {m : Msg} (hd : 0 ≤ id ∧ id ≤ 15) (hl : l.length ≤ 4) (hb : ∀ i, i < l.length → EB (l.getD i Aq) ∧ (l.getD i Aq).turn ≤ 65535 ∧ (0 ≤ (l.getD i Aq).serial ∧ (l.getD i Aq).serial ≤ 65535) ∧ (0 ≤ (l.getD i Aq).value ∧ (l.getD i Aq).value ≤ 255) ∧ (l.getD i Aq).last.length ≤ 4)
    (hs : 0 ≤ m.serial ∧ m.serial ≤ 65535) (hv : 0 ≤ m.value ∧ m.value ≤ 255) : ∀ a ∈ (Ai l id m).2, MsgIn a := by
  unfold Ai
  split
  · intro a ha; cases ha
  rename_i k
  obtain ⟨h1, h2, h3, h4, h5⟩ := hb m.line.toNat (by omega)
  change EB (Ad l m.line) at h1
  change (Ad l m.line).turn ≤ 65535 at h2
  change 0 ≤ (Ad l m.line).serial ∧ (Ad l m.line).serial ≤ 65535 at h3
  change 0 ≤ (Ad l m.line).value ∧ (Ad l m.line).value ≤ 255 at h4
  change (Ad l m.line).last.length ≤ 4 at h5
  have hi : 0 ≤ m.line ∧ m.line ≤ 255 := by omega
  have hE := h1
  unfold EB Entry.wf Ax at hE
  simp only
  generalize Ad l m.line = e at h1 h2 h3 h4 h5 hE k
  unfold Af
  split
  · split
    · intro a ha; cases ha
    · rename_i k2
      have hX : EB { e with last := e.last.set m.src.toNat m.serial, who := m.src, serial := m.serial, alone := m.kind == 2, turn := e.turn + 1 } := by unfold EB Entry.wf Ax; simp only; omega
      have hr := Dr { e with last := e.last.set m.src.toNat m.serial, who := m.src, serial := m.serial, alone := m.kind == 2, turn := e.turn + 1 }
      simp only at hr
      unfold Gc
      exact says_in (C1 hX) (by rw [hr.1]; omega) (by rw [hr.2.1]; exact hs) (by rw [hr.2.2.1]; exact h4) Lr hi hd
  split
  · split
    · intro a ha; cases ha
    · intro a ha; rw [List.mem_singleton.1 ha]; unfold MsgIn; simp only; omega
  split
  · rename_i k3
    have hs4 : 0 ≤ (if e.alone = true then e.sharers else Gb e.sharers e.owner) ∧ (if e.alone = true then e.sharers else Gb e.sharers e.owner) < 16 := by
      split
      · omega
      · obtain ⟨_, _, r, _⟩ := Bz hE.2.1.1 hE.2.1.2 (show 0 ≤ e.owner by omega) hE.2.2.2.2.1.2; exact r
    have hX : EB { e with value := m.value, sharers := if e.alone then e.sharers else Gb e.sharers e.owner, owner := -1 } := by
      generalize (if e.alone = true then e.sharers else Gb e.sharers e.owner) = z at hs4 ⊢
      unfold EB Entry.wf Ax; simp only; omega
    have hr := Dr { e with value := m.value, sharers := if e.alone then e.sharers else Gb e.sharers e.owner, owner := -1 }
    simp only at hr
    unfold De
    exact says_in (C1 hX) (by rw [hr.1]; exact h2) (by rw [hr.2.1]; exact h3) (by rw [hr.2.2.1]; exact hv) Lr hi hd
  split
  · split
    · have c1 := (Bz hE.2.1.1 hE.2.1.2 (show 0 ≤ m.src by omega) (show m.src < 4 by omega)).2.2.2
      have c2 := (Bz hE.2.2.1.1 hE.2.2.1.2 (show 0 ≤ m.src by omega) (show m.src < 4 by omega)).2.2.2
      have hX : EB (Bo e m) := by
        unfold Bo EB Entry.wf Ax; simp only; omega
      have hr := Dr (Bo e m)
      exact says_in (C1 hX) (by rw [hr.1]; exact h2) (by rw [hr.2.1]; exact h3) (by rw [hr.2.2.1]; exact h4) Lr hi hd
    · intro a ha; cases ha
  split
  · intro a ha; cases ha
  · intro a ha; cases ha
theorem Ow {id home : Int} (h1 : 0 ≤ id ∧ id ≤ 15) (h2 : 0 ≤ home ∧ home ≤ 15) : ∀ (l : List Line) (i : Int), 0 ≤ i → i + l.length ≤ 256 → (∀ x ∈ l, LB x) → ∀ a ∈ Da id home i l, MsgIn a
  | [], _, _, _, _ => fun a ha => by cases ha
  | x :: l, i, h0, hn, hb => by
    intro a ha
    simp only [List.length_cons] at hn
    have ih := Ow h1 h2 l (i + 1) (by omega) (by omega) (fun y hy => hb y (.tail _ hy))
    simp only [Da] at ha
    split at ha
    · rcases List.mem_cons.1 ha with e | e
      · rw [e]; exact U7 (hb x (.head _)) h1 h2 (by omega)
      · exact ih a e
    · exact ih a ha
theorem H3 : ∀ (a b : List Msg) (f : Frames), way f (a ++ b) = way (way f a) b
 | [], _, _ => rfl
 | _ :: a, b, _ => H3 a b _
theorem E6 (id : Int) : ∀ (l : List Entry) (i : Int) (x : Entry), Cr id i (l ++ [x]) = Cr id i l ++ says x (i + l.length) id
 | [], i, x => by simp [Cr]
 | a :: l, i, x => by
  have ih := E6 id l (i + 1) x
  have e : i + 1 + (l.length : Int) = i + ((a :: l).length : Int) := by simp only [List.length_cons]; omega
  rw [e] at ih
  simp only [List.cons_append, Cr, ih, List.append_assoc]
end Go.Proofs.Ytofgpimoekhfaaa

/- This file proves how copies of a home's lines lie in memory, and what small functions of the program's home compute. No conditions. -/
set_option linter.unusedVariables false
set_option linter.unusedSimpArgs false
set_option maxHeartbeats 1000000
set_option maxRecDepth 8000
namespace Go.Proofs.Ytofgpimoekhfaaa
open Go
theorem R9 {L : List Chunk} {R : List Fact} {w : World} {v0 : Value} {xs : List Int} (hs : St (L) R w) (h0 : sl v0 xs ∈ R) : Calls Try.prog 73 [v0].toArray w (C2 (fun v : Value => v) (fun v => row 3 v xs :: L) (fun v => R)) := by
  refine Au Try.func73 rfl Try.ntmps73 rfl hs ?_
  clear hs
  refine sr ?_
  refine rn1 ?_
  refine nr ?_
  refine rn1 ?_
  refine ob (q_nil Try.underlying56 (Fx h0)) ?_
  refine nx ?_
  refine Ci (b := ?b1) ?e1 ?_ ?_; case e1 => exact rfl
  ·
   intro ht4
   refine JC.nilOf ht4 h0 (fun hx => ?_)
   refine sr ?_
   refine rn1 ?_
   refine nx ?_
   refine rt ?_
   refine Aj (.inr rfl) (fun B w hs => Ek rfl rfl B w) (fun w hs => ⟨.slice none 0 0, ?_, by rw [hx]; exact Ag (hs.rowNil 3 Int)⟩)
   rfl
  ·
   intro ht4
   refine Ak ?_
   refine Ae ?_
   refine sr ?_
   refine liO ([] : List Int) D6 rfl (fun j h => Fu) ?_; intro v5
   refine rn1 ?_
   refine ap D6 (hb := fun w hs => by have := Bv h0 hs; have : maxN = 16777216 := rfl; simp; omega) (k := ?_); intro v7
   refine rn1 ?_
   refine nx ?_
   refine rt ?_
   refine Aj (.inr rfl) (fun B w hs => Ek rfl rfl B w) (fun w hs => ⟨v7, ?_, Ag hs⟩)
   rfl
def pr (p : Prop) : Fact := ⟨fun _ => p, fun _ _ _ h => h⟩
theorem St.pr {L : List Chunk} {R : List Fact} {w : World} {p : Prop} (h : p) (hs : St L R w) : St L (pr p :: R) w := by
  obtain ⟨m, j, hd, hm, hj, hst, hr⟩ := hs
  exact ⟨m, j, hd, hm, hj, hst, fun q hq => by
    rcases List.mem_cons.1 hq with e | e
    · rw [e]; exact h
    · exact hr q e⟩
theorem F4 {L : List Chunk} {R : List Fact} {w : World} {p : Prop} (hm : pr p ∈ R) (hs : St L R w) : p := hs.fact hm
theorem Qp {P : Program} {γ δ : Type} {f : FuncId} {args : Array Value} {w : World} {val : γ → Value} {val2 : δ → Value} {L : γ → List Chunk} {R : γ → List Fact} {L2 : δ → List Chunk} {R2 : δ → List Fact} (h : Calls P f args w (C2 val L R)) (hk : ∀ g w', St (L g) (R g) w' → ∃ d, val g = val2 d ∧ St (L2 d) (R2 d) w') : Calls P f args w (C2 val2 L2 R2) := by
 refine h.mono ?_
 rintro e w' ⟨g, rfl, hs'⟩
 obtain ⟨d, h1, h2⟩ := hk g w' hs'
 exact ⟨d, by rw [h1], h2⟩
structure EV where
 e : Entry
 u : Value
instance instEncEV : Enc EV where
 sz := 10
 rd x cs _ := cs = x.e.cells x.u ∧ x.e.wf ∧ x.u.oneCell' = true
 mono _ _ _ _ _ h := h
 len x cs _ h := by rw [h.1]; rfl
 one x cs _ h := by have := h.2.2; rw [h.1]; simp [Entry.cells, Value.oneCell'] at this ⊢; exact this
def G1 (x : EV) : Chunk := row 3 x.u x.e.last
def Tw (x : EV) : Fact := sl x.u x.e.last
theorem Ie {L : List Chunk} {w : World} : ∀ (l : List EV) {R : List Fact}, St (l.map G1 ++ L) R w → St L (l.map Tw ++ R) w
  | [], _, hs => hs
  | x :: l, R, hs => by
    have h1 : St (row 3 x.u x.e.last :: (l.map G1 ++ L)) R w := hs
    have h2 := Ie l h1.shut
    exact h2.sub .refl (fun f hf => by
      simp only [List.map_cons, List.cons_append, List.mem_append, List.mem_cons] at hf ⊢
      rcases hf with e | e | e
      · exact .inr (.inl e)
      · exact .inl e
      · exact .inr (.inr e))
theorem Re {α : Type} : ∀ (l : List α) (i : Nat) (hi : i < l.length), l.Perm (l[i] :: l.eraseIdx i)
 | x :: l, 0, _ => .refl _
 | x :: l, i + 1, hi => ((Re l i (by simpa using hi)).cons x).trans (.swap ..)
theorem Tv {L : List Chunk} {R : List Fact} {w : World} {l : List EV} {i : Nat} (hi : i < l.length) (hs : St (l.map G1 ++ L) R w) : St (G1 l[i] :: ((l.eraseIdx i).map G1 ++ L)) R w := by
 refine hs.perm ?_
 have h := (Re l i hi).map G1
 exact h.append_right L
theorem Px {L : List Chunk} {R : List Fact} {w : World} {T : TypeId} {v : Value} {l : List EV} {i : Nat} (hi : i < l.length) (hf : ∀ (k : Nat) x, k ≠ i → l[k]? = some x → Tw x ∈ R) (hs : St (row T v l :: L) R w) : St (foc T v (l.map EV.e) i (Entry.cells l[i].u l[i].e) :: L) R w := by
  obtain ⟨m, j, hd, hm, hj, ⟨m1, m2, hd', h1, h2, hc, hst⟩, hr⟩ := hs
  obtain ⟨rs, r1, r2, r3⟩ := N5 hc
  have hir : i < rs.length := by rw [r2]; exact hi
  refine ⟨m, j, hd, hm, hj, ⟨m1, m2, hd', h1, h2, ⟨rs, r1, by rw [r2]; simp, ⟨rs[i], List.getElem?_eq_getElem hir, ?_⟩, fun k e r hk he hkr => ?_⟩, hst⟩, hr⟩
  · exact (r3 i l[i] rs[i] (List.getElem?_eq_getElem hi) (List.getElem?_eq_getElem hir)).1
  · rw [List.getElem?_map] at he
    obtain ⟨x, hx, hxe⟩ := Option.map_eq_some_iff.1 he
    have h3 := r3 k x r hx hkr
    refine ⟨x.u, ?_, ?_, ?_⟩
    · rw [← hxe]; exact h3.1
    · rw [← hxe]; exact hr _ (hf k x hk hx)
    · rw [← hxe]; exact h3.2.1
theorem Py {L : List Chunk} {R : List Fact} {w : World} {T : TypeId} {v : Value} {l : List EV} (hf : ∀ x ∈ l, Tw x ∈ R) (hs : St (row T v l :: L) R w) : St (row T v (l.map EV.e) :: L) R w := by
  obtain ⟨m, j, hd, hm, hj, ⟨m1, m2, hd', h1, h2, hc, hst⟩, hr⟩ := hs
  obtain ⟨rs, r1, r2, r3⟩ := N5 hc
  refine ⟨m, j, hd, hm, hj, ⟨m1, m2, hd', h1, h2, Rb (xs := l.map EV.e) (rs := rs) r1 (by rw [r2]; simp) (fun k e r he hkr => ?_), hst⟩, hr⟩
  rw [List.getElem?_map] at he
  obtain ⟨x, hx, hxe⟩ := Option.map_eq_some_iff.1 he
  have h3 := r3 k x r hx hkr
  refine ⟨x.u, ?_, ?_, ?_⟩
  · rw [← hxe]; exact h3.1
  · rw [← hxe]; exact hr _ (hf x (List.mem_of_getElem? hx))
  · rw [← hxe]; exact h3.2.1
theorem J3 {L : List Chunk} {R : List Fact} {w : World} {v : Value} {l : List EV} (hs : St (row 58 v l :: (l.map G1 ++ L)) R w) : St L (sl v (l.map EV.e) :: R) w := by
  have h1 : St (l.map G1 ++ (row 58 v l :: L)) R w := hs.perm List.perm_middle.symm
  have h2 := Py (fun x hx => List.mem_append.2 (.inl (List.mem_map.2 ⟨x, hx, rfl⟩))) (Ie l h1)
  exact h2.shut.sub .refl (fun f hf => by
    rcases List.mem_cons.1 hf with e | e
    · exact List.mem_cons.2 (.inl e)
    · exact List.mem_cons.2 (.inr (List.mem_append.2 (.inr e))))
theorem Hf {L : List Chunk} {R : List Fact} {w : World} {v : Value} {l : List EV} {es : List Entry} (i : Nat) (he : l.map EV.e = es) (hi : i < es.length) (hs : St (row 58 v l :: (l.map G1 ++ L)) R w) : ∃ u, (es.getD i Aq).wf ∧ u.oneCell' = true ∧ St (foc 58 v es i (Entry.cells u (es.getD i Aq)) :: row 3 u (es.getD i Aq).last :: L) R w := by
  subst he
  have hil : i < l.length := by simpa using hi
  have e1 : (l.map EV.e).getD i Aq = l[i].e := by rw [List.getD_eq_getElem?_getD, List.getElem?_map, List.getElem?_eq_getElem hil]; rfl
  refine ⟨l[i].u, ?_⟩
  rw [e1]
  have hw : l[i].e.wf ∧ l[i].u.oneCell' = true := by
    obtain ⟨m, j, hd, hm, hj, ⟨m1, m2, hd', h1, h2, hc, hst⟩, hr⟩ := hs
    obtain ⟨rs, r1, r2, r3⟩ := N5 hc
    exact (r3 i l[i] rs[i] (List.getElem?_eq_getElem hil) (List.getElem?_eq_getElem (by rw [r2]; exact hil))).2
  refine ⟨hw.1, hw.2, ?_⟩
  have h1 : St (l.map G1 ++ (row 58 v l :: L)) R w := hs.perm List.perm_middle.symm
  have h2 := Tv hil h1
  have h3 : St ((l.eraseIdx i).map G1 ++ (G1 l[i] :: row 58 v l :: L)) R w := h2.perm List.perm_middle.symm
  have h4 := Ie _ h3
  have h5 : St (row 58 v l :: G1 l[i] :: L) ((l.eraseIdx i).map Tw ++ R) w := h4.perm (.swap ..)
  have h6 := Px hil (fun k x hk hx => List.mem_append.2 (.inl (List.mem_map.2 ⟨x, ?_, rfl⟩))) h5
  · exact h6.sub .refl (fun f hf => List.mem_append.2 (.inr hf))
  · obtain ⟨hkl, hkx⟩ := List.getElem?_eq_some_iff.1 hx
    rw [← hkx]
    exact List.mem_eraseIdx_iff_getElem.2 ⟨k, hkl, hk, rfl⟩
theorem F7 {L : List Chunk} {R : List Fact} {w : World} {v0 : Value} {l : List Entry} (hs : St (L) R w) (h0 : sl v0 l ∈ R) : Calls Try.prog 33 [v0].toArray w (C2 (fun g : Value × List EV => g.1) (fun g => row 58 g.1 g.2 :: (g.2.map G1 ++ L)) (fun g => pr (g.2.map EV.e = l) :: R)) := by
  have hlen := Bv h0 hs
  refine Au Try.func33 rfl Try.ntmps33 rfl hs ?_
  clear hs
  refine sr ?_
  refine rn1 ?_
  refine nr ?_
  refine rn1 ?_
  refine nr ?_
  refine rn3 ?_
  refine nx ?_
  refine Av ?_
  refine JC.rowNil 58 EV ?_
  refine Ck (γ := Nat × Value × List EV) (fun g => g.1 ≤ l.length ∧ g.2.2.map EV.e = l.take g.1) (fun g => row 58 g.2.1 g.2.2 :: (g.2.2.map G1 ++ L)) (fun _ => R) (fun g => [(3, g.2.1), (6, v0), (7, vi (l.length : Int)), (8, vi (g.1 : Int))]) (fun g => l.length - g.1) (0, .slice none 0 0, []) ⟨Nat.zero_le _, by simp⟩ alT (fun w hs => hs) ?_
  rintro ⟨k, vs, xs⟩ ⟨hk, hx⟩
  try simp only at hk hx ⊢
  have hxl : xs.length = k := by
   have := congrArg List.length hx
   simp at this; omega
  refine sr ?_
  refine rn1 ?_
  refine nx ?_
  refine cdx (p := ?p1) (hd := ?d1) ?e1 ?_ ?_; case e1 => exact rfl
  ·
   intro ht9
   refine Ak ?_
   refine Ae ?_
   refine sq ?_
   refine Av ?_
   refine sq ?_
   refine JC.open1 (xs := l) (v := v0) k mm (by omega) (fun hwE u => ?_)
   refine JC.know (p := u.oneCell' = true) (fun w hs => isSlice.one (hs.fact (.tail _ (.head _)))) (fun honeu => ?_)
   refine Aa ?_
   refine rn2 ?_
   refine al_ (cs := zEC) Try.zeroValue58 ?_; intro b5
   refine s_B (cs := Entry.cells u (l.getD k Aq)) Try.sizeOf58 ?_
   refine nr ?_
   refine rn2 ?_
   refine A1 Try.call73 rfl (fun w hs => R9 (xs := (l.getD k Aq).last) hs mm) ?_; intro v14
   refine J.know (p := v14.oneCell' = true) (fun w hs => Hb .hd hs) (fun honev => ?_)
   refine rn1 ?_
   refine sc ?_
   refine nr ?_
   refine rn2 ?_
   refine li (α := EV) [⟨(l.getD k Aq), v14⟩] Hs rfl (fun j hj => ⟨⟨_, rfl, rfl, hwE, honev⟩, trivial⟩) ?_; intro v18
   refine ap Hs (hb := fun w hs => by have : maxN = 16777216 := rfl; simp only [List.length_cons, List.length_nil]; omega) (k := ?_); intro v19
   refine rn1 ?_
   refine J.nil ?_
   refine As ?_
   refine Ae ?_
   refine Aa ?_
   refine rn2 ?_
   refine J.nil ?_
   refine Bk (k + 1, v19, xs ++ [⟨(l.getD k Aq), v14⟩]) ⟨by show k + 1 ≤ l.length; omega, by rw [List.map_append, hx, Fp Aq (by omega)]; rfl⟩ (by show l.length - (k + 1) < l.length - k; omega) alT (fun w hs => ?_)
   try simp only
   have h9 : St (row 58 v19 (xs ++ [⟨(l.getD k Aq), v14⟩]) :: row 3 v14 (l.getD k Aq).last :: (xs.map G1 ++ L)) R w := Ag hs
   refine h9.perm (.cons _ ?_)
   rw [List.map_append, List.append_assoc]
   exact List.perm_middle.symm
  ·
   intro ht9
   refine xt ?_
   refine Ae ?_
   refine sr ?_
   refine rn2 ?_
   refine nx ?_
   refine rt ?_
   have hkl : k = l.length := by omega
   rw [hkl, List.take_length] at hx
   refine Aj (.inr rfl) (fun B w hs => Ek rfl rfl B w) (fun w hs => ⟨(vs, xs), ?_, St.pr hx (Ag hs)⟩)
   rfl
theorem Ly {L : List Chunk} {R : List Fact} {w : World} {v0 : Value} {l : List Entry} (hs : St (L) R w) (h0 : sl v0 l ∈ R) : Calls Try.prog 33 [v0].toArray w (C2 (fun v : Value => v) (fun _ => L) (fun v => sl v l :: R)) :=
  Qp (F7 hs h0) (fun g w' hs' => ⟨g.1, rfl, by
    have h1 : g.2.map EV.e = l := F4 (.head _) hs'
    have h2 := J3 hs'
    rw [h1] at h2
    exact h2.sub .refl (fun f hf => by
      rcases List.mem_cons.1 hf with e | e
      · exact List.mem_cons.2 (.inl e)
      · exact List.mem_cons.2 (.inr (.tail _ e)))⟩)
def Hh (s : Int) : Int := if s = 0 then 0 else if s < 2 then 1 else if s < 4 then 2 else if s < 8 then 3 else 4
theorem q_ixS {P : Program} {n : Nat} {L : List Chunk} {R : List Fact} {al : List (Nat × Value)} {d : Nat} {x y : Operand} {T ty : TypeId} {pos : String} {aft : Array Edge} {s : ByteArray} {k : IntKind} {i : Int} {b : UInt8} (ht : P.underlying T = some .string) (hx : ev n al x = some (.string s)) (hy : ev n al y = some (.int k i)) (h0 : 0 ≤ i) (hb : s[i.toNat]? = some b) : A7 P n al L R ⟨some d, .index T x y, ty, pos, aft, none⟩ (vb b) :=
 ⟨rfl, fun ρ w h _ => by
  show (Instr.index T (ρ x) (ρ y) >>= fun v => Pure.pure (Next.value v)).run P w = _
  rw [h x (by simp [Op.operands]) _ hx, h y (by simp [Op.operands]) _ hy]
  simp [Instr.index, asIntOf, Dg ht, h0, hb]⟩
theorem len64 {L : List Chunk} {R : List Fact} {w : World} {s : Int} (hs : St (L) R w) (h0 : 0 ≤ s) (h1 : s < 16) : Calls Try.prog 107 [.int .u64 s].toArray w (C2 (fun _ : Unit => vi (Hh s)) (fun _ => L) (fun _ => R)) := by
 refine Au Try.func107 rfl Try.ntmps107 rfl hs ?_
 clear hs
 refine sr ?_
 refine rn1 ?_
 refine nr ?_
 refine rn1 ?_
 refine ob (Ah rfl rfl (Bd (by omega))) ?_
 refine nx ?_
 refine cF_ ?_
 refine Ak ?_
 refine Ae ?_
 refine sr ?_
 refine rn1 ?_
 refine ob (Ah rfl rfl (Bd (by omega))) ?_
 refine nx ?_
 refine cF_ ?_
 refine Ak ?_
 refine Ae ?_
 refine sr ?_
 refine rn1 ?_
 refine ob (Ah rfl rfl (Bd (by omega))) ?_
 refine nx ?_
 refine cF_ ?_
 refine Ak ?_
 refine Ae ?_
 refine sr ?_
 refine rn2 ?_
 refine ob (Bg (v := .int .u8 s) Try.underlying149 Try.underlying5 rfl (by rcases (show s = 0 ∨ s = 1 ∨ s = 2 ∨ s = 3 ∨ s = 4 ∨ s = 5 ∨ s = 6 ∨ s = 7 ∨ s = 8 ∨ s = 9 ∨ s = 10 ∨ s = 11 ∨ s = 12 ∨ s = 13 ∨ s = 14 ∨ s = 15 by omega) with h | h | h | h | h | h | h | h | h | h | h | h | h | h | h | h <;> subst h <;> rfl)) ?_
 refine ob (q_ixS (b := u8 (Hh s)) Try.underlying9 rfl rfl h0 (by rcases (show s = 0 ∨ s = 1 ∨ s = 2 ∨ s = 3 ∨ s = 4 ∨ s = 5 ∨ s = 6 ∨ s = 7 ∨ s = 8 ∨ s = 9 ∨ s = 10 ∨ s = 11 ∨ s = 12 ∨ s = 13 ∨ s = 14 ∨ s = 15 by omega) with h | h | h | h | h | h | h | h | h | h | h | h | h | h | h | h <;> subst h <;> kernel_rfl)) ?_
 refine ob (Bg (v := vi (Hh s)) Try.underlying5 Try.underlying3 rfl (by rcases (show s = 0 ∨ s = 1 ∨ s = 2 ∨ s = 3 ∨ s = 4 ∨ s = 5 ∨ s = 6 ∨ s = 7 ∨ s = 8 ∨ s = 9 ∨ s = 10 ∨ s = 11 ∨ s = 12 ∨ s = 13 ∨ s = 14 ∨ s = 15 by omega) with h | h | h | h | h | h | h | h | h | h | h | h | h | h | h | h <;> subst h <;> rfl)) ?_
 refine ob (E7 (a := 0) (b := Hh s) (by exact rfl) (by exact rfl) (by unfold Hh; omega) (by unfold Hh; omega)) ?_
 rw [Int.zero_add]
 refine rn1 ?_
 refine nx ?_
 refine rt ?_
 refine Aj (.inr rfl) (fun B w hs => Ek rfl rfl B w) (fun w hs => ⟨(), ?_, Ag hs⟩)
 rfl
theorem Xl {L : List Chunk} {R : List Fact} {w : World} {s : Int} (hs : St (L) R w) (h0 : 0 ≤ s) (h1 : s < 16) : Calls Try.prog 99 [.int .u64 s].toArray w (C2 (fun _ : Unit => vi (Hh s)) (fun _ => L) (fun _ => R)) := by
 refine Au Try.func99 rfl Try.ntmps99 rfl hs ?_
 clear hs
 refine sr ?_
 refine rn1 ?_
 refine nx ?_
 refine cF_ ?_
 refine Ak ?_
 refine Ae ?_
 refine sr ?_
 refine rn1 ?_
 refine A1 Try.call107 rfl (fun w hs => len64 hs h0 h1) ?_; intro _
 refine rn1 ?_
 refine nx ?_
 refine rt ?_
 refine Aj (.inr rfl) (fun B w hs => Ek rfl rfl B w) (fun w hs => ⟨(), ?_, Ag hs⟩)
 rfl
end Go.Proofs.Ytofgpimoekhfaaa

/- This file proves what a keeper of the program's home says, and does. No conditions. -/
set_option linter.unusedVariables false
set_option linter.unusedSimpArgs false
set_option maxHeartbeats 1000000
set_option maxRecDepth 8000
namespace Go.Proofs.Ytofgpimoekhfaaa
open Go
section
variable {P : Program} {T : TypeId} {s k : Int}
theorem Nr (h2 : 0 ≤ k) (h3 : k < 4) (w : World) : (binOp .shl T (vi 1) (vi k)).run P w = .ok (vi ((2 ^ k.toNat : Nat) : Int)) w := by
 rcases (show k = 0 ∨ k = 1 ∨ k = 2 ∨ k = 3 by omega) with g | g | g | g <;> subst g <;> rfl
theorem Kb (h0 : 0 ≤ s) (h1 : s < 16) (h2 : 0 ≤ k) (h3 : k < 4) (w : World) : (binOp .andNot T (vi s) (vi ((2 ^ k.toNat : Nat) : Int))).run P w = .ok (vi (Fm s k)) w := by
 rcases (show s = 0 ∨ s = 1 ∨ s = 2 ∨ s = 3 ∨ s = 4 ∨ s = 5 ∨ s = 6 ∨ s = 7 ∨ s = 8 ∨ s = 9 ∨ s = 10 ∨ s = 11 ∨ s = 12 ∨ s = 13 ∨ s = 14 ∨ s = 15 by omega) with h | h | h | h | h | h | h | h | h | h | h | h | h | h | h | h <;> rcases (show k = 0 ∨ k = 1 ∨ k = 2 ∨ k = 3 by omega) with g | g | g | g <;> subst h <;> subst g <;> rfl
theorem b_orB (h0 : 0 ≤ s) (h1 : s < 16) (h2 : 0 ≤ k) (h3 : k < 4) (w : World) : (binOp .or T (vi s) (vi ((2 ^ k.toNat : Nat) : Int))).run P w = .ok (vi (Gb s k)) w := by
 rcases (show s = 0 ∨ s = 1 ∨ s = 2 ∨ s = 3 ∨ s = 4 ∨ s = 5 ∨ s = 6 ∨ s = 7 ∨ s = 8 ∨ s = 9 ∨ s = 10 ∨ s = 11 ∨ s = 12 ∨ s = 13 ∨ s = 14 ∨ s = 15 by omega) with h | h | h | h | h | h | h | h | h | h | h | h | h | h | h | h <;> rcases (show k = 0 ∨ k = 1 ∨ k = 2 ∨ k = 3 by omega) with g | g | g | g <;> subst h <;> subst g <;> rfl
theorem Sb (h0 : 0 ≤ s) (h1 : s < 16) (h2 : 0 ≤ k) (h3 : k < 4) (w : World) : (binOp .shr T (vi s) (vi k)).run P w = .ok (vi ((s.toNat / 2 ^ k.toNat : Nat) : Int)) w := by
 rcases (show s = 0 ∨ s = 1 ∨ s = 2 ∨ s = 3 ∨ s = 4 ∨ s = 5 ∨ s = 6 ∨ s = 7 ∨ s = 8 ∨ s = 9 ∨ s = 10 ∨ s = 11 ∨ s = 12 ∨ s = 13 ∨ s = 14 ∨ s = 15 by omega) with h | h | h | h | h | h | h | h | h | h | h | h | h | h | h | h <;> rcases (show k = 0 ∨ k = 1 ∨ k = 2 ∨ k = 3 by omega) with g | g | g | g <;> subst h <;> subst g <;> rfl
theorem Ot (h0 : 0 ≤ s) (h1 : s < 16) (h2 : 0 ≤ k) (h3 : k < 4) (w : World) : (binOp .and T (vi ((s.toNat / 2 ^ k.toNat : Nat) : Int)) (vi 1)).run P w = .ok (vi (if H2 s k then 1 else 0)) w := by
 rcases (show s = 0 ∨ s = 1 ∨ s = 2 ∨ s = 3 ∨ s = 4 ∨ s = 5 ∨ s = 6 ∨ s = 7 ∨ s = 8 ∨ s = 9 ∨ s = 10 ∨ s = 11 ∨ s = 12 ∨ s = 13 ∨ s = 14 ∨ s = 15 by omega) with h | h | h | h | h | h | h | h | h | h | h | h | h | h | h | h <;> rcases (show k = 0 ∨ k = 1 ∨ k = 2 ∨ k = 3 by omega) with g | g | g | g <;> subst h <;> subst g <;> rfl
theorem Rv (h0 : 0 ≤ s) (h1 : s < 16) (hk : Hh s ≤ k) (h2 : 0 ≤ k) (h3 : k < 4) : H2 s k = false := by
 revert hk
 rcases (show s = 0 ∨ s = 1 ∨ s = 2 ∨ s = 3 ∨ s = 4 ∨ s = 5 ∨ s = 6 ∨ s = 7 ∨ s = 8 ∨ s = 9 ∨ s = 10 ∨ s = 11 ∨ s = 12 ∨ s = 13 ∨ s = 14 ∨ s = 15 by omega) with h | h | h | h | h | h | h | h | h | h | h | h | h | h | h | h <;> rcases (show k = 0 ∨ k = 1 ∨ k = 2 ∨ k = 3 by omega) with g | g | g | g <;> subst h <;> subst g <;> intro hk <;> first | rfl | (exfalso; revert hk; decide)
end
theorem Ha {e : Entry} {line id : Int} {k : Nat} : Dv e line id (k + 1) = Dv e line id k ++ (if H2 e.need (k : Int) then [⟨4, id, (k : Int), line, 0, e.turn, 0, false⟩] else []) := by
 unfold H2
 rw [Int.toNat_natCast]
 cases h : e.need.toNat.testBit k with
 | true => rw [Kt h, if_pos rfl]
 | false => rw [Ml h]; simp
theorem Kv {e : Entry} {line id : Int} (he : EB e) : ∀ j : Nat, (Hh e.need).toNat + j ≤ 4 → Dv e line id ((Hh e.need).toNat + j) = Dv e line id (Hh e.need).toNat
 | 0, _ => rfl
 | j + 1, h => by
  have ih := Kv (line := line) (id := id) he j (by omega)
  have hl : 0 ≤ Hh e.need := by unfold Hh; split <;> (try split) <;> (try split) <;> (try split) <;> omega
  rw [← Nat.add_assoc, Ha, Rv he.2.2.1.1 he.2.2.1.2 (by omega) (by omega) (by omega), ih]; simp
theorem Rl {s : Int} : 0 ≤ Hh s ∧ Hh s ≤ 4 := by unfold Hh; split <;> (try split) <;> (try split) <;> (try split) <;> omega
theorem N3 {e : Entry} {line id : Int} (he : EB e) : Dv e line id (Hh e.need).toNat = Dv e line id 4 := by
 have h := Rl (s := e.need)
 have := Kv (line := line) (id := id) he (4 - (Hh e.need).toNat) (by omega)
 rw [← this]; congr 1; omega
theorem Lx {LX : List Chunk} {R : List Fact} {w : World} {vh vo u : Value} {i bk : Nat} {e : Entry} {ms : List Msg} {line id : Int} {kind to serial value : Int} {al : Bool} (hs : St (blk bk 104 [(ep vh 10 i 0), vi line, vi id, vo] :: row 42 vo ms :: LX) R w) (hE : Cq LX R (ep vh 10 i 0) (Entry.cells u e)) (hA : EpAll vh 10 i) (hn : ms.length ≤ 1000) (hwf : (⟨kind, id, to, line, serial, e.turn, value, al⟩ : Msg).wf) : Calls Try.prog 98 [bp bk 0, vi kind, vi to, vi serial, vi value, .bool al].toArray w (C2 (fun v : Value => .tuple #[]) (fun v => blk bk 104 [(ep vh 10 i 0), vi line, vi id, v] :: row 42 v (ms ++ [(⟨kind, id, to, line, serial, e.turn, value, al⟩ : Msg)]) :: LX) (fun v => R)) := by
  refine Au Try.func98 rfl Try.ntmps98 rfl hs ?_
  clear hs
  refine JC.conseq (L' := blk bk 104 [(ep vh 10 i 0), vi line, vi id, vo] :: row 42 vo ms :: LX) (fun w hs => Ag hs) ?_
  refine Al Ay (by kernel_rfl) (by kernel_rfl) (fun ρ S => blk bk 104 (bif S 30 then [(ep vh 10 i 0), vi line, vi id, (Gh.dec (γ := Value) (ρ 27))] else [(ep vh 10 i 0), vi line, vi id, vo]) :: (bif S 27 then row 42 (Gh.dec (γ := Value) (ρ 27)) (ms ++ [(⟨kind, id, to, line, serial, e.turn, value, al⟩ : Msg)]) else row 42 vo ms) :: (LX)) (fun _ => rfl) ?_
  refine dn4 ?_
  refine K4 (v := vo) (fun ρ S hS hB hA => by have h30 : S 30 = false := hA 30 ⟨0, rfl⟩; simp only [h30, cond_false]; exact Dn (hc := Bc pkk (by repeat (first | exact rfl | refine Ec rfl ?_))) Try.isAgg50) (fun _ _ _ _ _ => rfl) ?_
  refine dn4 ?_
  refine K4 (v := vi id) (fun ρ S hS hB hA => by have h30 : S 30 = false := hA 30 ⟨0, rfl⟩; simp only [h30, cond_false]; exact Dn (hc := Bc pkk (by repeat (first | exact rfl | refine Ec rfl ?_))) Try.isAgg3) (fun _ _ _ _ _ => rfl) ?_
  refine dn4 ?_
  refine K4 (v := vi line) (fun ρ S hS hB hA => by have h30 : S 30 = false := hA 30 ⟨0, rfl⟩; simp only [h30, cond_false]; exact Dn (hc := Bc pkk (by repeat (first | exact rfl | refine Ec rfl ?_))) Try.isAgg3) (fun _ _ _ _ _ => rfl) ?_
  refine dn4 ?_
  refine K4 (v := (ep vh 10 i 0)) (fun ρ S hS hB hA => by have h30 : S 30 = false := hA 30 ⟨0, rfl⟩; simp only [h30, cond_false]; exact Dn (hc := Bc pkk (by repeat (first | exact rfl | refine Ec rfl ?_))) Try.isAgg101) (fun _ _ _ _ _ => rfl) ?_
  first | refine Dl (fun _ _ => q_nb) (fun _ _ _ _ _ => rfl) ?_ | refine Dl (fun _ _ => q_ne) (fun _ _ _ _ _ => rfl) ?_ | refine e_p (fun _ _ => q_nb) (by first | exact Ind.const _ | exact fun _ _ _ _ _ => rfl | exact Ind.self | exact Ind.gh _ 3 rfl) (fun _ _ _ _ _ => rfl) ?_ | refine e_p (fun _ _ => q_ne) (by first | exact Ind.const _ | exact fun _ _ _ _ _ => rfl | exact Ind.self | exact Ind.gh _ 3 rfl) (fun _ _ _ _ _ => rfl) ?_
  first | refine Dl (fun _ _ => Sj Jx) (fun _ _ _ _ _ => rfl) ?_ | refine Dl (fun _ _ => Si Jx) (fun _ _ _ _ _ => rfl) ?_ | refine e_p (fun _ _ => Sj Jx) (by first | exact Ind.const _ | exact fun _ _ _ _ _ => rfl | exact Ind.self | exact Ind.gh _ 3 rfl) (fun _ _ _ _ _ => rfl) ?_ | refine e_p (fun _ _ => Si Jx) (by first | exact Ind.const _ | exact fun _ _ _ _ _ => rfl | exact Ind.self | exact Ind.gh _ 3 rfl) (fun _ _ _ _ _ => rfl) ?_
  first | refine Dl (fun _ _ => Dn Try.isAgg3) (fun _ _ _ _ _ => rfl) ?_ | refine e_p (fun _ _ => Dn Try.isAgg3) (by first | exact Ind.const _ | exact fun _ _ _ _ _ => rfl | exact Ind.self | exact Ind.gh _ 3 rfl) (fun _ _ _ _ _ => rfl) ?_
  refine dn2 ?_
  first | refine Dl (fun _ _ => Ge Ev) (fun _ _ _ _ _ => rfl) ?_ | refine Dl (fun _ _ => Gz Ev) (fun _ _ _ _ _ => rfl) ?_ | refine e_p (fun _ _ => Ge Ev) (by first | exact Ind.const _ | exact fun _ _ _ _ _ => rfl | exact Ind.self | exact Ind.gh _ 3 rfl) (fun _ _ _ _ _ => rfl) ?_ | refine e_p (fun _ _ => Gz Ev) (by first | exact Ind.const _ | exact fun _ _ _ _ _ => rfl | exact Ind.self | exact Ind.gh _ 3 rfl) (fun _ _ _ _ _ => rfl) ?_
  refine Fl ([(⟨kind, id, to, line, serial, e.turn, value, al⟩ : Msg)] : List Msg) Em rfl (fun _ => rfl) rfl (fun _ => rfl) rfl rfl (fun ρ R hd => Gy hwf) (fun _ _ _ _ _ => rfl) ?_
  refine I9 (e := 42) (xs := ms) (ys := [(⟨kind, id, to, line, serial, e.turn, value, al⟩ : Msg)]) (v := vo) Em (fun _ => rfl) (fun _ => rfl) rfl (by decide) (fun ρ R hd => (hd.dep (it := ⟨26, _, _, _, _⟩) (by repeat (first | exact List.Mem.head _ | refine List.Mem.tail _ ?_)) ⟨9, rfl⟩ (List.Mem.head _))) (by have : maxN = 16777216 := rfl; simp only [List.length_cons, List.length_nil]; omega) (fun ρ g S hS hB hA => ?_) ?_
  ·
   have ui : upS S 27 27 = true := rfl; have u30 : upS S 27 30 = S 30 := rfl; have h30 : S 30 = false := hA 30 ⟨0, rfl⟩; have rs : (Gh.dec (γ := Value) (Rho.set ρ 27 (Gh.enc g) 27)) = g := rfl
   simp only [ui, hS, u30, h30, rs, cond_true, cond_false]
   exact Pos.ex (by repeat (first | exact .hd | exact .hc | apply Pos.tl | apply Pos.ap))
  refine dn2 ?_
  refine Gw (T0 := 104) (f := 3) (vs := fun ρ => [(ep vh 10 i 0), vi line, vi id, vo]) (v := fun ρ => (Gh.dec (γ := Value) (ρ 27))) (fun ρ => bk) Try.sizeOf50 (fun _ => rfl) (fun _ => rfl) (fun ρ S R w L9 hB hd hs => by have h27 : S 27 = true := hB 27 ⟨9, rfl⟩; simp only [h27, cond_true] at hs; exact Hb pkk hs) (fun _ => rfl) (fun ρ g S hS hB hA => ?_) ?_
  ·
   have ui : upS S 30 30 = true := rfl; have u27 : upS S 30 27 = S 27 := rfl; have r27 : Rho.set ρ 30 g 27 = ρ 27 := rfl
   simp only [ui, hS, u27, r27, cond_true, cond_false]
   exact Pos.ex (by repeat (first | exact .hd | exact .hc | apply Pos.tl | apply Pos.ap))
  refine Aw ?_; intro ρ; simp only [Ao, facts, Bb, List.append_nil, List.nil_append, List.cons_append]
  refine JX.conseq (L' := blk bk 104 [(ep vh 10 i 0), vi line, vi id, (Gh.dec (γ := Value) (ρ 27))] :: row 42 (Gh.dec (γ := Value) (ρ 27)) (ms ++ [(⟨kind, id, to, line, serial, e.turn, value, al⟩ : Msg)]) :: (LX)) (fun w hs => hs) ?_
  generalize (Gh.dec (γ := Value) (ρ 26)) = v38
  generalize (Gh.dec (γ := Value) (ρ 27)) = v39
  refine Aj (.inl rfl) (fun B w hs => Mf rfl _ w) (fun w hs => ⟨v39, rfl, Ag hs⟩)
theorem Qy {s : Int} (h0 : 0 ≤ s) (h1 : s < 16) : IntKind.u64.wrap s = s := by
 rcases (show s = 0 ∨ s = 1 ∨ s = 2 ∨ s = 3 ∨ s = 4 ∨ s = 5 ∨ s = 6 ∨ s = 7 ∨ s = 8 ∨ s = 9 ∨ s = 10 ∨ s = 11 ∨ s = 12 ∨ s = 13 ∨ s = 14 ∨ s = 15 by omega) with h | h | h | h | h | h | h | h | h | h | h | h | h | h | h | h <;> subst h <;> rfl
theorem Gp {LX : List Chunk} {R : List Fact} {w : World} {vh vo u : Value} {i bk : Nat} {e : Entry} {ms : List Msg} {line id : Int} (hs : St (blk bk 104 [(ep vh 10 i 0), vi line, vi id, vo] :: row 42 vo ms :: LX) R w) (hE : Cq LX R (ep vh 10 i 0) (Entry.cells u e)) (hA : EpAll vh 10 i) (hn : ms.length ≤ 500) (hb : EB e) (hl : Ax line) (hid : Ax id) : Calls Try.prog 74 [bp bk 0].toArray w (C2 (fun v : Value => .tuple #[]) (fun v => blk bk 104 [(ep vh 10 i 0), vi line, vi id, v] :: row 42 v (ms ++ says e line id) :: LX) (fun v => R)) := by
  have hb0 := hb
  unfold EB Entry.wf Ax at hb0
  unfold Ax at hl hid
  refine Au Try.func74 rfl Try.ntmps74 rfl hs ?_
  clear hs
  refine sr ?_
  refine rn7 ?_
  refine nx ?_
  refine Av ?_
  refine sr ?_
  refine rn2 ?_
  refine nx ?_
  refine cdx (p := ?p1) (hd := ?d1) ?e1 ?_ ?_; case e1 => exact rfl
  ·
   intro ht11
   refine sr ?_
   refine rn1 ?_
   refine nr ?_
   refine rn7 ?_
   refine nx ?_
   refine Ci (b := ?b2) ?e2 ?_ ?_; case e2 => exact rfl
   ·
    intro ht19
    refine Aa ?_
    refine rn1 ?_
    refine nr ?_
    refine rn9 ?_
    refine A1 Try.call98 rfl (fun w hs => Lx (e := e) (ms := ms) (kind := 6) (to := e.owner) (serial := 0) (value := 0) (al := false) hs hE hA (by omega) (by unfold Msg.wf Ax; simp only; omega)) ?_; intro v29
    refine J.nil ?_
    refine As ?_
    have er : says e line id = [⟨6, id, e.owner, line, 0, e.turn, 0, false⟩] := by unfold says; rw [if_pos ht11, ht19]; rfl
    rw [er]
    refine Aj (.inl rfl) (fun B w hs => Mf rfl _ w) (fun w hs => ⟨v29, rfl, Ag hs⟩)
   ·
    intro ht19
    refine Ak ?_
    refine Ae ?_
    refine Aa ?_
    refine rn9 ?_
    refine A1 Try.call98 rfl (fun w hs => Lx (e := e) (ms := ms) (kind := 5) (to := e.owner) (serial := 0) (value := 0) (al := false) hs hE hA (by omega) (by unfold Msg.wf Ax; simp only; omega)) ?_; intro v29
    refine J.nil ?_
    refine As ?_
    have er : says e line id = [⟨5, id, e.owner, line, 0, e.turn, 0, false⟩] := by unfold says; rw [if_pos ht11, ht19]; rfl
    rw [er]
    refine Aj (.inl rfl) (fun B w hs => Mf rfl _ w) (fun w hs => ⟨v29, rfl, Ag hs⟩)
  ·
   intro ht11
   refine sr ?_
   refine rn2 ?_
   refine nx ?_
   refine cdx (p := ?p3) (hd := ?d3) ?e3 ?_ ?_; case e3 => exact rfl
   ·
    intro ht30
    refine sr ?_
    refine rn7 ?_
    refine ob (Bg (v := .int .u64 e.need) Try.underlying3 Try.underlying140 rfl (by rw [show IntKind.u64.wrap e.need = e.need from Qy hb0.2.2.1.1 hb0.2.2.1.2])) ?_
    refine A1 Try.call99 rfl (fun w hs => Xl hs hb0.2.2.1.1 hb0.2.2.1.2) ?_; intro _
    refine rn1 ?_
    refine nx ?_
    refine Av ?_
    have hlb := Rl (s := e.need)
    refine Ck (γ := Nat × Value) (fun g => (g.1 : Int) ≤ Hh e.need) (fun g => blk bk 104 [(ep vh 10 i 0), vi line, vi id, g.2] :: row 42 g.2 (ms ++ Dv e line id g.1) :: LX) (fun _ => R) (fun g => [(0, bp bk 0), (40, vi (Hh e.need)), (41, vi (g.1 : Int))]) (fun g => (Hh e.need).toNat - g.1) (0, vo) (by show (0 : Int) ≤ Hh e.need; omega) alT (fun w hs => by have e0 : Dv e line id 0 = [] := rfl; rw [e0, List.append_nil]; exact hs) ?_
    rintro ⟨k, vs⟩ hk
    try simp only at hk ⊢
    have hsl := Ku e line id k
    refine sr ?_
    refine rn1 ?_
    refine nx ?_
    refine cdx (p := ?p4) (hd := ?d4) ?e4 ?_ ?_; case e4 => exact rfl
    ·
     intro ht42
     refine Ak ?_
     refine Ae ?_
     refine sq ?_
     refine Av ?_
     refine sr ?_
     refine rn2 ?_
     refine nr ?_
     refine rn8 ?_
     refine ob (E5 (a := e.need) (b := (k : Int)) (Sb hb0.2.2.1.1 hb0.2.2.1.2 (by omega) (by omega))) ?_
     refine ob (E5 (a := ((e.need.toNat / 2 ^ (k : Int).toNat : Nat) : Int)) (b := 1) (Ot hb0.2.2.1.1 hb0.2.2.1.2 (by omega) (by omega))) ?_
     refine rn1 ?_
     refine nx ?_
     refine cdx (p := ?p5) (hd := ?d5) ?e5 ?_ ?_; case e5 => exact rfl
     ·
      intro ht54
      refine kp [0, 3, 10, 40, 41, 42, 43, 44, 45, 46, 47, 48, 49, 50, 51, 52, 53, 54, 55, 56] ?_
      refine Aa ?_
      refine rn2 ?_
      refine A1 Try.call98 rfl (fun w hs => Lx (e := e) (ms := (ms ++ Dv e line id k)) (kind := 4) (to := (k : Int)) (serial := 0) (value := 0) (al := false) hs hE hA (by simp only [List.length_append]; omega) (by unfold Msg.wf Ax; simp only; omega)) ?_; intro v57
      refine J.nil ?_
      refine As ?_
      refine Ae ?_
      refine Aa ?_
      refine rn2 ?_
      refine J.nil ?_
      refine Bk (k + 1, v57) (by show ((k + 1 : Nat) : Int) ≤ Hh e.need; omega) (by show (Hh e.need).toNat - (k + 1) < (Hh e.need).toNat - k; omega) alT (fun w hs => ?_)
      try simp only
      have hb9 : H2 e.need (k : Int) = true := by revert ht54; cases H2 e.need (k : Int) <;> simp
      rw [Ha, hb9, if_pos rfl, ← List.append_assoc]; exact Ag hs
     ·
      intro ht54
      refine Ak ?_
      refine As ?_
      refine Ae ?_
      refine kp [0, 3, 10, 40, 41, 42, 43, 44, 45, 46, 47, 48, 49, 50, 51, 52, 53, 54, 55, 56, 58] ?_
      refine Aa ?_
      refine rn2 ?_
      refine J.nil ?_
      refine Bk (k + 1, vs) (by show ((k + 1 : Nat) : Int) ≤ Hh e.need; omega) (by show (Hh e.need).toNat - (k + 1) < (Hh e.need).toNat - k; omega) alT (fun w hs => ?_)
      try simp only
      have hb9 : H2 e.need (k : Int) = false := by revert ht54; cases H2 e.need (k : Int) <;> simp
      rw [Ha, hb9, if_neg (by decide), List.append_nil]; exact Ag hs
    ·
     intro ht42
     refine xt ?_
     refine As ?_
     have hk4 : k = (Hh e.need).toNat := by omega
     subst hk4
     have er : says e line id = Dv e line id (Hh e.need).toNat := by rw [N3 hb, Kw ht30]
     rw [er]
     refine Aj (.inl rfl) (fun B w hs => Mf rfl _ w) (fun w hs => ⟨vs, rfl, Ag hs⟩)
   ·
    intro ht30
    refine sr ?_
    refine rn2 ?_
    refine nx ?_
    refine cdx (p := ?p6) (hd := ?d6) ?e6 ?_ ?_; case e6 => exact rfl
    ·
     intro ht59
     refine Al Ay (by kernel_rfl) (by kernel_rfl) (fun _ _ => _) (fun _ => rfl) ?_
     refine dn29 ?_
     refine Ei (by kernel_rfl) ?_; intro ρ; simp only [Ao, facts, Bb, List.append_nil, List.nil_append, List.cons_append]
     refine A1 Try.call98 rfl (fun w hs => Lx (e := e) (ms := ms) (kind := 7) (to := e.who) (serial := e.serial) (value := e.value) (al := e.alone) hs hE hA (by omega) (by unfold Msg.wf Ax; simp only; omega)) ?_; intro v90
     refine J.nil ?_
     refine As ?_
     have er : says e line id = [⟨7, id, e.who, line, e.serial, e.turn, e.value, e.alone⟩] := by unfold says; rw [if_neg ht11, if_neg ht30, if_pos ht59]
     rw [er]
     refine Aj (.inl rfl) (fun B w hs => Mf rfl _ w) (fun w hs => ⟨v90, rfl, Ag hs⟩)
    ·
     intro ht59
     refine Ak ?_
     refine As ?_
     have er : says e line id = [] := by unfold says; rw [if_neg ht11, if_neg ht30, if_neg ht59]
     rw [er, List.append_nil]
     refine Aj (.inl rfl) (fun B w hs => Mf rfl _ w) (fun w hs => ⟨vo, rfl, Ag hs⟩)
end Go.Proofs.Ytofgpimoekhfaaa

/- This file proves what a keeper of the program's home does with a turn: next, get, put. No conditions. -/
set_option linter.unusedVariables false
set_option linter.unusedSimpArgs false
set_option maxHeartbeats 1000000
set_option maxRecDepth 8000
namespace Go.Proofs.Ytofgpimoekhfaaa
open Go
theorem I8 {LX : List Chunk} {R : List Fact} {w : World} {vh vo u : Value} {i bk : Nat} {e : Entry} {ms : List Msg} {line id : Int} {xs : List Entry} (hs : St (blk bk 104 [(ep vh 10 i 0), vi line, vi id, vo] :: row 42 vo ms :: foc 58 vh xs i (Entry.cells u e) :: LX) R w) (hA : EpAll vh 10 i) (hone : u.oneCell' = true) (hn : ms.length ≤ 500) (hb : EB e) (hl : Ax line) (hid : Ax id) : Calls Try.prog 67 [bp bk 0].toArray w (C2 (fun v : Value => .tuple #[]) (fun v => blk bk 104 [(ep vh 10 i 0), vi line, vi id, v] :: row 42 v (ms ++ says (A3 e) line id) :: foc 58 vh xs i (Entry.cells u (A3 e)) :: LX) (fun v => R)) := by
  have hb0 := hb
  unfold EB Entry.wf Ax at hb0
  have hl0 := hl
  have hid0 := hid
  unfold Ax at hl0 hid0
  refine Au Try.func67 rfl Try.ntmps67 rfl hs ?_
  clear hs
  refine sr ?_
  refine rn6 ?_
  refine sc ?_
  refine nx ?_
  refine Al Ay (by kernel_rfl) (by kernel_rfl) (fun _ _ => _) (fun _ => rfl) ?_
  refine dn14 ?_
  refine dj ?_
  refine dc (fun _ _ => E5 (a := 1) (b := e.who) (Nr (by omega) (by omega))) ?_
  refine dj ?_
  refine dc (fun _ _ => E5 (a := e.sharers) (b := ((2 ^ e.who.toNat : Nat) : Int)) (Kb (by omega) (by omega) (by omega) (by omega))) ?_
  refine dj ?_
  first | refine dc (fun _ _ => Cz) ?_
  refine Aw ?_; intro ρ; simp only [Ao, facts, Bb, List.append_nil, List.nil_append, List.cons_append]
  refine Ae ?_
  refine sq ?_
  refine Av ?_
  refine sr ?_
  refine rn9 ?_
  refine nx ?_
  refine cdx (p := ?p1) (hd := ?d1) ?e1 ?_ ?_; case e1 => exact rfl
  ·
   intro ht31
   refine kp [0, 2, 40, 41, 42, 43, 44, 45] ?_
   refine Aa ?_
   refine rn6 ?_
   refine sc ?_
   refine J.nil ?_
   refine As ?_
   refine Ae ?_
   refine Aa ?_
   refine rn1 ?_
   have en : A3 e = { e with need := 0, phase := 1 } := by unfold A3; rw [if_pos ht31]
   have hbn : EB ({ e with need := 0, phase := 1 }) := en ▸ C1 hb
   refine A1 Try.call74 rfl (fun w hs => Gp (e := { e with need := 0, phase := 1 }) (u := u) (ms := ms) (line := line) (id := id) (LX := foc 58 vh xs i [vi e.value, vi e.owner, vi e.sharers, vi 1, vi e.who, vi e.serial, .bool e.alone, vi e.turn, vi 0, u] :: LX) (Ag hs) (Kc .hd rfl) hA hn hbn hl hid) ?_; intro v72
   refine J.nil ?_
   rw [en]
   refine Aj (.inl rfl) (fun B w hs => Mf rfl _ w) (fun w hs => ⟨v72, rfl, Ag hs⟩)
  ·
   intro ht31
   refine sq ?_
   refine kp [0, 2, 46, 47, 48, 49, 50, 51, 52, 53, 54, 55, 56, 57] ?_
   refine Aa ?_
   refine rn8 ?_
   refine Ii (t := 54) (b := ?b2) ?e2 ?_ ?_; case e2 => exact rfl
   ·
    intro ht54
    refine rn4 ?_
    refine nx ?_
    refine cdx (p := ?p3) (hd := ?d3) ?e3 ?_ ?_; case e3 => exact rfl
    ·
     intro ht46
     refine JC.conseq (L' := foc 58 vh xs i [vi e.value, vi e.owner, vi e.sharers, vi e.phase, vi e.who, vi e.serial, .bool e.alone, vi e.turn, vi 0, u] :: blk bk 104 [(ep vh 10 i 0), vi line, vi id, vo] :: row 42 vo ms :: LX) (fun w hs => Ag hs) ?_
     refine Al Ay (by kernel_rfl) (by kernel_rfl) (fun ρ S => foc 58 vh xs i (bif S 14 then [vi e.value, vi e.owner, vi e.sharers, vi 2, vi e.who, vi e.serial, .bool e.alone, vi e.turn, vi (Fm e.sharers e.who), u] else (bif S 11 then [vi e.value, vi e.owner, vi e.sharers, vi 2, vi e.who, vi e.serial, .bool e.alone, vi e.turn, vi 0, u] else [vi e.value, vi e.owner, vi e.sharers, vi e.phase, vi e.who, vi e.serial, .bool e.alone, vi e.turn, vi 0, u])) :: blk bk 104 [(ep vh 10 i 0), vi line, vi id, vo] :: row 42 vo ms :: (LX)) (fun _ => rfl) ?_
     refine dn11 ?_
     refine F9 (T0 := 58) (f := 3) (k := i) (sz := 10) (hv := vh) (xs := xs) (vs := fun ρ => [vi e.value, vi e.owner, vi e.sharers, vi e.phase, vi e.who, vi e.serial, .bool e.alone, vi e.turn, vi 0, u]) (v := fun ρ => (vi 2)) rfl Try.sizeOf3 (fun _ => rfl) (fun _ => rfl) (fun _ _ _ _ _ _ _ _ => rfl) (fun _ => rfl) (fun ρ g S hS hB hA => ?_) ?_
     ·
      have ui : upS S 11 11 = true := rfl; have u14 : upS S 11 14 = S 14 := rfl; have h14 : S 14 = false := hA 14 ⟨0, rfl⟩
      simp only [ui, hS, u14, h14, cond_true, cond_false]
      exact Pos.ex (by repeat (first | exact .hd | exact .hc | apply Pos.tl | apply Pos.ap))
     refine dn2 ?_
     refine F9 (T0 := 58) (f := 8) (k := i) (sz := 10) (hv := vh) (xs := xs) (vs := fun ρ => [vi e.value, vi e.owner, vi e.sharers, vi 2, vi e.who, vi e.serial, .bool e.alone, vi e.turn, vi 0, u]) (v := fun ρ => (vi (Fm e.sharers e.who))) rfl Try.sizeOf3 (fun _ => rfl) (fun _ => rfl) (fun _ _ _ _ _ _ _ _ => rfl) (fun _ => rfl) (fun ρ g S hS hB hA => ?_) ?_
     ·
      have ui : upS S 14 14 = true := rfl; have u11 : upS S 14 11 = S 11 := rfl; have h11 : S 11 = true := hB 11 ⟨0, rfl⟩
      simp only [ui, hS, u11, h11, cond_true, cond_false]
      exact Pos.ex (by repeat (first | exact .hd | exact .hc | apply Pos.tl | apply Pos.ap))
     refine Aw ?_; intro ρ; simp only [Ao, facts, Bb, List.append_nil, List.nil_append, List.cons_append]
     refine JX.conseq (L' := foc 58 vh xs i [vi e.value, vi e.owner, vi e.sharers, vi 2, vi e.who, vi e.serial, .bool e.alone, vi e.turn, vi (Fm e.sharers e.who), u] :: blk bk 104 [(ep vh 10 i 0), vi line, vi id, vo] :: row 42 vo ms :: (LX)) (fun w hs => hs) ?_
     refine As ?_
     refine Ae ?_
     refine Aa ?_
     refine rn1 ?_
     have en : A3 e = { e with need := (Fm e.sharers e.who), phase := 2 } := by unfold A3; rw [if_neg ht31, if_pos ⟨ht54, ht46⟩]
     have hbn : EB ({ e with need := (Fm e.sharers e.who), phase := 2 }) := en ▸ C1 hb
     refine A1 Try.call74 rfl (fun w hs => Gp (e := { e with need := (Fm e.sharers e.who), phase := 2 }) (u := u) (ms := ms) (line := line) (id := id) (LX := foc 58 vh xs i [vi e.value, vi e.owner, vi e.sharers, vi 2, vi e.who, vi e.serial, .bool e.alone, vi e.turn, vi (Fm e.sharers e.who), u] :: LX) (Ag hs) (Kc .hd rfl) hA hn hbn hl hid) ?_; intro v72
     refine J.nil ?_
     rw [en]
     refine Aj (.inl rfl) (fun B w hs => Mf rfl _ w) (fun w hs => ⟨v72, rfl, Ag hs⟩)
    ·
     intro ht46
     refine Aa ?_
     refine rn6 ?_
     refine sc ?_
     refine J.nil ?_
     refine As ?_
     refine Ae ?_
     refine Aa ?_
     refine rn1 ?_
     have en : A3 e = { e with need := 0, phase := 3 } := by unfold A3; rw [if_neg ht31, if_neg (fun h => h.2 (by omega))]
     have hbn : EB ({ e with need := 0, phase := 3 }) := en ▸ C1 hb
     refine A1 Try.call74 rfl (fun w hs => Gp (e := { e with need := 0, phase := 3 }) (u := u) (ms := ms) (line := line) (id := id) (LX := foc 58 vh xs i [vi e.value, vi e.owner, vi e.sharers, vi 3, vi e.who, vi e.serial, .bool e.alone, vi e.turn, vi 0, u] :: LX) (Ag hs) (Kc .hd rfl) hA hn hbn hl hid) ?_; intro v72
     refine J.nil ?_
     rw [en]
     refine Aj (.inl rfl) (fun B w hs => Mf rfl _ w) (fun w hs => ⟨v72, rfl, Ag hs⟩)
   ·
    intro ht54
    refine rn4 ?_
    refine nx ?_
    refine cF_ ?_
    refine Aa ?_
    refine rn6 ?_
    refine sc ?_
    refine J.nil ?_
    refine As ?_
    refine Ae ?_
    refine Aa ?_
    refine rn1 ?_
    have en : A3 e = { e with need := 0, phase := 3 } := by unfold A3; rw [if_neg ht31, if_neg (fun h => by rw [h.1] at ht54; cases ht54)]
    have hbn : EB ({ e with need := 0, phase := 3 }) := en ▸ C1 hb
    refine A1 Try.call74 rfl (fun w hs => Gp (e := { e with need := 0, phase := 3 }) (u := u) (ms := ms) (line := line) (id := id) (LX := foc 58 vh xs i [vi e.value, vi e.owner, vi e.sharers, vi 3, vi e.who, vi e.serial, .bool e.alone, vi e.turn, vi 0, u] :: LX) (Ag hs) (Kc .hd rfl) hA hn hbn hl hid) ?_; intro v72
    refine J.nil ?_
    rw [en]
    refine Aj (.inl rfl) (fun B w hs => Mf rfl _ w) (fun w hs => ⟨v72, rfl, Ag hs⟩)
theorem Rr {LX : List Chunk} {R : List Fact} {w : World} {vh vo u : Value} {i bk : Nat} {e : Entry} {ms : List Msg} {line id : Int} {xs : List Entry} {bm : Nat} {m : Msg} (hs : St (blk bk 104 [(ep vh 10 i 0), vi line, vi id, vo] :: row 42 vo ms :: foc 58 vh xs i (Entry.cells u e) :: row 3 u e.last :: blk bm 42 m.cells :: LX) R w) (hA : EpAll vh 10 i) (hone : u.oneCell' = true) (hn : ms.length ≤ 500) (hb : EB e) (hl : Ax line) (hid : Ax id) (hm : m.wf) (hline : m.line = line) (hsrc : 0 ≤ m.src ∧ m.src < (e.last.length : Int)) (hla : e.last.length ≤ 4) (hk : m.kind = 1 ∨ m.kind = 2) : Calls Try.prog 65 [bp bk 0, bp bm 0].toArray w (C2 (fun v : Value => .tuple #[]) (fun v => blk bk 104 [(ep vh 10 i 0), vi line, vi id, v] :: row 42 v (ms ++ (Af e id m).2) :: foc 58 vh xs i (Entry.cells u (Af e id m).1) :: row 3 u (Af e id m).1.last :: blk bm 42 m.cells :: LX) (fun v => R)) := by
  have hb0 := hb
  unfold EB Entry.wf Ax at hb0
  have hl0 := hl
  have hid0 := hid
  unfold Ax at hl0 hid0
  have hm0 := hm
  unfold Msg.wf Ax at hm0
  refine Au Try.func65 rfl Try.ntmps65 rfl hs ?_
  clear hs
  refine sq ?_
  rcases (show (e.phase ≠ 0) ∨ (e.phase = 0 ∧ m.serial ≤ e.last.getD m.src.toNat 0) ∨ (e.phase = 0 ∧ e.last.getD m.src.toNat 0 < m.serial ∧ 65535 ≤ e.turn) ∨ (e.phase = 0 ∧ e.last.getD m.src.toNat 0 < m.serial ∧ e.turn < 65535) from by omega) with hc | hc | hc | hc
  ·
   refine Al Ay (by kernel_rfl) (by kernel_rfl) (fun _ _ => _) (fun _ => rfl) ?_
   refine dn7 ?_
   refine dj ?_
   first | refine dc (fun _ _ => Ah rfl rfl (C0 (by omega))) ?_
   refine dj ?_
   first | refine dc (fun _ _ => Bh) ?_
   refine dn18 ?_
   refine dj ?_
   first | refine dc (fun _ _ => Ew) ?_
   refine dj ?_
   first | refine dc (fun _ _ => Bh) ?_
   refine dn8 ?_
   refine dj ?_
   first | refine dc (fun _ _ => Ew) ?_
   refine Aw ?_; intro ρ; simp only [Ao, facts, Bb, List.append_nil, List.nil_append, List.cons_append]
   refine Ae ?_
   refine sq ?_
   refine cT ?_
   refine rt ?_
   have er : Af e id m = (e, []) := by unfold Af; rw [if_pos (by omega), if_pos (by unfold C6; omega)]
   rw [er, List.append_nil]
   refine Aj (.inr rfl) (fun B w hs => Mf rfl _ w) (fun w hs => ⟨vo, rfl, Ag hs⟩)
  ·
   refine Al Ay (by kernel_rfl) (by kernel_rfl) (fun _ _ => _) (fun _ => rfl) ?_
   refine dn7 ?_
   refine dj ?_
   first | refine dc (fun _ _ => Ah rfl rfl (Bu (by omega))) ?_
   refine dj ?_
   first | refine dc (fun _ _ => Bh) ?_
   refine dn16 ?_
   refine dj (dgy ?_)
   refine dc (fun _ _ => Dn (hc := Di (xs := e.last) pkk (by omega)) Try.isAgg3) ?_
   refine dj (dgy ?_)
   first | refine dc (fun _ _ => Ah rfl rfl (Ka (by omega))) ?_
   refine dj ?_
   first | refine dc (fun _ _ => Bp) ?_
   refine dj ?_
   first | refine dc (fun _ _ => Bh) ?_
   refine dn8 ?_
   refine dj ?_
   first | refine dc (fun _ _ => Ew) ?_
   refine Aw ?_; intro ρ; simp only [Ao, facts, Bb, List.append_nil, List.nil_append, List.cons_append]
   refine Ae ?_
   refine sq ?_
   refine cT ?_
   refine rt ?_
   have er : Af e id m = (e, []) := by unfold Af; rw [if_pos (by omega), if_pos (by unfold C6; omega)]
   rw [er, List.append_nil]
   refine Aj (.inr rfl) (fun B w hs => Mf rfl _ w) (fun w hs => ⟨vo, rfl, Ag hs⟩)
  ·
   refine Al Ay (by kernel_rfl) (by kernel_rfl) (fun _ _ => _) (fun _ => rfl) ?_
   refine dn7 ?_
   refine dj ?_
   first | refine dc (fun _ _ => Ah rfl rfl (Bu (by omega))) ?_
   refine dj ?_
   first | refine dc (fun _ _ => Bh) ?_
   refine dn16 ?_
   refine dj (dgy ?_)
   refine dc (fun _ _ => Dn (hc := Di (xs := e.last) pkk (by omega)) Try.isAgg3) ?_
   refine dj (dgy ?_)
   first | refine dc (fun _ _ => Ah rfl rfl (E4 (by omega))) ?_
   refine dj ?_
   first | refine dc (fun _ _ => Bp) ?_
   refine dj ?_
   first | refine dc (fun _ _ => Bh) ?_
   refine dn7 ?_
   refine dj (dgy ?_)
   first | refine dc (fun _ _ => Ah rfl rfl (D7 (by omega))) ?_
   refine dj ?_
   first | refine dc (fun _ _ => Bp) ?_
   refine Aw ?_; intro ρ; simp only [Ao, facts, Bb, List.append_nil, List.nil_append, List.cons_append]
   refine Ae ?_
   refine sq ?_
   refine cT ?_
   refine rt ?_
   have er : Af e id m = (e, []) := by unfold Af; rw [if_pos (by omega), if_pos (by unfold C6; omega)]
   rw [er, List.append_nil]
   refine Aj (.inr rfl) (fun B w hs => Mf rfl _ w) (fun w hs => ⟨vo, rfl, Ag hs⟩)
  ·
   refine Al Ay (by kernel_rfl) (by kernel_rfl) (fun _ _ => _) (fun _ => rfl) ?_
   refine dn7 ?_
   refine dj ?_
   first | refine dc (fun _ _ => Ah rfl rfl (Bu (by omega))) ?_
   refine dj ?_
   first | refine dc (fun _ _ => Bh) ?_
   refine dn16 ?_
   refine dj (dgy ?_)
   refine dc (fun _ _ => Dn (hc := Di (xs := e.last) pkk (by omega)) Try.isAgg3) ?_
   refine dj (dgy ?_)
   first | refine dc (fun _ _ => Ah rfl rfl (E4 (by omega))) ?_
   refine dj ?_
   first | refine dc (fun _ _ => Bp) ?_
   refine dj ?_
   first | refine dc (fun _ _ => Bh) ?_
   refine dn7 ?_
   refine dj (dgy ?_)
   first | refine dc (fun _ _ => Ah rfl rfl (Bd (by omega))) ?_
   refine dj ?_
   first | refine dc (fun _ _ => Bp) ?_
   refine Aw ?_; intro ρ; simp only [Ao, facts, Bb, List.append_nil, List.nil_append, List.cons_append]
   refine Ae ?_
   refine sq ?_
   refine cF_ ?_
   refine Ak ?_
   refine Ae ?_
   refine sq ?_
   refine kp [0, 1, 42, 43, 44, 45, 46, 47, 48, 49, 50, 51, 52, 53, 54, 55, 56, 57] ?_
   refine Al Ay (by kernel_rfl) (by kernel_rfl) (fun _ _ => _) (fun _ => rfl) ?_
   refine dn16 ?_
   refine Ei (by kernel_rfl) ?_; intro ρ; simp only [Ao, facts, Bb, List.append_nil, List.nil_append, List.cons_append]
   refine Fb (xs := e.last) Try.sizeOf3 rfl rfl pkk (getD_some 0 (by omega)) hm.2.2.2.2.1 ?_
   refine nx ?_
   refine JC.conseq (L' := foc 58 vh xs i [vi e.value, vi e.owner, vi e.sharers, vi e.phase, vi e.who, vi e.serial, .bool e.alone, vi e.turn, vi e.need, u] :: blk bk 104 [(ep vh 10 i 0), vi line, vi id, vo] :: row 42 vo ms :: row 3 u (e.last.set m.src.toNat m.serial) :: blk bm 42 m.cells :: LX) (fun w hs => Ag hs) ?_
   refine Al Ay (by kernel_rfl) (by kernel_rfl) (fun ρ S => foc 58 vh xs i (bif S 33 then [vi e.value, vi e.owner, vi e.sharers, vi e.phase, vi m.src, vi m.serial, .bool (decide (m.kind = 2)), vi e.turn, vi e.need, u] else (bif S 30 then [vi e.value, vi e.owner, vi e.sharers, vi e.phase, vi m.src, vi m.serial, .bool e.alone, vi e.turn, vi e.need, u] else (bif S 27 then [vi e.value, vi e.owner, vi e.sharers, vi e.phase, vi m.src, vi e.serial, .bool e.alone, vi e.turn, vi e.need, u] else [vi e.value, vi e.owner, vi e.sharers, vi e.phase, vi e.who, vi e.serial, .bool e.alone, vi e.turn, vi e.need, u]))) :: blk bk 104 [(ep vh 10 i 0), vi line, vi id, vo] :: row 42 vo ms :: row 3 u (e.last.set m.src.toNat m.serial) :: blk bm 42 m.cells :: (LX)) (fun _ => rfl) ?_
   refine dn27 ?_
   refine F9 (T0 := 58) (f := 4) (k := i) (sz := 10) (hv := vh) (xs := xs) (vs := fun ρ => [vi e.value, vi e.owner, vi e.sharers, vi e.phase, vi e.who, vi e.serial, .bool e.alone, vi e.turn, vi e.need, u]) (v := fun ρ => (vi m.src)) rfl Try.sizeOf3 (fun _ => rfl) (fun _ => rfl) (fun _ _ _ _ _ _ _ _ => rfl) (fun _ => rfl) (fun ρ g S hS hB hA => ?_) ?_
   ·
    have ui : upS S 27 27 = true := rfl; have u30 : upS S 27 30 = S 30 := rfl; have u33 : upS S 27 33 = S 33 := rfl; have h30 : S 30 = false := hA 30 ⟨0, rfl⟩; have h33 : S 33 = false := hA 33 ⟨0, rfl⟩
    simp only [ui, hS, u30, u33, h30, h33, cond_true, cond_false]
    exact Pos.ex (by repeat (first | exact .hd | exact .hc | apply Pos.tl | apply Pos.ap))
   refine dn2 ?_
   refine F9 (T0 := 58) (f := 5) (k := i) (sz := 10) (hv := vh) (xs := xs) (vs := fun ρ => [vi e.value, vi e.owner, vi e.sharers, vi e.phase, vi m.src, vi e.serial, .bool e.alone, vi e.turn, vi e.need, u]) (v := fun ρ => (vi m.serial)) rfl Try.sizeOf3 (fun _ => rfl) (fun _ => rfl) (fun _ _ _ _ _ _ _ _ => rfl) (fun _ => rfl) (fun ρ g S hS hB hA => ?_) ?_
   ·
    have ui : upS S 30 30 = true := rfl; have u27 : upS S 30 27 = S 27 := rfl; have u33 : upS S 30 33 = S 33 := rfl; have h27 : S 27 = true := hB 27 ⟨0, rfl⟩; have h33 : S 33 = false := hA 33 ⟨0, rfl⟩
    simp only [ui, hS, u27, u33, h27, h33, cond_true, cond_false]
    exact Pos.ex (by repeat (first | exact .hd | exact .hc | apply Pos.tl | apply Pos.ap))
   refine dn2 ?_
   refine F9 (T0 := 58) (f := 6) (k := i) (sz := 10) (hv := vh) (xs := xs) (vs := fun ρ => [vi e.value, vi e.owner, vi e.sharers, vi e.phase, vi m.src, vi m.serial, .bool e.alone, vi e.turn, vi e.need, u]) (v := fun ρ => (.bool (decide (m.kind = 2)))) rfl Try.sizeOf4 (fun _ => rfl) (fun _ => rfl) (fun _ _ _ _ _ _ _ _ => rfl) (fun _ => rfl) (fun ρ g S hS hB hA => ?_) ?_
   ·
    have ui : upS S 33 33 = true := rfl; have u27 : upS S 33 27 = S 27 := rfl; have u30 : upS S 33 30 = S 30 := rfl; have h27 : S 27 = true := hB 27 ⟨0, rfl⟩; have h30 : S 30 = true := hB 30 ⟨0, rfl⟩
    simp only [ui, hS, u27, u30, h27, h30, cond_true, cond_false]
    exact Pos.ex (by repeat (first | exact .hd | exact .hc | apply Pos.tl | apply Pos.ap))
   refine Aw ?_; intro ρ; simp only [Ao, facts, Bb, List.append_nil, List.nil_append, List.cons_append]
   refine JX.conseq (L' := foc 58 vh xs i [vi e.value, vi e.owner, vi e.sharers, vi e.phase, vi m.src, vi m.serial, .bool (decide (m.kind = 2)), vi e.turn, vi e.need, u] :: blk bk 104 [(ep vh 10 i 0), vi line, vi id, vo] :: row 42 vo ms :: row 3 u (e.last.set m.src.toNat m.serial) :: blk bm 42 m.cells :: (LX)) (fun w hs => hs) ?_
   refine Ae ?_
   refine sq ?_
   refine kp [0, 89, 90, 91, 92, 93, 94, 95, 96, 97, 98] ?_
   refine Aa ?_
   refine rn10 ?_
   refine sc ?_
   refine nr ?_
   refine rn1 ?_
   have hX : EB ({ e with last := (e.last.set m.src.toNat m.serial), who := m.src, serial := m.serial, alone := m.kind == 2, turn := e.turn + 1 }) := by unfold EB Entry.wf Ax; simp only; omega
   refine A1 Try.call67 rfl (fun w hs => I8 (e := { e with last := (e.last.set m.src.toNat m.serial), who := m.src, serial := m.serial, alone := m.kind == 2, turn := e.turn + 1 }) (u := u) (ms := ms) (line := line) (id := id) (xs := xs) (LX := row 3 u (e.last.set m.src.toNat m.serial) :: blk bm 42 m.cells :: LX) (Ag hs) hA hone hn hX hl hid) ?_; intro v100
   refine J.nil ?_
   have er : Af e id m = (A3 ({ e with last := (e.last.set m.src.toNat m.serial), who := m.src, serial := m.serial, alone := m.kind == 2, turn := e.turn + 1 }), says (A3 ({ e with last := (e.last.set m.src.toNat m.serial), who := m.src, serial := m.serial, alone := m.kind == 2, turn := e.turn + 1 })) m.line id) := by unfold Af; rw [if_pos (by omega), if_neg (by unfold C6; omega)]; rfl
   rw [er, hline, Cw]
   refine Aj (.inl rfl) (fun B w hs => Mf rfl _ w) (fun w hs => ⟨v100, rfl, Ag hs⟩)
theorem Vt {LX : List Chunk} {R : List Fact} {w : World} {vh vo u : Value} {i bk : Nat} {e : Entry} {ms : List Msg} {line id : Int} {xs : List Entry} {bm : Nat} {m : Msg} (hs : St (blk bk 104 [(ep vh 10 i 0), vi line, vi id, vo] :: row 42 vo ms :: foc 58 vh xs i (Entry.cells u e) :: row 3 u e.last :: blk bm 42 m.cells :: LX) R w) (hA : EpAll vh 10 i) (hone : u.oneCell' = true) (hn : ms.length ≤ 500) (hb : EB e) (hl : Ax line) (hid : Ax id) (hm : m.wf) (hline : m.line = line) (hsrc : 0 ≤ m.src ∧ m.src < (e.last.length : Int)) (hla : e.last.length ≤ 4) (hk : m.kind = 3) : Calls Try.prog 66 [bp bk 0, bp bm 0].toArray w (C2 (fun v : Value => .tuple #[]) (fun v => blk bk 104 [(ep vh 10 i 0), vi line, vi id, v] :: row 42 v (ms ++ (Af e id m).2) :: foc 58 vh xs i (Entry.cells u (Af e id m).1) :: row 3 u (Af e id m).1.last :: blk bm 42 m.cells :: LX) (fun v => R)) := by
  have hb0 := hb
  unfold EB Entry.wf Ax at hb0
  have hl0 := hl
  have hid0 := hid
  unfold Ax at hl0 hid0
  have hm0 := hm
  unfold Msg.wf Ax at hm0
  refine Au Try.func66 rfl Try.ntmps66 rfl hs ?_
  clear hs
  refine sr ?_
  refine rn8 ?_
  refine nx ?_
  refine cdx (p := ?p1) (hd := ?d1) ?e1 ?_ ?_; case e1 => exact rfl
  ·
   intro ht11
   refine rt ?_
   have er : Af e id m = (e, []) := by unfold Af; rw [if_neg (by omega), if_pos (by omega), if_pos ht11]
   rw [er, List.append_nil]
   refine Aj (.inr rfl) (fun B w hs => Mf rfl _ w) (fun w hs => ⟨vo, rfl, Ag hs⟩)
  ·
   intro ht11
   refine Ak ?_
   refine Ae ?_
   refine sq ?_
   refine Al Ay (by kernel_rfl) (by kernel_rfl) (fun _ _ => _) (fun _ => rfl) ?_
   refine dn16 ?_
   refine dj ?_
   refine dc (fun _ _ => Dn (hc := Di (xs := e.last) pkk (by omega)) Try.isAgg3) ?_
   refine dj ?_
   first | refine dc (fun _ _ => E5 Nt) ?_
   refine Aw ?_; intro ρ; simp only [Ao, facts, Bb, List.append_nil, List.nil_append, List.cons_append]
   refine Ae ?_
   refine sq ?_
   refine cdx (p := ?p2) (hd := ?d2) ?e2 ?_ ?_; case e2 => exact rfl
   ·
    intro ht29
    refine sq ?_
    refine Al Ay (by kernel_rfl) (by kernel_rfl) (fun _ _ => _) (fun _ => rfl) ?_
    refine dn16 ?_
    refine Ei (by kernel_rfl) ?_; intro ρ; simp only [Ao, facts, Bb, List.append_nil, List.nil_append, List.cons_append]
    refine Fb (xs := e.last) Try.sizeOf3 rfl rfl pkk (getD_some 0 (by omega)) hm.2.2.2.2.1 ?_
    refine nx ?_
    refine kp [0, 1, 46, 47, 48, 49, 50, 51, 52, 53, 54, 55, 56, 57] ?_
    refine Al Ay (by kernel_rfl) (by kernel_rfl) (fun _ _ => _) (fun _ => rfl) ?_
    refine dn12 ?_
    refine Aw ?_; intro ρ; simp only [Ao, facts, Bb, List.append_nil, List.nil_append, List.cons_append]
    refine Ae ?_
    refine cdx (p := ?p3) (hd := ?d3) ?e3 ?_ ?_; case e3 => exact rfl
    ·
     intro ht57
     refine JC.conseq (L' := foc 58 vh xs i [vi e.value, vi e.owner, vi e.sharers, vi e.phase, vi e.who, vi e.serial, .bool e.alone, vi e.turn, vi e.need, u] :: blk bk 104 [(ep vh 10 i 0), vi line, vi id, vo] :: row 42 vo ms :: row 3 u (e.last.set m.src.toNat m.serial) :: blk bm 42 m.cells :: LX) (fun w hs => Ag hs) ?_
     refine Al Ay (by kernel_rfl) (by kernel_rfl) (fun ρ S => foc 58 vh xs i (bif S 17 then [vi m.value, vi (-1), vi e.sharers, vi e.phase, vi e.who, vi e.serial, .bool e.alone, vi e.turn, vi e.need, u] else (bif S 14 then [vi m.value, vi e.owner, vi e.sharers, vi e.phase, vi e.who, vi e.serial, .bool e.alone, vi e.turn, vi e.need, u] else [vi e.value, vi e.owner, vi e.sharers, vi e.phase, vi e.who, vi e.serial, .bool e.alone, vi e.turn, vi e.need, u])) :: blk bk 104 [(ep vh 10 i 0), vi line, vi id, vo] :: row 42 vo ms :: row 3 u (e.last.set m.src.toNat m.serial) :: blk bm 42 m.cells :: (LX)) (fun _ => rfl) ?_
     refine dn14 ?_
     refine F9 (T0 := 58) (f := 0) (k := i) (sz := 10) (hv := vh) (xs := xs) (vs := fun ρ => [vi e.value, vi e.owner, vi e.sharers, vi e.phase, vi e.who, vi e.serial, .bool e.alone, vi e.turn, vi e.need, u]) (v := fun ρ => (vi m.value)) rfl Try.sizeOf3 (fun _ => rfl) (fun _ => rfl) (fun _ _ _ _ _ _ _ _ => rfl) (fun _ => rfl) (fun ρ g S hS hB hA => ?_) ?_
     ·
      have ui : upS S 14 14 = true := rfl; have u17 : upS S 14 17 = S 17 := rfl; have h17 : S 17 = false := hA 17 ⟨0, rfl⟩
      simp only [ui, hS, u17, h17, cond_true, cond_false]
      exact Pos.ex (by repeat (first | exact .hd | exact .hc | apply Pos.tl | apply Pos.ap))
     refine dn2 ?_
     refine F9 (T0 := 58) (f := 1) (k := i) (sz := 10) (hv := vh) (xs := xs) (vs := fun ρ => [vi m.value, vi e.owner, vi e.sharers, vi e.phase, vi e.who, vi e.serial, .bool e.alone, vi e.turn, vi e.need, u]) (v := fun ρ => (vi (-1))) rfl Try.sizeOf3 (fun _ => rfl) (fun _ => rfl) (fun _ _ _ _ _ _ _ _ => rfl) (fun _ => rfl) (fun ρ g S hS hB hA => ?_) ?_
     ·
      have ui : upS S 17 17 = true := rfl; have u14 : upS S 17 14 = S 14 := rfl; have h14 : S 14 = true := hB 14 ⟨0, rfl⟩
      simp only [ui, hS, u14, h14, cond_true, cond_false]
      exact Pos.ex (by repeat (first | exact .hd | exact .hc | apply Pos.tl | apply Pos.ap))
     refine Aw ?_; intro ρ; simp only [Ao, facts, Bb, List.append_nil, List.nil_append, List.cons_append]
     refine JX.conseq (L' := foc 58 vh xs i [vi m.value, vi (-1), vi e.sharers, vi e.phase, vi e.who, vi e.serial, .bool e.alone, vi e.turn, vi e.need, u] :: blk bk 104 [(ep vh 10 i 0), vi line, vi id, vo] :: row 42 vo ms :: row 3 u (e.last.set m.src.toNat m.serial) :: blk bm 42 m.cells :: (LX)) (fun w hs => hs) ?_
     refine Ae ?_
     have hwf : ((⟨11, id, m.src, line, m.serial, 0, 0, false⟩ : Msg) : Msg).wf := by unfold Msg.wf Ax; simp only; omega
     refine JC.conseq (L' := blk bk 104 [(ep vh 10 i 0), vi line, vi id, vo] :: row 42 vo ms :: foc 58 vh xs i [vi m.value, vi (-1), vi e.sharers, vi e.phase, vi e.who, vi e.serial, .bool e.alone, vi e.turn, vi e.need, u] :: row 3 u (e.last.set m.src.toNat m.serial) :: blk bm 42 m.cells :: LX) (fun w hs => Ag hs) ?_
     refine Al Ay (by kernel_rfl) (by kernel_rfl) (fun ρ S => blk bk 104 (bif S 26 then [(ep vh 10 i 0), vi line, vi id, (Gh.dec (γ := Value) (ρ 23))] else [(ep vh 10 i 0), vi line, vi id, vo]) :: (bif S 23 then row 42 (Gh.dec (γ := Value) (ρ 23)) (ms ++ [(⟨11, id, m.src, line, m.serial, 0, 0, false⟩ : Msg)]) else row 42 vo ms) :: foc 58 vh xs i [vi m.value, vi (-1), vi e.sharers, vi e.phase, vi e.who, vi e.serial, .bool e.alone, vi e.turn, vi e.need, u] :: row 3 u (e.last.set m.src.toNat m.serial) :: blk bm 42 m.cells :: (LX)) (fun _ => rfl) ?_
     refine dn4 ?_
     refine K4 (v := vo) (fun ρ S hS hB hA => by have h26 : S 26 = false := hA 26 ⟨0, rfl⟩; simp only [h26, cond_false]; exact Dn (hc := Bc pkk (by repeat (first | exact rfl | refine Ec rfl ?_))) Try.isAgg50) (fun _ _ _ _ _ => rfl) ?_
     refine dn3 ?_
     refine K4 (v := vi id) (fun ρ S hS hB hA => by have h26 : S 26 = false := hA 26 ⟨0, rfl⟩; simp only [h26, cond_false]; exact Dn (hc := Bc pkk (by repeat (first | exact rfl | refine Ec rfl ?_))) Try.isAgg3) (fun _ _ _ _ _ => rfl) ?_
     refine dn7 ?_
     refine K4 (v := vi line) (fun ρ S hS hB hA => by have h26 : S 26 = false := hA 26 ⟨0, rfl⟩; simp only [h26, cond_false]; exact Dn (hc := Bc pkk (by repeat (first | exact rfl | refine Ec rfl ?_))) Try.isAgg3) (fun _ _ _ _ _ => rfl) ?_
     refine dn4 ?_
     first | refine Dl (fun _ _ => Ge Ev) (fun _ _ _ _ _ => rfl) ?_ | refine Dl (fun _ _ => Gz Ev) (fun _ _ _ _ _ => rfl) ?_ | refine e_p (fun _ _ => Ge Ev) (by first | exact Ind.const _ | exact fun _ _ _ _ _ => rfl | exact Ind.self | exact Ind.gh _ 3 rfl) (fun _ _ _ _ _ => rfl) ?_ | refine e_p (fun _ _ => Gz Ev) (by first | exact Ind.const _ | exact fun _ _ _ _ _ => rfl | exact Ind.self | exact Ind.gh _ 3 rfl) (fun _ _ _ _ _ => rfl) ?_
     refine Fl ([(⟨11, id, m.src, line, m.serial, 0, 0, false⟩ : Msg)] : List Msg) Em rfl (fun _ => rfl) rfl (fun _ => rfl) rfl rfl (fun ρ R hd => Gy hwf) (fun _ _ _ _ _ => rfl) ?_
     refine I9 (e := 42) (xs := ms) (ys := [(⟨11, id, m.src, line, m.serial, 0, 0, false⟩ : Msg)]) (v := vo) Em (fun _ => rfl) (fun _ => rfl) rfl (by decide) (fun ρ R hd => (hd.dep (it := ⟨22, _, _, _, _⟩) (by repeat (first | exact List.Mem.head _ | refine List.Mem.tail _ ?_)) ⟨9, rfl⟩ (List.Mem.head _))) (by have : maxN = 16777216 := rfl; simp only [List.length_cons, List.length_nil]; omega) (fun ρ g S hS hB hA => ?_) ?_
     ·
      have ui : upS S 23 23 = true := rfl; have u26 : upS S 23 26 = S 26 := rfl; have h26 : S 26 = false := hA 26 ⟨0, rfl⟩; have rs : (Gh.dec (γ := Value) (Rho.set ρ 23 (Gh.enc g) 23)) = g := rfl
      simp only [ui, hS, u26, h26, rs, cond_true, cond_false]
      exact Pos.ex (by repeat (first | exact .hd | exact .hc | apply Pos.tl | apply Pos.ap))
     refine dn2 ?_
     refine Gw (T0 := 104) (f := 3) (vs := fun ρ => [(ep vh 10 i 0), vi line, vi id, vo]) (v := fun ρ => (Gh.dec (γ := Value) (ρ 23))) (fun ρ => bk) Try.sizeOf50 (fun _ => rfl) (fun _ => rfl) (fun ρ S R w L9 hB hd hs => by have h23 : S 23 = true := hB 23 ⟨9, rfl⟩; simp only [h23, cond_true] at hs; exact Hb pkk hs) (fun _ => rfl) (fun ρ g S hS hB hA => ?_) ?_
     ·
      have ui : upS S 26 26 = true := rfl; have u23 : upS S 26 23 = S 23 := rfl; have r23 : Rho.set ρ 26 g 23 = ρ 23 := rfl
      simp only [ui, hS, u23, r23, cond_true, cond_false]
      exact Pos.ex (by repeat (first | exact .hd | exact .hc | apply Pos.tl | apply Pos.ap))
     refine Aw ?_; intro ρ; simp only [Ao, facts, Bb, List.append_nil, List.nil_append, List.cons_append]
     refine JX.conseq (L' := blk bk 104 [(ep vh 10 i 0), vi line, vi id, (Gh.dec (γ := Value) (ρ 23))] :: row 42 (Gh.dec (γ := Value) (ρ 23)) (ms ++ [(⟨11, id, m.src, line, m.serial, 0, 0, false⟩ : Msg)]) :: foc 58 vh xs i [vi m.value, vi (-1), vi e.sharers, vi e.phase, vi e.who, vi e.serial, .bool e.alone, vi e.turn, vi e.need, u] :: row 3 u (e.last.set m.src.toNat m.serial) :: blk bm 42 m.cells :: (LX)) (fun w hs => hs) ?_
     generalize (Gh.dec (γ := Value) (ρ 22)) = v96
     generalize (Gh.dec (γ := Value) (ρ 23)) = v97
     have er : Af e id m = ({ e with last := (e.last.set m.src.toNat m.serial), value := m.value, owner := -1 }, [(⟨11, id, m.src, line, m.serial, 0, 0, false⟩ : Msg)]) := by unfold Af; rw [if_neg (by omega), if_pos (by omega), if_neg ht11]; rw [hline]; unfold C7; rw [if_pos (by unfold C6; omega), if_pos ht57]
     rw [er]
     refine Aj (.inl rfl) (fun B w hs => Mf rfl _ w) (fun w hs => ⟨v97, rfl, Ag hs⟩)
    ·
     intro ht57
     refine Ak ?_
     refine Ae ?_
     have hwf : ((⟨11, id, m.src, line, m.serial, 0, 0, false⟩ : Msg) : Msg).wf := by unfold Msg.wf Ax; simp only; omega
     refine JC.conseq (L' := blk bk 104 [(ep vh 10 i 0), vi line, vi id, vo] :: row 42 vo ms :: foc 58 vh xs i [vi e.value, vi e.owner, vi e.sharers, vi e.phase, vi e.who, vi e.serial, .bool e.alone, vi e.turn, vi e.need, u] :: row 3 u (e.last.set m.src.toNat m.serial) :: blk bm 42 m.cells :: LX) (fun w hs => Ag hs) ?_
     refine Al Ay (by kernel_rfl) (by kernel_rfl) (fun ρ S => blk bk 104 (bif S 26 then [(ep vh 10 i 0), vi line, vi id, (Gh.dec (γ := Value) (ρ 23))] else [(ep vh 10 i 0), vi line, vi id, vo]) :: (bif S 23 then row 42 (Gh.dec (γ := Value) (ρ 23)) (ms ++ [(⟨11, id, m.src, line, m.serial, 0, 0, false⟩ : Msg)]) else row 42 vo ms) :: foc 58 vh xs i [vi e.value, vi e.owner, vi e.sharers, vi e.phase, vi e.who, vi e.serial, .bool e.alone, vi e.turn, vi e.need, u] :: row 3 u (e.last.set m.src.toNat m.serial) :: blk bm 42 m.cells :: (LX)) (fun _ => rfl) ?_
     refine dn4 ?_
     refine K4 (v := vo) (fun ρ S hS hB hA => by have h26 : S 26 = false := hA 26 ⟨0, rfl⟩; simp only [h26, cond_false]; exact Dn (hc := Bc pkk (by repeat (first | exact rfl | refine Ec rfl ?_))) Try.isAgg50) (fun _ _ _ _ _ => rfl) ?_
     refine dn3 ?_
     refine K4 (v := vi id) (fun ρ S hS hB hA => by have h26 : S 26 = false := hA 26 ⟨0, rfl⟩; simp only [h26, cond_false]; exact Dn (hc := Bc pkk (by repeat (first | exact rfl | refine Ec rfl ?_))) Try.isAgg3) (fun _ _ _ _ _ => rfl) ?_
     refine dn7 ?_
     refine K4 (v := vi line) (fun ρ S hS hB hA => by have h26 : S 26 = false := hA 26 ⟨0, rfl⟩; simp only [h26, cond_false]; exact Dn (hc := Bc pkk (by repeat (first | exact rfl | refine Ec rfl ?_))) Try.isAgg3) (fun _ _ _ _ _ => rfl) ?_
     refine dn4 ?_
     first | refine Dl (fun _ _ => Ge Ev) (fun _ _ _ _ _ => rfl) ?_ | refine Dl (fun _ _ => Gz Ev) (fun _ _ _ _ _ => rfl) ?_ | refine e_p (fun _ _ => Ge Ev) (by first | exact Ind.const _ | exact fun _ _ _ _ _ => rfl | exact Ind.self | exact Ind.gh _ 3 rfl) (fun _ _ _ _ _ => rfl) ?_ | refine e_p (fun _ _ => Gz Ev) (by first | exact Ind.const _ | exact fun _ _ _ _ _ => rfl | exact Ind.self | exact Ind.gh _ 3 rfl) (fun _ _ _ _ _ => rfl) ?_
     refine Fl ([(⟨11, id, m.src, line, m.serial, 0, 0, false⟩ : Msg)] : List Msg) Em rfl (fun _ => rfl) rfl (fun _ => rfl) rfl rfl (fun ρ R hd => Gy hwf) (fun _ _ _ _ _ => rfl) ?_
     refine I9 (e := 42) (xs := ms) (ys := [(⟨11, id, m.src, line, m.serial, 0, 0, false⟩ : Msg)]) (v := vo) Em (fun _ => rfl) (fun _ => rfl) rfl (by decide) (fun ρ R hd => (hd.dep (it := ⟨22, _, _, _, _⟩) (by repeat (first | exact List.Mem.head _ | refine List.Mem.tail _ ?_)) ⟨9, rfl⟩ (List.Mem.head _))) (by have : maxN = 16777216 := rfl; simp only [List.length_cons, List.length_nil]; omega) (fun ρ g S hS hB hA => ?_) ?_
     ·
      have ui : upS S 23 23 = true := rfl; have u26 : upS S 23 26 = S 26 := rfl; have h26 : S 26 = false := hA 26 ⟨0, rfl⟩; have rs : (Gh.dec (γ := Value) (Rho.set ρ 23 (Gh.enc g) 23)) = g := rfl
      simp only [ui, hS, u26, h26, rs, cond_true, cond_false]
      exact Pos.ex (by repeat (first | exact .hd | exact .hc | apply Pos.tl | apply Pos.ap))
     refine dn2 ?_
     refine Gw (T0 := 104) (f := 3) (vs := fun ρ => [(ep vh 10 i 0), vi line, vi id, vo]) (v := fun ρ => (Gh.dec (γ := Value) (ρ 23))) (fun ρ => bk) Try.sizeOf50 (fun _ => rfl) (fun _ => rfl) (fun ρ S R w L9 hB hd hs => by have h23 : S 23 = true := hB 23 ⟨9, rfl⟩; simp only [h23, cond_true] at hs; exact Hb pkk hs) (fun _ => rfl) (fun ρ g S hS hB hA => ?_) ?_
     ·
      have ui : upS S 26 26 = true := rfl; have u23 : upS S 26 23 = S 23 := rfl; have r23 : Rho.set ρ 26 g 23 = ρ 23 := rfl
      simp only [ui, hS, u23, r23, cond_true, cond_false]
      exact Pos.ex (by repeat (first | exact .hd | exact .hc | apply Pos.tl | apply Pos.ap))
     refine Aw ?_; intro ρ; simp only [Ao, facts, Bb, List.append_nil, List.nil_append, List.cons_append]
     refine JX.conseq (L' := blk bk 104 [(ep vh 10 i 0), vi line, vi id, (Gh.dec (γ := Value) (ρ 23))] :: row 42 (Gh.dec (γ := Value) (ρ 23)) (ms ++ [(⟨11, id, m.src, line, m.serial, 0, 0, false⟩ : Msg)]) :: foc 58 vh xs i [vi e.value, vi e.owner, vi e.sharers, vi e.phase, vi e.who, vi e.serial, .bool e.alone, vi e.turn, vi e.need, u] :: row 3 u (e.last.set m.src.toNat m.serial) :: blk bm 42 m.cells :: (LX)) (fun w hs => hs) ?_
     generalize (Gh.dec (γ := Value) (ρ 22)) = v96
     generalize (Gh.dec (γ := Value) (ρ 23)) = v97
     have er : Af e id m = ({ e with last := (e.last.set m.src.toNat m.serial) }, [(⟨11, id, m.src, line, m.serial, 0, 0, false⟩ : Msg)]) := by unfold Af; rw [if_neg (by omega), if_pos (by omega), if_neg ht11]; rw [hline]; unfold C7; rw [if_pos (by unfold C6; omega), if_neg ht57]
     rw [er]
     refine Aj (.inl rfl) (fun B w hs => Mf rfl _ w) (fun w hs => ⟨v97, rfl, Ag hs⟩)
   ·
    intro ht29
    refine Ak ?_
    refine Ae ?_
    have hwf : ((⟨11, id, m.src, line, m.serial, 0, 0, false⟩ : Msg) : Msg).wf := by unfold Msg.wf Ax; simp only; omega
    refine JC.conseq (L' := blk bk 104 [(ep vh 10 i 0), vi line, vi id, vo] :: row 42 vo ms :: foc 58 vh xs i [vi e.value, vi e.owner, vi e.sharers, vi e.phase, vi e.who, vi e.serial, .bool e.alone, vi e.turn, vi e.need, u] :: row 3 u e.last :: blk bm 42 m.cells :: LX) (fun w hs => Ag hs) ?_
    refine Al Ay (by kernel_rfl) (by kernel_rfl) (fun ρ S => blk bk 104 (bif S 26 then [(ep vh 10 i 0), vi line, vi id, (Gh.dec (γ := Value) (ρ 23))] else [(ep vh 10 i 0), vi line, vi id, vo]) :: (bif S 23 then row 42 (Gh.dec (γ := Value) (ρ 23)) (ms ++ [(⟨11, id, m.src, line, m.serial, 0, 0, false⟩ : Msg)]) else row 42 vo ms) :: foc 58 vh xs i [vi e.value, vi e.owner, vi e.sharers, vi e.phase, vi e.who, vi e.serial, .bool e.alone, vi e.turn, vi e.need, u] :: row 3 u e.last :: blk bm 42 m.cells :: (LX)) (fun _ => rfl) ?_
    refine dn4 ?_
    refine K4 (v := vo) (fun ρ S hS hB hA => by have h26 : S 26 = false := hA 26 ⟨0, rfl⟩; simp only [h26, cond_false]; exact Dn (hc := Bc pkk (by repeat (first | exact rfl | refine Ec rfl ?_))) Try.isAgg50) (fun _ _ _ _ _ => rfl) ?_
    refine dn3 ?_
    refine K4 (v := vi id) (fun ρ S hS hB hA => by have h26 : S 26 = false := hA 26 ⟨0, rfl⟩; simp only [h26, cond_false]; exact Dn (hc := Bc pkk (by repeat (first | exact rfl | refine Ec rfl ?_))) Try.isAgg3) (fun _ _ _ _ _ => rfl) ?_
    refine dn7 ?_
    refine K4 (v := vi line) (fun ρ S hS hB hA => by have h26 : S 26 = false := hA 26 ⟨0, rfl⟩; simp only [h26, cond_false]; exact Dn (hc := Bc pkk (by repeat (first | exact rfl | refine Ec rfl ?_))) Try.isAgg3) (fun _ _ _ _ _ => rfl) ?_
    refine dn4 ?_
    first | refine Dl (fun _ _ => Ge Ev) (fun _ _ _ _ _ => rfl) ?_ | refine Dl (fun _ _ => Gz Ev) (fun _ _ _ _ _ => rfl) ?_ | refine e_p (fun _ _ => Ge Ev) (by first | exact Ind.const _ | exact fun _ _ _ _ _ => rfl | exact Ind.self | exact Ind.gh _ 3 rfl) (fun _ _ _ _ _ => rfl) ?_ | refine e_p (fun _ _ => Gz Ev) (by first | exact Ind.const _ | exact fun _ _ _ _ _ => rfl | exact Ind.self | exact Ind.gh _ 3 rfl) (fun _ _ _ _ _ => rfl) ?_
    refine Fl ([(⟨11, id, m.src, line, m.serial, 0, 0, false⟩ : Msg)] : List Msg) Em rfl (fun _ => rfl) rfl (fun _ => rfl) rfl rfl (fun ρ R hd => Gy hwf) (fun _ _ _ _ _ => rfl) ?_
    refine I9 (e := 42) (xs := ms) (ys := [(⟨11, id, m.src, line, m.serial, 0, 0, false⟩ : Msg)]) (v := vo) Em (fun _ => rfl) (fun _ => rfl) rfl (by decide) (fun ρ R hd => (hd.dep (it := ⟨22, _, _, _, _⟩) (by repeat (first | exact List.Mem.head _ | refine List.Mem.tail _ ?_)) ⟨9, rfl⟩ (List.Mem.head _))) (by have : maxN = 16777216 := rfl; simp only [List.length_cons, List.length_nil]; omega) (fun ρ g S hS hB hA => ?_) ?_
    ·
     have ui : upS S 23 23 = true := rfl; have u26 : upS S 23 26 = S 26 := rfl; have h26 : S 26 = false := hA 26 ⟨0, rfl⟩; have rs : (Gh.dec (γ := Value) (Rho.set ρ 23 (Gh.enc g) 23)) = g := rfl
     simp only [ui, hS, u26, h26, rs, cond_true, cond_false]
     exact Pos.ex (by repeat (first | exact .hd | exact .hc | apply Pos.tl | apply Pos.ap))
    refine dn2 ?_
    refine Gw (T0 := 104) (f := 3) (vs := fun ρ => [(ep vh 10 i 0), vi line, vi id, vo]) (v := fun ρ => (Gh.dec (γ := Value) (ρ 23))) (fun ρ => bk) Try.sizeOf50 (fun _ => rfl) (fun _ => rfl) (fun ρ S R w L9 hB hd hs => by have h23 : S 23 = true := hB 23 ⟨9, rfl⟩; simp only [h23, cond_true] at hs; exact Hb pkk hs) (fun _ => rfl) (fun ρ g S hS hB hA => ?_) ?_
    ·
     have ui : upS S 26 26 = true := rfl; have u23 : upS S 26 23 = S 23 := rfl; have r23 : Rho.set ρ 26 g 23 = ρ 23 := rfl
     simp only [ui, hS, u23, r23, cond_true, cond_false]
     exact Pos.ex (by repeat (first | exact .hd | exact .hc | apply Pos.tl | apply Pos.ap))
    refine Aw ?_; intro ρ; simp only [Ao, facts, Bb, List.append_nil, List.nil_append, List.cons_append]
    refine JX.conseq (L' := blk bk 104 [(ep vh 10 i 0), vi line, vi id, (Gh.dec (γ := Value) (ρ 23))] :: row 42 (Gh.dec (γ := Value) (ρ 23)) (ms ++ [(⟨11, id, m.src, line, m.serial, 0, 0, false⟩ : Msg)]) :: foc 58 vh xs i [vi e.value, vi e.owner, vi e.sharers, vi e.phase, vi e.who, vi e.serial, .bool e.alone, vi e.turn, vi e.need, u] :: row 3 u e.last :: blk bm 42 m.cells :: (LX)) (fun w hs => hs) ?_
    generalize (Gh.dec (γ := Value) (ρ 22)) = v96
    generalize (Gh.dec (γ := Value) (ρ 23)) = v97
    have er : Af e id m = (e, [(⟨11, id, m.src, line, m.serial, 0, 0, false⟩ : Msg)]) := by unfold Af; rw [if_neg (by omega), if_pos (by omega), if_neg ht11]; rw [hline]; unfold C7; rw [if_neg (by unfold C6; omega)]
    rw [er]
    refine Aj (.inl rfl) (fun B w hs => Mf rfl _ w) (fun w hs => ⟨v97, rfl, Ag hs⟩)
end Go.Proofs.Ytofgpimoekhfaaa

/- This file proves plain facts for what the program's home hears. No conditions. -/
set_option linter.unusedVariables false
set_option linter.unusedSimpArgs false
set_option maxHeartbeats 1000000
set_option maxRecDepth 8000
namespace Go.Proofs.Ytofgpimoekhfaaa
open Go
theorem Dj {e : Entry} {id : Int} {m : Msg} (he : EB e) (hm : m.wf) (hs : 0 ≤ m.src ∧ m.src < 4) : EB (Af e id m).1 := by
  have h0 := he
  unfold EB Entry.wf Ax at h0
  have hm0 := hm
  unfold Msg.wf Ax at hm0
  have b1 := Bz h0.2.1.1 h0.2.1.2 hs.1 hs.2
  have b2 := Bz h0.2.2.1.1 h0.2.2.1.2 hs.1 hs.2
  unfold Af
  split
  · split
    · exact he
    · refine C1 ?_
      unfold EB Entry.wf Ax; simp only; omega
  split
  · split
    · exact he
    · show EB (C7 e m)
      unfold C7
      split
      · split
        · unfold EB Entry.wf Ax; simp only; omega
        · exact he
      · exact he
  split
  · rename_i k3
    have hs4 : 0 ≤ (if e.alone = true then e.sharers else Gb e.sharers e.owner) ∧ (if e.alone = true then e.sharers else Gb e.sharers e.owner) < 16 := by
      split
      · omega
      · obtain ⟨_, _, r, _⟩ := Bz h0.2.1.1 h0.2.1.2 (show 0 ≤ e.owner by omega) h0.2.2.2.2.1.2; exact r
    refine C1 ?_
    generalize (if e.alone = true then e.sharers else Gb e.sharers e.owner) = z at hs4 ⊢
    unfold EB Entry.wf Ax; simp only; omega
  have hg : EB (Bo e m) := by
    have c1 := b1.2.2.2; have c2 := b2.2.2.2
    unfold Bo EB Entry.wf Ax; simp only; omega
  split
  · split
    · exact C1 hg
    · exact hg
  split
  · show EB (Bs e)
    unfold Bs
    split
    · unfold EB Entry.wf Ax; simp only; omega
    · obtain ⟨_, _, r, _⟩ := Bz h0.2.1.1 h0.2.1.2 h0.2.2.2.1.1 h0.2.2.2.1.2
      unfold EB Entry.wf Ax; simp only; omega
  · exact he
theorem Le (e : Entry) (i id : Int) : (says e i id).length ≤ 4 := by
  unfold says; split
  · simp
  split
  · rw [List.length_map]; exact Nat.le_trans (List.length_filter_le ..) (by simp)
  split <;> simp
theorem Gf (id : Int) : ∀ (l : List Entry) (i : Int), (Cr id i l).length ≤ 4 * l.length
 | [], _ => by simp [Cr]
 | e :: l, i => by
  have := Gf id l (i + 1)
  have := Le e i id
  simp only [Cr, List.length_append, List.length_cons]; omega
theorem q_max {P : Program} {n : Nat} {L : List Chunk} {R : List Fact} {al : List (Nat × Value)} {d : Nat} {x : Operand} {T ty : TypeId} {pos : String} {aft : Array Edge} {a : Int} (hx : ev n al x = some (vi a)) (h0 : 0 ≤ a) : A7 P n al L R ⟨some d, .call { callee := .builtin .max, args := #[x, .const (.int .i64 0)], argTypes := #[T, T] }, ty, pos, aft, none⟩ (vi a) :=
 ⟨rfl, fun ρ w h _ => by
  have hx' := h x (by simp [Op.operands, Call.operands]) _ hx
  have hc' := h (.const (.int .i64 0)) (by simp [Op.operands, Call.operands]) _ rfl
  simp [execOp, resolve, invoke, builtin, hx', hc', Builtin.max_, Builtin.max2, show ¬ (a < 0) from by omega]⟩
end Go.Proofs.Ytofgpimoekhfaaa

/- This file proves what the program's home hears: some kinds of messages. No conditions. -/
set_option linter.unusedVariables false
set_option linter.unusedSimpArgs false
set_option maxHeartbeats 1000000
set_option maxRecDepth 8000
namespace Go.Proofs.Ytofgpimoekhfaaa
open Go
theorem Qe {L : List Chunk} {R : List Fact} {w : World} {v0 : Value} {l : List Entry} {id : Int} {m : Msg} (hs : St (L) R w) (h0 : sl v0 l ∈ R) (hb : ∀ i, i < l.length → EB (l.getD i Aq)) (hla : ∀ i, i < l.length → (l.getD i Aq).last.length ≤ 4) (hm : m.wf) (hid : Ax id) (hk : ¬ (0 ≤ m.line ∧ m.line < (l.length : Int) ∧ 0 ≤ m.src ∧ m.src < ((Ad l m.line).last.length : Int))) : Calls Try.prog 29 [v0, vi id, .agg m.cells.toArray].toArray w (C2 (fun v : Value × Value => .tuple #[v.1, v.2]) (fun v => L) (fun v => sl v.1 (Ai l id m).1 :: sl v.2 (Ai l id m).2 :: R)) := by
  have hlen := Bv h0 hs
  have hm0 := hm
  unfold Msg.wf Ax at hm0
  have hid0 := hid
  unfold Ax at hid0
  refine Au Try.func29 rfl Try.ntmps29 rfl hs ?_
  clear hs
  refine sr ?_
  refine bx ?_; intro b5
  refine rn2 ?_
  refine nr ?_
  refine rn1 ?_
  refine A1 Try.call33 rfl (fun w hs => F7 (l := l) hs mm) ?_; intro g13
  refine rn1 ?_
  refine nx ?_
  rcases (show (m.line < 0) ∨ (¬ m.line < 0 ∧ (l.length : Int) ≤ m.line) ∨ (¬ m.line < 0 ∧ m.line < (l.length : Int) ∧ m.src < 0) ∨ (¬ m.line < 0 ∧ m.line < (l.length : Int) ∧ 0 ≤ m.src ∧ ((Ad l m.line).last.length : Int) ≤ m.src) from by omega) with hc | hc | hc | hc
  ·
   refine JC.conseq (L' := blk b5 42 m.cells :: L) (R' := sl g13.1 l :: R) (fun w hs => by
    have h1 : g13.2.map EV.e = l := F4 (.head _) hs
    have h2 := J3 hs
    rw [h1] at h2
    exact h2.sub .refl (fun f hf => by
     rcases List.mem_cons.1 hf with e | e
     ·
      exact List.mem_cons.2 (.inl e)
     ·
      exact List.mem_cons.2 (.inr (.tail _ e)))) ?_
   refine Al Ay (by kernel_rfl) (by kernel_rfl) (fun _ _ => _) (fun _ => rfl) ?_
   refine dn2 ?_
   refine dj ?_
   first | refine dc (fun _ _ => Ah rfl rfl (C8 (by omega))) ?_
   refine dj ?_
   first | refine dc (fun _ _ => Bh) ?_
   refine dn5 ?_
   refine dj ?_
   first | refine dc (fun _ _ => Ew) ?_
   refine dj ?_
   first | refine dc (fun _ _ => Bh) ?_
   refine dn3 ?_
   refine dj ?_
   first | refine dc (fun _ _ => Ew) ?_
   refine dj ?_
   first | refine dc (fun _ _ => Bh) ?_
   refine W6 ?_
   refine dj ?_
   first | refine dc (fun _ _ => Ew) ?_
   refine Aw ?_; intro ρ; simp only [Ao, facts, Bb, List.append_nil, List.nil_append, List.cons_append]
   refine Ae ?_
   refine sq ?_
   refine cT ?_
   refine sq ?_
   refine kp [1, 5, 6, 7, 8, 41] ?_
   refine Aa ?_
   refine rn3 ?_
   refine nx ?_
   refine rt ?_
   have er : Ai l id m = (l, []) := by unfold Ai; rw [if_pos (by omega)]
   rw [er]
   refine Aj (.inr rfl) (fun B w hs => Ed rfl rfl rfl B w) (fun w hs => ⟨(g13.1, .slice none 0 0), ?_, Ag (St.shut (hs.rowNil 42 Msg))⟩)
   rfl
  ·
   refine JC.conseq (L' := blk b5 42 m.cells :: L) (R' := sl g13.1 l :: R) (fun w hs => by
    have h1 : g13.2.map EV.e = l := F4 (.head _) hs
    have h2 := J3 hs
    rw [h1] at h2
    exact h2.sub .refl (fun f hf => by
     rcases List.mem_cons.1 hf with e | e
     ·
      exact List.mem_cons.2 (.inl e)
     ·
      exact List.mem_cons.2 (.inr (.tail _ e)))) ?_
   refine Al Ay (by kernel_rfl) (by kernel_rfl) (fun _ _ => _) (fun _ => rfl) ?_
   refine dn2 ?_
   refine dj ?_
   first | refine dc (fun _ _ => Ah rfl rfl (Az (by omega))) ?_
   refine dj ?_
   first | refine dc (fun _ _ => Bh) ?_
   refine dn4 ?_
   refine dj (dgy ?_)
   first | refine dc (fun _ _ => Ah rfl rfl (D7 (by omega))) ?_
   refine dj ?_
   first | refine dc (fun _ _ => Bp) ?_
   refine dj ?_
   first | refine dc (fun _ _ => Bh) ?_
   refine dn3 ?_
   refine dj ?_
   first | refine dc (fun _ _ => Ew) ?_
   refine dj ?_
   first | refine dc (fun _ _ => Bh) ?_
   refine W6 ?_
   refine dj ?_
   first | refine dc (fun _ _ => Ew) ?_
   refine Aw ?_; intro ρ; simp only [Ao, facts, Bb, List.append_nil, List.nil_append, List.cons_append]
   refine Ae ?_
   refine sq ?_
   refine cT ?_
   refine sq ?_
   refine kp [1, 5, 6, 7, 8, 41] ?_
   refine Aa ?_
   refine rn3 ?_
   refine nx ?_
   refine rt ?_
   have er : Ai l id m = (l, []) := by unfold Ai; rw [if_pos (by omega)]
   rw [er]
   refine Aj (.inr rfl) (fun B w hs => Ed rfl rfl rfl B w) (fun w hs => ⟨(g13.1, .slice none 0 0), ?_, Ag (St.shut (hs.rowNil 42 Msg))⟩)
   rfl
  ·
   refine JC.conseq (L' := blk b5 42 m.cells :: L) (R' := sl g13.1 l :: R) (fun w hs => by
    have h1 : g13.2.map EV.e = l := F4 (.head _) hs
    have h2 := J3 hs
    rw [h1] at h2
    exact h2.sub .refl (fun f hf => by
     rcases List.mem_cons.1 hf with e | e
     ·
      exact List.mem_cons.2 (.inl e)
     ·
      exact List.mem_cons.2 (.inr (.tail _ e)))) ?_
   refine Al Ay (by kernel_rfl) (by kernel_rfl) (fun _ _ => _) (fun _ => rfl) ?_
   refine dn2 ?_
   refine dj ?_
   first | refine dc (fun _ _ => Ah rfl rfl (Az (by omega))) ?_
   refine dj ?_
   first | refine dc (fun _ _ => Bh) ?_
   refine dn4 ?_
   refine dj (dgy ?_)
   first | refine dc (fun _ _ => Ah rfl rfl (Bd (by omega))) ?_
   refine dj ?_
   first | refine dc (fun _ _ => Bp) ?_
   refine dj ?_
   first | refine dc (fun _ _ => Bh) ?_
   refine dn2 ?_
   refine dj (dgy ?_)
   first | refine dc (fun _ _ => Ah rfl rfl (C8 (by omega))) ?_
   refine dj ?_
   first | refine dc (fun _ _ => Bp) ?_
   refine dj ?_
   first | refine dc (fun _ _ => Bh) ?_
   refine W6 ?_
   refine dj ?_
   first | refine dc (fun _ _ => Ew) ?_
   refine Aw ?_; intro ρ; simp only [Ao, facts, Bb, List.append_nil, List.nil_append, List.cons_append]
   refine Ae ?_
   refine sq ?_
   refine cT ?_
   refine sq ?_
   refine kp [1, 5, 6, 7, 8, 41] ?_
   refine Aa ?_
   refine rn3 ?_
   refine nx ?_
   refine rt ?_
   have er : Ai l id m = (l, []) := by unfold Ai; rw [if_pos (by omega)]
   rw [er]
   refine Aj (.inr rfl) (fun B w hs => Ed rfl rfl rfl B w) (fun w hs => ⟨(g13.1, .slice none 0 0), ?_, Ag (St.shut (hs.rowNil 42 Msg))⟩)
   rfl
  ·
   refine JC.conseq (L' := blk b5 42 m.cells :: L) (R' := sl g13.1 l :: R) (fun w hs => by
    have h1 : g13.2.map EV.e = l := F4 (.head _) hs
    have h2 := J3 hs
    rw [h1] at h2
    exact h2.sub .refl (fun f hf => by
     rcases List.mem_cons.1 hf with e | e
     ·
      exact List.mem_cons.2 (.inl e)
     ·
      exact List.mem_cons.2 (.inr (.tail _ e)))) ?_
   refine Dx (v := v0) m.line mm (by omega) (by omega) (fun hEw u => ?_)
   have hE : EB (Ad l m.line) := hb m.line.toNat (by omega)
   have hE0 := hE
   unfold EB Entry.wf Ax at hE0
   have hL : (Ad l m.line).last.length ≤ 4 := hla m.line.toNat (by omega)
   refine JC.know (p := u.oneCell' = true) (fun w hs => isSlice.one (hs.fact (.tail _ (.head _)))) (fun hone => ?_)
   refine JC.know (p := ∀ x ∈ (Ad l m.line).last, Ax x) (fun w hs => Dy (.tail _ (.head _)) hs) (fun hlin => ?_)
   refine Al Ay (by kernel_rfl) (by kernel_rfl) (fun _ _ => _) (fun _ => rfl) ?_
   refine dn2 ?_
   refine dj ?_
   first | refine dc (fun _ _ => Ah rfl rfl (Az (by omega))) ?_
   refine dj ?_
   first | refine dc (fun _ _ => Bh) ?_
   refine dn4 ?_
   refine dj (dgy ?_)
   first | refine dc (fun _ _ => Ah rfl rfl (Bd (by omega))) ?_
   refine dj ?_
   first | refine dc (fun _ _ => Bp) ?_
   refine dj ?_
   first | refine dc (fun _ _ => Bh) ?_
   refine dn2 ?_
   refine dj (dgy ?_)
   first | refine dc (fun _ _ => Ah rfl rfl (Az (by omega))) ?_
   refine dj ?_
   first | refine dc (fun _ _ => Bp) ?_
   refine dj ?_
   first | refine dc (fun _ _ => Bh) ?_
   refine dn9 ?_
   refine dj (dgy ?_)
   first | refine dc (fun _ _ => Ah rfl rfl (D7 (show ((Ad l m.line).last.length : Int) ≤ m.src by omega))) ?_
   refine dj ?_
   first | refine dc (fun _ _ => Bp) ?_
   refine Aw ?_; intro ρ; simp only [Ao, facts, Bb, List.append_nil, List.nil_append, List.cons_append]
   refine Ae ?_
   refine sq ?_
   refine cT ?_
   refine sq ?_
   refine kp [1, 5, 6, 7, 8, 41] ?_
   refine Aa ?_
   refine rn3 ?_
   refine nx ?_
   refine rt ?_
   have er : Ai l id m = (l, []) := by unfold Ai; rw [if_pos (by omega)]
   rw [er]
   refine Aj (.inr rfl) (fun B w hs => Ed rfl rfl rfl B w) (fun w hs => ⟨(g13.1, .slice none 0 0), ?_, Ag (St.shut (hs.rowNil 42 Msg))⟩)
   rfl
theorem Qd {L : List Chunk} {R : List Fact} {w : World} {v0 : Value} {l : List Entry} {id : Int} {m : Msg} (hs : St (L) R w) (h0 : sl v0 l ∈ R) (hb : ∀ i, i < l.length → EB (l.getD i Aq)) (hla : ∀ i, i < l.length → (l.getD i Aq).last.length ≤ 4) (hm : m.wf) (hid : Ax id) (hk : 0 ≤ m.line ∧ m.line < (l.length : Int) ∧ 0 ≤ m.src ∧ m.src < ((Ad l m.line).last.length : Int) ∧ m.kind = 1) : Calls Try.prog 29 [v0, vi id, .agg m.cells.toArray].toArray w (C2 (fun v : Value × Value => .tuple #[v.1, v.2]) (fun v => L) (fun v => sl v.1 (Ai l id m).1 :: sl v.2 (Ai l id m).2 :: R)) := by
  have hlen := Bv h0 hs
  have hm0 := hm
  unfold Msg.wf Ax at hm0
  have hid0 := hid
  unfold Ax at hid0
  refine Au Try.func29 rfl Try.ntmps29 rfl hs ?_
  clear hs
  refine sr ?_
  refine bx ?_; intro b5
  refine rn2 ?_
  refine nr ?_
  refine rn1 ?_
  refine A1 Try.call33 rfl (fun w hs => F7 (l := l) hs mm) ?_; intro g13
  refine rn1 ?_
  refine nx ?_
  refine JC.conseqEx (γ := Value) (L' := fun u => foc 58 g13.1 l m.line.toNat (Entry.cells u (Ad l m.line)) :: row 3 u (Ad l m.line).last :: blk b5 42 m.cells :: L) (R' := fun u => pr (u.oneCell' = true) :: R) (fun w hs => by
   have h1 : g13.2.map EV.e = l := F4 (.head _) hs
   obtain ⟨u, h2, h3, h4⟩ := Hf m.line.toNat h1 (by omega) hs
   exact ⟨u, St.pr h3 (h4.sub .refl (fun f hf => .tail _ hf))⟩) (fun uo => ?_)
  refine JC.know (p := uo.oneCell' = true) (fun w hs => F4 (.head _) hs) (fun honeo => ?_)
  refine Dx (v := v0) m.line mm (by omega) (by omega) (fun hEw u => ?_)
  have hE : EB (Ad l m.line) := hb m.line.toNat (by omega)
  have hE0 := hE
  unfold EB Entry.wf Ax at hE0
  have hL : (Ad l m.line).last.length ≤ 4 := hla m.line.toNat (by omega)
  refine JC.know (p := u.oneCell' = true) (fun w hs => isSlice.one (hs.fact (.tail _ (.head _)))) (fun hone => ?_)
  refine JC.know (p := ∀ x ∈ (Ad l m.line).last, Ax x) (fun w hs => Dy (.tail _ (.head _)) hs) (fun hlin => ?_)
  refine Al Ay (by kernel_rfl) (by kernel_rfl) (fun _ _ => _) (fun _ => rfl) ?_
  refine dn2 ?_
  refine dj ?_
  first | refine dc (fun _ _ => Ah rfl rfl (Az (by omega))) ?_
  refine dj ?_
  first | refine dc (fun _ _ => Bh) ?_
  refine dn4 ?_
  refine dj (dgy ?_)
  first | refine dc (fun _ _ => Ah rfl rfl (Bd (by omega))) ?_
  refine dj ?_
  first | refine dc (fun _ _ => Bp) ?_
  refine dj ?_
  first | refine dc (fun _ _ => Bh) ?_
  refine dn2 ?_
  refine dj (dgy ?_)
  first | refine dc (fun _ _ => Ah rfl rfl (Az (by omega))) ?_
  refine dj ?_
  first | refine dc (fun _ _ => Bp) ?_
  refine dj ?_
  first | refine dc (fun _ _ => Bh) ?_
  refine dn9 ?_
  refine dj (dgy ?_)
  first | refine dc (fun _ _ => Ah rfl rfl (Bd (show ¬ ((Ad l m.line).last.length : Int) ≤ m.src by omega))) ?_
  refine dj ?_
  first | refine dc (fun _ _ => Bp) ?_
  refine Aw ?_; intro ρ; simp only [Ao, facts, Bb, List.append_nil, List.nil_append, List.cons_append]
  refine Ae ?_
  refine sq ?_
  refine cF_ ?_
  refine Ak ?_
  refine Ae ?_
  refine sq ?_
  refine JC.know (p := EpAll g13.1 10 m.line.toNat) (fun w hs => Tm (α := Entry) (xs := l) pkk w hs) (fun hA => ?_)
  have honeE : (ep g13.1 10 m.line.toNat 0).oneCell' = true := hA.one
  refine kp [1, 5, 6, 7, 8, 9, 42, 43, 44, 45] ?_
  refine Aa ?_
  refine rn3 ?_
  refine ob (Lo (v := g13.1) (i := m.line) Jd (hl := Fr (α := Entry) (xs := l) pkk)) ?_
  refine rn1 ?_
  refine nr ?_
  refine rn5 ?_
  refine bx ?_; intro b51
  refine rn1 ?_
  refine nx ?_
  refine JC.rowNil 42 Msg ?_
  refine Al Ay (by kernel_rfl) (by kernel_rfl) (fun _ _ => _) (fun _ => rfl) ?_
  refine dn8 ?_
  refine Aw ?_; intro ρ; simp only [Ao, facts, Bb, List.append_nil, List.nil_append, List.cons_append]
  refine Ae ?_
  refine sq ?_
  refine Av ?_
  refine sr ?_
  refine rn2 ?_
  refine ob (Ah rfl rfl (A2 (by omega))) ?_
  refine rn6 ?_
  refine nx ?_
  refine cT ?_
  refine Aa ?_
  refine rn1 ?_
  refine A1 Try.call65 rfl (fun w hs => Rr (vh := g13.1) (vo := .slice none 0 0) (u := uo) (i := m.line.toNat) (e := (Ad l m.line)) (ms := []) (line := m.line) (id := id) (xs := l) (m := m) (bm := b5) (LX := L) (Ag hs) hA honeo (by simp) hE hm.2.2.2.1 hid hm rfl (by omega) hL (by omega)) ?_; intro v69
  refine J.conseq (L' := foc 58 g13.1 l m.line.toNat (Entry.cells uo (Af (Ad l m.line) id m).1) :: row 3 uo (Af (Ad l m.line) id m).1.last :: blk b51 104 [ep g13.1 10 m.line.toNat 0, vi m.line, vi id, v69] :: row 42 v69 (Af (Ad l m.line) id m).2 :: L) (fun w hs => by rw [List.nil_append] at hs; exact Ag hs) ?_
  refine J.nil ?_
  refine As ?_
  refine Ae ?_
  refine sq ?_
  have hEB : EB (Af (Ad l m.line) id m).1 := Dj hE hm (by omega)
  refine JC.shut (v := uo) (xs := (Af (Ad l m.line) id m).1.last) pkk ?_
  refine JC.unfocus (Af (Ad l m.line) id m).1 pkk (Dh mm hEB.1) ?_
  refine JC.shut (v := g13.1) pkk ?_
  refine kp [6, 7, 8, 10, 239, 240, 241, 242, 243] ?_
  refine Al Ay (by kernel_rfl) (by kernel_rfl) (fun _ _ => _) (fun _ => rfl) ?_
  refine dn7 ?_
  refine Aw ?_; intro ρ; simp only [Ao, facts, Bb, List.append_nil, List.nil_append, List.cons_append]
  refine Ae ?_
  refine rt ?_
  have er : Ai l id m = (l.set m.line.toNat (Af (Ad l m.line) id m).1, (Af (Ad l m.line) id m).2) := by unfold Ai; rw [if_neg (by omega)]
  rw [er]
  refine Aj (.inr rfl) (fun B w hs => Ed rfl rfl rfl B w) (fun w hs => ⟨(g13.1, v69), ?_, Ag (St.shut (hs.pick pkk))⟩)
  rfl
theorem Qc {L : List Chunk} {R : List Fact} {w : World} {v0 : Value} {l : List Entry} {id : Int} {m : Msg} (hs : St (L) R w) (h0 : sl v0 l ∈ R) (hb : ∀ i, i < l.length → EB (l.getD i Aq)) (hla : ∀ i, i < l.length → (l.getD i Aq).last.length ≤ 4) (hm : m.wf) (hid : Ax id) (hk : 0 ≤ m.line ∧ m.line < (l.length : Int) ∧ 0 ≤ m.src ∧ m.src < ((Ad l m.line).last.length : Int) ∧ m.kind = 2) : Calls Try.prog 29 [v0, vi id, .agg m.cells.toArray].toArray w (C2 (fun v : Value × Value => .tuple #[v.1, v.2]) (fun v => L) (fun v => sl v.1 (Ai l id m).1 :: sl v.2 (Ai l id m).2 :: R)) := by
  have hlen := Bv h0 hs
  have hm0 := hm
  unfold Msg.wf Ax at hm0
  have hid0 := hid
  unfold Ax at hid0
  refine Au Try.func29 rfl Try.ntmps29 rfl hs ?_
  clear hs
  refine sr ?_
  refine bx ?_; intro b5
  refine rn2 ?_
  refine nr ?_
  refine rn1 ?_
  refine A1 Try.call33 rfl (fun w hs => F7 (l := l) hs mm) ?_; intro g13
  refine rn1 ?_
  refine nx ?_
  refine JC.conseqEx (γ := Value) (L' := fun u => foc 58 g13.1 l m.line.toNat (Entry.cells u (Ad l m.line)) :: row 3 u (Ad l m.line).last :: blk b5 42 m.cells :: L) (R' := fun u => pr (u.oneCell' = true) :: R) (fun w hs => by
   have h1 : g13.2.map EV.e = l := F4 (.head _) hs
   obtain ⟨u, h2, h3, h4⟩ := Hf m.line.toNat h1 (by omega) hs
   exact ⟨u, St.pr h3 (h4.sub .refl (fun f hf => .tail _ hf))⟩) (fun uo => ?_)
  refine JC.know (p := uo.oneCell' = true) (fun w hs => F4 (.head _) hs) (fun honeo => ?_)
  refine Dx (v := v0) m.line mm (by omega) (by omega) (fun hEw u => ?_)
  have hE : EB (Ad l m.line) := hb m.line.toNat (by omega)
  have hE0 := hE
  unfold EB Entry.wf Ax at hE0
  have hL : (Ad l m.line).last.length ≤ 4 := hla m.line.toNat (by omega)
  refine JC.know (p := u.oneCell' = true) (fun w hs => isSlice.one (hs.fact (.tail _ (.head _)))) (fun hone => ?_)
  refine JC.know (p := ∀ x ∈ (Ad l m.line).last, Ax x) (fun w hs => Dy (.tail _ (.head _)) hs) (fun hlin => ?_)
  refine Al Ay (by kernel_rfl) (by kernel_rfl) (fun _ _ => _) (fun _ => rfl) ?_
  refine dn2 ?_
  refine dj ?_
  first | refine dc (fun _ _ => Ah rfl rfl (Az (by omega))) ?_
  refine dj ?_
  first | refine dc (fun _ _ => Bh) ?_
  refine dn4 ?_
  refine dj (dgy ?_)
  first | refine dc (fun _ _ => Ah rfl rfl (Bd (by omega))) ?_
  refine dj ?_
  first | refine dc (fun _ _ => Bp) ?_
  refine dj ?_
  first | refine dc (fun _ _ => Bh) ?_
  refine dn2 ?_
  refine dj (dgy ?_)
  first | refine dc (fun _ _ => Ah rfl rfl (Az (by omega))) ?_
  refine dj ?_
  first | refine dc (fun _ _ => Bp) ?_
  refine dj ?_
  first | refine dc (fun _ _ => Bh) ?_
  refine dn9 ?_
  refine dj (dgy ?_)
  first | refine dc (fun _ _ => Ah rfl rfl (Bd (show ¬ ((Ad l m.line).last.length : Int) ≤ m.src by omega))) ?_
  refine dj ?_
  first | refine dc (fun _ _ => Bp) ?_
  refine Aw ?_; intro ρ; simp only [Ao, facts, Bb, List.append_nil, List.nil_append, List.cons_append]
  refine Ae ?_
  refine sq ?_
  refine cF_ ?_
  refine Ak ?_
  refine Ae ?_
  refine sq ?_
  refine JC.know (p := EpAll g13.1 10 m.line.toNat) (fun w hs => Tm (α := Entry) (xs := l) pkk w hs) (fun hA => ?_)
  have honeE : (ep g13.1 10 m.line.toNat 0).oneCell' = true := hA.one
  refine kp [1, 5, 6, 7, 8, 9, 42, 43, 44, 45] ?_
  refine Aa ?_
  refine rn3 ?_
  refine ob (Lo (v := g13.1) (i := m.line) Jd (hl := Fr (α := Entry) (xs := l) pkk)) ?_
  refine rn1 ?_
  refine nr ?_
  refine rn5 ?_
  refine bx ?_; intro b51
  refine rn1 ?_
  refine nx ?_
  refine JC.rowNil 42 Msg ?_
  refine Al Ay (by kernel_rfl) (by kernel_rfl) (fun _ _ => _) (fun _ => rfl) ?_
  refine dn8 ?_
  refine Aw ?_; intro ρ; simp only [Ao, facts, Bb, List.append_nil, List.nil_append, List.cons_append]
  refine Ae ?_
  refine sq ?_
  refine Av ?_
  refine sr ?_
  refine rn2 ?_
  refine ob (Ah rfl rfl (An (by omega))) ?_
  refine rn3 ?_
  refine gy ?_
  refine ob (Ah rfl rfl (A2 (by omega))) ?_
  refine rn2 ?_
  refine nx ?_
  refine cT ?_
  refine Aa ?_
  refine rn1 ?_
  refine A1 Try.call65 rfl (fun w hs => Rr (vh := g13.1) (vo := .slice none 0 0) (u := uo) (i := m.line.toNat) (e := (Ad l m.line)) (ms := []) (line := m.line) (id := id) (xs := l) (m := m) (bm := b5) (LX := L) (Ag hs) hA honeo (by simp) hE hm.2.2.2.1 hid hm rfl (by omega) hL (by omega)) ?_; intro v69
  refine J.conseq (L' := foc 58 g13.1 l m.line.toNat (Entry.cells uo (Af (Ad l m.line) id m).1) :: row 3 uo (Af (Ad l m.line) id m).1.last :: blk b51 104 [ep g13.1 10 m.line.toNat 0, vi m.line, vi id, v69] :: row 42 v69 (Af (Ad l m.line) id m).2 :: L) (fun w hs => by rw [List.nil_append] at hs; exact Ag hs) ?_
  refine J.nil ?_
  refine As ?_
  refine Ae ?_
  refine sq ?_
  have hEB : EB (Af (Ad l m.line) id m).1 := Dj hE hm (by omega)
  refine JC.shut (v := uo) (xs := (Af (Ad l m.line) id m).1.last) pkk ?_
  refine JC.unfocus (Af (Ad l m.line) id m).1 pkk (Dh mm hEB.1) ?_
  refine JC.shut (v := g13.1) pkk ?_
  refine kp [6, 7, 8, 10, 239, 240, 241, 242, 243] ?_
  refine Al Ay (by kernel_rfl) (by kernel_rfl) (fun _ _ => _) (fun _ => rfl) ?_
  refine dn7 ?_
  refine Aw ?_; intro ρ; simp only [Ao, facts, Bb, List.append_nil, List.nil_append, List.cons_append]
  refine Ae ?_
  refine rt ?_
  have er : Ai l id m = (l.set m.line.toNat (Af (Ad l m.line) id m).1, (Af (Ad l m.line) id m).2) := by unfold Ai; rw [if_neg (by omega)]
  rw [er]
  refine Aj (.inr rfl) (fun B w hs => Ed rfl rfl rfl B w) (fun w hs => ⟨(g13.1, v69), ?_, Ag (St.shut (hs.pick pkk))⟩)
  rfl
theorem Qb {L : List Chunk} {R : List Fact} {w : World} {v0 : Value} {l : List Entry} {id : Int} {m : Msg} (hs : St (L) R w) (h0 : sl v0 l ∈ R) (hb : ∀ i, i < l.length → EB (l.getD i Aq)) (hla : ∀ i, i < l.length → (l.getD i Aq).last.length ≤ 4) (hm : m.wf) (hid : Ax id) (hk : 0 ≤ m.line ∧ m.line < (l.length : Int) ∧ 0 ≤ m.src ∧ m.src < ((Ad l m.line).last.length : Int) ∧ m.kind = 3) : Calls Try.prog 29 [v0, vi id, .agg m.cells.toArray].toArray w (C2 (fun v : Value × Value => .tuple #[v.1, v.2]) (fun v => L) (fun v => sl v.1 (Ai l id m).1 :: sl v.2 (Ai l id m).2 :: R)) := by
  have hlen := Bv h0 hs
  have hm0 := hm
  unfold Msg.wf Ax at hm0
  have hid0 := hid
  unfold Ax at hid0
  refine Au Try.func29 rfl Try.ntmps29 rfl hs ?_
  clear hs
  refine sr ?_
  refine bx ?_; intro b5
  refine rn2 ?_
  refine nr ?_
  refine rn1 ?_
  refine A1 Try.call33 rfl (fun w hs => F7 (l := l) hs mm) ?_; intro g13
  refine rn1 ?_
  refine nx ?_
  refine JC.conseqEx (γ := Value) (L' := fun u => foc 58 g13.1 l m.line.toNat (Entry.cells u (Ad l m.line)) :: row 3 u (Ad l m.line).last :: blk b5 42 m.cells :: L) (R' := fun u => pr (u.oneCell' = true) :: R) (fun w hs => by
   have h1 : g13.2.map EV.e = l := F4 (.head _) hs
   obtain ⟨u, h2, h3, h4⟩ := Hf m.line.toNat h1 (by omega) hs
   exact ⟨u, St.pr h3 (h4.sub .refl (fun f hf => .tail _ hf))⟩) (fun uo => ?_)
  refine JC.know (p := uo.oneCell' = true) (fun w hs => F4 (.head _) hs) (fun honeo => ?_)
  refine Dx (v := v0) m.line mm (by omega) (by omega) (fun hEw u => ?_)
  have hE : EB (Ad l m.line) := hb m.line.toNat (by omega)
  have hE0 := hE
  unfold EB Entry.wf Ax at hE0
  have hL : (Ad l m.line).last.length ≤ 4 := hla m.line.toNat (by omega)
  refine JC.know (p := u.oneCell' = true) (fun w hs => isSlice.one (hs.fact (.tail _ (.head _)))) (fun hone => ?_)
  refine JC.know (p := ∀ x ∈ (Ad l m.line).last, Ax x) (fun w hs => Dy (.tail _ (.head _)) hs) (fun hlin => ?_)
  refine Al Ay (by kernel_rfl) (by kernel_rfl) (fun _ _ => _) (fun _ => rfl) ?_
  refine dn2 ?_
  refine dj ?_
  first | refine dc (fun _ _ => Ah rfl rfl (Az (by omega))) ?_
  refine dj ?_
  first | refine dc (fun _ _ => Bh) ?_
  refine dn4 ?_
  refine dj (dgy ?_)
  first | refine dc (fun _ _ => Ah rfl rfl (Bd (by omega))) ?_
  refine dj ?_
  first | refine dc (fun _ _ => Bp) ?_
  refine dj ?_
  first | refine dc (fun _ _ => Bh) ?_
  refine dn2 ?_
  refine dj (dgy ?_)
  first | refine dc (fun _ _ => Ah rfl rfl (Az (by omega))) ?_
  refine dj ?_
  first | refine dc (fun _ _ => Bp) ?_
  refine dj ?_
  first | refine dc (fun _ _ => Bh) ?_
  refine dn9 ?_
  refine dj (dgy ?_)
  first | refine dc (fun _ _ => Ah rfl rfl (Bd (show ¬ ((Ad l m.line).last.length : Int) ≤ m.src by omega))) ?_
  refine dj ?_
  first | refine dc (fun _ _ => Bp) ?_
  refine Aw ?_; intro ρ; simp only [Ao, facts, Bb, List.append_nil, List.nil_append, List.cons_append]
  refine Ae ?_
  refine sq ?_
  refine cF_ ?_
  refine Ak ?_
  refine Ae ?_
  refine sq ?_
  refine JC.know (p := EpAll g13.1 10 m.line.toNat) (fun w hs => Tm (α := Entry) (xs := l) pkk w hs) (fun hA => ?_)
  have honeE : (ep g13.1 10 m.line.toNat 0).oneCell' = true := hA.one
  refine kp [1, 5, 6, 7, 8, 9, 42, 43, 44, 45] ?_
  refine Aa ?_
  refine rn3 ?_
  refine ob (Lo (v := g13.1) (i := m.line) Jd (hl := Fr (α := Entry) (xs := l) pkk)) ?_
  refine rn1 ?_
  refine nr ?_
  refine rn5 ?_
  refine bx ?_; intro b51
  refine rn1 ?_
  refine nx ?_
  refine JC.rowNil 42 Msg ?_
  refine Al Ay (by kernel_rfl) (by kernel_rfl) (fun _ _ => _) (fun _ => rfl) ?_
  refine dn8 ?_
  refine Aw ?_; intro ρ; simp only [Ao, facts, Bb, List.append_nil, List.nil_append, List.cons_append]
  refine Ae ?_
  refine sq ?_
  refine Av ?_
  refine sr ?_
  refine rn2 ?_
  refine ob (Ah rfl rfl (An (by omega))) ?_
  refine rn3 ?_
  refine gy ?_
  refine ob (Ah rfl rfl (An (by omega))) ?_
  refine rn2 ?_
  refine nx ?_
  refine cF_ ?_
  refine sr ?_
  refine rn2 ?_
  refine ob (Ah rfl rfl (A2 (by omega))) ?_
  refine rn1 ?_
  refine nx ?_
  refine cT ?_
  refine kp [5, 6, 7, 8, 9, 10, 11, 74] ?_
  refine Aa ?_
  refine rn1 ?_
  refine A1 Try.call66 rfl (fun w hs => Vt (vh := g13.1) (vo := .slice none 0 0) (u := uo) (i := m.line.toNat) (e := (Ad l m.line)) (ms := []) (line := m.line) (id := id) (xs := l) (m := m) (bm := b5) (LX := L) (Ag hs) hA honeo (by simp) hE hm.2.2.2.1 hid hm rfl (by omega) hL (by omega)) ?_; intro v75
  refine J.conseq (L' := foc 58 g13.1 l m.line.toNat (Entry.cells uo (Af (Ad l m.line) id m).1) :: row 3 uo (Af (Ad l m.line) id m).1.last :: blk b51 104 [ep g13.1 10 m.line.toNat 0, vi m.line, vi id, v75] :: row 42 v75 (Af (Ad l m.line) id m).2 :: L) (fun w hs => by rw [List.nil_append] at hs; exact Ag hs) ?_
  refine J.nil ?_
  refine As ?_
  refine Ae ?_
  refine sq ?_
  have hEB : EB (Af (Ad l m.line) id m).1 := Dj hE hm (by omega)
  refine JC.shut (v := uo) (xs := (Af (Ad l m.line) id m).1.last) pkk ?_
  refine JC.unfocus (Af (Ad l m.line) id m).1 pkk (Dh mm hEB.1) ?_
  refine JC.shut (v := g13.1) pkk ?_
  refine Al Ay (by kernel_rfl) (by kernel_rfl) (fun _ _ => _) (fun _ => rfl) ?_
  refine dn7 ?_
  refine Aw ?_; intro ρ; simp only [Ao, facts, Bb, List.append_nil, List.nil_append, List.cons_append]
  refine Ae ?_
  refine rt ?_
  have er : Ai l id m = (l.set m.line.toNat (Af (Ad l m.line) id m).1, (Af (Ad l m.line) id m).2) := by unfold Ai; rw [if_neg (by omega)]
  rw [er]
  refine Aj (.inr rfl) (fun B w hs => Ed rfl rfl rfl B w) (fun w hs => ⟨(g13.1, v75), ?_, Ag (St.shut (hs.pick pkk))⟩)
  rfl
theorem P8 {L : List Chunk} {R : List Fact} {w : World} {v0 : Value} {l : List Entry} {id : Int} {m : Msg} (hs : St (L) R w) (h0 : sl v0 l ∈ R) (hb : ∀ i, i < l.length → EB (l.getD i Aq)) (hla : ∀ i, i < l.length → (l.getD i Aq).last.length ≤ 4) (hm : m.wf) (hid : Ax id) (hk : 0 ≤ m.line ∧ m.line < (l.length : Int) ∧ 0 ≤ m.src ∧ m.src < ((Ad l m.line).last.length : Int) ∧ m.kind ≠ 1 ∧ m.kind ≠ 2 ∧ m.kind ≠ 3 ∧ m.kind ≠ 9 ∧ m.kind ≠ 8 ∧ m.kind ≠ 10) : Calls Try.prog 29 [v0, vi id, .agg m.cells.toArray].toArray w (C2 (fun v : Value × Value => .tuple #[v.1, v.2]) (fun v => L) (fun v => sl v.1 (Ai l id m).1 :: sl v.2 (Ai l id m).2 :: R)) := by
  have hlen := Bv h0 hs
  have hm0 := hm
  unfold Msg.wf Ax at hm0
  have hid0 := hid
  unfold Ax at hid0
  refine Au Try.func29 rfl Try.ntmps29 rfl hs ?_
  clear hs
  refine sr ?_
  refine bx ?_; intro b5
  refine rn2 ?_
  refine nr ?_
  refine rn1 ?_
  refine A1 Try.call33 rfl (fun w hs => F7 (l := l) hs mm) ?_; intro g13
  refine rn1 ?_
  refine nx ?_
  refine JC.conseqEx (γ := Value) (L' := fun u => foc 58 g13.1 l m.line.toNat (Entry.cells u (Ad l m.line)) :: row 3 u (Ad l m.line).last :: blk b5 42 m.cells :: L) (R' := fun u => pr (u.oneCell' = true) :: R) (fun w hs => by
   have h1 : g13.2.map EV.e = l := F4 (.head _) hs
   obtain ⟨u, h2, h3, h4⟩ := Hf m.line.toNat h1 (by omega) hs
   exact ⟨u, St.pr h3 (h4.sub .refl (fun f hf => .tail _ hf))⟩) (fun uo => ?_)
  refine JC.know (p := uo.oneCell' = true) (fun w hs => F4 (.head _) hs) (fun honeo => ?_)
  refine Dx (v := v0) m.line mm (by omega) (by omega) (fun hEw u => ?_)
  have hE : EB (Ad l m.line) := hb m.line.toNat (by omega)
  have hE0 := hE
  unfold EB Entry.wf Ax at hE0
  have hL : (Ad l m.line).last.length ≤ 4 := hla m.line.toNat (by omega)
  refine JC.know (p := u.oneCell' = true) (fun w hs => isSlice.one (hs.fact (.tail _ (.head _)))) (fun hone => ?_)
  refine JC.know (p := ∀ x ∈ (Ad l m.line).last, Ax x) (fun w hs => Dy (.tail _ (.head _)) hs) (fun hlin => ?_)
  refine Al Ay (by kernel_rfl) (by kernel_rfl) (fun _ _ => _) (fun _ => rfl) ?_
  refine dn2 ?_
  refine dj ?_
  first | refine dc (fun _ _ => Ah rfl rfl (Az (by omega))) ?_
  refine dj ?_
  first | refine dc (fun _ _ => Bh) ?_
  refine dn4 ?_
  refine dj (dgy ?_)
  first | refine dc (fun _ _ => Ah rfl rfl (Bd (by omega))) ?_
  refine dj ?_
  first | refine dc (fun _ _ => Bp) ?_
  refine dj ?_
  first | refine dc (fun _ _ => Bh) ?_
  refine dn2 ?_
  refine dj (dgy ?_)
  first | refine dc (fun _ _ => Ah rfl rfl (Az (by omega))) ?_
  refine dj ?_
  first | refine dc (fun _ _ => Bp) ?_
  refine dj ?_
  first | refine dc (fun _ _ => Bh) ?_
  refine dn9 ?_
  refine dj (dgy ?_)
  first | refine dc (fun _ _ => Ah rfl rfl (Bd (show ¬ ((Ad l m.line).last.length : Int) ≤ m.src by omega))) ?_
  refine dj ?_
  first | refine dc (fun _ _ => Bp) ?_
  refine Aw ?_; intro ρ; simp only [Ao, facts, Bb, List.append_nil, List.nil_append, List.cons_append]
  refine Ae ?_
  refine sq ?_
  refine cF_ ?_
  refine Ak ?_
  refine Ae ?_
  refine sq ?_
  refine JC.know (p := EpAll g13.1 10 m.line.toNat) (fun w hs => Tm (α := Entry) (xs := l) pkk w hs) (fun hA => ?_)
  have honeE : (ep g13.1 10 m.line.toNat 0).oneCell' = true := hA.one
  refine kp [1, 5, 6, 7, 8, 9, 42, 43, 44, 45] ?_
  refine Aa ?_
  refine rn3 ?_
  refine ob (Lo (v := g13.1) (i := m.line) Jd (hl := Fr (α := Entry) (xs := l) pkk)) ?_
  refine rn1 ?_
  refine nr ?_
  refine rn5 ?_
  refine bx ?_; intro b51
  refine rn1 ?_
  refine nx ?_
  refine JC.rowNil 42 Msg ?_
  refine Al Ay (by kernel_rfl) (by kernel_rfl) (fun _ _ => _) (fun _ => rfl) ?_
  refine dn8 ?_
  refine Aw ?_; intro ρ; simp only [Ao, facts, Bb, List.append_nil, List.nil_append, List.cons_append]
  refine Ae ?_
  refine sq ?_
  refine Av ?_
  refine sr ?_
  refine rn2 ?_
  refine ob (Ah rfl rfl (An (by omega))) ?_
  refine rn3 ?_
  refine gy ?_
  refine ob (Ah rfl rfl (An (by omega))) ?_
  refine rn2 ?_
  refine nx ?_
  refine cF_ ?_
  refine sr ?_
  refine rn2 ?_
  refine ob (Ah rfl rfl (An (by omega))) ?_
  refine rn1 ?_
  refine nx ?_
  refine cF_ ?_
  refine sq ?_
  refine kp [5, 6, 7, 8, 9, 10, 11, 76, 77, 78, 79, 80, 81, 82, 83, 84, 85, 86, 87, 88, 89, 90, 91, 92, 93, 94, 95, 96, 97, 98] ?_
  refine Al Ay (by kernel_rfl) (by kernel_rfl) (fun _ _ => _) (fun _ => rfl) ?_
  refine dn2 ?_
  refine dj ?_
  first | refine dc (fun _ _ => Ah rfl rfl (An (by omega))) ?_
  refine dj ?_
  first | refine dc (fun _ _ => Bh) ?_
  refine dn1 ?_
  refine dj ?_
  first | refine dc (fun _ _ => Bp) ?_
  refine dj ?_
  first | refine dc (fun _ _ => Bh) ?_
  refine dn5 ?_
  refine dj ?_
  first | refine dc (fun _ _ => Bp) ?_
  refine dj ?_
  first | refine dc (fun _ _ => Bh) ?_
  refine dn7 ?_
  refine dj ?_
  first | refine dc (fun _ _ => Bp) ?_
  refine dj ?_
  first | refine dc (fun _ _ => Cz) ?_
  refine Aw ?_; intro ρ; simp only [Ao, facts, Bb, List.append_nil, List.nil_append, List.cons_append]
  refine Ae ?_
  refine cF_ ?_
  refine sq ?_
  refine Al Ay (by kernel_rfl) (by kernel_rfl) (fun _ _ => _) (fun _ => rfl) ?_
  refine dn2 ?_
  refine dj ?_
  first | refine dc (fun _ _ => Ah rfl rfl (An (by omega))) ?_
  refine dj ?_
  first | refine dc (fun _ _ => Bh) ?_
  refine dn1 ?_
  refine dj ?_
  first | refine dc (fun _ _ => Bp) ?_
  refine dj ?_
  first | refine dc (fun _ _ => Bh) ?_
  refine dn5 ?_
  refine dj ?_
  first | refine dc (fun _ _ => Bp) ?_
  refine dj ?_
  first | refine dc (fun _ _ => Bh) ?_
  refine dn9 ?_
  refine dj ?_
  first | refine dc (fun _ _ => Bp) ?_
  refine dj ?_
  first | refine dc (fun _ _ => Cz) ?_
  refine Aw ?_; intro ρ; simp only [Ao, facts, Bb, List.append_nil, List.nil_append, List.cons_append]
  refine Ae ?_
  refine cF_ ?_
  refine sq ?_
  refine kp [5, 6, 7, 8, 9, 10, 11, 178, 179, 180, 181, 182, 183, 184, 185, 186, 187, 188, 189, 190, 191, 192, 193, 194, 195, 196, 197, 198, 199, 200] ?_
  refine Al Ay (by kernel_rfl) (by kernel_rfl) (fun _ _ => _) (fun _ => rfl) ?_
  refine dn2 ?_
  refine dj ?_
  first | refine dc (fun _ _ => Ah rfl rfl (An (by omega))) ?_
  refine dj ?_
  first | refine dc (fun _ _ => Bh) ?_
  refine dn1 ?_
  refine dj ?_
  first | refine dc (fun _ _ => Bp) ?_
  refine dj ?_
  first | refine dc (fun _ _ => Bh) ?_
  refine dn5 ?_
  refine dj ?_
  first | refine dc (fun _ _ => Bp) ?_
  refine dj ?_
  first | refine dc (fun _ _ => Bh) ?_
  refine dn7 ?_
  refine dj ?_
  first | refine dc (fun _ _ => Bp) ?_
  refine dj ?_
  first | refine dc (fun _ _ => Cz) ?_
  refine Aw ?_; intro ρ; simp only [Ao, facts, Bb, List.append_nil, List.nil_append, List.cons_append]
  refine Ae ?_
  refine cF_ ?_
  refine Ak ?_
  refine As ?_
  refine Ae ?_
  refine sq ?_
  have eh : (Af (Ad l m.line) id m) = ((Ad l m.line), []) := by unfold Af; rw [if_neg (by omega), if_neg (by omega), if_neg (by omega), if_neg (by omega), if_neg (by omega)]
  refine JC.conseq (L' := foc 58 g13.1 l m.line.toNat (Entry.cells uo (Af (Ad l m.line) id m).1) :: row 3 uo (Af (Ad l m.line) id m).1.last :: blk b51 104 [ep g13.1 10 m.line.toNat 0, vi m.line, vi id, .slice none 0 0] :: row 42 (.slice none 0 0) (Af (Ad l m.line) id m).2 :: L) (fun w hs => by rw [eh]; exact Ag hs) ?_
  have hEB : EB (Af (Ad l m.line) id m).1 := Dj hE hm (by omega)
  refine JC.shut (v := uo) (xs := (Af (Ad l m.line) id m).1.last) pkk ?_
  refine JC.unfocus (Af (Ad l m.line) id m).1 pkk (Dh mm hEB.1) ?_
  refine JC.shut (v := g13.1) pkk ?_
  refine Al Ay (by kernel_rfl) (by kernel_rfl) (fun _ _ => _) (fun _ => rfl) ?_
  refine dn7 ?_
  refine Aw ?_; intro ρ; simp only [Ao, facts, Bb, List.append_nil, List.nil_append, List.cons_append]
  refine Ae ?_
  refine rt ?_
  have er : Ai l id m = (l.set m.line.toNat (Af (Ad l m.line) id m).1, (Af (Ad l m.line) id m).2) := by unfold Ai; rw [if_neg (by omega)]
  rw [er]
  refine Aj (.inr rfl) (fun B w hs => Ed rfl rfl rfl B w) (fun w hs => ⟨(g13.1, .slice none 0 0), ?_, Ag (St.shut (hs.pick pkk))⟩)
  rfl
end Go.Proofs.Ytofgpimoekhfaaa
