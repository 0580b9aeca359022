/- This file proves parts of what its law needs: each part is told ahead of it. No conditions. -/
import Derived.Test.YtbigiimomnfpdaaGreatTM4
import Derived.Test.YtbigiimomnfpdaaGreatTM3
import Derived.Test.YtbigiimomnfpdaaGreatTM5
import Derived.Test.YtbigiimomnfpdaaGreatTM2
set_option linter.unusedVariables false
set_option linter.unusedSimpArgs false
set_option linter.unusedSectionVars false
set_option maxHeartbeats 1000000
set_option maxRecDepth 8000
namespace Go.Proofs.YtbigiimomnfpdaaGreat
open Go
variable {L : List Chunk} {R : List Fact} {w : World}
theorem Zr {u : Value} {c : Core} {id home : Int} {m : Msg} (hs : St (L) R w) (hu : sl u c.lines ∈ R) (hk : KB c) (hid : Ao id) (hhome : Ao home) (hm : m.wf) (hg : ¬ (0 ≤ m.line ∧ m.line < (c.lines.length : Int))) : Calls Tryz.prog 29 [.agg (c.cells u).toArray, vi id, vi home, .agg m.cells.toArray].toArray w (Bs (fun v : Value × Value × Value => .tuple #[.agg (Core.cells v.1 (Ae c id home m).1).toArray, v.2.1, v.2.2]) (fun v => L) (fun v => sl v.1 (Ae c id home m).1.lines :: sl v.2.1 (Ae c id home m).2.1 :: sl v.2.2 (Ae c id home m).2.2 :: R)) := by
 refine Zbk ?_;intro hlen hone0 hn4 hm0
 clear hs
 refine Gm ?_
 refine bx ?_; intro b4
 refine bx ?_; intro b5
 refine bx ?_; intro b6
 refine ZbA ?_;intro b7 b8
 refine Ga2 ?_
 rcases (show (m.line < 0) ∨ (¬ m.line < 0 ∧ (c.lines.length : Int) ≤ m.line) from by omega) with hc | hc
 ·refine ZY ?_
  refine Gc8 ?_
  exact Zgy
 ·refine Zae ?_
  refine Zbo ?_
  refine Gc1 ?_
  exact Zgy
theorem Zq {u : Value} {c : Core} {id home : Int} {m : Msg} (hs : St (L) R w) (hu : sl u c.lines ∈ R) (hk : KB c) (hid : Ao id) (hhome : Ao home) (hm : m.wf) (hg : 0 ≤ m.line ∧ m.line < (c.lines.length : Int) ∧ m.kind = 4) : Calls Tryz.prog 29 [.agg (c.cells u).toArray, vi id, vi home, .agg m.cells.toArray].toArray w (Bs (fun v : Value × Value × Value => .tuple #[.agg (Core.cells v.1 (Ae c id home m).1).toArray, v.2.1, v.2.2]) (fun v => L) (fun v => sl v.1 (Ae c id home m).1.lines :: sl v.2.1 (Ae c id home m).2.1 :: sl v.2.2 (Ae c id home m).2.2 :: R)) := by
 refine Zbk ?_;intro hlen hone0 hn4 hm0
 clear hs
 refine Zbs ?_;intro b4 b5 b6 b7 b8 hlw b11
 refine Cf ?_
 refine Gd1 ?_
 refine Ga5 ?_
 refine cdy ?_ ?_
 ·intro ht50
  refine Zad ?_
  refine sc ?_
  refine ZS ?_
  refine cdy ?_ ?_
  ·intro ht56
   refine ZB ?_
   refine Za4 ?_
   refine Gl ?_
   refine ZK ?_
   have hXw : ({ (Ac c m.line) with seen := m.turn, state := 0, value := 0 } : Line).wf := by first | exact hlw | (unfold Line.wf Ao at hlw ⊢; simp only; omega)
   refine cq_ (blk b8 57 [.slice none 0 0, vi 0, vi 0, vi 0] :: blk b4 57 (c.cells u) :: blk b11 92 [vi 0, vi 0, vi (Ac c m.line).want, vi (Ac c m.line).serial, vi m.turn, vi (Ac c m.line).gave, vi (Ac c m.line).given] :: blk b5 3 [vi id] :: blk b6 3 [vi home] :: blk b7 76 m.cells :: L) ?_
   refine jd_ (fun ρ S => blk b8 57 (bif S 9 then [Gh.dec (γ := Value) (ρ 4), vi c.wait.kind, vi c.wait.line, vi c.wait.value] else [.slice none 0 0, vi 0, vi 0, vi 0]) :: blk b4 57 (c.cells u) :: blk b11 92 [vi 0, vi 0, vi (Ac c m.line).want, vi (Ac c m.line).serial, vi m.turn, vi (Ac c m.line).gave, vi (Ac c m.line).given] :: blk b5 3 [vi id] :: blk b6 3 [vi home] :: blk b7 76 m.cells :: L) ?_
   refine dn4 ?_
   refine Bu (γ := Value) (val := fun v => .agg (Core.cells v (A6 c m.line ({ (Ac c m.line) with seen := m.turn, state := 0, value := 0 }) c.wait)).toArray) (F := fun v => [sl v (c.lines.set m.line.toNat ({ (Ac c m.line) with seen := m.turn, state := 0, value := 0 }))]) Tryz.call51 (fun _ => rfl) (fun ρ L R w hd hs => Bt (l := { (Ac c m.line) with seen := m.turn, state := 0, value := 0 }) hs (hd.base mm) hXw (by omega)) (fun ρ g S hS hA => by have u9 : upS S 4 9 = S 9 := rfl; have h9 : S 9 = false := hA 9 ⟨0, rfl⟩; simp only [u9, h9, cond_false]) ?_
   refine ZcC ?_
   refine es_ 57 0 [] [] (fun ρ => b8) (fun ρ => [.slice none 0 0, vi 0, vi 0, vi 0]) (fun ρ => [Gh.dec (γ := Value) (ρ 4), vi c.wait.kind, vi c.wait.line, vi c.wait.value]) Tryz.sizeOf57 (h1 := (fun ρ R w L' hd hs => Bl (isSlice.one (hs.fact (hd.dep (it := ⟨4, _, _, _, _⟩) (by repeat (first | exact List.Mem.head _ | refine List.Mem.tail _ ?_)) ⟨9, rfl⟩ (List.Mem.head _)))) (by repeat (first | exact Dy | refine Bl rfl ?_)))) ?_
   refine epg 8 0 ?_
   refine dn1 ?_
   refine dnl ?_; intro ρ
   refine xq_ (blk b8 57 [Gh.dec (γ := Value) (ρ 4), vi c.wait.kind, vi c.wait.line, vi c.wait.value] :: blk b4 57 (c.cells u) :: blk b11 92 [vi 0, vi 0, vi (Ac c m.line).want, vi (Ac c m.line).serial, vi m.turn, vi (Ac c m.line).gave, vi (Ac c m.line).given] :: blk b5 3 [vi id] :: blk b6 3 [vi home] :: blk b7 76 m.cells :: L) ?_
   generalize (Gh.dec (γ := Value) (ρ 4)) = v63
   generalize (Gh.dec (γ := Value) (ρ 8)) = v67
   refine Gl ?_
   have eh : Db (Ac c m.line) m.turn = { (Ac c m.line) with seen := m.turn, state := 0, value := 0 } := by unfold Db; rw [if_pos (by omega), if_pos (by omega)]
   have er : Ae c id home m = (A6 c m.line ({ (Ac c m.line) with seen := m.turn, state := 0, value := 0 }) c.wait, [Bj 8 id home m.line m.turn 0], []) := by unfold Ae; rw [if_neg (by omega)]; rw [if_pos (by omega), eh]
   rw [er]
   exact Cj (v63, v67, .slice none 0 0) Tryz.isAgg57 Tryz.sizeOf57
  ·intro ht56
   refine Gl ?_
   refine ZK ?_
   have hXw : ({ (Ac c m.line) with seen := m.turn } : Line).wf := by first | exact hlw | (unfold Line.wf Ao at hlw ⊢; simp only; omega)
   refine cq_ (blk b8 57 [.slice none 0 0, vi 0, vi 0, vi 0] :: blk b4 57 (c.cells u) :: blk b11 92 [vi (Ac c m.line).state, vi (Ac c m.line).value, vi (Ac c m.line).want, vi (Ac c m.line).serial, vi m.turn, vi (Ac c m.line).gave, vi (Ac c m.line).given] :: blk b5 3 [vi id] :: blk b6 3 [vi home] :: blk b7 76 m.cells :: L) ?_
   refine jd_ (fun ρ S => blk b8 57 (bif S 9 then [Gh.dec (γ := Value) (ρ 4), vi c.wait.kind, vi c.wait.line, vi c.wait.value] else [.slice none 0 0, vi 0, vi 0, vi 0]) :: blk b4 57 (c.cells u) :: blk b11 92 [vi (Ac c m.line).state, vi (Ac c m.line).value, vi (Ac c m.line).want, vi (Ac c m.line).serial, vi m.turn, vi (Ac c m.line).gave, vi (Ac c m.line).given] :: blk b5 3 [vi id] :: blk b6 3 [vi home] :: blk b7 76 m.cells :: L) ?_
   refine dn4 ?_
   refine Bu (γ := Value) (val := fun v => .agg (Core.cells v (A6 c m.line ({ (Ac c m.line) with seen := m.turn }) c.wait)).toArray) (F := fun v => [sl v (c.lines.set m.line.toNat ({ (Ac c m.line) with seen := m.turn }))]) Tryz.call51 (fun _ => rfl) (fun ρ L R w hd hs => Bt (l := { (Ac c m.line) with seen := m.turn }) hs (hd.base mm) hXw (by omega)) (fun ρ g S hS hA => by have u9 : upS S 4 9 = S 9 := rfl; have h9 : S 9 = false := hA 9 ⟨0, rfl⟩; simp only [u9, h9, cond_false]) ?_
   refine ZcC ?_
   refine es_ 57 0 [] [] (fun ρ => b8) (fun ρ => [.slice none 0 0, vi 0, vi 0, vi 0]) (fun ρ => [Gh.dec (γ := Value) (ρ 4), vi c.wait.kind, vi c.wait.line, vi c.wait.value]) Tryz.sizeOf57 (h1 := (fun ρ R w L' hd hs => Bl (isSlice.one (hs.fact (hd.dep (it := ⟨4, _, _, _, _⟩) (by repeat (first | exact List.Mem.head _ | refine List.Mem.tail _ ?_)) ⟨9, rfl⟩ (List.Mem.head _)))) (by repeat (first | exact Dy | refine Bl rfl ?_)))) ?_
   refine epg 8 0 ?_
   refine dn1 ?_
   refine dnl ?_; intro ρ
   refine xq_ (blk b8 57 [Gh.dec (γ := Value) (ρ 4), vi c.wait.kind, vi c.wait.line, vi c.wait.value] :: blk b4 57 (c.cells u) :: blk b11 92 [vi (Ac c m.line).state, vi (Ac c m.line).value, vi (Ac c m.line).want, vi (Ac c m.line).serial, vi m.turn, vi (Ac c m.line).gave, vi (Ac c m.line).given] :: blk b5 3 [vi id] :: blk b6 3 [vi home] :: blk b7 76 m.cells :: L) ?_
   generalize (Gh.dec (γ := Value) (ρ 4)) = v63
   generalize (Gh.dec (γ := Value) (ρ 8)) = v67
   refine Gl ?_
   have eh : Db (Ac c m.line) m.turn = { (Ac c m.line) with seen := m.turn } := by unfold Db; rw [if_pos (by omega), if_neg (by omega)]
   have er : Ae c id home m = (A6 c m.line ({ (Ac c m.line) with seen := m.turn }) c.wait, [Bj 8 id home m.line m.turn 0], []) := by unfold Ae; rw [if_neg (by omega)]; rw [if_pos (by omega), eh]
   rw [er]
   exact Cj (v63, v67, .slice none 0 0) Tryz.isAgg57 Tryz.sizeOf57
 ·intro ht50
  refine Gl ?_
  refine ZK ?_
  have hXw : ((Ac c m.line) : Line).wf := by first | exact hlw | (unfold Line.wf Ao at hlw ⊢; simp only; omega)
  refine ZdA ?_
  refine jd_ (fun ρ S => blk b8 57 (bif S 9 then [Gh.dec (γ := Value) (ρ 4), vi c.wait.kind, vi c.wait.line, vi c.wait.value] else [.slice none 0 0, vi 0, vi 0, vi 0]) :: blk b4 57 (c.cells u) :: blk b11 92 (Ac c m.line).cells :: blk b5 3 [vi id] :: blk b6 3 [vi home] :: blk b7 76 m.cells :: L) ?_
  refine dn4 ?_
  refine Bu (γ := Value) (val := fun v => .agg (Core.cells v (A6 c m.line ((Ac c m.line)) c.wait)).toArray) (F := fun v => [sl v (c.lines.set m.line.toNat ((Ac c m.line)))]) Tryz.call51 (fun _ => rfl) (fun ρ L R w hd hs => Bt (l := (Ac c m.line)) hs (hd.base mm) hXw (by omega)) (fun ρ g S hS hA => by have u9 : upS S 4 9 = S 9 := rfl; have h9 : S 9 = false := hA 9 ⟨0, rfl⟩; simp only [u9, h9, cond_false]) ?_
  refine ZcC ?_
  refine es_ 57 0 [] [] (fun ρ => b8) (fun ρ => [.slice none 0 0, vi 0, vi 0, vi 0]) (fun ρ => [Gh.dec (γ := Value) (ρ 4), vi c.wait.kind, vi c.wait.line, vi c.wait.value]) Tryz.sizeOf57 (h1 := (fun ρ R w L' hd hs => Bl (isSlice.one (hs.fact (hd.dep (it := ⟨4, _, _, _, _⟩) (by repeat (first | exact List.Mem.head _ | refine List.Mem.tail _ ?_)) ⟨9, rfl⟩ (List.Mem.head _)))) (by repeat (first | exact Dy | refine Bl rfl ?_)))) ?_
  refine epg 8 0 ?_
  refine dn1 ?_
  refine dnl ?_; intro ρ
  refine xq_ (blk b8 57 [Gh.dec (γ := Value) (ρ 4), vi c.wait.kind, vi c.wait.line, vi c.wait.value] :: blk b4 57 (c.cells u) :: blk b11 92 (Ac c m.line).cells :: blk b5 3 [vi id] :: blk b6 3 [vi home] :: blk b7 76 m.cells :: L) ?_
  generalize (Gh.dec (γ := Value) (ρ 4)) = v63
  generalize (Gh.dec (γ := Value) (ρ 8)) = v67
  refine Gl ?_
  have eh : Db (Ac c m.line) m.turn = (Ac c m.line) := by unfold Db; rw [if_neg (by omega)]
  have er : Ae c id home m = (A6 c m.line ((Ac c m.line)) c.wait, [Bj 8 id home m.line m.turn 0], []) := by unfold Ae; rw [if_neg (by omega)]; rw [if_pos (by omega), eh]
  rw [er]
  exact Cj (v63, v67, .slice none 0 0) Tryz.isAgg57 Tryz.sizeOf57
theorem Wk {u : Value} {c : Core} {id home : Int} {m : Msg} (hs : St (L) R w) (hu : sl u c.lines ∈ R) (hk : KB c) (hid : Ao id) (hhome : Ao home) (hm : m.wf) (hg : 0 ≤ m.line ∧ m.line < (c.lines.length : Int) ∧ m.kind = 11) : Calls Tryz.prog 29 [.agg (c.cells u).toArray, vi id, vi home, .agg m.cells.toArray].toArray w (Bs (fun v : Value × Value × Value => .tuple #[.agg (Core.cells v.1 (Ae c id home m).1).toArray, v.2.1, v.2.2]) (fun v => L) (fun v => sl v.1 (Ae c id home m).1.lines :: sl v.2.1 (Ae c id home m).2.1 :: sl v.2.2 (Ae c id home m).2.2 :: R)) := by
 refine Zbk ?_;intro hlen hone0 hn4 hm0
 clear hs
 refine Zbs ?_;intro b4 b5 b6 b7 b8 hlw b11
 refine ZaW ?_
 refine Gd1 ?_
 refine rn4 ?_
 refine jgx (t := 227) (p := ?p1) (hd := ?d1) ?e1 ?_ ?_; case e1 => exact rfl
 ·intro ht227
  refine Ga6 ?_
  refine cdy ?_ ?_
  ·intro ht233
   refine Gm ?_
   refine ZH ?_
   refine ZH ?_
   refine ZH ?_
   refine Zak ?_
   have hXw : ({ (Ac c m.line) with state := 0, value := 0, want := 0 } : Line).wf := by first | exact hlw | (unfold Line.wf Ao at hlw ⊢; simp only; omega)
   refine An Tryz.call51 rfl (fun w hs => Bt (l := { (Ac c m.line) with state := 0, value := 0, want := 0 }) hs mm hXw (by omega)) ?_; intro v241
   refine J.know (p := v241.oneCell' = true) (fun w hs => isSlice.one (hs.fact (List.Mem.head _))) (fun hone241 => ?_)
   refine al_ (cs := [.slice none 0 0, vi 0, vi 0, vi 0]) Tryz.zeroValue57 ?_; intro b21
   refine s_B (cs := [v241, vi c.wait.kind, vi c.wait.line, vi c.wait.value]) Tryz.sizeOf57 ?_
   refine Gl ?_
   refine kp [4, 8, 9, 10, 13, 21, 242, 243] ?_
   refine Aa ?_
   refine Zbt ?_
   refine rn1 ?_
   refine s_N [v241, vi 0, vi 0, vi 0] Tryz.sizeOf36 ?_
   refine Gl ?_
   refine ZU ?_
   refine cq_ (blk b8 57 [.slice none 0 0, vi 0, vi 0, vi 0] :: blk b21 57 [v241, vi 0, vi 0, vi 0] :: blk b4 57 (c.cells u) :: blk b5 3 [vi id] :: L) ?_
   refine jd_ (fun ρ S => blk b8 57 (bif S 3 then [v241, vi 0, vi 0, vi 0] else [.slice none 0 0, vi 0, vi 0, vi 0]) :: blk b21 57 [v241, vi 0, vi 0, vi 0] :: blk b4 57 (c.cells u) :: blk b5 3 [vi id] :: L) ?_
   refine dn2 ?_
   refine Zd4 ?_
   refine es_ 57 0 [] [] (fun ρ => b8) (fun ρ => [.slice none 0 0, vi 0, vi 0, vi 0]) (fun ρ => [v241, vi 0, vi 0, vi 0]) Tryz.sizeOf57 ?_
   refine dn1 ?_
   refine epg 2 0 ?_
   refine dnl ?_; intro ρ
   refine xq_ (blk b8 57 [v241, vi 0, vi 0, vi 0] :: blk b21 57 [v241, vi 0, vi 0, vi 0] :: blk b4 57 (c.cells u) :: blk b5 3 [vi id] :: L) ?_
   generalize (Gh.dec (γ := Value) (ρ 2)) = v246
   refine Gl ?_
   have er : Ae c id home m = (A6 c m.line ({ (Ac c m.line) with state := 0, value := 0, want := 0 }) zOp, [], [⟨id, c.wait, 0⟩]) := by unfold Ae; rw [if_neg (by omega)]; rw [if_neg (by omega), if_neg (by omega), if_neg (by omega)]; rw [if_pos (by omega)]
   rw [er]
   exact Cj (v241, .slice none 0 0, v246) Tryz.isAgg57 Tryz.sizeOf57
  ·intro ht233
   refine Gl ?_
   refine ZcP ?_;intro er
   exact Zfk
 ·intro ht227
  refine Gc6 ?_
  refine ZcP ?_;intro er
  exact Zfk
theorem Zm {u : Value} {c : Core} {id home : Int} {m : Msg} (hs : St (L) R w) (hu : sl u c.lines ∈ R) (hk : KB c) (hid : Ao id) (hhome : Ao home) (hm : m.wf) (hg : 0 ≤ m.line ∧ m.line < (c.lines.length : Int) ∧ m.kind ≠ 4 ∧ m.kind ≠ 5 ∧ m.kind ≠ 6 ∧ m.kind ≠ 7 ∧ m.kind ≠ 11) : Calls Tryz.prog 29 [.agg (c.cells u).toArray, vi id, vi home, .agg m.cells.toArray].toArray w (Bs (fun v : Value × Value × Value => .tuple #[.agg (Core.cells v.1 (Ae c id home m).1).toArray, v.2.1, v.2.2]) (fun v => L) (fun v => sl v.1 (Ae c id home m).1.lines :: sl v.2.1 (Ae c id home m).2.1 :: sl v.2.2 (Ae c id home m).2.2 :: R)) := by
 refine Zbk ?_;intro hlen hone0 hn4 hm0
 clear hs
 refine Zbs ?_;intro b4 b5 b6 b7 b8 hlw b11
 refine ZF ?_
 refine Zdw ?_
 refine ZcP ?_;intro er
 exact Zfk
theorem Zp {u : Value} {c : Core} {id home : Int} {m : Msg} (hs : St (L) R w) (hu : sl u c.lines ∈ R) (hk : KB c) (hid : Ao id) (hhome : Ao home) (hm : m.wf) (hg : 0 ≤ m.line ∧ m.line < (c.lines.length : Int) ∧ m.kind = 5) : Calls Tryz.prog 29 [.agg (c.cells u).toArray, vi id, vi home, .agg m.cells.toArray].toArray w (Bs (fun v : Value × Value × Value => .tuple #[.agg (Core.cells v.1 (Ae c id home m).1).toArray, v.2.1, v.2.2]) (fun v => L) (fun v => sl v.1 (Ae c id home m).1.lines :: sl v.2.1 (Ae c id home m).2.1 :: sl v.2.2 (Ae c id home m).2.2 :: R)) := by
 refine Zbk ?_;intro hlen hone0 hn4 hm0
 clear hs
 refine Zbs ?_;intro b4 b5 b6 b7 b8 hlw b11
 refine ZF ?_
 refine Za3 ?_
 refine kp [4, 5, 7, 8, 9, 10, 11, 12, 13, 43, 71, 72, 73, 74, 75, 76, 77, 78, 79, 80] ?_
 refine Cs 80 (.bool (decide (0 < m.turn ∧ m.turn = (Ac c m.line).gave))) ?_ ?_
 ·exact Zfg
 ·refine Av ?_
  refine Gl ?_
  first | (refine cdx (p := ?p1) (hd := ?d1) ?e1 ?_ ?_; case e1 => exact rfl) | (refine A9 (b := ?b1) ?e1 ?_ ?_; case e1 => exact rfl)
  ·exact Zgm
  ·intro ht80
   refine Gl ?_
   refine Zcj ?_
   refine Cs 102 (.bool (decide (m.turn ≤ (Ac c m.line).seen ∨ ((Ac c m.line).state ≠ 2 ∧ (Ac c m.line).state ≠ 3)))) ?_ ?_
   ·exact ZeU
   ·refine Av ?_
    refine Gl ?_
    first | (refine cdx (p := ?p2) (hd := ?d2) ?e2 ?_ ?_; case e2 => exact rfl) | (refine A9 (b := ?b2) ?e2 ?_ ?_; case e2 => exact rfl)
    ·intro ht102
     refine Gl ?_
     refine Zeo ?_;intro er
     exact Zfk
    ·intro ht102
     refine ZdE ?_
     refine Ib (v := vi (Ac c m.line).value) (fun ρ S hS hB hA => by have h11 : S 11 = false := hA 11 ⟨0, rfl⟩; simp only [h11, cond_false]; exact Cz (hc := A0 pkk (by repeat (first | exact rfl | refine C5 rfl ?_))) Tryz.isAgg3) (fun _ _ _ _ _ => rfl) ?_
     refine ZdC ?_;intro ρ v118
     rcases (show ((Ac c m.line).want = 3) ∨ ((Ac c m.line).want ≠ 3) from by omega) with hc | hc
     ·exact Zfu
     ·refine ZcY ?_
      refine Aw ?_
      refine ZP ?_
      refine ZF ?_
      refine ZH ?_
      refine ZJ ?_
      refine Aw ?_
      refine Glc ?_
      refine ZK ?_
      refine ZE ?_
      have hXw : ({ (Ac c m.line) with seen := m.turn, gave := m.turn, given := (Ac c m.line).value, state := 1 } : Line).wf := by first | exact hlw | (unfold Line.wf Ao at hlw ⊢; simp only; omega)
      refine An Tryz.call51 rfl (fun w hs => Bt (l := { (Ac c m.line) with seen := m.turn, gave := m.turn, given := (Ac c m.line).value, state := 1 }) hs mm hXw (by omega)) ?_; intro v149
      refine Zek ?_;intro hone149
      have ef : Cw (Ac c m.line) m.kind m.turn = { (Ac c m.line) with seen := m.turn, gave := m.turn, given := (Ac c m.line).value, state := 1 } := by unfold Cw; rw [if_neg (by omega), if_neg (by omega)]
      have er : Ae c id home m = (A6 c m.line ({ (Ac c m.line) with seen := m.turn, gave := m.turn, given := (Ac c m.line).value, state := 1 }) c.wait, [Bj 9 id home m.line m.turn (Ac c m.line).value], []) := by unfold Ae; rw [if_neg (by omega)]; rw [if_neg (by omega), if_pos (by omega)]; rw [if_pos (by unfold D2; omega), ef, if_neg (by omega), if_neg (by omega)]
      exact ZgI
theorem Zo {u : Value} {c : Core} {id home : Int} {m : Msg} (hs : St (L) R w) (hu : sl u c.lines ∈ R) (hk : KB c) (hid : Ao id) (hhome : Ao home) (hm : m.wf) (hg : 0 ≤ m.line ∧ m.line < (c.lines.length : Int) ∧ m.kind = 6) : Calls Tryz.prog 29 [.agg (c.cells u).toArray, vi id, vi home, .agg m.cells.toArray].toArray w (Bs (fun v : Value × Value × Value => .tuple #[.agg (Core.cells v.1 (Ae c id home m).1).toArray, v.2.1, v.2.2]) (fun v => L) (fun v => sl v.1 (Ae c id home m).1.lines :: sl v.2.1 (Ae c id home m).2.1 :: sl v.2.2 (Ae c id home m).2.2 :: R)) := by
 refine Zbk ?_;intro hlen hone0 hn4 hm0
 clear hs
 refine Zbs ?_;intro b4 b5 b6 b7 b8 hlw b11
 refine Zaz ?_
 refine Gc1 ?_
 refine kp [4, 5, 7, 8, 9, 10, 11, 12, 13, 43, 71, 72, 73, 74, 75, 76, 77, 78, 79, 80] ?_
 refine Cs 80 (.bool (decide (0 < m.turn ∧ m.turn = (Ac c m.line).gave))) ?_ ?_
 ·exact Zfg
 ·refine Av ?_
  refine Gl ?_
  first | (refine cdx (p := ?p1) (hd := ?d1) ?e1 ?_ ?_; case e1 => exact rfl) | (refine A9 (b := ?b1) ?e1 ?_ ?_; case e1 => exact rfl)
  ·exact Zgm
  ·intro ht80
   refine Gl ?_
   refine Zcj ?_
   refine Cs 102 (.bool (decide (m.turn ≤ (Ac c m.line).seen ∨ ((Ac c m.line).state ≠ 2 ∧ (Ac c m.line).state ≠ 3)))) ?_ ?_
   ·exact ZeU
   ·refine Av ?_
    refine Gl ?_
    first | (refine cdx (p := ?p2) (hd := ?d2) ?e2 ?_ ?_; case e2 => exact rfl) | (refine A9 (b := ?b2) ?e2 ?_ ?_; case e2 => exact rfl)
    ·intro ht102
     refine Gl ?_
     refine Zeo ?_;intro er
     exact Zfk
    ·intro ht102
     refine ZdE ?_
     refine Ib (v := vi (Ac c m.line).value) (fun ρ S hS hB hA => by have h11 : S 11 = false := hA 11 ⟨0, rfl⟩; simp only [h11, cond_false]; exact Cz (hc := A0 pkk (by repeat (first | exact rfl | refine C5 rfl ?_))) Tryz.isAgg3) (fun _ _ _ _ _ => rfl) ?_
     refine ZdC ?_;intro ρ v118
     rcases (show ((Ac c m.line).want = 3) ∨ ((Ac c m.line).want ≠ 3) from by omega) with hc | hc
     ·exact Zfu
     ·refine ZcY ?_
      refine Aw ?_
      refine ZP ?_
      refine Cf ?_
      refine Gd1 ?_
      refine ZH ?_
      refine ZH ?_
      refine ZJ ?_
      refine Aw ?_
      refine Glc ?_
      refine ZK ?_
      refine ZE ?_
      have hXw : ({ (Ac c m.line) with seen := m.turn, gave := m.turn, given := (Ac c m.line).value, state := 0, value := 0 } : Line).wf := by first | exact hlw | (unfold Line.wf Ao at hlw ⊢; simp only; omega)
      refine An Tryz.call51 rfl (fun w hs => Bt (l := { (Ac c m.line) with seen := m.turn, gave := m.turn, given := (Ac c m.line).value, state := 0, value := 0 }) hs mm hXw (by omega)) ?_; intro v149
      refine Zek ?_;intro hone149
      have ef : Cw (Ac c m.line) m.kind m.turn = { (Ac c m.line) with seen := m.turn, gave := m.turn, given := (Ac c m.line).value, state := 0, value := 0 } := by unfold Cw; rw [if_neg (by omega), if_pos (by omega)]
      have er : Ae c id home m = (A6 c m.line ({ (Ac c m.line) with seen := m.turn, gave := m.turn, given := (Ac c m.line).value, state := 0, value := 0 }) c.wait, [Bj 9 id home m.line m.turn (Ac c m.line).value], []) := by unfold Ae; rw [if_neg (by omega)]; rw [if_neg (by omega), if_pos (by omega)]; rw [if_pos (by unfold D2; omega), ef, if_neg (by omega), if_neg (by omega)]
      exact ZgI
theorem Zn {u : Value} {c : Core} {id home : Int} {m : Msg} (hs : St (L) R w) (hu : sl u c.lines ∈ R) (hk : KB c) (hid : Ao id) (hhome : Ao home) (hm : m.wf) (hg : 0 ≤ m.line ∧ m.line < (c.lines.length : Int) ∧ m.kind = 7) : Calls Tryz.prog 29 [.agg (c.cells u).toArray, vi id, vi home, .agg m.cells.toArray].toArray w (Bs (fun v : Value × Value × Value => .tuple #[.agg (Core.cells v.1 (Ae c id home m).1).toArray, v.2.1, v.2.2]) (fun v => L) (fun v => sl v.1 (Ae c id home m).1.lines :: sl v.2.1 (Ae c id home m).2.1 :: sl v.2.2 (Ae c id home m).2.2 :: R)) := by
 refine Zbk ?_;intro hlen hone0 hn4 hm0
 clear hs
 refine Zbs ?_;intro b4 b5 b6 b7 b8 hlw b11
 refine ZF ?_
 refine Zaz ?_
 refine Gd1 ?_
 refine Ga5 ?_
 refine cdy ?_ ?_
 ·intro ht157
  refine Gl ?_
  refine ZbJ ?_
  have er : Ae c id home m = (c, [], []) := by unfold Ae; rw [if_neg (by omega)]; rw [if_neg (by omega), if_neg (by omega), if_pos (by omega)]; rw [if_pos (by omega)]
  rw [er]
  exact Zfk
 ·intro ht157
  refine Zad ?_
  refine By (caps := [bp b5 0, bp b6 0, bp b7 0]) (vs := [vi 10, vi m.turn, vi 0]) rfl Tryz.call61 rfl (fun w hs => Qy hs (A0 pkk rfl) (A0 pkk rfl) (A0 pkk rfl) (by unfold Ao; omega) hm.2.2.2.2.2.1 (by unfold Ao; omega) hid hhome hm.2.2.2.1) ?_; intro v162
  refine Ga1 ?_
  refine ZcU ?_
  refine Cs 186 (.bool (decide (¬ Gg (Ac c m.line) m))) ?_ ?_
  ·rcases (show (m.serial < (Ac c m.line).serial) ∨ (m.serial = (Ac c m.line).serial ∧ m.alone = true ∧ (Ac c m.line).want ≠ 2) ∨ (m.serial = (Ac c m.line).serial ∧ m.alone = true ∧ (Ac c m.line).want = 2) ∨ (m.serial = (Ac c m.line).serial ∧ m.alone = false ∧ (Ac c m.line).want ≠ 1) ∨ (m.serial = (Ac c m.line).serial ∧ m.alone = false ∧ (Ac c m.line).want = 1) from by rcases Bool.eq_false_or_eq_true m.alone with h1 | h1 <;> simp only [h1, true_and, false_and, and_false, or_false, false_or, reduceCtorEq] <;> omega) with hm | hm | hm | hm | hm
   ·have hna : ¬ Gg (Ac c m.line) m := by unfold Gg; omega
    refine ZE ?_
    refine D5 ?_
    refine Ga19 ?_
    exact Zfj
   ·obtain ⟨hc1, hal, hc2⟩ := hm
    have hna : ¬ Gg (Ac c m.line) m := by unfold Gg; rw [hal]; simp; omega
    refine ZE ?_
    refine Bc ?_
    refine Zaf ?_
    refine ZbK ?_
    refine ZP ?_
    refine Hr ?_
    refine Ga12 ?_
    exact Zfj
   ·obtain ⟨hc1, hal, hc2⟩ := hm
    have hna : Gg (Ac c m.line) m := by unfold Gg; rw [hal]; simp; omega
    refine ZcU ?_
    refine ZE ?_
    refine Bc ?_
    refine Zaf ?_
    refine ZbK ?_
    refine ZP ?_
    refine H9 ?_
    refine ZM ?_
    refine ZbK ?_
    refine Ga7 ?_
    exact ZfC
   ·obtain ⟨hc1, hal, hc2⟩ := hm
    have hna : ¬ Gg (Ac c m.line) m := by unfold Gg; rw [hal]; simp; omega
    refine ZE ?_
    refine Bc ?_
    refine Zaf ?_
    refine Zbx ?_
    refine rn8 ?_
    refine gy ?_
    refine Zbx ?_
    refine ZM ?_
    refine Hr ?_
    refine Ga2 ?_
    exact Zfj
   ·obtain ⟨hc1, hal, hc2⟩ := hm
    have hna : Gg (Ac c m.line) m := by unfold Gg; rw [hal]; simp; omega
    refine ZcU ?_
    refine ZE ?_
    refine Bc ?_
    refine Zaf ?_
    refine Zbx ?_
    refine rn8 ?_
    refine gy ?_
    refine Zbx ?_
    refine ZM ?_
    refine H9 ?_
    refine Ga2 ?_
    exact ZfC
  ·refine Av ?_
   refine Gl ?_
   first | (refine cdx (p := ?p2) (hd := ?d2) ?e2 ?_ ?_; case e2 => exact rfl) | (refine A9 (b := ?b2) ?e2 ?_ ?_; case e2 => exact rfl)
   ·intro ht186
    refine Gl ?_
    refine ZK ?_
    refine ZD ?_
    refine s_B Tryz.sizeOf57 ?_
    refine Ga2 ?_
    have er : Ae c id home m = (c, [Bj 10 id home m.line m.turn 0], []) := by unfold Ae; rw [if_neg (by omega)]; rw [if_neg (by omega), if_neg (by omega), if_pos (by omega)]; rw [if_neg (by omega), if_neg ht186]
    rw [er]
    exact Cj (u, v162, .slice none 0 0) Tryz.isAgg57 Tryz.sizeOf57
   ·intro ht186
    refine ZJ ?_
    refine al_ (cs := zOp.cells) Tryz.zeroValue36 ?_; intro b17
    refine s_B Tryz.sizeOf36 ?_
    refine Zad ?_
    obtain ⟨hwk, hwl, hwv⟩ := hk.wait m.line (by omega) (by have h9 := Decidable.not_not.1 ht186; unfold Gg at h9; omega)
    refine An Tryz.call53 rfl (fun w hs => Mk (v := m.value) (o := c.wait) hs hm.2.2.2.2.2.2 hwk (by omega) hwv) ?_; intro _
    refine Ga5 ?_
    refine kp [4, 5, 7, 8, 9, 10, 11, 13, 16, 17, 18, 19, 43, 198, 199, 200, 201, 202, 203, 204] ?_
    refine cq_ (blk b11 92 [vi (Ac c m.line).state, vi (Ac c m.line).value, vi (Ac c m.line).want, vi (Ac c m.line).serial, vi (Ac c m.line).seen, vi (Ac c m.line).gave, vi (Ac c m.line).given] :: blk b17 36 c.wait.cells :: blk b8 57 [.slice none 0 0, vi 0, vi 0, vi 0] :: blk b4 57 (c.cells u) :: blk b5 3 [vi id] :: blk b6 3 [vi home] :: blk b7 76 m.cells :: L) ?_
    refine jd_ (fun ρ S => blk b11 92 (bif S 10 then [vi 1, vi (Ax m.value c.wait).1, vi 0, vi (Ac c m.line).serial, vi m.turn, vi (Ac c m.line).gave, vi (Ac c m.line).given] else (bif S 8 then [vi (Ac c m.line).state, vi (Ax m.value c.wait).1, vi 0, vi (Ac c m.line).serial, vi m.turn, vi (Ac c m.line).gave, vi (Ac c m.line).given] else (bif S 6 then [vi (Ac c m.line).state, vi (Ax m.value c.wait).1, vi 0, vi (Ac c m.line).serial, vi (Ac c m.line).seen, vi (Ac c m.line).gave, vi (Ac c m.line).given] else (bif S 4 then [vi (Ac c m.line).state, vi (Ax m.value c.wait).1, vi (Ac c m.line).want, vi (Ac c m.line).serial, vi (Ac c m.line).seen, vi (Ac c m.line).gave, vi (Ac c m.line).given] else [vi (Ac c m.line).state, vi (Ac c m.line).value, vi (Ac c m.line).want, vi (Ac c m.line).serial, vi (Ac c m.line).seen, vi (Ac c m.line).gave, vi (Ac c m.line).given])))) :: blk b17 36 c.wait.cells :: blk b8 57 [.slice none 0 0, vi 0, vi 0, vi 0] :: blk b4 57 (c.cells u) :: blk b5 3 [vi id] :: blk b6 3 [vi home] :: blk b7 76 m.cells :: L) ?_
    refine dn4 ?_
    refine es_ 92 1 [] [6, 8, 10] (fun ρ => b11) (fun ρ => [vi (Ac c m.line).state, vi (Ac c m.line).value, vi (Ac c m.line).want, vi (Ac c m.line).serial, vi (Ac c m.line).seen, vi (Ac c m.line).gave, vi (Ac c m.line).given]) (fun ρ => [vi (Ax m.value c.wait).1]) Tryz.sizeOf3 ?_
    refine dn1 ?_
    refine es_ 92 2 [4] [8, 10] (fun ρ => b11) (fun ρ => [vi (Ac c m.line).state, vi (Ax m.value c.wait).1, vi (Ac c m.line).want, vi (Ac c m.line).serial, vi (Ac c m.line).seen, vi (Ac c m.line).gave, vi (Ac c m.line).given]) (fun ρ => [vi 0]) Tryz.sizeOf3 ?_
    refine dn1 ?_
    refine es_ 92 4 [4, 6] [10] (fun ρ => b11) (fun ρ => [vi (Ac c m.line).state, vi (Ax m.value c.wait).1, vi 0, vi (Ac c m.line).serial, vi (Ac c m.line).seen, vi (Ac c m.line).gave, vi (Ac c m.line).given]) (fun ρ => [vi m.turn]) Tryz.sizeOf3 ?_
    refine dn1 ?_
    refine es_ 92 0 [4, 6, 8] [] (fun ρ => b11) (fun ρ => [vi (Ac c m.line).state, vi (Ax m.value c.wait).1, vi 0, vi (Ac c m.line).serial, vi m.turn, vi (Ac c m.line).gave, vi (Ac c m.line).given]) (fun ρ => [vi 1]) Tryz.sizeOf3 ?_
    refine dnl ?_; intro ρ
    refine xq_ (blk b11 92 [vi 1, vi (Ax m.value c.wait).1, vi 0, vi (Ac c m.line).serial, vi m.turn, vi (Ac c m.line).gave, vi (Ac c m.line).given] :: blk b17 36 c.wait.cells :: blk b8 57 [.slice none 0 0, vi 0, vi 0, vi 0] :: blk b4 57 (c.cells u) :: blk b5 3 [vi id] :: blk b6 3 [vi home] :: blk b7 76 m.cells :: L) ?_
    refine ZC ?_
    refine A9 (b := ?b3) ?e3 ?_ ?_; case e3 => exact rfl
    ·intro ht206
     refine ZB ?_
     refine sc ?_
     refine Gl ?_
     have hvo : Ao (Ax m.value c.wait).1 := O5 hm.2.2.2.2.2.2 hwv.1 hwv.2
     refine ZE ?_
     have hXw : ({ (Ac c m.line) with value := (Ax m.value c.wait).1, want := 0, seen := m.turn, state := 2 } : Line).wf := by unfold Line.wf at hlw ⊢; exact ⟨by unfold Ao; simp only; omega, hvo, by unfold Ao; simp only; omega, hlw.2.2.2.1, hm.2.2.2.2.2.1, hlw.2.2.2.2.2.1, hlw.2.2.2.2.2.2⟩
     refine An Tryz.call51 rfl (fun w hs => Bt (l := { (Ac c m.line) with value := (Ax m.value c.wait).1, want := 0, seen := m.turn, state := 2 }) hs mm hXw (by omega)) ?_; intro v212
     refine ZdD ?_;intro hone212 b20 hto ρ v221
     have eg : G0 (Ac c m.line) m c.wait = { (Ac c m.line) with value := (Ax m.value c.wait).1, want := 0, seen := m.turn, state := 2 } := by unfold G0; rw [ht206, if_pos rfl]
     have er : Ae c id home m = (A6 c m.line ({ (Ac c m.line) with value := (Ax m.value c.wait).1, want := 0, seen := m.turn, state := 2 }) zOp, [Bj 10 id home m.line m.turn 0], [⟨id, c.wait, (Ax m.value c.wait).2⟩]) := by unfold Ae; rw [if_neg (by omega)]; rw [if_neg (by omega), if_neg (by omega), if_pos (by omega)]; rw [if_neg (by omega), if_pos (Decidable.not_not.1 ht186), eg]
     rw [er]
     exact Cj (v212, v162, v221) Tryz.isAgg57 Tryz.sizeOf57
    ·intro ht206
     refine Gl ?_
     have hvo : Ao (Ax m.value c.wait).1 := O5 hm.2.2.2.2.2.2 hwv.1 hwv.2
     refine ZE ?_
     have hXw : ({ (Ac c m.line) with value := (Ax m.value c.wait).1, want := 0, seen := m.turn, state := 1 } : Line).wf := by unfold Line.wf at hlw ⊢; exact ⟨by unfold Ao; simp only; omega, hvo, by unfold Ao; simp only; omega, hlw.2.2.2.1, hm.2.2.2.2.2.1, hlw.2.2.2.2.2.1, hlw.2.2.2.2.2.2⟩
     refine An Tryz.call51 rfl (fun w hs => Bt (l := { (Ac c m.line) with value := (Ax m.value c.wait).1, want := 0, seen := m.turn, state := 1 }) hs mm hXw (by omega)) ?_; intro v212
     refine ZdD ?_;intro hone212 b20 hto ρ v221
     have eg : G0 (Ac c m.line) m c.wait = { (Ac c m.line) with value := (Ax m.value c.wait).1, want := 0, seen := m.turn, state := 1 } := by unfold G0; rw [ht206, if_neg (by decide)]
     have er : Ae c id home m = (A6 c m.line ({ (Ac c m.line) with value := (Ax m.value c.wait).1, want := 0, seen := m.turn, state := 1 }) zOp, [Bj 10 id home m.line m.turn 0], [⟨id, c.wait, (Ax m.value c.wait).2⟩]) := by unfold Ae; rw [if_neg (by omega)]; rw [if_neg (by omega), if_neg (by omega), if_pos (by omega)]; rw [if_neg (by omega), if_pos (Decidable.not_not.1 ht186), eg]
     rw [er]
     exact Cj (v212, v162, v221) Tryz.isAgg57 Tryz.sizeOf57
theorem Aey {u : Value} {c : Core} {id home : Int} {m : Msg} (hs : St (L) R w) (hu : sl u c.lines ∈ R) (hk : KB c) (hid : Ao id) (hhome : Ao home) (hm : m.wf) : Calls Tryz.prog 29 [.agg (c.cells u).toArray, vi id, vi home, .agg m.cells.toArray].toArray w (Bs (fun v : Value × Value × Value => .tuple #[.agg (Core.cells v.1 (Ae c id home m).1).toArray, v.2.1, v.2.2]) (fun v => L) (fun v => sl v.1 (Ae c id home m).1.lines :: sl v.2.1 (Ae c id home m).2.1 :: sl v.2.2 (Ae c id home m).2.2 :: R)) := by
 by_cases h : 0 ≤ m.line ∧ m.line < (c.lines.length : Int)
 ·by_cases h4 : m.kind = 4
  ·exact Zq hs hu hk hid hhome hm (by omega)
  by_cases h5 : m.kind = 5
  ·exact Zp hs hu hk hid hhome hm (by omega)
  by_cases h6 : m.kind = 6
  ·exact Zo hs hu hk hid hhome hm (by omega)
  by_cases h7 : m.kind = 7
  ·exact Zn hs hu hk hid hhome hm (by omega)
  by_cases h11 : m.kind = 11
  ·exact Wk hs hu hk hid hhome hm (by omega)
  exact Zm hs hu hk hid hhome hm (by omega)
 ·exact Zr hs hu hk hid hhome hm h
theorem I4 {v0 : Value} {l : Frames} {n : Int} (hs : St (L) R w) (h0 : sl v0 l ∈ R) (hn : Ao n) : Calls Tryz.prog 43 [v0, vi n].toArray w (Bs (fun v : Value × Value => .tuple #[v.1, v.2, vi (Bn l n).2.2]) (fun v => row 71 v.1 (Bn l n).1 :: L) (fun v => sl v.2 (Bn l n).2.1 :: R)) := by
 have hlen := Be h0 hs
 unfold Ao at hn
 refine Ai Tryz.func43 rfl Tryz.ntmps43 rfl hs ?_
 clear hs
 refine ZS ?_
 rcases (show (n < 0) ∨ (¬ n < 0 ∧ (l.length : Int) ≤ n) ∨ (0 ≤ n ∧ n < (l.length : Int)) from by omega) with hc | hc | hc
 ·refine ZB ?_
  refine D5 ?_
  refine Gd6 ?_
  exact ZfW
 ·refine Zcw ?_
  exact ZfW
 ·refine Zay ?_
  refine ZM ?_
  refine Di ?_
  refine Gd1 ?_
  refine rn1 ?_
  refine An Tryz.call66 rfl (fun w hs => Tn hs mm) ?_; intro v18
  refine Gb1 ?_
  refine rn2 ?_
  refine ob (Im Oo) ?_
  refine l_Sr Tryz.isAgg71 rfl .hd (by omega) ?_; intro v22
  refine Gb1 ?_
  refine rn3 ?_
  refine ob Fx ?_
  rw [show n + 1 = ((n.toNat + 1 : Nat) : Int) by omega]
  refine An Tryz.call72 rfl (fun w hs => by have h := W2 (i := n.toNat) (Aes hs) (by omega); rw [Int.toNat_of_nonneg (by omega)] at h; exact h) ?_; intro v27
  refine Ga4 ?_
  have er : Bn l n = (l.eraseIdx n.toNat, Ay l n, 0) := by unfold Bn; rw [if_neg (by omega)]
  rw [er]
  exact Ga (v27, v22)
def Wx (l : Frames) (n : Nat) (k : Nat) : Frames := (l.take k).eraseIdx n
theorem Aai {l : Frames} {n k : Nat} (h : k = l.length) : Wx l n k = l.eraseIdx n := by unfold Wx; rw [h, List.take_length]
theorem Afi {l : Frames} {n k : Nat} (h : k < l.length) (hn : k ≠ n) : Wx l n (k + 1) = Wx l n k ++ [l.getD k []] := by
 unfold Wx
 rw [Es [] h]
 by_cases h' : n < k
 ·rw [List.eraseIdx_append_of_lt_length (by rw [List.length_take]; omega)]
 ·rw [List.eraseIdx_of_length_le (by simp; omega), List.eraseIdx_of_length_le (by simp; omega)]
theorem Aah (l : Frames) (n k : Nat) : (Wx l n k).length ≤ k := by
 unfold Wx; rw [List.length_eraseIdx]
 split <;> rw [List.length_take] <;> omega
theorem Afj {l : Frames} {n k : Nat} (h : k < l.length) (hn : k = n) : Wx l n (k + 1) = Wx l n k := by
 unfold Wx
 subst hn
 rw [Es [] h, List.eraseIdx_append_of_length_le (by rw [List.length_take]; omega), List.length_take, Nat.min_eq_left (by omega), Nat.sub_self, List.eraseIdx_of_length_le (l := l.take k) (by rw [List.length_take]; omega)]
 simp
theorem Ih {v0 : Value} {l : Frames} {n : Int} (hs : St (L) R w) (h0 : sl v0 l ∈ R) (hn : Ao n) : Calls Tryz.prog 24 [v0, vi n].toArray w (Bs (fun v : Value × Value => .tuple #[v.1, v.2, vi (Bn l n).2.2]) (fun v => L) (fun v => sl v.1 (Bn l n).1 :: sl v.2 (Bn l n).2.1 :: R)) := by
 have hlen := Be h0 hs
 unfold Ao at hn
 refine Ai Tryz.func24 rfl Tryz.ntmps24 rfl hs ?_
 clear hs
 refine ZS ?_
 rcases (show (n < 0) ∨ (¬ n < 0 ∧ (l.length : Int) ≤ n) ∨ (0 ≤ n ∧ n < (l.length : Int)) from by omega) with hc | hc | hc
 ·refine ZB ?_
  refine D5 ?_
  refine Gd6 ?_
  exact ZfQ
 ·refine Zcw ?_
  exact ZfQ
 ·refine Zay ?_
  refine ZM ?_
  refine Di ?_
  refine Gd1 ?_
  refine ZaG ?_
  refine JC.rowNil 71 (List UInt8) ?_
  refine A7 (γ := Nat × Value) (fun g => g.1 ≤ l.length) (fun g => row 71 g.2 (Wx l n.toNat g.1) :: L) (fun _ => R) (fun g => [(0, v0), (1, vi n), (7, g.2), (18, v0), (19, vi (l.length : Int)), (20, vi (g.1 : Int))]) (fun g => l.length - g.1) (0, .slice none 0 0) (Nat.zero_le _) alT (fun w hs => hs) ?_
  rintro ⟨k, vs⟩ hk
  try simp only at hk ⊢
  refine ZA ?_
  refine cdy ?_ ?_
  ·intro ht21
   refine Gl ?_
   refine JC.open1 (xs := l) k mm (by omega) (fun _ u => ?_)
   refine Aa ?_
   refine Gb5 ?_
   refine Ga3 ?_
   refine cdy ?_ ?_
   ·intro ht27
    refine ZD ?_
    refine li [_] Kf rfl Z7 ?_; intro v30
    refine ap Kf (hb := fun w hs => by have : maxN = 16777216 := rfl; have h9 := Aah l n.toNat k; simp only [List.length_cons, List.length_nil]; omega) (k := ?_); intro v31
    refine ZG ?_
    refine Au (k + 1, v31) (by show k + 1 ≤ l.length; omega) (by show l.length - (k + 1) < l.length - k; omega) alT (fun w hs => ?_)
    try simp only
    rw [Afi (by omega) (by omega)]; exact Ag hs
   ·intro ht27
    refine ZC ?_
    refine Au (k + 1, vs) (by show k + 1 ≤ l.length; omega) (by show l.length - (k + 1) < l.length - k; omega) alT (fun w hs => ?_)
    try simp only
    rw [Afj (by omega) (by omega)]; exact Ag hs
  ·intro ht21
   refine Gl ?_
   refine JC.open1 (xs := l) n.toNat mm (by omega) (fun _ u => ?_)
   refine Zag ?_
   refine dnl ?_; intro ρ
   refine Gl ?_
   have er : Bn l n = (l.eraseIdx n.toNat, Ay l n, 0) := by unfold Bn; rw [if_neg (by omega)]
   rw [er]
   exact Ga (vs, u) (hs := fun w hs => by rw [Aai (show k = l.length by omega)] at hs; exact Ag (St.shut hs))
theorem Qn {v0 : Value} {l : Frames} {n : Int} (hs : St (L) R w) (h0 : sl v0 l ∈ R) (hn : Ao n) : Calls Tryz.prog 45 [v0, vi n].toArray w (Bs (fun v : Value => .tuple #[v, vi (E7 l n).2]) (fun v => row 71 v (E7 l n).1 :: L) (fun v => R)) := by
 have hlen := Be h0 hs
 unfold Ao at hn
 refine Ai Tryz.func45 rfl Tryz.ntmps45 rfl hs ?_
 clear hs
 refine ZC ?_
 rcases (show (n < 0) ∨ (¬ n < 0 ∧ (l.length : Int) ≤ n) ∨ (0 ≤ n ∧ n < (l.length : Int)) from by omega) with hc | hc | hc
 ·refine ZB ?_
  refine D5 ?_
  refine Gd6 ?_
  exact Zgv
 ·refine Zcw ?_
  exact Zgv
 ·refine Zay ?_
  refine ZM ?_
  refine Di ?_
  refine Gc1 ?_
  refine JC.open1 (xs := l) n.toNat mm (by omega) (fun _ u => ?_)
  refine Za2 ?_
  refine An Tryz.call70 rfl (fun w hs => Tm hs mm mm) ?_; intro v19
  refine Ga2 ?_
  have er : E7 l n = (Dn l (Ay l n), 0) := by unfold E7; rw [if_neg (by omega)]
  rw [er]
  exact Ce v19
theorem W1 {v0 : Value} {l : Frames} {n bit : Int} (hs : St (L) R w) (h0 : sl v0 l ∈ R) (hn : Ao n) (hbit : Ao bit) : Calls Tryz.prog 77 [v0, vi n, vi bit].toArray w (Bs (fun v : Value => .tuple #[v, vi (Cg l n bit).2]) (fun v => row 71 v (Cg l n bit).1 :: L) (fun v => R)) := by
 have hlen := Be h0 hs
 unfold Ao at hn
 refine Ai Tryz.func77 rfl Tryz.ntmps77 rfl hs ?_
 clear hs
 refine ZC ?_
 rcases (show (n < 0) ∨ (¬ n < 0 ∧ (l.length : Int) ≤ n) ∨ (0 ≤ n ∧ n < (l.length : Int)) from by omega) with hc | hc | hc
 ·refine ZB ?_
  refine D5 ?_
  refine Gd6 ?_
  exact Zgq
 ·refine Zcw ?_
  exact Zgq
 ·refine Zay ?_
  refine ZM ?_
  refine Di ?_
  refine Gc1 ?_
  refine JC.open1 (xs := l) n.toNat mm (by omega) (fun _ u => ?_)
  refine JC.know (p := (l.getD n.toNat []).length ≤ 16777216) (fun w hs => Be (α := UInt8) (v := u) (.tail _ (.head _)) hs) (fun hlb => ?_)
  rcases (show (bit < 0) ∨ (¬ bit < 0 ∧ 8 * ((l.getD n.toNat []).length : Int) ≤ bit) ∨ (0 ≤ bit ∧ bit < 8 * ((l.getD n.toNat []).length : Int)) from by omega) with hc | hc | hc
  ·refine ZB ?_
   refine D5 ?_
   refine Gd10 ?_
   exact Zgi
  ·refine Zep ?_
   refine G8 ?_
   refine Gd1 ?_
   exact Zgi
  ·refine Zep ?_
   refine Di ?_
   refine Gd1 ?_
   refine rn1 ?_
   refine An Tryz.call66 rfl (fun w hs => Tn hs mm) ?_; intro v30
   refine Gb1 ?_
   refine rn4 ?_
   refine ob (Im Oo) ?_
   refine l_Sr Tryz.isAgg71 rfl .hd (by omega) ?_; intro v36
   refine rn1 ?_
   refine An Tryz.call99 rfl (fun w hs => M5 (bit := bit) hs mm hbit) ?_; intro v38
   refine ob (Im Oo) ?_
   refine s_Sr Tryz.sizeOf71 rfl rfl mm .hd (by omega) ?_
   refine Gl ?_
   refine kp [6, 7, 8, 40] ?_
   refine ZaD ?_
   have er : Cg l n bit = (l.set n.toNat (Br (Ay l n) bit), 0) := by unfold Cg Ay; rw [if_neg (by omega), if_neg (by omega)]
   rw [er]
   exact Ce v30
theorem Lu {P : Program} {n : Nat} {Q : Exit → Act → World → Prop} {L : List Chunk} {R : List Fact} {al : List (Nat × Value)} {c : Code} {v : Value} {x : Chip} (i : Int) (hm : sl v x.cores ∈ R) (h0 : 0 ≤ i) (hi : i < x.cores.length) (k : (As x i).wait.wf → ∀ u, JC P n c Q L (cF v 4 i.toNat (Core.cells u (As x i)) :: sl u (As x i).lines :: R) al) : JC P n c Q L R al := JC.open1 i.toNat hm (by omega) k
theorem Oe {c : Core} {id home : Int} {o : Op} (ho : o.wf) : (Aj c id home o).1.wait.wf := by
 have hz : zOp.wf := by unfold zOp Op.wf Ao; simp only; omega
 unfold Aj
 split
 ·exact hz
 split
 ·exact hz
 split
 ·exact hz
 split
 ·exact hz
 ·exact ho
theorem Qw {c : Core} {id home : Int} {m : Msg} (ho : c.wait.wf) : (Ae c id home m).1.wait.wf := by
 have hz : zOp.wf := by unfold zOp Op.wf Ao; simp only; omega
 unfold Ae
 split
 ·exact ho
 split
 ·exact ho
 split
 ·split
  ·show (if _ then zOp else c.wait).wf
   split
   ·exact hz
   ·exact ho
  split
  ·exact ho
  ·exact ho
 split
 ·split
  ·exact ho
  split
  ·exact hz
  ·exact ho
 split
 ·exact hz
 ·exact ho
theorem Abz {x : Chip} {s : Step} (hk : s.kind = 2 ∨ s.kind = 3 ∨ s.kind = 4 ∨ s.kind = 5) (h : Cn x s.n) : Al x s = (zChip, [], 5) := by
 unfold Al
 rw [if_neg (by omega)]
 by_cases h2 : s.kind = 2
 ·rw [if_pos h2, if_pos h]
 rw [if_neg h2]
 by_cases h3 : s.kind = 3
 ·rw [if_pos h3, if_pos h]
 rw [if_neg h3]
 by_cases h4 : s.kind = 4
 ·rw [if_pos h4, if_pos h]
 ·rw [if_neg h4, if_pos (by omega), if_pos h]
section
variable {n nl : Nat} {x : Chip} {M : List Int}
theorem Inv.lbs (h : Inv n nl x M) {p : Int} (hp : 0 ≤ p ∧ p < x.cores.length) : ∀ i, i < (As x p).lines.length → LB ((As x p).lines.getD i zLine) := fun i hi => by
 have hnc := h.nc
 have h1 : (As x p).lines.length = nl := h.ncl p.toNat (by omega)
 exact h.lb (i := i) (p := p.toNat) (by omega) (by omega)
theorem Inv.ebs (h : Inv n nl x M) : ∀ i, i < x.home.length → EB (x.home.getD i Az) ∧ (x.home.getD i Az).turn ≤ 65535 ∧ (0 ≤ (x.home.getD i Az).serial ∧ (x.home.getD i Az).serial ≤ 65535) ∧ (0 ≤ (x.home.getD i Az).value ∧ (x.home.getD i Az).value ≤ 255) ∧ (x.home.getD i Az).last.length ≤ 4 := fun i hi => by
 have hnh := h.nh
 have hn := h.n1
 have := h.nla i (by omega)
 exact ⟨h.eb (i := i) (by omega), (h.ebd (i := i) (by omega)).1, (h.ebd (i := i) (by omega)).2.1, (h.ebd (i := i) (by omega)).2.2, by show (ent x i).last.length ≤ 4; omega⟩
theorem Inv.says_in (h : Inv n nl x M) (i : Nat) (hi : i < x.home.length) : ∀ a ∈ Fm (x.home.getD i Az) i n, MsgIn a := fun a ha => by
 have hnh := h.nh; have hn := h.n1; have hl := h.l1
 exact Aao (R4 h (i := i) (by omega) a ha).1 (by simp only [Hm]; omega) (by simp only [Hm]; omega)
end
theorem Zx {n nl : Nat} {M : List Int} {cv hv fv : Value} {x : Chip} {s : Step} (hs : St (L) R w) (hc : sl cv x.cores ∈ R) (hh : sl hv x.home ∈ R) (hf : sl fv x.frames ∈ R) (h : Inv n nl x M) (hsw : s.wf) (hk : s.kind = 1) : Calls Tryz.prog 10 [.agg #[cv, hv, fv], .agg s.cells.toArray].toArray w (Bs (fun v : Value × Value × Value × Value => .tuple #[.agg #[v.1, v.2.1, v.2.2.1], v.2.2.2, vi (Al x s).2.2]) (fun v => L) (fun v => sl v.1 (Al x s).1.cores :: sl v.2.1 (Al x s).1.home :: sl v.2.2.1 (Al x s).1.frames :: sl v.2.2.2 (Al x s).2.1 :: R)) := by
 refine ZaZ ?_;intro hn hnl hnc hnh hfr honec honeh honef hsw0 hop hsn hsN hsb hn64 hcw
 clear hs
 refine Zbm ?_;intro b2 b3 b4
 refine Za3 ?_
 rcases (show (s.node < 0) ∨ (0 ≤ s.node ∧ (x.cores.length : Int) ≤ s.node) ∨ (0 ≤ s.node ∧ s.node < (x.cores.length : Int)) from by omega) with hc | hc | hc
 ·refine ZY ?_
  refine Gc6 ?_
  exact Zf3
 ·refine Zae ?_
  refine ZM ?_
  refine G8 ?_
  refine Gc1 ?_
  exact Zf3
 ·refine Zae ?_
  refine ZM ?_
  refine Di ?_
  refine Gc1 ?_
  refine ZcX ?_;intro hwt u hkb hlb hk4
  refine Ze7 ?_
  refine jd_ (fun ρ S => blk b2 30 [cv, hv, fv] :: blk b3 38 s.cells :: blk b4 30 [.slice none 0 0, .slice none 0 0, .slice none 0 0] :: ((bif S 17 then [blk (Gh.dec (γ := Nat) (ρ 17)) 57 (bif S 18 then [(Gh.dec (γ := Value × Value × Value) (ρ 11)).1, vi (Aj (As x s.node) s.node (x.cores.length : Int) s.op).1.wait.kind, vi (Aj (As x s.node) s.node (x.cores.length : Int) s.op).1.wait.line, vi (Aj (As x s.node) s.node (x.cores.length : Int) s.op).1.wait.value] else [.slice none 0 0, vi 0, vi 0, vi 0])] else []) ++ (L))) ?_
  refine Aed ?_
  refine Bu (γ := Value × Value × Value) (val := fun v => .tuple #[.agg (Core.cells v.1 (Aj (As x s.node) s.node (x.cores.length : Int) s.op).1).toArray, v.2.1, v.2.2, vi (Aj (As x s.node) s.node (x.cores.length : Int) s.op).2.2.2]) (F := fun v => [sl v.1 (Aj (As x s.node) s.node (x.cores.length : Int) s.op).1.lines, sl v.2.1 (Aj (As x s.node) s.node (x.cores.length : Int) s.op).2.1, sl v.2.2 (Aj (As x s.node) s.node (x.cores.length : Int) s.op).2.2.1]) Tryz.call19 (fun _ => rfl) (fun ρ L R w hd hs => Z1 (c := (As x s.node)) (id := s.node) (home := (x.cores.length : Int)) (q := s.op) (u := u) hs (hd.base mm) hkb hsn hn64 hop) (fun ρ g S hS hA => by have u17 : upS S 11 17 = S 17 := rfl; have u18 : upS S 11 18 = S 18 := rfl; have r17 : Rho.set ρ 11 g 17 = ρ 17 := rfl; have h18 : S 18 = false := hA 18 ⟨0, rfl⟩; simp only [u17, u18, r17, h18, cond_false]) ?_
  refine e_p (v := fun ρ => .tuple #[.agg (Core.cells (Gh.dec (γ := Value × Value × Value) (ρ 11)).1 (Aj (As x s.node) s.node (x.cores.length : Int) s.op).1).toArray, (Gh.dec (γ := Value × Value × Value) (ρ 11)).2.1, (Gh.dec (γ := Value × Value × Value) (ρ 11)).2.2, vi (Aj (As x s.node) s.node (x.cores.length : Int) s.op).2.2.2]) (fun _ _ => Ls) (Ind.gh (h := fun g => (.tuple #[.agg (Core.cells (Gh.dec (γ := Value × Value × Value) g).1 (Aj (As x s.node) s.node (x.cores.length : Int) s.op).1).toArray, (Gh.dec (γ := Value × Value × Value) g).2.1, (Gh.dec (γ := Value × Value × Value) g).2.2, vi (Aj (As x s.node) s.node (x.cores.length : Int) s.op).2.2.2] : Value)) 11 0 rfl) (fun _ _ _ _ _ => rfl) ?_
  refine e_p (v := fun ρ => .agg (Core.cells (Gh.dec (γ := Value × Value × Value) (ρ 11)).1 (Aj (As x s.node) s.node (x.cores.length : Int) s.op).1).toArray) (fun _ _ => q_x) (Ind.gh (h := fun g => (.agg (Core.cells (Gh.dec (γ := Value × Value × Value) g).1 (Aj (As x s.node) s.node (x.cores.length : Int) s.op).1).toArray : Value)) 11 1 rfl) (fun _ _ _ _ _ => rfl) ?_
  refine e_p (v := fun ρ => (Gh.dec (γ := Value × Value × Value) (ρ 11)).2.1) (fun _ _ => q_x) (Ind.gh (h := fun g => ((Gh.dec (γ := Value × Value × Value) g).2.1 : Value)) 11 1 rfl) (fun _ _ _ _ _ => rfl) ?_
  refine e_p (v := fun ρ => (Gh.dec (γ := Value × Value × Value) (ρ 11)).2.2) (fun _ _ => q_x) (Ind.gh (h := fun g => ((Gh.dec (γ := Value × Value × Value) g).2.2 : Value)) 11 1 rfl) (fun _ _ _ _ _ => rfl) ?_
  refine ZeA ?_
  refine Hy (cs := [.slice none 0 0, vi 0, vi 0, vi 0]) Tryz.zeroValue57 rfl (fun ρ b S hS hA => ?_) ?_
  ·have ui : upS S 17 17 = true := rfl; have u18 : upS S 17 18 = S 18 := rfl; have r11 : Rho.set ρ 17 (Gh.enc b) 11 = ρ 11 := rfl; have h18 : S 18 = false := hA 18 ⟨0, rfl⟩; have rs : (Gh.dec (γ := Nat) (Rho.set ρ 17 (Gh.enc b) 17)) = b := rfl
   simp only [ui, hS, u18, r11, h18, rs, cond_true, cond_false, List.nil_append]
   exact ZeZ
  refine es_ 57 0 [17] [] (fun ρ => (Gh.dec (γ := Nat) (ρ 17))) (fun ρ => [.slice none 0 0, vi 0, vi 0, vi 0]) (fun ρ => [(Gh.dec (γ := Value × Value × Value) (ρ 11)).1, vi (Aj (As x s.node) s.node (x.cores.length : Int) s.op).1.wait.kind, vi (Aj (As x s.node) s.node (x.cores.length : Int) s.op).1.wait.line, vi (Aj (As x s.node) s.node (x.cores.length : Int) s.op).1.wait.value]) Tryz.sizeOf57 (h1 := (fun ρ R w L' hd hs => Bl (isSlice.one (hs.fact (hd.dep (it := ⟨11, _, _, _, _⟩) (by repeat (first | exact List.Mem.head _ | refine List.Mem.tail _ ?_)) ⟨9, rfl⟩ (List.Mem.head _)))) (by repeat (first | exact Dy | refine Bl rfl ?_)))) ?_
  refine e_p (v := fun ρ => (Gh.dec (γ := Value × Value × Value) (ρ 11)).2.1) (fun _ _ => Df) (Ind.gh (h := fun g => ((Gh.dec (γ := Value × Value × Value) g).2.1 : Value)) 11 0 rfl) (fun _ _ _ _ _ => rfl) ?_
  refine e_p (v := fun ρ => (Gh.dec (γ := Value × Value × Value) (ρ 11)).2.2) (fun _ _ => Df) (Ind.gh (h := fun g => ((Gh.dec (γ := Value × Value × Value) g).2.2 : Value)) 11 0 rfl) (fun _ _ _ _ _ => rfl) ?_
  refine Jy (v := vi (Aj (As x s.node) s.node (x.cores.length : Int) s.op).2.2.2) (fun _ _ => Df) (fun _ _ _ _ _ => rfl) ?_
  refine dnl ?_; intro ρ
  refine xq_ (blk b2 30 [cv, hv, fv] :: blk b3 38 s.cells :: blk b4 30 [.slice none 0 0, .slice none 0 0, .slice none 0 0] :: (blk (Gh.dec (γ := Nat) (ρ 17)) 57 [(Gh.dec (γ := Value × Value × Value) (ρ 11)).1, vi (Aj (As x s.node) s.node (x.cores.length : Int) s.op).1.wait.kind, vi (Aj (As x s.node) s.node (x.cores.length : Int) s.op).1.wait.line, vi (Aj (As x s.node) s.node (x.cores.length : Int) s.op).1.wait.value] :: L)) ?_
  generalize (Gh.dec (γ := Value × Value × Value) (ρ 11)) = v65
  generalize (Gh.dec (γ := Nat) (ρ 17)) = b9
  refine Gl ?_
  refine kp [2, 3, 4, 5, 6, 7, 8, 9, 10, 11, 12, 31, 70, 71] ?_
  refine ZO ?_
  refine cdy ?_ ?_
  ·intro ht71
   refine Gl ?_
   refine Zai ?_
   refine ZD ?_
   refine By (caps := []) (vs := [vi (Aj (As x s.node) s.node (x.cores.length : Int) s.op).2.2.2]) rfl Tryz.call18 rfl (fun w hs => Kq hs) ?_; intro _
   refine rn3 ?_
   refine ZaN ?_
   have er : Al x s = (zChip, [], (Aj (As x s.node) s.node (x.cores.length : Int) s.op).2.2.2) := by unfold Al Bk; rw [if_pos (by omega), if_neg (by omega), if_pos ht71]
   rw [er]
   exact Cj (.slice none 0 0, .slice none 0 0, .slice none 0 0, .slice none 0 0) Tryz.isAgg30 Tryz.sizeOf30
  ·intro ht71
   refine Zak ?_
   refine An Tryz.call20 rfl (fun w hs => Mi (x := x) (i := s.node) (k := (Aj (As x s.node) s.node (x.cores.length : Int) s.op).1) (u := v65.1) hs mm honeh honef mm (Oe hop) (by omega)) ?_; intro v82
   refine J.know (p := v82.oneCell' = true) (fun w hs => isSlice.one (hs.fact (List.Mem.head _))) (fun honev82 => ?_)
   refine s_B (cs := [v82, hv, fv]) Tryz.sizeOf30 ?_
   refine Zad ?_
   refine An Tryz.call21 rfl (fun w hs => P3 (fs := x.frames) (ms := (Aj (As x s.node) s.node (x.cores.length : Int) s.op).2.1) hs mm mm (Ud (by omega) (by omega) hk4 hlb)) ?_; intro v86
   refine J.know (p := v86.oneCell' = true) (fun w hs => isSlice.one (hs.fact (List.Mem.head _))) (fun honev86 => ?_)
   refine ZH ?_
   refine ZJ ?_
   refine s_B (cs := [v82, hv, v86]) Tryz.sizeOf30 ?_
   refine Ga2 ?_
   have er : Al x s = (De x s.node (Aj (As x s.node) s.node (x.cores.length : Int) s.op).1 (Aj (As x s.node) s.node (x.cores.length : Int) s.op).2.1, (Aj (As x s.node) s.node (x.cores.length : Int) s.op).2.2.1, 0) := by unfold Al Bk; rw [if_pos (by omega), if_neg (by omega), if_neg ht71]
   rw [er]
   exact Cj (v82, hv, v86, v65.2.2) Tryz.isAgg30 Tryz.sizeOf30
theorem Zy {n nl : Nat} {M : List Int} {cv hv fv : Value} {x : Chip} {s : Step} (hs : St (L) R w) (hc : sl cv x.cores ∈ R) (hh : sl hv x.home ∈ R) (hf : sl fv x.frames ∈ R) (h : Inv n nl x M) (hsw : s.wf) (hk : s.kind ≠ 1 ∧ s.kind ≠ 2 ∧ s.kind ≠ 3 ∧ s.kind ≠ 4 ∧ s.kind ≠ 5 ∧ s.kind ≠ 6) : Calls Tryz.prog 10 [.agg #[cv, hv, fv], .agg s.cells.toArray].toArray w (Bs (fun v : Value × Value × Value × Value => .tuple #[.agg #[v.1, v.2.1, v.2.2.1], v.2.2.2, vi (Al x s).2.2]) (fun v => L) (fun v => sl v.1 (Al x s).1.cores :: sl v.2.1 (Al x s).1.home :: sl v.2.2.1 (Al x s).1.frames :: sl v.2.2.2 (Al x s).2.1 :: R)) := by
 refine ZaZ ?_;intro hn hnl hnc hnh hfr honec honeh honef hsw0 hop hsn hsN hsb hn64 hcw
 clear hs
 refine Zbm ?_;intro b2 b3 b4
 refine ZF ?_
 refine ZF ?_
 refine Zdw ?_
 refine Zai ?_
 refine ZB ?_
 refine By (caps := []) (vs := [vi 1]) rfl Tryz.call18 rfl (fun w hs => Kq hs) ?_; intro _
 refine rn3 ?_
 refine ZaN ?_
 have er : Al x s = (zChip, [], 1) := by unfold Al; rw [if_neg (by omega), if_neg (by omega), if_neg (by omega), if_neg (by omega), if_neg (by omega), if_neg (by omega)]
 rw [er]
 exact Cj (.slice none 0 0, .slice none 0 0, .slice none 0 0, .slice none 0 0) Tryz.isAgg30 Tryz.sizeOf30
theorem Zs {n nl : Nat} {M : List Int} {cv hv fv : Value} {x : Chip} {s : Step} (hs : St (L) R w) (hc : sl cv x.cores ∈ R) (hh : sl hv x.home ∈ R) (hf : sl fv x.frames ∈ R) (h : Inv n nl x M) (hsw : s.wf) (hk : s.kind = 6) : Calls Tryz.prog 10 [.agg #[cv, hv, fv], .agg s.cells.toArray].toArray w (Bs (fun v : Value × Value × Value × Value => .tuple #[.agg #[v.1, v.2.1, v.2.2.1], v.2.2.2, vi (Al x s).2.2]) (fun v => L) (fun v => sl v.1 (Al x s).1.cores :: sl v.2.1 (Al x s).1.home :: sl v.2.2.1 (Al x s).1.frames :: sl v.2.2.2 (Al x s).2.1 :: R)) := by
 refine ZaZ ?_;intro hn hnl hnc hnh hfr honec honeh honef hsw0 hop hsn hsN hsb hn64 hcw
 clear hs
 refine Zbm ?_;intro b2 b3 b4
 refine ZF ?_
 refine Za3 ?_
 rcases (show (s.node < 0) ∨ (0 ≤ s.node ∧ (x.cores.length : Int) < s.node) ∨ (0 ≤ s.node ∧ s.node < (x.cores.length : Int)) ∨ (s.node = (x.cores.length : Int)) from by omega) with hc | hc | hc | hc
 ·refine ZY ?_
  refine Gc6 ?_
  exact Zf8
 ·refine Zae ?_
  refine ZM ?_
  refine Fo ?_
  refine Gc1 ?_
  exact Zf8
 ·refine Zae ?_
  refine ZM ?_
  refine Dz ?_
  refine Gd1 ?_
  refine rn3 ?_
  refine D5 ?_
  refine Glc ?_
  refine ZcX ?_;intro hwt u hkb hlb hk4
  refine Ze7 ?_
  refine jd_ (fun ρ S => blk b2 30 (bif S 14 then [cv, hv, (Gh.dec (γ := Value) (ρ 12))] else [cv, hv, fv]) :: blk b3 38 s.cells :: blk b4 30 [.slice none 0 0, .slice none 0 0, .slice none 0 0] :: L) ?_
  refine dn1 ?_
  refine Ib (v := fv) (fun ρ S hS hB hA => by have h14 : S 14 = false := hA 14 ⟨0, rfl⟩; simp only [h14, cond_false]; exact Cz (hc := A0 pkk (by repeat (first | exact rfl | refine C5 rfl ?_))) Tryz.isAgg28) (fun _ _ _ _ _ => rfl) ?_
  refine dn1 ?_
  refine Ib (v := cv) (fun ρ S hS hB hA => by have h14 : S 14 = false := hA 14 ⟨0, rfl⟩; simp only [h14, cond_false]; exact Cz (hc := A0 pkk (by repeat (first | exact rfl | refine C5 rfl ?_))) Tryz.isAgg26) (fun _ _ _ _ _ => rfl) ?_
  refine dn2 ?_
  first | refine epc (fun _ _ => Fn P1) ?_ | refine epc (fun _ _ => Im P1) ?_ | refine epp (fun _ _ => Fn P1) ?_ | refine epp (fun _ _ => Im P1) ?_
  first | refine epc (fun _ _ => Y3 Tryz.isAgg57 Tryz.sizeOf57) ?_ | refine epc (fun _ _ => Fc 4 Tryz.isAgg57 Tryz.sizeOf57) ?_ | refine epc (fun _ _ => q_lNc 4 Tryz.isAgg57 Tryz.sizeOf57) ?_ | refine epc (fun _ _ => q_lNf 4 Tryz.isAgg57 Tryz.sizeOf57) ?_ | refine epp (fun _ _ => Y3 Tryz.isAgg57 Tryz.sizeOf57) ?_ | refine epp (fun _ _ => Fc 4 Tryz.isAgg57 Tryz.sizeOf57) ?_ | refine epp (fun _ _ => q_lNc 4 Tryz.isAgg57 Tryz.sizeOf57) ?_ | refine epp (fun _ _ => q_lNf 4 Tryz.isAgg57 Tryz.sizeOf57) ?_
  refine dn3 ?_
  refine Bu (γ := Value) (val := fun v => v) (F := fun v => [sl v (Dl (As x s.node) s.node (x.cores.length : Int))]) Tryz.call22 (fun _ => rfl) (fun ρ L R w hd hs => Qb (c := (As x s.node)) (id := s.node) (home := (x.cores.length : Int)) (u := u) hs (hd.base mm) hsn hn64) (fun _ _ _ _ _ => rfl) ?_
  refine Bu (γ := Value) (val := fun v => v) (F := fun v => [sl v (way x.frames (Dl (As x s.node) s.node (x.cores.length : Int)))]) Tryz.call21 (fun _ => rfl) (fun ρ L R w hd hs => P3 (fs := x.frames) (ms := (Dl (As x s.node) s.node (x.cores.length : Int))) hs (hd.base mm) (hd.dep (it := ⟨11, _, _, _, _⟩) (by repeat (first | exact List.Mem.head _ | refine List.Mem.tail _ ?_)) ⟨9, rfl⟩ (List.Mem.head _)) (Oj (by omega) (by omega) _ 0 (by omega) (by omega) (Tx (d := zLine) hlb))) (fun ρ g S hS hA => by have u14 : upS S 12 14 = S 14 := rfl; have h14 : S 14 = false := hA 14 ⟨0, rfl⟩; simp only [u14, h14, cond_false]) ?_
  refine dn1 ?_
  refine Eb (T0 := 30) (f := 2) (vs := fun ρ => [cv, hv, fv]) (v := fun ρ => (Gh.dec (γ := Value) (ρ 12))) (fun ρ => b2) Tryz.sizeOf28 (fun _ => rfl) (fun _ => rfl) (fun ρ S R w L9 hB hd hs => isSlice.one (hs.fact (hd.dep (it := ⟨12, _, _, _, _⟩) (by repeat (first | exact List.Mem.head _ | refine List.Mem.tail _ ?_)) ⟨9, rfl⟩ (List.Mem.head _)))) (fun _ => rfl) (fun ρ g S hS hB hA => ?_) ?_
  ·have ui : upS S 14 14 = true := rfl; have r12 : Rho.set ρ 14 g 12 = ρ 12 := rfl
   simp only [ui, hS, r12, cond_true, cond_false]
   exact pex
  refine dnl ?_; intro ρ
  refine xq_ (blk b2 30 [cv, hv, (Gh.dec (γ := Value) (ρ 12))] :: blk b3 38 s.cells :: blk b4 30 [.slice none 0 0, .slice none 0 0, .slice none 0 0] :: L) ?_
  generalize (Gh.dec (γ := Value) (ρ 11)) = v121
  generalize (Gh.dec (γ := Value) (ρ 12)) = v122
  refine Gl ?_
  refine ZK ?_
  refine JC.know (p := v122.oneCell' = true) (fun w hs => isSlice.one (hs.fact (mm (f := sl v122 (way x.frames (Dl (As x s.node) s.node (x.cores.length : Int))))))) (fun honev122 => ?_)
  refine kp [2, 3, 4, 5, 6, 7, 8, 31, 124] ?_
  refine ZB ?_
  refine s_B (cs := [cv, hv, v122]) Tryz.sizeOf30 ?_
  refine Ga2 ?_
  have er : Al x s = (⟨x.cores, x.home, way x.frames (Dl (As x s.node) s.node (x.cores.length : Int))⟩, [], 0) := by unfold Al Bk; rw [if_neg (by omega), if_neg (by omega), if_neg (by omega), if_neg (by omega), if_neg (by omega), if_pos (by omega)]; rw [if_neg (by omega), if_neg (by omega)]
  rw [er]
  exact Cj (cv, hv, v122, .slice none 0 0) Tryz.isAgg30 Tryz.sizeOf30
 ·refine Zae ?_
  refine ZM ?_
  refine Dz ?_
  refine Gd1 ?_
  refine rn3 ?_
  refine Bc ?_
  refine Glc ?_
  have hnode : s.node = (x.cores.length : Int) := by omega
  refine ZaH ?_
  refine A7 (γ := Nat × Value) (fun g => g.1 ≤ x.home.length) (fun g => blk b2 30 [cv, hv, g.2] :: blk b3 38 s.cells :: blk b4 30 [.slice none 0 0, .slice none 0 0, .slice none 0 0] :: L) (fun g => sl g.2 (way x.frames (C1 (x.cores.length : Int) 0 (x.home.take g.1))) :: R) (fun g => [(2, bp b2 0), (3, bp b3 0), (4, bp b4 0), (8, vi (x.cores.length : Int)), (126, hv), (127, vi (x.home.length : Int)), (128, vi (g.1 : Int))]) (fun g => x.home.length - g.1) (0, fv) (Nat.zero_le _) alT (fun w hs => Ag (Adn hs hf)) ?_
  rintro ⟨k, vf⟩ hk
  try simp only at hk ⊢
  refine Gl ?_
  refine kp [2, 3, 4, 5, 6, 7, 8, 31, 126, 127, 128, 129] ?_
  refine ZW ?_
  refine cdy ?_ ?_
  ·intro ht129
   refine Gl ?_
   refine Lt (l := x.home) (v := hv) k mm (by omega) (fun _ ue => ?_)
   refine JC.know (p := ue.oneCell' = true) (fun w hs => isSlice.one (hs.fact (.tail _ (.head _)))) (fun honeu => ?_)
   refine ZL ?_
   refine al_ (cs := zEC) Tryz.zeroValue62 ?_; intro b14
   refine rn1 ?_
   refine s_B (cs := Entry.cells ue (x.home.getD k Az)) Tryz.sizeOf62 ?_
   refine Gl ?_
   refine cq_ (blk b2 30 [cv, hv, vf] :: blk b14 62 (Entry.cells ue (x.home.getD k Az)) :: blk b3 38 s.cells :: blk b4 30 [.slice none 0 0, .slice none 0 0, .slice none 0 0] :: L) ?_
   refine jd_ (fun ρ S => blk b2 30 (bif S 8 then [cv, hv, (Gh.dec (γ := Value) (ρ 6))] else [cv, hv, vf]) :: blk b14 62 (Entry.cells ue (x.home.getD k Az)) :: blk b3 38 s.cells :: blk b4 30 [.slice none 0 0, .slice none 0 0, .slice none 0 0] :: L) ?_
   refine dn1 ?_
   refine Ib (v := vf) (fun ρ S hS hB hA => by have h8 : S 8 = false := hA 8 ⟨0, rfl⟩; simp only [h8, cond_false]; exact Cz (hc := A0 pkk (by repeat (first | exact rfl | refine C5 rfl ?_))) Tryz.isAgg28) (fun _ _ _ _ _ => rfl) ?_
   refine dn3 ?_
   refine Bu (γ := Value) (val := fun v => v) (F := fun v => [sl v (Fm (x.home.getD k Az) (k : Int) (x.cores.length : Int))]) Tryz.call23 (fun _ => rfl) (fun ρ L R w hd hs => Ij (e := (x.home.getD k Az)) (line := (k : Int)) (id := (x.cores.length : Int)) (u := ue) hs (h.ebs k (by omega)).1 honeu (by unfold Ao; omega) hn64) (fun _ _ _ _ _ => rfl) ?_
   refine Bu (γ := Value) (val := fun v => v) (F := fun v => [sl v (way (way x.frames (C1 (x.cores.length : Int) 0 (x.home.take k))) (Fm (x.home.getD k Az) (k : Int) (x.cores.length : Int)))]) Tryz.call21 (fun _ => rfl) (fun ρ L R w hd hs => P3 (fs := way x.frames (C1 (x.cores.length : Int) 0 (x.home.take k))) (ms := Fm (x.home.getD k Az) (k : Int) (x.cores.length : Int)) hs (hd.base mm) (hd.dep (it := ⟨5, _, _, _, _⟩) (by repeat (first | exact List.Mem.head _ | refine List.Mem.tail _ ?_)) ⟨9, rfl⟩ (List.Mem.head _)) (by rw [hnc]; exact h.says_in k (by omega))) (fun ρ g S hS hA => by have u8 : upS S 6 8 = S 8 := rfl; have h8 : S 8 = false := hA 8 ⟨0, rfl⟩; simp only [u8, h8, cond_false]) ?_
   refine dn1 ?_
   refine Eb (T0 := 30) (f := 2) (vs := fun ρ => [cv, hv, vf]) (v := fun ρ => (Gh.dec (γ := Value) (ρ 6))) (fun ρ => b2) Tryz.sizeOf28 (fun _ => rfl) (fun _ => rfl) (fun ρ S R w L9 hB hd hs => isSlice.one (hs.fact (hd.dep (it := ⟨6, _, _, _, _⟩) (by repeat (first | exact List.Mem.head _ | refine List.Mem.tail _ ?_)) ⟨9, rfl⟩ (List.Mem.head _)))) (fun _ => rfl) (fun ρ g S hS hB hA => ?_) ?_
   ·have ui : upS S 8 8 = true := rfl; have r6 : Rho.set ρ 8 g 6 = ρ 6 := rfl
    simp only [ui, hS, r6, cond_true, cond_false]
    exact pex
   refine dnl ?_; intro ρ
   refine xq_ (blk b2 30 [cv, hv, (Gh.dec (γ := Value) (ρ 6))] :: blk b14 62 (Entry.cells ue (x.home.getD k Az)) :: blk b3 38 s.cells :: blk b4 30 [.slice none 0 0, .slice none 0 0, .slice none 0 0] :: L) ?_
   generalize (Gh.dec (γ := Value) (ρ 5)) = v138
   generalize (Gh.dec (γ := Value) (ρ 6)) = v139
   refine ZC ?_
   refine Au (k + 1, v139) (by show k + 1 ≤ x.home.length; omega) (by show x.home.length - (k + 1) < x.home.length - k; omega) alT (fun w hs => ?_)
   try simp only
   rw [Es Az (by omega), Ho, I0, List.length_take, Nat.min_eq_left (by omega), Int.zero_add]; exact Ag hs
  ·intro ht129
   refine Gl ?_
   refine ZK ?_
   refine JC.know (p := vf.oneCell' = true) (fun w hs => isSlice.one (hs.fact (mm (f := sl vf (way x.frames (C1 (x.cores.length : Int) 0 (x.home.take k))))))) (fun honevf => ?_)
   refine ZB ?_
   refine s_B (cs := [cv, hv, vf]) Tryz.sizeOf30 ?_
   refine Ga2 ?_
   have er : Al x s = (⟨x.cores, x.home, way x.frames (C1 (x.cores.length : Int) 0 (x.home.take k))⟩, [], 0) := by unfold Al Bk; rw [if_neg (by omega), if_neg (by omega), if_neg (by omega), if_neg (by omega), if_neg (by omega), if_pos (by omega)]; rw [if_neg (by omega), if_pos (by omega), List.take_of_length_le (by omega), hnode]; rfl
   rw [er]
   exact Cj (cv, hv, vf, .slice none 0 0) Tryz.isAgg30 Tryz.sizeOf30
theorem Zu {n nl : Nat} {M : List Int} {cv hv fv : Value} {x : Chip} {s : Step} (hs : St (L) R w) (hc : sl cv x.cores ∈ R) (hh : sl hv x.home ∈ R) (hf : sl fv x.frames ∈ R) (h : Inv n nl x M) (hsw : s.wf) (hk : s.kind = 4) : Calls Tryz.prog 10 [.agg #[cv, hv, fv], .agg s.cells.toArray].toArray w (Bs (fun v : Value × Value × Value × Value => .tuple #[.agg #[v.1, v.2.1, v.2.2.1], v.2.2.2, vi (Al x s).2.2]) (fun v => L) (fun v => sl v.1 (Al x s).1.cores :: sl v.2.1 (Al x s).1.home :: sl v.2.2.1 (Al x s).1.frames :: sl v.2.2.2 (Al x s).2.1 :: R)) := by
 refine ZaZ ?_;intro hn hnl hnc hnh hfr honec honeh honef hsw0 hop hsn hsN hsb hn64 hcw
 clear hs
 refine Zbm ?_;intro b2 b3 b4
 refine ZaW ?_
 refine Gc1 ?_
 rcases (show (Cn x s.n) ∨ (¬ Cn x s.n) from by exact Classical.em _) with hc | hc
 ·exact ZeK
 ·have hnf := hc
  unfold Cn at hc
  refine Zck ?_;intro et
  refine An (γ := Value × Value) (val := fun v => .tuple #[v.1, v.2, vi 0]) (Rf := fun v => sl v.1 (x.frames.eraseIdx s.n.toNat) :: sl v.2 (Ay x.frames s.n) :: R) Tryz.call24 rfl (fun w hs => by have h9 := Ih (l := x.frames) (n := s.n) hs mm hsN; rw [et] at h9; exact h9) ?_; intro ⟨va, vb⟩
  refine Zdv ?_
  refine Gb2 ?_
  refine Cf ?_
  refine Gd1 ?_
  refine rn3 ?_
  refine An Tryz.call25 rfl (fun w hs => Wj (l := x.frames) (b := (Ay x.frames s.n)) hs mm mm) ?_; intro v172
  refine J.know (p := v172.oneCell' = true) (fun w hs => isSlice.one (hs.fact (List.Mem.head _))) (fun honev172 => ?_)
  refine ZH ?_
  refine Gl ?_
  refine ZK ?_
  refine ZB ?_
  refine s_B (cs := [cv, hv, v172]) Tryz.sizeOf30 ?_
  refine Ga2 ?_
  have er : Al x s = (⟨x.cores, x.home, Dn x.frames (Ay x.frames s.n)⟩, [], 0) := by unfold Al; rw [if_neg (by omega), if_neg (by omega), if_neg (by omega), if_pos (by omega), if_neg hnf]
  rw [er]
  exact Cj (cv, hv, v172, .slice none 0 0) Tryz.isAgg30 Tryz.sizeOf30
theorem Zt {n nl : Nat} {M : List Int} {cv hv fv : Value} {x : Chip} {s : Step} (hs : St (L) R w) (hc : sl cv x.cores ∈ R) (hh : sl hv x.home ∈ R) (hf : sl fv x.frames ∈ R) (h : Inv n nl x M) (hsw : s.wf) (hk : s.kind = 5) : Calls Tryz.prog 10 [.agg #[cv, hv, fv], .agg s.cells.toArray].toArray w (Bs (fun v : Value × Value × Value × Value => .tuple #[.agg #[v.1, v.2.1, v.2.2.1], v.2.2.2, vi (Al x s).2.2]) (fun v => L) (fun v => sl v.1 (Al x s).1.cores :: sl v.2.1 (Al x s).1.home :: sl v.2.2.1 (Al x s).1.frames :: sl v.2.2.2 (Al x s).2.1 :: R)) := by
 refine ZaZ ?_;intro hn hnl hnc hnh hfr honec honeh honef hsw0 hop hsn hsN hsb hn64 hcw
 clear hs
 refine Zbm ?_;intro b2 b3 b4
 refine ZF ?_
 refine ZaW ?_
 refine Gc1 ?_
 rcases (show (Cn x s.n) ∨ (¬ Cn x s.n) from by exact Classical.em _) with hc | hc
 ·exact ZeK
 ·have hnf := hc
  unfold Cn at hc
  refine Zck ?_;intro et
  refine An (γ := Value × Value) (val := fun v => .tuple #[v.1, v.2, vi 0]) (Rf := fun v => sl v.1 (x.frames.eraseIdx s.n.toNat) :: sl v.2 (Ay x.frames s.n) :: R) Tryz.call24 rfl (fun w hs => by have h9 := Ih (l := x.frames) (n := s.n) hs mm hsN; rw [et] at h9; exact h9) ?_; intro ⟨va, vb⟩
  refine Zdv ?_
  refine Gb2 ?_
  refine ZF ?_
  refine Cf ?_
  refine Gd1 ?_
  refine rn6 ?_
  refine An Tryz.call26 rfl (fun w hs => Td (c := (Ap x)) (b := (Ay x.frames s.n)) hs mm hcw) ?_; intro _
  refine rn3 ?_
  refine al_ (cs := zMsg.cells) Tryz.zeroValue76 ?_; intro b18
  refine Zdn ?_
  refine cdy ?_ ?_
  ·intro ht188
   refine Gl ?_
   refine Zai ?_
   refine ZB ?_
   refine By (caps := []) (vs := [vi 6]) rfl Tryz.call18 rfl (fun w hs => Kq hs) ?_; intro _
   refine rn3 ?_
   refine ZaN ?_
   have er : Al x s = (zChip, [], 6) := by unfold Al; rw [if_neg (by omega), if_neg (by omega), if_neg (by omega), if_neg (by omega), if_pos (by omega), if_neg hnf]; rw [if_pos ht188]
   rw [er]
   exact Cj (.slice none 0 0, .slice none 0 0, .slice none 0 0, .slice none 0 0) Tryz.isAgg30 Tryz.sizeOf30
  ·intro ht188
   refine Gl ?_
   have hb12 : (Ay x.frames s.n).length = 12 := (h.mi _ (Ka hc)).1
   rcases (show (s.bit < 0) ∨ (0 ≤ s.bit ∧ 8 * ((Ay x.frames s.n).length : Int) ≤ s.bit) ∨ (0 ≤ s.bit ∧ s.bit < 8 * ((Ay x.frames s.n).length : Int)) from by omega) with hc | hc | hc
   ·have esp : Cg x.frames s.n s.bit = ([], 3) := by unfold Cg; rw [if_neg (by omega), if_pos (by omega)]
    refine ZY ?_
    refine Gc8 ?_
    exact Zfx
   ·have esp : Cg x.frames s.n s.bit = ([], 3) := by unfold Cg; rw [if_neg (by omega), if_pos (by omega)]
    refine Zez ?_
    refine G8 ?_
    refine Gc1 ?_
    exact Zfx
   ·have esp : Cg x.frames s.n s.bit = (x.frames.set s.n.toNat (Br (Ay x.frames s.n) s.bit), 0) := by unfold Cg; rw [if_neg (by omega), if_neg (by omega)]
    refine Zez ?_
    refine Di ?_
    refine Gc1 ?_
    refine kp [2, 3, 4, 5, 6, 8, 15, 16, 17, 20, 210, 211, 212, 213] ?_
    refine Aa ?_
    refine liO ([] : Frames) Kf rfl (fun j h => Gb) ?_; intro v210
    refine rn2 ?_
    refine ap Kf (hb := fun w hs => by have : maxN = 16777216 := rfl; simp only [List.length_nil]; omega) (k := ?_); intro v213
    refine Ga1 ?_
    refine cq_ (row 71 v213 x.frames :: blk b2 30 [cv, hv, fv] :: blk b3 38 s.cells :: blk b4 30 [.slice none 0 0, .slice none 0 0, .slice none 0 0] :: L) ?_
    refine jd_ (fun ρ S => row 71 v213 (bif S 8 then (x.frames.set s.n.toNat (Br (Ay x.frames s.n) s.bit)) else x.frames) :: blk b2 30 [cv, hv, fv] :: blk b3 38 s.cells :: blk b4 30 [.slice none 0 0, .slice none 0 0, .slice none 0 0] :: L) ?_
    refine dn6 ?_
    refine Bu (γ := Value) (val := fun v => v) (F := fun v => [sl v (Br (Ay x.frames s.n) s.bit)]) Tryz.call27 (fun _ => rfl) (fun ρ L R w hd hs => Mj (b := (Ay x.frames s.n)) (bit := s.bit) hs (hd.base mm) hsb) (fun _ _ _ _ _ => rfl) ?_
    refine Jy (v := ep v213 1 s.n.toNat 0) (fun ρ S => Im (v := v213) (len := (bif S 8 then (x.frames.set s.n.toNat (Br (Ay x.frames s.n) s.bit)) else x.frames).length) (i := s.n) Oo (hl := Da .hd) (h0 := by omega) (h1 := by cases S 8 <;> simp <;> omega)) (fun _ _ _ _ _ => rfl) ?_
    refine Abx (T0 := 71) (v := v213) (xs := x.frames) (k := s.n.toNat) (e' := (Br (Ay x.frames s.n) s.bit)) (c := fun ρ => (Gh.dec (γ := Value) (ρ 6))) (cs := fun ρ => [(Gh.dec (γ := Value) (ρ 6))]) Tryz.sizeOf71 rfl (by omega) (fun _ => rfl) (fun _ => rfl) (fun _ h => Hh h) (fun ρ R w L' hd hs => isSlice.one (hs.fact (hd.dep (it := ⟨6, _, _, _, _⟩) (by repeat (first | exact List.Mem.head _ | refine List.Mem.tail _ ?_)) ⟨9, rfl⟩ (List.Mem.head _)))) (fun ρ R hd j hj => ⟨_, rfl, hj _ (hd.dep (it := ⟨6, _, _, _, _⟩) (by repeat (first | exact List.Mem.head _ | refine List.Mem.tail _ ?_)) ⟨9, rfl⟩ (List.Mem.head _))⟩) (fun ρ g S hS hB hA => ?_) ?_
    ·have ui : upS S 8 8 = true := rfl
     simp only [ui, hS, cond_true, cond_false]
     exact pex
    refine dnl ?_; intro ρ
    refine xq_ (row 71 v213 (x.frames.set s.n.toNat (Br (Ay x.frames s.n) s.bit)) :: blk b2 30 [cv, hv, fv] :: blk b3 38 s.cells :: blk b4 30 [.slice none 0 0, .slice none 0 0, .slice none 0 0] :: L) ?_
    generalize (Gh.dec (γ := Value) (ρ 6)) = v220
    refine Gl ?_
    refine JC.shut (v := v213) pkk ?_
    refine JC.know (p := v213.oneCell' = true) (fun w hs => isSlice.one (hs.fact (List.Mem.head _))) (fun honev213 => ?_)
    refine ZD ?_
    refine sc ?_
    refine Gl ?_
    refine ZK ?_
    refine ZB ?_
    refine s_B (cs := [cv, hv, v213]) Tryz.sizeOf30 ?_
    refine Ga2 ?_
    have er : Al x s = (⟨x.cores, x.home, x.frames.set s.n.toNat (Br (Ay x.frames s.n) s.bit)⟩, [], 0) := by unfold Al; rw [if_neg (by omega), if_neg (by omega), if_neg (by omega), if_neg (by omega), if_pos (by omega), if_neg hnf]; rw [if_neg ht188, esp, if_neg (fun h => h rfl)]
    rw [er]
    exact Cj (cv, hv, v213, .slice none 0 0) Tryz.isAgg30 Tryz.sizeOf30
theorem Zv {n nl : Nat} {M : List Int} {cv hv fv : Value} {x : Chip} {s : Step} (hs : St (L) R w) (hc : sl cv x.cores ∈ R) (hh : sl hv x.home ∈ R) (hf : sl fv x.frames ∈ R) (h : Inv n nl x M) (hsw : s.wf) (hk : s.kind = 3) : Calls Tryz.prog 10 [.agg #[cv, hv, fv], .agg s.cells.toArray].toArray w (Bs (fun v : Value × Value × Value × Value => .tuple #[.agg #[v.1, v.2.1, v.2.2.1], v.2.2.2, vi (Al x s).2.2]) (fun v => L) (fun v => sl v.1 (Al x s).1.cores :: sl v.2.1 (Al x s).1.home :: sl v.2.2.1 (Al x s).1.frames :: sl v.2.2.2 (Al x s).2.1 :: R)) := by
 refine ZaZ ?_;intro hn hnl hnc hnh hfr honec honeh honef hsw0 hop hsn hsN hsb hn64 hcw
 clear hs
 refine Zbm ?_;intro b2 b3 b4
 refine ZF ?_
 refine Zaz ?_
 refine Gc1 ?_
 rcases (show (Cn x s.n) ∨ (¬ Cn x s.n) from by exact Classical.em _) with hc | hc
 ·exact ZeK
 ·have hnf := hc
  unfold Cn at hc
  refine Zck ?_;intro et
  refine An (γ := Value × Value) (val := fun v => .tuple #[v.1, v.2, vi 0]) (Rf := fun v => sl v.1 (x.frames.eraseIdx s.n.toNat) :: sl v.2 (Ay x.frames s.n) :: R) Tryz.call24 rfl (fun w hs => by have h9 := Ih (l := x.frames) (n := s.n) hs mm hsN; rw [et] at h9; exact h9) ?_; intro ⟨va, vb⟩
  refine Zdv ?_
  refine Zeh ?_;intro honea
  refine Cf ?_
  refine Glc ?_
  refine ZK ?_
  refine ZB ?_
  refine s_B (cs := [cv, hv, va]) Tryz.sizeOf30 ?_
  refine Ga2 ?_
  have er : Al x s = (⟨x.cores, x.home, (x.frames.eraseIdx s.n.toNat)⟩, [], 0) := by unfold Al; rw [if_neg (by omega), if_neg (by omega), if_pos (by omega), if_neg hnf]
  exact ZgJ
theorem Zw {n nl : Nat} {M : List Int} {cv hv fv : Value} {x : Chip} {s : Step} (hs : St (L) R w) (hc : sl cv x.cores ∈ R) (hh : sl hv x.home ∈ R) (hf : sl fv x.frames ∈ R) (h : Inv n nl x M) (hsw : s.wf) (hk : s.kind = 2) : Calls Tryz.prog 10 [.agg #[cv, hv, fv], .agg s.cells.toArray].toArray w (Bs (fun v : Value × Value × Value × Value => .tuple #[.agg #[v.1, v.2.1, v.2.2.1], v.2.2.2, vi (Al x s).2.2]) (fun v => L) (fun v => sl v.1 (Al x s).1.cores :: sl v.2.1 (Al x s).1.home :: sl v.2.2.1 (Al x s).1.frames :: sl v.2.2.2 (Al x s).2.1 :: R)) := by
 refine ZaZ ?_;intro hn hnl hnc hnh hfr honec honeh honef hsw0 hop hsn hsN hsb hn64 hcw
 clear hs
 refine Zbm ?_;intro b2 b3 b4
 refine Zaz ?_
 refine Gc1 ?_
 rcases (show (Cn x s.n) ∨ (¬ Cn x s.n) from by exact Classical.em _) with hc | hc
 ·have et : Bn x.frames s.n = ([], [], 5) := by unfold Bn; rw [if_pos (by unfold Cn at hc; exact hc)]
  refine ZE ?_
  refine An (γ := Value × Value) (val := fun v => .tuple #[v.1, v.2, vi 5]) (Rf := fun v => sl v.1 ([] : Frames) :: sl v.2 ([] : List UInt8) :: R) Tryz.call24 rfl (fun w hs => by have h9 := Ih (l := x.frames) (n := s.n) hs mm hsN; rw [et] at h9; exact h9) ?_; intro ⟨va, vb⟩
  refine Gb7 ?_
  refine rn1 ?_
  refine ZaR ?_
  refine kp [2, 3, 4, 5, 6, 7, 8, 15, 16, 17, 159, 160, 161, 162, 163, 164] ?_
  refine ZD ?_
  refine By (caps := []) (vs := [vi 5]) rfl Tryz.call18 rfl (fun w hs => Kq hs) ?_; intro _
  refine Zcu ?_;intro er
  exact Cj (.slice none 0 0, .slice none 0 0, .slice none 0 0, .slice none 0 0) Tryz.isAgg30 Tryz.sizeOf30
 ·have hnf := hc
  unfold Cn at hc
  refine Zck ?_;intro et
  refine An (γ := Value × Value) (val := fun v => .tuple #[v.1, v.2, vi 0]) (Rf := fun v => sl v.1 (x.frames.eraseIdx s.n.toNat) :: sl v.2 (Ay x.frames s.n) :: R) Tryz.call24 rfl (fun w hs => by have h9 := Ih (l := x.frames) (n := s.n) hs mm hsN; rw [et] at h9; exact h9) ?_; intro ⟨va, vb⟩
  refine Gb7 ?_
  refine rn1 ?_
  refine ob (Am rfl rfl (C0 (by decide))) ?_
  refine Glc ?_
  refine kp [2, 3, 4, 5, 6, 7, 8, 15, 16, 17, 165, 166] ?_
  refine Aa ?_
  refine Zeh ?_;intro honea
  refine Aw ?_
  refine Gmc ?_
  refine rn6 ?_
  refine An Tryz.call26 rfl (fun w hs => Td (c := (Ap x)) (b := (Ay x.frames s.n)) hs mm hcw) ?_; intro _
  refine rn3 ?_
  refine al_ (cs := zMsg.cells) Tryz.zeroValue76 ?_; intro b21
  refine Zdn ?_
  refine cdy ?_ ?_
  ·intro ht242
   refine Gl ?_
   refine ZK ?_
   refine ZB ?_
   refine s_B (cs := [cv, hv, va]) Tryz.sizeOf30 ?_
   refine Ga2 ?_
   have er : Al x s = (⟨x.cores, x.home, (x.frames.eraseIdx s.n.toNat)⟩, [], 0) := by unfold Al; rw [if_neg (by omega), if_pos (by omega), if_neg hnf]; unfold Cl; rw [show Ap ⟨x.cores, x.home, (x.frames.eraseIdx s.n.toNat)⟩ = Ap x from rfl]; rw [if_pos ht242]
   exact ZgJ
  ·intro ht242
   refine Gl ?_
   have hp0 : (Af (Ap x) (Ay x.frames s.n)).2 = 0 := Decidable.not_not.1 ht242
   have hpk := J6 (c := (Ap x)) (b := (Ay x.frames s.n)) (m := (Af (Ap x) (Ay x.frames s.n)).1) (by rw [← hp0])
   have hwk := Iy hpk.2.2.2.2.1
   have hpw : (Af (Ap x) (Ay x.frames s.n)).1.wf := by rw [hpk.2.2.2.2.2]; exact O7 _
   have ecn : (Ap x).cores = (x.cores.length : Int) := rfl
   rw [ecn] at hwk
   refine ZK ?_
   refine ZaH ?_
   refine cdy ?_ ?_
   ·intro ht247
    refine Gl ?_
    refine kp [2, 4, 5, 6, 8, 21, 22, 23, 248, 249, 250, 251, 252, 253, 254, 255] ?_
    refine ZE ?_
    refine An Tryz.call28 rfl (fun w hs => R9 (l := x.home) (id := (x.cores.length : Int)) (m := (Af (Ap x) (Ay x.frames s.n)).1) hs mm (fun i hi => (h.ebs i hi).1) (fun i hi => (h.ebs i hi).2.2.2.2) hpw hn64) ?_; intro ⟨v253a, v253b⟩
    refine Ga5 ?_
    refine JC.know (p := v253a.oneCell' = true) (fun w hs => isSlice.one (hs.fact (mm (f := sl v253a (Ak x.home (x.cores.length : Int) (Af (Ap x) (Ay x.frames s.n)).1).1)))) (fun honeva => ?_)
    refine ZD ?_
    refine sc ?_
    refine Zad ?_
    refine An Tryz.call21 rfl (fun w hs => P3 (fs := (x.frames.eraseIdx s.n.toNat)) (ms := (Ak x.home (x.cores.length : Int) (Af (Ap x) (Ay x.frames s.n)).1).2) hs mm mm (M3 (by omega) (by omega) h.ebs hwk.2.2.2.1 hwk.2.2.2.2.2.1)) ?_; intro v261
    refine J.know (p := v261.oneCell' = true) (fun w hs => isSlice.one (hs.fact (List.Mem.head _))) (fun honev261 => ?_)
    refine ZH ?_
    refine ZI ?_
    refine s_B (cs := [cv, v253a, v261]) Tryz.sizeOf30 ?_
    refine Ga2 ?_
    have er : Al x s = (⟨x.cores, (Ak x.home (x.cores.length : Int) (Af (Ap x) (Ay x.frames s.n)).1).1, way (x.frames.eraseIdx s.n.toNat) (Ak x.home (x.cores.length : Int) (Af (Ap x) (Ay x.frames s.n)).1).2⟩, [], 0) := by unfold Al; rw [if_neg (by omega), if_pos (by omega), if_neg hnf]; unfold Cl; rw [show Ap ⟨x.cores, x.home, (x.frames.eraseIdx s.n.toNat)⟩ = Ap x from rfl]; rw [if_neg ht242, if_pos (show (Af (Ap x) (Ay x.frames s.n)).1.dst = Bk ⟨x.cores, x.home, (x.frames.eraseIdx s.n.toNat)⟩ from ht247)]; rfl
    rw [er]
    exact Cj (cv, v253a, v261, .slice none 0 0) Tryz.isAgg30 Tryz.sizeOf30
   ·intro ht247
    refine Gl ?_
    refine Lu (x := x) (v := cv) (Af (Ap x) (Ay x.frames s.n)).1.dst mm (by omega) (by omega) (fun hwt u => ?_)
    have hkb : KB (As x (Af (Ap x) (Ay x.frames s.n)).1.dst) := h.kb (p := (Af (Ap x) (Ay x.frames s.n)).1.dst.toNat) (by omega)
    have hlb := h.lbs (p := (Af (Ap x) (Ay x.frames s.n)).1.dst) (by omega)
    have hk4 := hkb.n
    have hpd64 : Ao (Af (Ap x) (Ay x.frames s.n)).1.dst := by unfold Ao; omega
    refine kp [2, 4, 5, 6, 8, 21, 24, 25, 26, 264, 265, 266, 267, 268, 269, 270, 271, 272, 273, 274, 275, 276, 277, 278] ?_
    refine cq_ (blk b2 30 [cv, hv, va] :: blk b21 76 (Af (Ap x) (Ay x.frames s.n)).1.cells :: blk b3 38 s.cells :: blk b4 30 [.slice none 0 0, .slice none 0 0, .slice none 0 0] :: L) ?_
    refine jd_ (fun ρ S => blk b2 30 [cv, hv, va] :: blk b21 76 (Af (Ap x) (Ay x.frames s.n)).1.cells :: blk b3 38 s.cells :: blk b4 30 [.slice none 0 0, .slice none 0 0, .slice none 0 0] :: ((bif S 15 then [blk (Gh.dec (γ := Nat) (ρ 15)) 57 (bif S 16 then [(Gh.dec (γ := Value × Value × Value) (ρ 10)).1, vi (Ae (As x (Af (Ap x) (Ay x.frames s.n)).1.dst) (Af (Ap x) (Ay x.frames s.n)).1.dst (x.cores.length : Int) (Af (Ap x) (Ay x.frames s.n)).1).1.wait.kind, vi (Ae (As x (Af (Ap x) (Ay x.frames s.n)).1.dst) (Af (Ap x) (Ay x.frames s.n)).1.dst (x.cores.length : Int) (Af (Ap x) (Ay x.frames s.n)).1).1.wait.line, vi (Ae (As x (Af (Ap x) (Ay x.frames s.n)).1.dst) (Af (Ap x) (Ay x.frames s.n)).1.dst (x.cores.length : Int) (Af (Ap x) (Ay x.frames s.n)).1).1.wait.value] else [.slice none 0 0, vi 0, vi 0, vi 0])] else []) ++ (L))) ?_
    refine Xv ?_
    refine Bu (γ := Value × Value × Value) (val := fun v => .tuple #[.agg (Core.cells v.1 (Ae (As x (Af (Ap x) (Ay x.frames s.n)).1.dst) (Af (Ap x) (Ay x.frames s.n)).1.dst (x.cores.length : Int) (Af (Ap x) (Ay x.frames s.n)).1).1).toArray, v.2.1, v.2.2]) (F := fun v => [sl v.1 (Ae (As x (Af (Ap x) (Ay x.frames s.n)).1.dst) (Af (Ap x) (Ay x.frames s.n)).1.dst (x.cores.length : Int) (Af (Ap x) (Ay x.frames s.n)).1).1.lines, sl v.2.1 (Ae (As x (Af (Ap x) (Ay x.frames s.n)).1.dst) (Af (Ap x) (Ay x.frames s.n)).1.dst (x.cores.length : Int) (Af (Ap x) (Ay x.frames s.n)).1).2.1, sl v.2.2 (Ae (As x (Af (Ap x) (Ay x.frames s.n)).1.dst) (Af (Ap x) (Ay x.frames s.n)).1.dst (x.cores.length : Int) (Af (Ap x) (Ay x.frames s.n)).1).2.2]) Tryz.call29 (fun _ => rfl) (fun ρ L R w hd hs => Aey (c := (As x (Af (Ap x) (Ay x.frames s.n)).1.dst)) (id := (Af (Ap x) (Ay x.frames s.n)).1.dst) (home := (x.cores.length : Int)) (m := (Af (Ap x) (Ay x.frames s.n)).1) (u := u) hs (hd.base mm) hkb hpd64 hn64 hpw) (fun ρ g S hS hA => by have u15 : upS S 10 15 = S 15 := rfl; have u16 : upS S 10 16 = S 16 := rfl; have r15 : Rho.set ρ 10 g 15 = ρ 15 := rfl; have h16 : S 16 = false := hA 16 ⟨0, rfl⟩; simp only [u15, u16, r15, h16, cond_false]) ?_
    refine e_p (v := fun ρ => .tuple #[.agg (Core.cells (Gh.dec (γ := Value × Value × Value) (ρ 10)).1 (Ae (As x (Af (Ap x) (Ay x.frames s.n)).1.dst) (Af (Ap x) (Ay x.frames s.n)).1.dst (x.cores.length : Int) (Af (Ap x) (Ay x.frames s.n)).1).1).toArray, (Gh.dec (γ := Value × Value × Value) (ρ 10)).2.1, (Gh.dec (γ := Value × Value × Value) (ρ 10)).2.2]) (fun _ _ => Ls) (Ind.gh (h := fun g => (.tuple #[.agg (Core.cells (Gh.dec (γ := Value × Value × Value) g).1 (Ae (As x (Af (Ap x) (Ay x.frames s.n)).1.dst) (Af (Ap x) (Ay x.frames s.n)).1.dst (x.cores.length : Int) (Af (Ap x) (Ay x.frames s.n)).1).1).toArray, (Gh.dec (γ := Value × Value × Value) g).2.1, (Gh.dec (γ := Value × Value × Value) g).2.2] : Value)) 10 0 rfl) (fun _ _ _ _ _ => rfl) ?_
    refine e_p (v := fun ρ => .agg (Core.cells (Gh.dec (γ := Value × Value × Value) (ρ 10)).1 (Ae (As x (Af (Ap x) (Ay x.frames s.n)).1.dst) (Af (Ap x) (Ay x.frames s.n)).1.dst (x.cores.length : Int) (Af (Ap x) (Ay x.frames s.n)).1).1).toArray) (fun _ _ => q_x) (Ind.gh (h := fun g => (.agg (Core.cells (Gh.dec (γ := Value × Value × Value) g).1 (Ae (As x (Af (Ap x) (Ay x.frames s.n)).1.dst) (Af (Ap x) (Ay x.frames s.n)).1.dst (x.cores.length : Int) (Af (Ap x) (Ay x.frames s.n)).1).1).toArray : Value)) 10 1 rfl) (fun _ _ _ _ _ => rfl) ?_
    refine e_p (v := fun ρ => (Gh.dec (γ := Value × Value × Value) (ρ 10)).2.1) (fun _ _ => q_x) (Ind.gh (h := fun g => ((Gh.dec (γ := Value × Value × Value) g).2.1 : Value)) 10 1 rfl) (fun _ _ _ _ _ => rfl) ?_
    refine e_p (v := fun ρ => (Gh.dec (γ := Value × Value × Value) (ρ 10)).2.2) (fun _ _ => q_x) (Ind.gh (h := fun g => ((Gh.dec (γ := Value × Value × Value) g).2.2 : Value)) 10 1 rfl) (fun _ _ _ _ _ => rfl) ?_
    refine Hy (cs := [.slice none 0 0, vi 0, vi 0, vi 0]) Tryz.zeroValue57 rfl (fun ρ b S hS hA => ?_) ?_
    ·have ui : upS S 15 15 = true := rfl; have u16 : upS S 15 16 = S 16 := rfl; have r10 : Rho.set ρ 15 (Gh.enc b) 10 = ρ 10 := rfl; have h16 : S 16 = false := hA 16 ⟨0, rfl⟩; have rs : (Gh.dec (γ := Nat) (Rho.set ρ 15 (Gh.enc b) 15)) = b := rfl
     simp only [ui, hS, u16, r10, h16, rs, cond_true, cond_false, List.nil_append]
     exact ZeZ
    refine es_ 57 0 [15] [] (fun ρ => (Gh.dec (γ := Nat) (ρ 15))) (fun ρ => [.slice none 0 0, vi 0, vi 0, vi 0]) (fun ρ => [(Gh.dec (γ := Value × Value × Value) (ρ 10)).1, vi (Ae (As x (Af (Ap x) (Ay x.frames s.n)).1.dst) (Af (Ap x) (Ay x.frames s.n)).1.dst (x.cores.length : Int) (Af (Ap x) (Ay x.frames s.n)).1).1.wait.kind, vi (Ae (As x (Af (Ap x) (Ay x.frames s.n)).1.dst) (Af (Ap x) (Ay x.frames s.n)).1.dst (x.cores.length : Int) (Af (Ap x) (Ay x.frames s.n)).1).1.wait.line, vi (Ae (As x (Af (Ap x) (Ay x.frames s.n)).1.dst) (Af (Ap x) (Ay x.frames s.n)).1.dst (x.cores.length : Int) (Af (Ap x) (Ay x.frames s.n)).1).1.wait.value]) Tryz.sizeOf57 (h1 := (fun ρ R w L' hd hs => Bl (isSlice.one (hs.fact (hd.dep (it := ⟨10, _, _, _, _⟩) (by repeat (first | exact List.Mem.head _ | refine List.Mem.tail _ ?_)) ⟨9, rfl⟩ (List.Mem.head _)))) (by repeat (first | exact Dy | refine Bl rfl ?_)))) ?_
    refine e_p (v := fun ρ => (Gh.dec (γ := Value × Value × Value) (ρ 10)).2.1) (fun _ _ => Df) (Ind.gh (h := fun g => ((Gh.dec (γ := Value × Value × Value) g).2.1 : Value)) 10 0 rfl) (fun _ _ _ _ _ => rfl) ?_
    refine e_p (v := fun ρ => (Gh.dec (γ := Value × Value × Value) (ρ 10)).2.2) (fun _ _ => Df) (Ind.gh (h := fun g => ((Gh.dec (γ := Value × Value × Value) g).2.2 : Value)) 10 0 rfl) (fun _ _ _ _ _ => rfl) ?_
    refine dnl ?_; intro ρ
    refine xq_ (blk b2 30 [cv, hv, va] :: blk b21 76 (Af (Ap x) (Ay x.frames s.n)).1.cells :: blk b3 38 s.cells :: blk b4 30 [.slice none 0 0, .slice none 0 0, .slice none 0 0] :: (blk (Gh.dec (γ := Nat) (ρ 15)) 57 [(Gh.dec (γ := Value × Value × Value) (ρ 10)).1, vi (Ae (As x (Af (Ap x) (Ay x.frames s.n)).1.dst) (Af (Ap x) (Ay x.frames s.n)).1.dst (x.cores.length : Int) (Af (Ap x) (Ay x.frames s.n)).1).1.wait.kind, vi (Ae (As x (Af (Ap x) (Ay x.frames s.n)).1.dst) (Af (Ap x) (Ay x.frames s.n)).1.dst (x.cores.length : Int) (Af (Ap x) (Ay x.frames s.n)).1).1.wait.line, vi (Ae (As x (Af (Ap x) (Ay x.frames s.n)).1.dst) (Af (Ap x) (Ay x.frames s.n)).1.dst (x.cores.length : Int) (Af (Ap x) (Ay x.frames s.n)).1).1.wait.value] :: L)) ?_
    generalize (Gh.dec (γ := Value × Value × Value) (ρ 10)) = v275
    generalize (Gh.dec (γ := Nat) (ρ 15)) = b24
    refine Zak ?_
    refine An Tryz.call20 rfl (fun w hs => Mi (x := x) (i := (Af (Ap x) (Ay x.frames s.n)).1.dst) (k := (Ae (As x (Af (Ap x) (Ay x.frames s.n)).1.dst) (Af (Ap x) (Ay x.frames s.n)).1.dst (x.cores.length : Int) (Af (Ap x) (Ay x.frames s.n)).1).1) (u := v275.1) hs mm honeh honea mm (Qw hkb.wwf) (by omega)) ?_; intro v283
    refine J.know (p := v283.oneCell' = true) (fun w hs => isSlice.one (hs.fact (List.Mem.head _))) (fun honev283 => ?_)
    refine s_B (cs := [v283, hv, va]) Tryz.sizeOf30 ?_
    refine Zad ?_
    refine An Tryz.call21 rfl (fun w hs => P3 (fs := (x.frames.eraseIdx s.n.toNat)) (ms := (Ae (As x (Af (Ap x) (Ay x.frames s.n)).1.dst) (Af (Ap x) (Ay x.frames s.n)).1.dst (x.cores.length : Int) (Af (Ap x) (Ay x.frames s.n)).1).2.1) hs mm mm (Xk (by omega) (by omega) hk4 hlb hwk.2.2.2.2.1)) ?_; intro v287
    refine J.know (p := v287.oneCell' = true) (fun w hs => isSlice.one (hs.fact (List.Mem.head _))) (fun honev287 => ?_)
    refine ZH ?_
    refine Gl ?_
    refine kp [2, 4, 5, 6, 26, 289, 290] ?_
    refine ZD ?_
    refine s_B (cs := [v283, hv, v287]) Tryz.sizeOf30 ?_
    refine Ga2 ?_
    have er : Al x s = (⟨x.cores.set (Af (Ap x) (Ay x.frames s.n)).1.dst.toNat (Ae (As x (Af (Ap x) (Ay x.frames s.n)).1.dst) (Af (Ap x) (Ay x.frames s.n)).1.dst (x.cores.length : Int) (Af (Ap x) (Ay x.frames s.n)).1).1, x.home, way (x.frames.eraseIdx s.n.toNat) (Ae (As x (Af (Ap x) (Ay x.frames s.n)).1.dst) (Af (Ap x) (Ay x.frames s.n)).1.dst (x.cores.length : Int) (Af (Ap x) (Ay x.frames s.n)).1).2.1⟩, (Ae (As x (Af (Ap x) (Ay x.frames s.n)).1.dst) (Af (Ap x) (Ay x.frames s.n)).1.dst (x.cores.length : Int) (Af (Ap x) (Ay x.frames s.n)).1).2.2, 0) := by unfold Al; rw [if_neg (by omega), if_pos (by omega), if_neg hnf]; unfold Cl; rw [show Ap ⟨x.cores, x.home, (x.frames.eraseIdx s.n.toNat)⟩ = Ap x from rfl]; rw [if_neg ht242, if_neg (show ¬ (Af (Ap x) (Ay x.frames s.n)).1.dst = Bk ⟨x.cores, x.home, (x.frames.eraseIdx s.n.toNat)⟩ from ht247)]; rfl
    rw [er]
    exact Cj (v283, hv, v287, v275.2.2) Tryz.isAgg30 Tryz.sizeOf30
theorem Ads {n nl : Nat} {M : List Int} {cv hv fv : Value} {x : Chip} {s : Step} (hs : St (L) R w) (hc : sl cv x.cores ∈ R) (hh : sl hv x.home ∈ R) (hf : sl fv x.frames ∈ R) (h : Inv n nl x M) (hsw : s.wf) : Calls Tryz.prog 10 [.agg #[cv, hv, fv], .agg s.cells.toArray].toArray w (Bs (fun v : Value × Value × Value × Value => .tuple #[.agg #[v.1, v.2.1, v.2.2.1], v.2.2.2, vi (Al x s).2.2]) (fun v => L) (fun v => sl v.1 (Al x s).1.cores :: sl v.2.1 (Al x s).1.home :: sl v.2.2.1 (Al x s).1.frames :: sl v.2.2.2 (Al x s).2.1 :: R)) := by
 by_cases h1 : s.kind = 1
 ·exact Zx hs hc hh hf h hsw h1
 by_cases h2 : s.kind = 2
 ·exact Zw hs hc hh hf h hsw h2
 by_cases h3 : s.kind = 3
 ·exact Zv hs hc hh hf h hsw h3
 by_cases h4 : s.kind = 4
 ·exact Zu hs hc hh hf h hsw h4
 by_cases h5 : s.kind = 5
 ·exact Zt hs hc hh hf h hsw h5
 by_cases h6 : s.kind = 6
 ·exact Zs hs hc hh hf h hsw h6
 exact Zy hs hc hh hf h hsw ⟨h1, h2, h3, h4, h5, h6⟩
def bAt (c : Config) (l : List Step) (k : Nat) : Chip × List Done := Fq (A4 c).1 (l.take k)
theorem Kh {x : Chip} {a : Step} {l : List Step} (h : (Al x a).2.2 = 0) : Fq x (a :: l) = ((Fq (Al x a).1 l).1, (Al x a).2.1 ++ (Fq (Al x a).1 l).2) := by simp only [Fq]; rw [if_pos h]
theorem Ki {x : Chip} {a : Step} {l : List Step} (h : ¬ (Al x a).2.2 = 0) : Fq x (a :: l) = Fq x l := by simp only [Fq]; rw [if_neg h]
theorem Nc (s : Step) : ∀ (l : List Step) (x : Chip), (Al (Fq x l).1 s).2.2 = 0 → Fq x (l ++ [s]) = ((Al (Fq x l).1 s).1, (Fq x l).2 ++ (Al (Fq x l).1 s).2.1)
 | [], x, h => by
  have h' : (Al x s).2.2 = 0 := h
  rw [List.nil_append, Kh h']; simp [Fq]
 | a :: l, x, h => by
  by_cases h1 : (Al x a).2.2 = 0
  ·rw [Kh h1] at h ⊢
   rw [List.cons_append, Kh h1, Nc s l _ h]; simp
  ·rw [Ki h1] at h ⊢
   rw [List.cons_append, Ki h1]; exact Nc s l x h
theorem Pe (s : Step) : ∀ (l : List Step) (x : Chip), ¬ (Al (Fq x l).1 s).2.2 = 0 → Fq x (l ++ [s]) = Fq x l
 | [], x, h => by
  have h' : ¬ (Al x s).2.2 = 0 := h
  rw [List.nil_append, Ki h']
 | a :: l, x, h => by
  by_cases h1 : (Al x a).2.2 = 0
  ·rw [Kh h1] at h ⊢
   rw [List.cons_append, Kh h1, Pe s l _ h]
  ·rw [Ki h1] at h ⊢
   rw [List.cons_append, Ki h1]; exact Pe s l x h
theorem Yw {c : Config} {l : List Step} {k : Nat} (h : k < l.length) (h0 : (Al (bAt c l k).1 (l.getD k zStep)).2.2 = 0) : bAt c l (k + 1) = ((Al (bAt c l k).1 (l.getD k zStep)).1, (bAt c l k).2 ++ (Al (bAt c l k).1 (l.getD k zStep)).2.1) := by
 unfold bAt at h0 ⊢; rw [Es zStep h]; exact Nc _ _ _ h0
theorem Aen {c : Config} {l : List Step} {k : Nat} (h : k < l.length) (h0 : ¬ (Al (bAt c l k).1 (l.getD k zStep)).2.2 = 0) : bAt c l (k + 1) = bAt c l k := by
 unfold bAt at h0 ⊢; rw [Es zStep h]; exact Pe _ _ _ h0
theorem Yq (c : Core) (id home : Int) (o : Op) : (Aj c id home o).2.2.1.length ≤ 1 := by
 unfold Aj
 split
 ·simp
 split
 ·simp
 split
 ·simp
 split <;> simp
theorem Abd (c : Core) (id home : Int) (m : Msg) : (Ae c id home m).2.2.length ≤ 1 := by
 unfold Ae
 split
 ·simp
 split
 ·simp
 split
 ·split
  ·simp only; split <;> simp
  split <;> simp
 split
 ·split
  ·simp
  split <;> simp
 split <;> simp
theorem Aec (x : Chip) (s : Step) : (Al x s).2.1.length ≤ 1 := by
 unfold Al
 split
 ·split
  ·simp
  split
  ·simp
  ·exact Yq ..
 split
 ·split
  ·simp
  ·simp only
   unfold Cl
   split
   ·simp
   split
   ·simp
   ·exact Abd ..
 split
 ·split <;> simp
 split
 ·split <;> simp
 split
 ·split
  ·simp
  split
  ·simp
  split <;> simp
 split
 ·split
  ·simp
  split <;> simp
 ·simp
theorem Yx (c : Config) (l : List Step) : ∀ k, (bAt c l k).2.length ≤ k
 | 0 => by unfold bAt; simp [Fq]
 | k + 1 => by
  have ih := Yx c l k
  by_cases h : k < l.length
  ·by_cases h0 : (Al (bAt c l k).1 (l.getD k zStep)).2.2 = 0
   ·have := Aec (bAt c l k).1 (l.getD k zStep)
    rw [Yw h h0]
    simp only [List.length_append]; omega
   ·rw [Aen h h0]; omega
  ·unfold bAt at ih ⊢
   rw [List.take_of_length_le (by omega)]
   rw [List.take_of_length_le (by omega)] at ih
   omega
theorem Ajn {c : Config} (l : List Step) (h : (A4 c).2 = 0) (k : Nat) : ∃ n nl M, Inv n nl (bAt c l k).1 M := by
 obtain ⟨n, nl, h1, h2, _, h4⟩ := I9 h
 obtain ⟨M, h5, _⟩ := Kb (l.take k) (My h1 h2)
 exact ⟨n, nl, M, by unfold bAt; rw [h4]; exact h5⟩
theorem Rg {c : Config} (h : (A4 c).2 ≠ 0) : A4 c = (zChip, 3) := by
 unfold A4 at h ⊢
 split
 ·rfl
 ·rename_i h1; rw [if_neg h1] at h; exact absurd rfl h
theorem Ub {c : Config} {l : List Step} {k : Nat} (h : (A4 c).2 = 0) (hk : l.take k = l.take 300) : build c l = bAt c l k := by
 unfold build bAt; rw [if_neg (by rw [h]; decide), hk]
theorem Acs {c : Config} {l : List Step} (h : (A4 c).2 ≠ 0) : build c l = ((A4 c).1, []) := by
 unfold build; rw [if_pos h, Rg h]
theorem Z0 {vl : Value} {c : Config} {l : List Step} (hs : St (L) R w) (hl : sl vl l ∈ R) (hcw : c.wf) : Calls Tryz.prog 5 [.agg c.cells.toArray, vl].toArray w (Bs (fun v : Value × Value × Value × Value => .tuple #[.agg #[v.1, v.2.1, v.2.2.1], v.2.2.2]) (fun v => L) (fun v => sl v.1 (build c l).1.cores :: sl v.2.1 (build c l).1.home :: sl v.2.2.1 (build c l).1.frames :: sl v.2.2.2 (build c l).2 :: R)) := by
 have hlen := Be hl hs
 refine Ai Tryz.func5 rfl Tryz.ntmps5 rfl hs ?_
 clear hs
 refine Gm ?_
 refine bx ?_; intro b2
 refine Zc6 ?_;intro b4
 refine Gb1 ?_
 refine rn1 ?_
 refine An Tryz.call9 rfl (fun w hs => Adr (c := c) hs hcw) ?_; intro v16
 refine J.know (p := v16.1.oneCell' = true ∧ v16.2.oneCell' = true) (fun w hs => ⟨isSlice.one (hs.fact (.head _)), isSlice.one (hs.fact (.tail _ (.head _)))⟩) (fun h12 => ?_)
 obtain ⟨hone1, hone2⟩ := h12
 refine rn3 ?_
 refine Zds ?_;intro b6
 refine s_B (cs := [v16.1, v16.2, .slice none 0 0]) Tryz.sizeOf30 ?_
 refine ZG ?_
 refine cdy ?_ ?_
 ·intro ht20
  refine Gl ?_
  refine ZK ?_
  refine ZB ?_
  refine s_B (cs := [v16.1, v16.2, .slice none 0 0]) Tryz.sizeOf30 ?_
  refine Ga1 ?_
  rw [Acs ht20]
  exact Fr (v16.1, v16.2, .slice none 0 0, .slice none 0 0) Tryz.isAgg30 Tryz.sizeOf30
 ·intro ht20
  refine ZN ?_
  refine Ga3 ?_
  have hok : (A4 c).2 = 0 := Decidable.not_not.1 ht20
  have e0 : bAt c l 0 = ((A4 c).1, []) := by unfold bAt; simp [Fq]
  refine JC.rowNil 119 Done ?_
  refine A7 (γ := Nat × Value × Value × Value × Value) (fun g => g.1 ≤ l.length ∧ g.1 ≤ 300) (fun g => row 119 g.2.2.2.2 (bAt c l g.1).2 :: blk b6 30 [g.2.1, g.2.2.1, g.2.2.2.1] :: blk b4 30 [.slice none 0 0, .slice none 0 0, .slice none 0 0] :: L) (fun g => sl g.2.1 (bAt c l g.1).1.cores :: sl g.2.2.1 (bAt c l g.1).1.home :: sl g.2.2.2.1 (bAt c l g.1).1.frames :: R) (fun g => [(4, bp b4 0), (6, bp b6 0), (8, g.2.2.2.2), (22, vl), (23, vi (l.length : Int)), (24, vi (g.1 : Int))]) (fun g => l.length - g.1) (0, v16.1, v16.2, .slice none 0 0, .slice none 0 0) ⟨Nat.zero_le _, by show 0 ≤ 300; omega⟩ alT (fun w hs => by rw [e0]; exact Ag hs) ?_
  rintro ⟨k, cv, hv, fv, dv⟩ ⟨hk, hk3⟩
  try simp only at hk hk3 ⊢
  refine ZA ?_
  refine cdy ?_ ?_
  ·intro ht25
   refine Gl ?_
   refine JC.open0 (xs := l) (v := vl) k mm (by omega) (fun hsw => ?_)
   refine ZL ?_
   refine al_ (cs := zStep.cells) Tryz.zeroValue38 ?_; intro b10
   refine rn1 ?_
   refine s_B (cs := (l.getD k zStep).cells) Tryz.sizeOf38 ?_
   refine ZC ?_
   refine cdy ?_ ?_
   ·intro ht30
    exact Zfp
   ·intro ht30
    refine ZJ ?_
    obtain ⟨n, nl, M, hI⟩ := Ajn l hok k
    refine An Tryz.call10 rfl (fun w hs => Ads (x := (bAt c l k).1) (s := (l.getD k zStep)) hs mm mm mm hI hsw) ?_; intro v34
    refine J.know (p := v34.1.oneCell' = true ∧ v34.2.1.oneCell' = true ∧ v34.2.2.1.oneCell' = true) (fun w hs => ⟨isSlice.one (hs.fact (.head _)), isSlice.one (hs.fact (.tail _ (.head _))), isSlice.one (hs.fact (.tail _ (.tail _ (.head _))))⟩) (fun h12 => ?_)
    obtain ⟨hone1, hone2, hone3⟩ := h12
    refine rn4 ?_
    refine al_ (cs := [.slice none 0 0, .slice none 0 0, .slice none 0 0]) Tryz.zeroValue30 ?_; intro b11
    refine s_B (cs := [v34.1, v34.2.1, v34.2.2.1]) Tryz.sizeOf30 ?_
    refine Ga2 ?_
    refine kp [4, 5, 6, 8, 9, 10, 11, 12, 13, 22, 23, 24, 25, 26, 27, 28, 29, 30, 31, 32, 33, 34, 35, 36, 37, 38, 39] ?_
    refine ZO ?_
    refine cdy ?_ ?_
    ·intro ht39
     refine ZI ?_
     refine s_B (cs := [v34.1, v34.2.1, v34.2.2.1]) Tryz.sizeOf30 ?_
     refine ZJ ?_
     refine ap Gq (hb := fun w hs => by have : maxN = 16777216 := rfl; have h8 := Yx c l k; have h9 := Aec (bAt c l k).1 (l.getD k zStep); omega) (k := ?_); intro v43
     refine ZG ?_
     have e1 := Yw (c := c) (l := l) (k := k) (by omega) ht39
     refine Au (k + 1, v34.1, v34.2.1, v34.2.2.1, v43) ⟨by show k + 1 ≤ l.length; omega, by show k + 1 ≤ 300; omega⟩ (by show l.length - (k + 1) < l.length - k; omega) alT (fun w hs => ?_)
     try simp only
     rw [e1]; exact Ag hs
    ·intro ht39
     refine ZC ?_
     have e1 := Aen (c := c) (l := l) (k := k) (by omega) ht39
     refine Au (k + 1, cv, hv, fv, dv) ⟨by show k + 1 ≤ l.length; omega, by show k + 1 ≤ 300; omega⟩ (by show l.length - (k + 1) < l.length - k; omega) alT (fun w hs => ?_)
     try simp only
     rw [e1]; exact Ag hs
  ·intro ht25
   exact Zfp
def hE0 : List Entry := [⟨0, -1, 0, 0, 0, 0, false, 0, 0, [0, 0]⟩]
theorem Abi {m : Msg} (hs : St (L) R w) (hin : MsgIn m) : Calls Tryz.prog 71 [.agg m.cells.toArray].toArray w (Bs (fun v : Value => v) (fun v => L) (fun v => sl v (Ck m) :: R)) := by
 obtain ⟨k0, k1, k2, k3, k4, k5, k6⟩ := hin
 refine Ai Tryz.func71 rfl Tryz.ntmps71 rfl hs ?_
 clear hs
 refine Zbq ?_;intro b1
 refine ZG ?_
 refine A9 (b := ?b1) ?e1 ?_ ?_; case e1 => exact rfl
 ·intro ht7
  refine Aa ?_
  refine Gb1 ?_
  refine rn2 ?_
  refine ZdM ?_
  refine liO (α := UInt8) ([u8 m.kind, u8 (16 * m.src + m.dst % 16), u8 m.line, u8 (m.serial / 256), u8 m.serial, u8 (m.turn / 256), u8 m.turn, u8 m.value, 1, 0] : List UInt8) Fz rfl (fun j hj => ⟨⟨_, rfl, rfl⟩, ⟨_, rfl, rfl⟩, ⟨_, rfl, rfl⟩, ⟨_, rfl, rfl⟩, ⟨_, rfl, rfl⟩, ⟨_, rfl, rfl⟩, ⟨_, rfl, rfl⟩, ⟨_, rfl, rfl⟩, ⟨_, rfl, rfl⟩, ⟨_, rfl, rfl⟩, trivial⟩) ?_; intro v40
  have hxs : ([u8 m.kind, u8 (16 * m.src + m.dst % 16), u8 m.line, u8 (m.serial / 256), u8 m.serial, u8 (m.turn / 256), u8 m.turn, u8 m.value, 1, 0] : List UInt8) = Ci m := by unfold Ci; rw [ht7, show 16 * m.src + m.dst % 16 = 16 * m.src + m.dst by omega]; rfl
  rw [hxs]
  have hsm := Nu (Ci m)
  refine Ga1 ?_
  refine kp [2, 4, 5, 41, 42] ?_
  refine ZB ?_
  refine An (γ := Unit) (val := fun _ => vi (Hk (Ci m))) Tryz.call91 rfl (fun w hs => lend .hd (fun L R w hs hf _ => G1 hs hf) hs) ?_; intro _
  refine Zec ?_;intro v49
  refine ap Fz (hb := fun w hs => by have : maxN = 16777216 := rfl; rw [I6]; simp only [List.length_cons, List.length_nil]; omega) (k := ?_); intro v50
  refine Ga1 ?_
  exact Bb v50 (hs := fun w hs => Ag (St.shut (hs.pick pkk)))
 ·intro ht7
  refine ZJ ?_
  refine ZdM ?_
  refine liO (α := UInt8) ([u8 m.kind, u8 (16 * m.src + m.dst % 16), u8 m.line, u8 (m.serial / 256), u8 m.serial, u8 (m.turn / 256), u8 m.turn, u8 m.value, 0, 0] : List UInt8) Fz rfl (fun j hj => ⟨⟨_, rfl, rfl⟩, ⟨_, rfl, rfl⟩, ⟨_, rfl, rfl⟩, ⟨_, rfl, rfl⟩, ⟨_, rfl, rfl⟩, ⟨_, rfl, rfl⟩, ⟨_, rfl, rfl⟩, ⟨_, rfl, rfl⟩, ⟨_, rfl, rfl⟩, ⟨_, rfl, rfl⟩, trivial⟩) ?_; intro v40
  have hxs : ([u8 m.kind, u8 (16 * m.src + m.dst % 16), u8 m.line, u8 (m.serial / 256), u8 m.serial, u8 (m.turn / 256), u8 m.turn, u8 m.value, 0, 0] : List UInt8) = Ci m := by unfold Ci; rw [ht7, show 16 * m.src + m.dst % 16 = 16 * m.src + m.dst by omega]; rfl
  rw [hxs]
  have hsm := Nu (Ci m)
  refine Ga1 ?_
  refine kp [2, 4, 5, 41, 42] ?_
  refine ZB ?_
  refine An (γ := Unit) (val := fun _ => vi (Hk (Ci m))) Tryz.call91 rfl (fun w hs => lend .hd (fun L R w hs hf _ => G1 hs hf) hs) ?_; intro _
  refine Zec ?_;intro v49
  refine ap Fz (hb := fun w hs => by have : maxN = 16777216 := rfl; rw [I6]; simp only [List.length_cons, List.length_nil]; omega) (k := ?_); intro v50
  refine Ga1 ?_
  exact Bb v50 (hs := fun w hs => Ag (St.shut (hs.pick pkk)))
theorem Vy {c : Config} (hs : St (L) R w) : Calls Tryz.prog 37 [.agg c.cells.toArray].toArray w (Bs (fun _ : Unit => vi (Ed c)) (fun _ => L) (fun _ => R)) := by
 refine Ai Tryz.func37 rfl Tryz.ntmps37 rfl hs ?_
 clear hs
 refine Gm ?_
 refine bx ?_; intro b1
 refine Ga1 ?_
 refine Zdp ?_
 refine Cs 20 (.bool (decide ((c.cores < 1) ∨ (4 < c.cores) ∨ (c.lines < 1) ∨ (4 < c.lines)))) ?_ ?_
 ·rcases (show ((c.cores < 1)) ∨ (¬ (c.cores < 1) ∧ (4 < c.cores)) ∨ (¬ (c.cores < 1) ∧ ¬ (4 < c.cores) ∧ (c.lines < 1)) ∨ (¬ (c.cores < 1) ∧ ¬ (4 < c.cores) ∧ ¬ (c.lines < 1) ∧ (4 < c.lines)) ∨ (¬ (c.cores < 1) ∧ ¬ (4 < c.cores) ∧ ¬ (c.lines < 1) ∧ ¬ (4 < c.lines)) from by omega) with hm | hm | hm | hm | hm
  ·refine ZY ?_
   refine Ga15 ?_
   exact ZeQ
  ·refine ZaX ?_
   refine Ga11 ?_
   exact ZeQ
  ·refine Zdp ?_
   refine Zax ?_
   refine Za9 ?_
   refine Ga6 ?_
   exact ZeQ
  ·refine Zax ?_
   refine ZaJ ?_
   refine Ga1 ?_
   exact ZeQ
  ·refine Zdp ?_
   refine Zax ?_
   refine Za0 ?_
   refine Ga1 ?_
   exact ZeV
 ·refine Av ?_
  refine Gl ?_
  first | (refine cdx (p := ?p1) (hd := ?d1) ?e1 ?_ ?_; case e1 => exact rfl) | (refine A9 (b := ?b1) ?e1 ?_ ?_; case e1 => exact rfl)
  ·intro ht20
   refine ZA ?_
   have er : Ed c = 3 := by unfold Ed; rw [if_pos ht20]
   exact Zfo
  ·intro ht20
   refine ZA ?_
   have er : Ed c = 0 := by unfold Ed; rw [if_neg ht20]
   exact Zfo
theorem Acg {c : Config} (hs : St (L) R w) (hcw : c.wf) : Calls Tryz.prog 15 [.agg c.cells.toArray].toArray w (Bs (fun v : Value × Value => .tuple #[.agg #[v.1, v.2, .slice none 0 0], vi (A4 c).2]) (fun v => L) (fun v => sl v.1 (A4 c).1.cores :: sl v.2 (A4 c).1.home :: sl (.slice none 0 0) (A4 c).1.frames :: R)) := by
 refine Ai Tryz.func15 rfl Tryz.ntmps15 rfl hs ?_
 clear hs
 refine Gm ?_
 refine bx ?_; intro b1
 refine Zcq ?_;intro b2
 refine Gb1 ?_
 refine rn1 ?_
 refine An Tryz.call37 rfl (fun w hs => Vy hs) ?_; intro _
 refine ZG ?_
 refine cdy ?_ ?_
 ·intro ht9
  have h3 : Ed c = 3 := by revert ht9; unfold Ed; split <;> simp
  refine Zc4 ?_
  refine Gm ?_
  refine Zbz ?_
  refine rn1 ?_
  refine s_B Tryz.sizeOf30 ?_
  refine Ga1 ?_
  have h3 : Ed c = 3 := by revert ht9; unfold Ed; split <;> simp
  have er : A4 c = (zChip, 3) := by unfold A4; rw [if_pos ht9]
  rw [er, h3]
  exact Fr (.slice none 0 0, .slice none 0 0) Tryz.isAgg30 Tryz.sizeOf30
 ·intro ht9
  have hcg : ¬ (c.cores < 1 ∨ 4 < c.cores ∨ c.lines < 1 ∨ 4 < c.lines) := by revert ht9; unfold Ed; split <;> simp_all
  refine Zak ?_
  refine An Tryz.call38 rfl (fun w hs => Abc (cores := c.cores) (lines := c.lines) hs (by omega) (by omega)) ?_; intro v16
  refine J.know (p := v16.oneCell' = true) (fun w hs => isSlice.one (hs.fact (.head _))) (fun hone16 => ?_)
  refine rn1 ?_
  refine al_ (cs := [.slice none 0 0, .slice none 0 0, .slice none 0 0]) Tryz.zeroValue30 ?_; intro b5
  refine s_B (cs := [.slice none 0 0, v16, .slice none 0 0]) Tryz.sizeOf30 ?_
  refine ZS ?_
  refine JC.rowNil 57 Core ?_
  refine A7 (γ := Nat × Value) (fun g => (g.1 : Int) ≤ c.cores) (fun g => row 57 g.2 (List.replicate g.1 (Ej c.lines)) :: blk b5 30 [g.2, v16, .slice none 0 0] :: blk b2 30 [.slice none 0 0, .slice none 0 0, .slice none 0 0] :: blk b1 23 c.cells :: L) (fun _ => sl v16 (Mz c.cores c.lines) :: R) (fun g => [(1, bp b1 0), (2, bp b2 0), (5, bp b5 0), (19, vi c.cores), (20, vi (g.1 : Int))]) (fun g => c.cores.toNat - g.1) (0, .slice none 0 0) (by show (0 : Int) ≤ c.cores; omega) alT (fun w hs => Ag hs) ?_
  rintro ⟨k, vs⟩ hk
  try simp only at hk ⊢
  refine ZA ?_
  refine cdy ?_ ?_
  ·intro ht21
   refine Gl ?_
   refine cq_ (blk b5 30 [vs, v16, .slice none 0 0] :: row 57 vs (List.replicate k (Ej c.lines)) :: blk b2 30 [.slice none 0 0, .slice none 0 0, .slice none 0 0] :: blk b1 23 c.cells :: L) ?_
   refine jd_ (fun ρ S => blk b5 30 (bif S 8 then [(Gh.dec (γ := Value) (ρ 6)), v16, .slice none 0 0] else [vs, v16, .slice none 0 0]) :: (bif S 6 then row 57 (Gh.dec (γ := Value) (ρ 6)) ((List.replicate k (Ej c.lines)) ++ [(Ej c.lines)]) else row 57 vs (List.replicate k (Ej c.lines))) :: blk b2 30 [.slice none 0 0, .slice none 0 0, .slice none 0 0] :: blk b1 23 c.cells :: L) ?_
   refine dn1 ?_
   refine Ib (v := vs) (fun ρ S hS hB hA => by have h8 : S 8 = false := hA 8 ⟨0, rfl⟩; simp only [h8, cond_false]; exact Cz (hc := A0 pkk (by repeat (first | exact rfl | refine C5 rfl ?_))) Tryz.isAgg26) (fun _ _ _ _ _ => rfl) ?_
   refine dn2 ?_
   refine Bu (γ := Value) (val := fun v => .agg (Core.cells v (Ej c.lines)).toArray) (F := fun v => [sl v (Ej c.lines).lines]) Tryz.call39 (fun _ => rfl) (fun ρ L R w hd hs => Acc (lines := c.lines) hs (by omega)) (fun _ _ _ _ _ => rfl) ?_
   refine Fe ([(Ej c.lines)] : List Core) Q4 rfl (fun _ => rfl) rfl (fun _ => rfl) rfl rfl (fun ρ R hd j hj => ⟨⟨_, rfl, ⟨_, rfl, hj (sl (Gh.dec (γ := Value) (ρ 4)) (Ej c.lines).lines) (hd.dep (it := ⟨4, _, _, _, _⟩) (by repeat (first | exact List.Mem.head _ | refine List.Mem.tail _ ?_)) ⟨9, rfl⟩ (List.Mem.head _)), by unfold Ej zOp Op.wf Ao; simp only; omega⟩⟩, trivial⟩) (fun _ _ _ _ _ => rfl) ?_
   refine Fi (e := 57) (xs := (List.replicate k (Ej c.lines))) (ys := [(Ej c.lines)]) (v := vs) Q4 (fun _ => rfl) (fun _ => rfl) rfl (by decide) (fun ρ R hd => (hd.dep (it := ⟨5, _, _, _, _⟩) (by repeat (first | exact List.Mem.head _ | refine List.Mem.tail _ ?_)) ⟨9, rfl⟩ (List.Mem.head _))) (by have : maxN = 16777216 := rfl; simp only [List.length_cons, List.length_nil, List.length_replicate]; omega) (fun ρ g S hS hB hA => ?_) ?_
   ·have ui : upS S 6 6 = true := rfl; have u8 : upS S 6 8 = S 8 := rfl; have h8 : S 8 = false := hA 8 ⟨0, rfl⟩; have rs : (Gh.dec (γ := Value) (Rho.set ρ 6 (Gh.enc g) 6)) = g := rfl
    simp only [ui, hS, u8, h8, rs, cond_true, cond_false]
    exact pex
   refine dn1 ?_
   refine Eb (T0 := 30) (f := 0) (vs := fun ρ => [vs, v16, .slice none 0 0]) (v := fun ρ => (Gh.dec (γ := Value) (ρ 6))) (fun ρ => b5) Tryz.sizeOf26 (fun _ => rfl) (fun _ => rfl) (fun ρ S R w L9 hB hd hs => by have h6 : S 6 = true := hB 6 ⟨9, rfl⟩; simp only [h6, cond_true] at hs; exact Bx pkk hs) (fun _ => rfl) (fun ρ g S hS hB hA => ?_) ?_
   ·have ui : upS S 8 8 = true := rfl; have u6 : upS S 8 6 = S 6 := rfl; have r6 : Rho.set ρ 8 g 6 = ρ 6 := rfl
    simp only [ui, hS, u6, r6, cond_true, cond_false]
    exact pex
   refine dnl ?_; intro ρ
   refine xq_ (blk b5 30 [(Gh.dec (γ := Value) (ρ 6)), v16, .slice none 0 0] :: row 57 (Gh.dec (γ := Value) (ρ 6)) ((List.replicate k (Ej c.lines)) ++ [(Ej c.lines)]) :: blk b2 30 [.slice none 0 0, .slice none 0 0, .slice none 0 0] :: blk b1 23 c.cells :: L) ?_
   generalize (Gh.dec (γ := Value) (ρ 4)) = v26
   generalize (Gh.dec (γ := Value) (ρ 5)) = v27
   generalize (Gh.dec (γ := Value) (ρ 6)) = v28
   refine ZC ?_
   refine Au (k + 1, v28) (by show ((k + 1 : Nat) : Int) ≤ c.cores; omega) (by show c.cores.toNat - (k + 1) < c.cores.toNat - k; omega) alT (fun w hs => ?_)
   try simp only
   rw [Lr]; exact Ag hs
  ·intro ht21
   refine Gl ?_
   refine JC.know (p := vs.oneCell' = true) (fun w hs => Bx .hd hs) (fun hones => ?_)
   refine JC.shut (v := vs) .hd ?_
   refine JC.slNil (List UInt8) ?_
   refine ZB ?_
   refine s_B (cs := [vs, v16, .slice none 0 0]) Tryz.sizeOf30 ?_
   refine Ga1 ?_
   have er : A4 c = (⟨List.replicate k (Ej c.lines), Mz c.cores c.lines, []⟩, 0) := by unfold A4; rw [if_neg ht9, show c.cores.toNat = k by omega]
   rw [er]
   exact Fr (vs, v16) Tryz.isAgg30 Tryz.sizeOf30
theorem Aiv {b : Nat} {cv hv fv : Value} {x : Chip} (hs : St (row 57 cv x.cores :: blk b 30 [cv, hv, fv] :: L) R w) (hhv : sl hv x.home ∈ R) : Calls Tryz.prog 74 [bp b 0].toArray w (Bs (fun _ : Unit => .agg (Ap x).cells.toArray) (fun _ => row 57 cv x.cores :: blk b 30 [cv, hv, fv] :: L) (fun _ => R)) := by
 refine Ai Tryz.func74 rfl Tryz.ntmps74 rfl hs ?_
 clear hs
 refine Gm ?_
 refine al_ (cs := zConfig.cells) Tryz.zeroValue23 ?_; intro b2
 refine Gl ?_
 refine cq_ (blk b2 23 zConfig.cells :: row 57 cv x.cores :: blk b 30 [cv, hv, fv] :: L) ?_
 refine jd_ (fun ρ S => blk b2 23 (bif S 11 then [vi (x.cores.length : Int), vi (x.home.length : Int)] else zConfig.cells) :: row 57 cv x.cores :: blk b 30 [cv, hv, fv] :: L) ?_
 refine Zet ?_;intro ρ
 refine xq_ (blk b2 23 [vi (x.cores.length : Int), vi (x.home.length : Int)] :: row 57 cv x.cores :: blk b 30 [cv, hv, fv] :: L) ?_
 refine Gl ?_
 exact Mh () Tryz.isAgg23 Tryz.sizeOf23
theorem Aco {b : Nat} {cv hv fv : Value} {x : Chip} (hs : St (blk b 30 [cv, hv, fv] :: L) R w) (hcv : sl cv x.cores ∈ R) (hhv : sl hv x.home ∈ R) : Calls Tryz.prog 74 [bp b 0].toArray w (Bs (fun _ : Unit => .agg (Ap x).cells.toArray) (fun _ => blk b 30 [cv, hv, fv] :: L) (fun _ => R)) := by
 refine Ai Tryz.func74 rfl Tryz.ntmps74 rfl hs ?_
 clear hs
 refine Gm ?_
 refine al_ (cs := zConfig.cells) Tryz.zeroValue23 ?_; intro b2
 refine Gl ?_
 refine cq_ (blk b2 23 zConfig.cells :: blk b 30 [cv, hv, fv] :: L) ?_
 refine jd_ (fun ρ S => blk b2 23 (bif S 11 then [vi (x.cores.length : Int), vi (x.home.length : Int)] else zConfig.cells) :: blk b 30 [cv, hv, fv] :: L) ?_
 refine Zet ?_;intro ρ
 refine xq_ (blk b2 23 [vi (x.cores.length : Int), vi (x.home.length : Int)] :: blk b 30 [cv, hv, fv] :: L) ?_
 refine Gl ?_
 exact Mh () Tryz.isAgg23 Tryz.sizeOf23
theorem Kl {b : Nat} {cv hv fv vm : Value} {fs : Frames} {ms : List Msg} (hs : St (blk b 30 [cv, hv, fv] :: L) R w) (hfv : sl fv fs ∈ R) (hvm : sl vm ms ∈ R) (hmi : ∀ a ∈ ms, MsgIn a) : Calls Tryz.prog 42 [bp b 0, vm].toArray w (Bs (fun v : Value => .tuple #[]) (fun v => blk b 30 [cv, hv, v] :: L) (fun v => sl v (way fs ms) :: R)) := by
 have hlen := Be hvm hs
 refine Ai Tryz.func42 rfl Tryz.ntmps42 rfl hs ?_
 clear hs
 refine ZS ?_
 refine A7 (γ := Nat × Value) (fun g => g.1 ≤ ms.length) (fun g => blk b 30 [cv, hv, g.2] :: L) (fun g => sl g.2 (way fs (ms.take g.1)) :: R) (fun g => [(0, bp b 0), (6, vm), (7, vi (ms.length : Int)), (8, vi (g.1 : Int))]) (fun g => ms.length - g.1) (0, fv) (Nat.zero_le _) alT (fun w hs => hs.sub .refl (fun f hf => by rcases List.mem_cons.1 hf with e | e; rw [e]; exact hfv; exact e)) ?_
 rintro ⟨k, gv⟩ hk
 try simp only at hk ⊢
 refine ZA ?_
 refine cdy ?_ ?_
 ·intro ht9
  refine Gl ?_
  refine JC.open0 (xs := ms) (v := vm) k mm (by omega) (fun hmw => ?_)
  have hkm : (ms.getD k zMsg) ∈ ms := by rw [List.getD_eq_getElem?_getD, List.getElem?_eq_getElem (by omega)]; exact List.getElem_mem _
  refine ZD ?_
  refine al_ (cs := zMsg.cells) Tryz.zeroValue76 ?_; intro b5
  refine s_B (cs := (ms.getD k zMsg).cells) Tryz.sizeOf76 ?_
  refine Gl ?_
  refine cq_ (blk b 30 [cv, hv, gv] :: blk b5 76 (ms.getD k zMsg).cells :: L) ?_
  refine jd_ (fun ρ S => blk b 30 (bif S 10 then [cv, hv, (Gh.dec (γ := Value) (ρ 7))] else [cv, hv, gv]) :: blk b5 76 (ms.getD k zMsg).cells :: L) ?_
  refine dn4 ?_
  refine Ib (v := gv) (fun ρ S hS hB hA => by have h10 : S 10 = false := hA 10 ⟨0, rfl⟩; simp only [h10, cond_false]; exact Cz (hc := A0 pkk (by repeat (first | exact rfl | refine C5 rfl ?_))) Tryz.isAgg28) (fun _ _ _ _ _ => rfl) ?_
  refine dn1 ?_
  refine Bu (γ := Value) (val := fun v => v) (F := fun v => [sl v (Ck (ms.getD k zMsg))]) Tryz.call71 (fun _ => rfl) (fun ρ L R w hd hs => Abi hs (hmi _ hkm)) (fun _ _ _ _ _ => rfl) ?_
  refine Bu (γ := Value) (val := fun v => v) (F := fun v => [sl v (Dn (way fs (ms.take k)) (Ck (ms.getD k zMsg)))]) Tryz.call70 (fun _ => rfl) (fun ρ L R w hd hs => frz (Tm hs (hd.base mm) (hd.dep (it := ⟨6, _, _, _, _⟩) (by repeat (first | exact List.Mem.head _ | refine List.Mem.tail _ ?_)) ⟨9, rfl⟩ (List.Mem.head _)))) (fun ρ g S hS hA => by have u10 : upS S 7 10 = S 10 := rfl; have h10 : S 10 = false := hA 10 ⟨0, rfl⟩; simp only [u10, h10, cond_false]) ?_
  refine dn2 ?_
  refine Eb (T0 := 30) (f := 2) (vs := fun ρ => [cv, hv, gv]) (v := fun ρ => (Gh.dec (γ := Value) (ρ 7))) (fun ρ => b) Tryz.sizeOf28 (fun _ => rfl) (fun _ => rfl) (fun ρ S R w L9 hB hd hs => isSlice.one (hs.fact (hd.dep (it := ⟨7, _, _, _, _⟩) (by repeat (first | exact List.Mem.head _ | refine List.Mem.tail _ ?_)) ⟨9, rfl⟩ (List.Mem.head _)))) (fun _ => rfl) (fun ρ g S hS hB hA => ?_) ?_
  ·have ui : upS S 10 10 = true := rfl; have r7 : Rho.set ρ 10 g 7 = ρ 7 := rfl
   simp only [ui, hS, r7, cond_true, cond_false]
   exact pex
  refine dnl ?_; intro ρ
  refine xq_ (blk b 30 [cv, hv, (Gh.dec (γ := Value) (ρ 7))] :: blk b5 76 (ms.getD k zMsg).cells :: L) ?_
  generalize (Gh.dec (γ := Value) (ρ 6)) = v18
  generalize (Gh.dec (γ := Value) (ρ 7)) = v19
  refine ZC ?_
  refine Au (k + 1, v19) (by show k + 1 ≤ ms.length; omega) (by show ms.length - (k + 1) < ms.length - k; omega) alT (fun w hs => ?_)
  try simp only
  rw [Es zMsg (by omega), I0]; exact Ag hs
 ·intro ht9
  refine Gl ?_
  have hkl : k = ms.length := by omega
  refine Bg (.inl rfl) (fun B w hs => H6 rfl _ w) (fun w hs => ⟨gv, rfl, by rw [hkl, List.take_length] at hs; exact Ag hs⟩)
def SB (x : Chip) (N : Nat) : Prop := ∀ c ∈ x.cores, ∀ l ∈ c.lines, l.serial ≤ (N : Int)
theorem SB.mono {x : Chip} {N K : Nat} (h : SB x N) (hk : N ≤ K) : SB x K := fun c hc l hl => Int.le_trans (h c hc l hl) (by omega)
theorem SB.set {x : Chip} {N : Nat} {p : Nat} {c : Core} (h : SB x N) (hc : ∀ l ∈ c.lines, l.serial ≤ (N : Int)) {hm : List Entry} {fr : Frames} : SB ⟨x.cores.set p c, hm, fr⟩ N := by
 intro d hd l hl
 rcases List.mem_or_eq_of_mem_set hd with h1 | h1
 ·exact h d h1 l hl
 ·subst h1; exact hc l hl
theorem SB.line {c : Core} {N : Int} (h : ∀ l ∈ c.lines, l.serial ≤ N) (h0 : 0 ≤ N) (i : Int) : (Ac c i).serial ≤ N := by
 unfold Ac
 rw [List.getD_eq_getElem?_getD]
 cases e : c.lines[i.toNat]? with
 | none => exact h0
 | some l => exact h l (List.mem_of_getElem? e)
theorem SB.at {x : Chip} {N : Nat} (h : SB x N) (p : Int) : ∀ l ∈ (As x p).lines, l.serial ≤ (N : Int) := by
 unfold As
 rw [List.getD_eq_getElem?_getD]
 cases e : x.cores[p.toNat]? with
 | none => intro l hl; cases hl
 | some c => exact h c (List.mem_of_getElem? e)
theorem SB.wl {c : Core} {N K : Int} (h : ∀ l ∈ c.lines, l.serial ≤ N) (hk : N ≤ K) {i : Int} {l : Line} {w : Op} (hl : l.serial ≤ K) : ∀ l' ∈ (A6 c i l w).lines, l'.serial ≤ K := by
 intro l' h'
 rcases List.mem_or_eq_of_mem_set h' with h1 | h1
 ·exact Int.le_trans (h l' h1) hk
 ·subst h1; exact hl
theorem SB.hear {c : Core} {N : Nat} (h : ∀ l ∈ c.lines, l.serial ≤ (N : Int)) {id home : Int} {m : Msg} : ∀ l ∈ (Ae c id home m).1.lines, l.serial ≤ (N : Int) := by
 have h0 := SB.line h (by omega) m.line
 unfold Ae
 split
 ·exact h
 split
 ·refine SB.wl h (Int.le_refl _) ?_
  unfold Db; split <;> (try split) <;> exact h0
 split
 ·split
  ·refine SB.wl h (Int.le_refl _) ?_
   unfold Cw; split <;> (try split) <;> exact h0
  split <;> exact h
 split
 ·split
  ·exact h
  split
  ·exact SB.wl h (Int.le_refl _) h0
  ·exact h
 split
 ·exact SB.wl h (Int.le_refl _) h0
 ·exact h
theorem SB.begin {c : Core} {N : Nat} (h : ∀ l ∈ c.lines, l.serial ≤ (N : Int)) {id home : Int} {o : Op} : ∀ l ∈ (Aj c id home o).1.lines, l.serial ≤ ((N + 1 : Nat) : Int) := by
 have h0 := SB.line h (by omega) o.line
 have h1 : (A1 (Ac c o.line) o).serial ≤ ((N + 1 : Nat) : Int) := by
  unfold A1
  split <;> (try split) <;> (simp only; omega)
 unfold Aj
 split
 ·intro l hl; cases hl
 split
 ·intro l hl; cases hl
 split
 ·intro l hl; cases hl
 split
 ·exact SB.wl h (by omega) h1
 ·exact SB.wl h (by omega) h1
theorem SB.zero {N : Nat} : SB zChip N := fun c hc => by cases hc
theorem SB.step {x : Chip} {N : Nat} (h : SB x N) (s : Step) : SB (Al x s).1 (N + 1) := by
 have hc : ∀ fr b, SB (Cl ⟨x.cores, x.home, fr⟩ b).1 N := by
  intro fr b
  unfold Cl
  split
  ·exact h
  split
  ·exact h
  ·exact SB.set h (SB.hear (SB.at h _))
 unfold Al
 split
 ·split
  ·exact SB.zero
  split
  ·exact SB.zero
  ·exact SB.set (h.mono (by omega)) (SB.begin (SB.at h _))
 split
 ·split
  ·exact SB.zero
  ·exact (hc _ _).mono (by omega)
 split
 ·split
  ·exact SB.zero
  ·exact Zga
 split
 ·split
  ·exact SB.zero
  ·exact Zga
 split
 ·split
  ·exact SB.zero
  split
  ·exact SB.zero
  split
  ·exact SB.zero
  ·exact Zga
 split
 ·split
  ·exact SB.zero
  split
  ·exact Zga
  ·exact Zga
 ·exact SB.zero
theorem SB.all : ∀ (l : List Step) {x : Chip} {N : Nat}, SB x N → SB (Fq x l).1 (N + l.length)
 | [], _, _, h => h
 | s :: r, x, N, h => by
  unfold Fq
  split
  ·refine (SB.all r (SB.step h s)).mono ?_
   rw [List.length_cons]; omega
  ·exact (SB.all r h).mono (by rw [List.length_cons]; omega)
theorem SB.build (c : Config) (l : List Step) : SB (build c l).1 300 := by
 unfold Go.Proofs.YtbigiimomnfpdaaGreat.build
 split
 ·exact SB.zero
 ·rename_i hg
  have h0 : SB (A4 c).1 0 := by
   intro k hk l hl
   unfold A4 at hk
   split at hk
   ·cases hk
   ·have e := List.eq_of_mem_replicate hk
    subst e
    have e2 := List.eq_of_mem_replicate hl
    subst e2
    exact Int.le_refl _
  refine (SB.all (l.take 300) h0).mono ?_
  rw [List.length_take]; omega
section
variable {n nl : Nat} {x : Chip} {M : List Int}
end
section
variable {n nl : Nat} {x : Chip} {M : List Int}
def once (x : Chip) (k : Int) : Chip × List Done × Int := Al x ⟨2, 0, k, 0, zOp⟩
end
theorem X3 {v u : Value} {cs : List Core} {i : Nat} (c : Core) (hu : sl u c.lines ∈ R) (hw : c.wait.wf) (hs : St (foc 57 v cs i (Core.cells u c) :: L) R w) : St (row 57 v (cs.set i c) :: L) R w := hs.unfocus (fun j hj => ⟨u, rfl, hj _ hu, hw⟩)
theorem Q9 {v u : Value} {cs : List Core} {i : Nat} (hu : sl u (cs.getD i Er).lines ∈ R) (hw : (cs.getD i Er).wait.wf) (hs : St (foc 57 v cs i (Core.cells u (cs.getD i Er)) :: L) R w) : St (row 57 v cs :: L) R w := by
 have h := X3 _ hu hw hs
 rwa [J1] at h
theorem Md {id : Int} : ∀ (l : List Entry) (i : Int), (∀ k, k < l.length → ∀ a ∈ Fm (l.getD k Az) (i + (k : Int)) id, MsgIn a) → ∀ a ∈ C1 id i l, MsgIn a
 | [], i, h, a, ha => by cases ha
 | e :: r, i, h, a, ha => by
  simp only [C1, List.mem_append] at ha
  rcases ha with ha | ha
  ·exact h 0 (by simp) a (by simpa using ha)
  ·refine Md r (i + 1) (fun k hk a ha => h (k + 1) (by simpa using hk) a ?_) a ha
   rw [show i + ((k + 1 : Nat) : Int) = i + 1 + (k : Int) by omega]; exact ha
def Lg (x : Chip) (node : Int) : Int := if node < 0 ∨ Bk x < node then 5 else 0
def Ff (x : Chip) (node : Int) : Frames := if node < 0 ∨ Bk x < node then x.frames else if node = Bk x then way x.frames (Gd x.home node) else way x.frames (Dl (As x node) node (Bk x))
def Lh (x : Chip) (s : Step) : Frames × Int := if Cn x s.n then ([], 5) else if (Af (Ap x) (Ay x.frames s.n)).2 ≠ 0 then ([], 6) else Cg x.frames s.n s.bit
theorem Vz {b : Nat} {cv hv fv : Value} {x : Chip} {node : Int} {n nl : Nat} {M : List Int} (hs : St (row 57 cv x.cores :: blk b 30 [cv, hv, fv] :: L) R w) (hhv : sl hv x.home ∈ R) (hfv : sl fv x.frames ∈ R) (h : Inv n nl x M) : Calls Tryz.prog 47 [bp b 0, vi node].toArray w (Bs (fun v : Value => vi (Lg x node)) (fun v => row 57 cv x.cores :: blk b 30 [cv, hv, v] :: L) (fun v => sl v (Ff x node) :: R)) := by
 have hnc := h.nc
 have hnh := h.nh
 have hn1 := h.n1
 have hn2 := h.l1
 refine Ai Tryz.func47 rfl Tryz.ntmps47 rfl hs ?_
 clear hs
 refine ZA ?_
 rcases (show (node < 0) ∨ (0 ≤ node ∧ (x.cores.length : Int) < node) ∨ (0 ≤ node ∧ node ≤ (x.cores.length : Int)) from by omega) with hc | hc | hc
 ·refine ZB ?_
  refine D5 ?_
  refine Gd10 ?_
  exact ZfN
 ·refine Zay ?_
  refine rn7 ?_
  refine gy ?_
  refine Fo ?_
  refine Gd2 ?_
  exact ZfN
 ·refine Zay ?_
  refine rn7 ?_
  refine gy ?_
  refine Dz ?_
  refine Gd2 ?_
  refine Ga8 ?_
  refine cdy ?_ ?_
  ·intro ht33
   refine Zar ?_
   refine An Tryz.call78 rfl (fun w hs => U6 (l := x.home) (id := node) hs mm (fun i hi => (h.ebs i hi).1) (by omega) (by unfold Ao; omega)) ?_; intro vt
   refine An Tryz.call42 rfl (fun w hs => Kl (cv := cv) (hv := hv) (fv := fv) (fs := x.frames) (ms := Gd x.home node) (Ag (L' := blk b 30 [cv, hv, fv] :: row 57 cv x.cores :: L) hs) mm mm (Md _ 0 (fun k hk a ha => h.says_in k hk a (by rw [Int.zero_add] at ha; rw [← hnc, ← ht33]; exact ha)))) ?_; intro vs
   refine ZA ?_
   have er : Lg x node = 0 ∧ Ff x node = way x.frames (Gd x.home node) := by unfold Lg Ff Bk; rw [if_neg (by omega), if_neg (by omega), if_pos ht33]; exact ⟨rfl, rfl⟩
   rw [er.1, er.2]
   exact Bb vs
  ·intro ht33
   refine JC.focus1 (T := 57) (v := cv) (xs := x.cores) node.toNat pkk (by omega) (fun hwt u => ?_)
   have hkb : KB (As x node) := h.kb (p := node.toNat) (by omega)
   have hlb := h.lbs (p := node) (by omega)
   refine Zao ?_
   refine dj ?_
   refine dc (fun _ _ => Im (v := cv) (i := node) P1 (hl := Dj (α := Core) (xs := x.cores) pkk)) ?_
   refine djc (fun _ _ => Y3 (cs := Core.cells u (As x node)) Tryz.isAgg57 Tryz.sizeOf57) ?_
   refine dn5 ?_
   refine djc (fun _ _ => Nq Tryz.underlying26 rfl (Dj (α := Core) (xs := x.cores) pkk)) ?_
   refine dj ?_
   refine Q7 (γ := Value) (val := fun v => v) (F := fun v => [sl v (Dl (As x node) node (x.cores.length : Int))]) (C := fun _ => []) Tryz.call79 (fun _ => rfl) (fun _ _ _ _ => rfl) (fun ρ L R w hd hs => Vp (c := (As x node)) (id := node) (home := (x.cores.length : Int)) (u := u) hs (hd.base mm) (by have := hkb.n; omega) (by unfold Ao; omega) (by unfold Ao; omega)) ?_
   refine dtl ?_; intro ρ
   have hkn := hkb.n
   generalize (Gh.dec (γ := Value) (ρ 14)) = vt
   refine An Tryz.call42 rfl (fun w hs => Kl (cv := cv) (hv := hv) (fv := fv) (fs := x.frames) (ms := (Dl (As x node) node (x.cores.length : Int))) (Ag (L' := blk b 30 [cv, hv, fv] :: foc 57 cv x.cores node.toNat (Core.cells u (As x node)) :: L) hs) mm mm (Oj (by omega) (by omega) _ 0 (by omega) (by omega) (Tx (d := zLine) hlb))) ?_; intro vs
   refine Gl ?_
   refine kp [4] ?_
   refine ZW ?_
   have er : Lg x node = 0 ∧ Ff x node = way x.frames (Dl (As x node) node (x.cores.length : Int)) := by unfold Lg Ff Bk; rw [if_neg (by omega), if_neg (by omega), if_neg ht33]; exact ⟨rfl, rfl⟩
   rw [er.1, er.2]
   exact Bb vs (hs := fun w hs => Ag (Q9 mm hwt (hs.pick pkk)))
theorem V0 {b : Nat} {cv hv fv : Value} {x : Chip} {s : Step} (hs : St (blk b 30 [cv, hv, fv] :: L) R w) (hcv : sl cv x.cores ∈ R) (hhv : sl hv x.home ∈ R) (hfv : sl fv x.frames ∈ R) (hsn : s.wf) : Calls Tryz.prog 46 [bp b 0, .agg s.cells.toArray].toArray w (Bs (fun v : Value => .tuple #[v, vi (Lh x s).2]) (fun v => blk b 30 [cv, hv, fv] :: L) (fun v => sl v (Lh x s).1 :: R)) := by
 refine Ai Tryz.func46 rfl Tryz.ntmps46 rfl hs ?_
 clear hs
 refine Zap ?_;intro b3
 refine Ga2 ?_
 rcases (show (Cn x s.n) ∨ (¬ Cn x s.n) from by exact Decidable.em _) with hc | hc
 ·refine Zdj ?_;intro hnt
  refine Zer ?_
  refine Bu (γ := Value × Value) (val := fun v => .tuple #[v.1, v.2, vi 5]) (F := fun v => [sl v.1 ([] : Frames), sl v.2 ([] : List UInt8)]) Tryz.call43 (fun _ => rfl) (fun ρ L R w hd hs => by have h := I4 (l := x.frames) (n := s.n) hs (hd.base mm) hsn.2.2.1; rw [hnt] at h; exact frz h) (fun _ _ _ _ _ => rfl) ?_
  refine e_p (v := fun ρ => .tuple #[(Gh.dec (γ := Value × Value) (ρ 6)).1, (Gh.dec (γ := Value × Value) (ρ 6)).2, vi 5]) (fun _ _ => Ls) (Ind.gh (h := fun g => (.tuple #[(Gh.dec (γ := Value × Value) g).1, (Gh.dec (γ := Value × Value) g).2, vi 5] : Value)) 6 0 rfl) (fun _ _ _ _ _ => rfl) ?_
  refine ZcF ?_
  refine Jy (v := vi 5) (fun _ _ => q_x) (fun _ _ _ _ _ => rfl) ?_
  refine ZcG ?_
  refine Jy (v := vi 5) (fun _ _ => Df) (fun _ _ _ _ _ => rfl) ?_
  refine dnl ?_; intro ρ
  refine xq_ (blk b3 38 s.cells :: blk b 30 [cv, hv, fv] :: L) ?_
  generalize (Gh.dec (γ := Value × Value) (ρ 6)) = vq
  refine ZI ?_
  refine ob (Am rfl rfl (E4 (by decide))) ?_
  refine Glc ?_
  refine JC.slNil (List UInt8) ?_
  refine ZaD ?_
  have er : Lh x s = ([], 5) := by unfold Lh; rw [if_pos hc]
  rw [er]
  exact Ce (.slice none 0 0)
 ·refine ZcZ ?_;intro hnt
  refine Zer ?_
  refine Bu (γ := Value × Value) (val := fun v => .tuple #[v.1, v.2, vi 0]) (F := fun v => [sl v.1 (x.frames.eraseIdx s.n.toNat), sl v.2 (Ay x.frames s.n)]) Tryz.call43 (fun _ => rfl) (fun ρ L R w hd hs => by have h := I4 (l := x.frames) (n := s.n) hs (hd.base mm) hsn.2.2.1; rw [hnt] at h; exact frz h) (fun _ _ _ _ _ => rfl) ?_
  refine e_p (v := fun ρ => .tuple #[(Gh.dec (γ := Value × Value) (ρ 6)).1, (Gh.dec (γ := Value × Value) (ρ 6)).2, vi 0]) (fun _ _ => Ls) (Ind.gh (h := fun g => (.tuple #[(Gh.dec (γ := Value × Value) g).1, (Gh.dec (γ := Value × Value) g).2, vi 0] : Value)) 6 0 rfl) (fun _ _ _ _ _ => rfl) ?_
  refine ZcF ?_
  refine Jy (v := vi 0) (fun _ _ => q_x) (fun _ _ _ _ _ => rfl) ?_
  refine ZcG ?_
  refine Jy (v := vi 0) (fun _ _ => Df) (fun _ _ _ _ _ => rfl) ?_
  refine dnl ?_; intro ρ
  refine xq_ (blk b3 38 s.cells :: blk b 30 [cv, hv, fv] :: L) ?_
  generalize (Gh.dec (γ := Value × Value) (ρ 6)) = vq
  refine ZI ?_
  refine ob (Am rfl rfl (C0 rfl)) ?_
  refine Gmc ?_
  refine rn1 ?_
  refine An Tryz.call74 rfl (fun w hs => Aco (x := x) (cv := cv) (hv := hv) (fv := fv) (Ag (L' := blk b 30 [cv, hv, fv] :: blk b3 38 s.cells :: L) hs) mm mm) ?_; intro _
  refine rn1 ?_
  refine An Tryz.call73 rfl (fun w hs => Ty (c := Ap x) (b := Ay x.frames s.n) hs mm) ?_; intro _
  refine rn3 ?_
  refine al_ (cs := zMsg.cells) Tryz.zeroValue76 ?_; intro b9
  refine Zdn ?_
  refine cdy ?_ ?_
  ·intro ht33
   refine Gl ?_
   refine JC.slNil (List UInt8) ?_
   refine kp [0, 3, 4, 5] ?_
   refine ZO ?_
   have er : Lh x s = ([], 6) := by unfold Lh; rw [if_neg hc, if_pos ht33]
   rw [er]
   exact Ce (.slice none 0 0)
  ·intro ht33
   refine Gl ?_
   refine kp [0, 3, 4, 5, 34, 35, 36, 37, 38, 39, 40, 41, 42, 43, 44] ?_
   refine cq_ (blk b9 76 (Af (Ap x) (Ay x.frames s.n)).1.cells :: blk b3 38 s.cells :: blk b 30 [cv, hv, fv] :: L) ?_
   refine jd_ (fun ρ S => blk b9 76 (Af (Ap x) (Ay x.frames s.n)).1.cells :: blk b3 38 s.cells :: blk b 30 [cv, hv, fv] :: L) ?_
   refine dn8 ?_
   refine Bu (γ := Value) (val := fun v => .tuple #[v, vi (Cg x.frames s.n s.bit).2]) (F := fun v => [sl v (Cg x.frames s.n s.bit).1]) Tryz.call77 (fun _ => rfl) (fun ρ L R w hd hs => frz (W1 (l := x.frames) (n := s.n) (bit := s.bit) hs (hd.base mm) hsn.2.2.1 hsn.2.2.2.1)) (fun _ _ _ _ _ => rfl) ?_
   refine e_p (v := fun ρ => (Gh.dec (γ := Value) (ρ 8))) (fun _ _ => q_x) (Ind.gh (h := fun g => ((Gh.dec (γ := Value) g) : Value)) 8 0 rfl) (fun _ _ _ _ _ => rfl) ?_
   refine Jy (v := vi (Cg x.frames s.n s.bit).2) (fun _ _ => q_x) (fun _ _ _ _ _ => rfl) ?_
   refine epg 8 0 ?_
   refine Jy (v := vi (Cg x.frames s.n s.bit).2) (fun _ _ => Df) (fun _ _ _ _ _ => rfl) ?_
   refine dnl ?_; intro ρ
   refine xq_ (blk b9 76 (Af (Ap x) (Ay x.frames s.n)).1.cells :: blk b3 38 s.cells :: blk b 30 [cv, hv, fv] :: L) ?_
   generalize (Gh.dec (γ := Value) (ρ 8)) = vz
   refine Gl ?_
   have er : Lh x s = (Cg x.frames s.n s.bit) := by unfold Lh; rw [if_neg hc, if_neg ht33]
   rw [er]
   exact Ce vz
theorem fs_A {a b p : Fact} {R : List Fact} (ha : a ∈ R) (hb : b ∈ R) : ∀ f ∈ a :: b :: p :: R, f ∈ p :: R := fun f hf => by
 simp only [List.mem_cons] at hf ⊢
 rcases hf with e | e | e | e
 ·rw [e]; exact .inr ha
 ·rw [e]; exact .inr hb
 ·exact .inl e
 ·exact .inr e
theorem fs_B {a p q : Fact} {R : List Fact} (ha : a ∈ R) : ∀ f ∈ a :: p :: q :: R, f ∈ p :: q :: R := fun f hf => by
 simp only [List.mem_cons] at hf ⊢
 rcases hf with e | e | e | e
 ·rw [e]; exact .inr (.inr ha)
 ·exact .inl e
 ·exact .inr (.inl e)
 ·exact .inr (.inr e)
theorem Ym {b : Nat} {cv hv fv : Value} {x : Chip} {vb : Value} {bt : List UInt8} {n nl : Nat} {M : List Int} (hs : St (row 57 cv x.cores :: blk b 30 [cv, hv, fv] :: L) R w) (hhv : sl hv x.home ∈ R) (hfv : sl fv x.frames ∈ R) (hvb : sl vb bt ∈ R) (h : Inv n nl x M) : Calls Tryz.prog 44 [bp b 0, vb].toArray w (Bs (fun g : Value × Value × Value => g.2.2) (fun g => row 57 cv (Cl x bt).1.cores :: blk b 30 [cv, g.1, g.2.1] :: L) (fun g => sl g.1 (Cl x bt).1.home :: sl g.2.1 (Cl x bt).1.frames :: sl g.2.2 (Cl x bt).2 :: R)) := by
 have hnc := h.nc
 have hnh := h.nh
 have hn1 := h.n1
 have hn2 := h.l1
 have honec : cv.oneCell' = true := Bx .hd hs
 have honeh : hv.oneCell' = true := isSlice.one (hs.fact hhv)
 have honef : fv.oneCell' = true := isSlice.one (hs.fact hfv)
 have hn64 : Ao (x.cores.length : Int) := by unfold Ao; omega
 refine Ai Tryz.func44 rfl Tryz.ntmps44 rfl hs ?_
 clear hs
 refine ZN ?_
 refine rn1 ?_
 refine An Tryz.call74 rfl (fun w hs => Aiv (x := x) (cv := cv) (hv := hv) (fv := fv) hs mm) ?_; intro _
 refine rn1 ?_
 refine An Tryz.call73 rfl (fun w hs => Ty (c := Ap x) (b := bt) hs mm) ?_; intro _
 refine rn3 ?_
 refine al_ (cs := zMsg.cells) Tryz.zeroValue76 ?_; intro b5
 refine s_B (cs := (Af (Ap x) bt).1.cells) Tryz.sizeOf76 ?_
 refine ZG ?_
 refine cdy ?_ ?_
 ·intro ht21
  refine Gl ?_
  refine ZK ?_
  refine ZW ?_
  have er : Cl x bt = (x, []) := by unfold Cl; rw [if_pos ht21]
  rw [er]
  exact Bb (hv, fv, .slice none 0 0) (hs := fun w hs => (Ag hs : St _ (sl (.slice none 0 0) ([] : List Done) :: R) w).sub .refl (fs_A hhv hfv))
 ·intro ht21
  refine Gl ?_
  have hp0 : (Af (Ap x) bt).2 = 0 := Decidable.not_not.1 ht21
  have hpk := J6 (c := Ap x) (b := bt) (m := (Af (Ap x) bt).1) (by rw [← hp0])
  have hwk := Iy hpk.2.2.2.2.1
  have hpw : (Af (Ap x) bt).1.wf := by rw [hpk.2.2.2.2.2]; exact O7 _
  have ecn : (Ap x).cores = (x.cores.length : Int) := rfl
  rw [ecn] at hwk
  refine Aa ?_
  refine Gb6 ?_
  refine Ga4 ?_
  refine cdy ?_ ?_
  ·intro ht30
   refine Gl ?_
   refine cq_ (blk b5 76 (Af (Ap x) bt).1.cells :: row 57 cv x.cores :: blk b 30 [cv, hv, fv] :: L) ?_
   refine jd_ (fun ρ S => blk b5 76 (Af (Ap x) bt).1.cells :: row 57 cv x.cores :: blk b 30 [cv, hv, fv] :: L) ?_
   refine dn6 ?_
   refine Bu (γ := Value × Value) (val := fun v => .tuple #[v.1, v.2]) (F := fun v => [sl v.1 (Ak x.home (x.cores.length : Int) (Af (Ap x) bt).1).1, sl v.2 (Ak x.home (x.cores.length : Int) (Af (Ap x) bt).1).2]) Tryz.call75 (fun _ => rfl) (fun ρ L R w hd hs => Qv (l := x.home) (id := (x.cores.length : Int)) (m := (Af (Ap x) bt).1) hs (hd.base mm) (fun i hi => (h.ebs i hi).1) (fun i hi => (h.ebs i hi).2.2.2.2) hpw hn64) (fun _ _ _ _ _ => rfl) ?_
   refine e_p (v := fun ρ => .tuple #[(Gh.dec (γ := Value × Value) (ρ 6)).1, (Gh.dec (γ := Value × Value) (ρ 6)).2]) (fun _ _ => Ls) (Ind.gh (h := fun g => (.tuple #[(Gh.dec (γ := Value × Value) g).1, (Gh.dec (γ := Value × Value) g).2] : Value)) 6 0 rfl) (fun _ _ _ _ _ => rfl) ?_
   refine ZcF ?_
   refine ZcG ?_
   refine dnl ?_; intro ρ
   refine xq_ (blk b5 76 (Af (Ap x) bt).1.cells :: row 57 cv x.cores :: blk b 30 [cv, hv, fv] :: L) ?_
   generalize (Gh.dec (γ := Value × Value) (ρ 6)) = vh
   refine Gl ?_
   refine JC.know (p := vh.1.oneCell' = true) (fun w hs => isSlice.one (hs.fact (mm (f := sl vh.1 (Ak x.home (x.cores.length : Int) (Af (Ap x) bt).1).1)))) (fun honeh1 => ?_)
   refine kp [0, 4, 5, 7, 8, 9, 41, 42, 43, 44] ?_
   refine ZE ?_
   refine sc ?_
   refine ZJ ?_
   refine An Tryz.call42 rfl (fun w hs => Kl (cv := cv) (hv := vh.1) (fv := fv) (fs := x.frames) (ms := (Ak x.home (x.cores.length : Int) (Af (Ap x) bt).1).2) (Ag (L' := blk b 30 [cv, vh.1, fv] :: row 57 cv x.cores :: L) hs) mm mm (M3 (by omega) (by omega) h.ebs hwk.2.2.2.1 hwk.2.2.2.2.2.1)) ?_; intro vs
   refine Gl ?_
   refine ZK ?_
   refine ZW ?_
   have er : Cl x bt = (⟨x.cores, (Ak x.home (x.cores.length : Int) (Af (Ap x) bt).1).1, way x.frames (Ak x.home (x.cores.length : Int) (Af (Ap x) bt).1).2⟩, []) := by unfold Cl Bk; rw [if_neg ht21, if_pos ht30]
   rw [er]
   exact Bb (vh.1, vs, .slice none 0 0)
  ·intro ht30
   refine Gl ?_
   refine JC.focus1 (T := 57) (v := cv) (xs := x.cores) (Af (Ap x) bt).1.dst.toNat pkk (by omega) (fun hwt u => ?_)
   have hkb : KB (As x (Af (Ap x) bt).1.dst) := h.kb (p := (Af (Ap x) bt).1.dst.toNat) (by omega)
   have hlb := h.lbs (p := (Af (Ap x) bt).1.dst) (by omega)
   have hk4 := hkb.n
   have hpd64 : Ao (Af (Ap x) bt).1.dst := by unfold Ao; omega
   refine cq_ (foc 57 cv x.cores (Af (Ap x) bt).1.dst.toNat (Core.cells u (As x (Af (Ap x) bt).1.dst)) :: blk b5 76 (Af (Ap x) bt).1.cells :: blk b 30 [cv, hv, fv] :: L) ?_
   refine jd_ (fun ρ S => foc 57 cv x.cores (Af (Ap x) bt).1.dst.toNat (Core.cells u (As x (Af (Ap x) bt).1.dst)) :: blk b5 76 (Af (Ap x) bt).1.cells :: blk b 30 [cv, hv, fv] :: ((bif S 17 then [blk (Gh.dec (γ := Nat) (ρ 17)) 57 (bif S 18 then [(Gh.dec (γ := Value × Value × Value) (ρ 12)).1, vi (Ae (As x (Af (Ap x) bt).1.dst) (Af (Ap x) bt).1.dst (x.cores.length : Int) (Af (Ap x) bt).1).1.wait.kind, vi (Ae (As x (Af (Ap x) bt).1.dst) (Af (Ap x) bt).1.dst (x.cores.length : Int) (Af (Ap x) bt).1).1.wait.line, vi (Ae (As x (Af (Ap x) bt).1.dst) (Af (Ap x) bt).1.dst (x.cores.length : Int) (Af (Ap x) bt).1).1.wait.value] else [.slice none 0 0, vi 0, vi 0, vi 0])] else []) ++ (L))) ?_
   refine dn6 ?_
   refine epc (fun _ _ => Im (v := cv) (i := (Af (Ap x) bt).1.dst) P1 (hl := Dj (α := Core) (xs := x.cores) pkk)) ?_
   refine epc (fun _ _ => Y3 (cs := Core.cells u (As x (Af (Ap x) bt).1.dst)) Tryz.isAgg57 Tryz.sizeOf57) ?_
   refine dn4 ?_
   refine Bu (γ := Value × Value × Value) (val := fun v => .tuple #[.agg (Core.cells v.1 (Ae (As x (Af (Ap x) bt).1.dst) (Af (Ap x) bt).1.dst (x.cores.length : Int) (Af (Ap x) bt).1).1).toArray, v.2.1, v.2.2]) (F := fun v => [sl v.1 (Ae (As x (Af (Ap x) bt).1.dst) (Af (Ap x) bt).1.dst (x.cores.length : Int) (Af (Ap x) bt).1).1.lines, sl v.2.1 (Ae (As x (Af (Ap x) bt).1.dst) (Af (Ap x) bt).1.dst (x.cores.length : Int) (Af (Ap x) bt).1).2.1, sl v.2.2 (Ae (As x (Af (Ap x) bt).1.dst) (Af (Ap x) bt).1.dst (x.cores.length : Int) (Af (Ap x) bt).1).2.2]) Tryz.call76 (fun _ => rfl) (fun ρ L R w hd hs => X4 (c := (As x (Af (Ap x) bt).1.dst)) (id := (Af (Ap x) bt).1.dst) (home := (x.cores.length : Int)) (m := (Af (Ap x) bt).1) (u := u) hs (hd.base mm) hkb.kh hpd64 hn64 hpw) (fun ρ g S hS hA => by have u17 : upS S 12 17 = S 17 := rfl; have u18 : upS S 12 18 = S 18 := rfl; have r17 : Rho.set ρ 12 g 17 = ρ 17 := rfl; have h18 : S 18 = false := hA 18 ⟨0, rfl⟩; simp only [u17, u18, r17, h18, cond_false]) ?_
   refine e_p (v := fun ρ => .tuple #[.agg (Core.cells (Gh.dec (γ := Value × Value × Value) (ρ 12)).1 (Ae (As x (Af (Ap x) bt).1.dst) (Af (Ap x) bt).1.dst (x.cores.length : Int) (Af (Ap x) bt).1).1).toArray, (Gh.dec (γ := Value × Value × Value) (ρ 12)).2.1, (Gh.dec (γ := Value × Value × Value) (ρ 12)).2.2]) (fun _ _ => Ls) (Ind.gh (h := fun g => (.tuple #[.agg (Core.cells (Gh.dec (γ := Value × Value × Value) g).1 (Ae (As x (Af (Ap x) bt).1.dst) (Af (Ap x) bt).1.dst (x.cores.length : Int) (Af (Ap x) bt).1).1).toArray, (Gh.dec (γ := Value × Value × Value) g).2.1, (Gh.dec (γ := Value × Value × Value) g).2.2] : Value)) 12 0 rfl) (fun _ _ _ _ _ => rfl) ?_
   refine e_p (v := fun ρ => .agg (Core.cells (Gh.dec (γ := Value × Value × Value) (ρ 12)).1 (Ae (As x (Af (Ap x) bt).1.dst) (Af (Ap x) bt).1.dst (x.cores.length : Int) (Af (Ap x) bt).1).1).toArray) (fun _ _ => q_x) (Ind.gh (h := fun g => (.agg (Core.cells (Gh.dec (γ := Value × Value × Value) g).1 (Ae (As x (Af (Ap x) bt).1.dst) (Af (Ap x) bt).1.dst (x.cores.length : Int) (Af (Ap x) bt).1).1).toArray : Value)) 12 1 rfl) (fun _ _ _ _ _ => rfl) ?_
   refine e_p (v := fun ρ => (Gh.dec (γ := Value × Value × Value) (ρ 12)).2.1) (fun _ _ => q_x) (Ind.gh (h := fun g => ((Gh.dec (γ := Value × Value × Value) g).2.1 : Value)) 12 1 rfl) (fun _ _ _ _ _ => rfl) ?_
   refine e_p (v := fun ρ => (Gh.dec (γ := Value × Value × Value) (ρ 12)).2.2) (fun _ _ => q_x) (Ind.gh (h := fun g => ((Gh.dec (γ := Value × Value × Value) g).2.2 : Value)) 12 1 rfl) (fun _ _ _ _ _ => rfl) ?_
   refine Hy (cs := [.slice none 0 0, vi 0, vi 0, vi 0]) Tryz.zeroValue57 rfl (fun ρ b S hS hA => ?_) ?_
   ·have ui : upS S 17 17 = true := rfl; have u18 : upS S 17 18 = S 18 := rfl; have r12 : Rho.set ρ 17 (Gh.enc b) 12 = ρ 12 := rfl; have h18 : S 18 = false := hA 18 ⟨0, rfl⟩; have rs : (Gh.dec (γ := Nat) (Rho.set ρ 17 (Gh.enc b) 17)) = b := rfl
    simp only [ui, hS, u18, r12, h18, rs, cond_true, cond_false, List.nil_append]
    exact ZeZ
   refine es_ 57 0 [17] [] (fun ρ => (Gh.dec (γ := Nat) (ρ 17))) (fun ρ => [.slice none 0 0, vi 0, vi 0, vi 0]) (fun ρ => [(Gh.dec (γ := Value × Value × Value) (ρ 12)).1, vi (Ae (As x (Af (Ap x) bt).1.dst) (Af (Ap x) bt).1.dst (x.cores.length : Int) (Af (Ap x) bt).1).1.wait.kind, vi (Ae (As x (Af (Ap x) bt).1.dst) (Af (Ap x) bt).1.dst (x.cores.length : Int) (Af (Ap x) bt).1).1.wait.line, vi (Ae (As x (Af (Ap x) bt).1.dst) (Af (Ap x) bt).1.dst (x.cores.length : Int) (Af (Ap x) bt).1).1.wait.value]) Tryz.sizeOf57 (h1 := (fun ρ R w L' hd hs => Bl (isSlice.one (hs.fact (hd.dep (it := ⟨12, _, _, _, _⟩) (by repeat (first | exact List.Mem.head _ | refine List.Mem.tail _ ?_)) ⟨9, rfl⟩ (List.Mem.head _)))) (by repeat (first | exact Dy | refine Bl rfl ?_)))) ?_
   refine e_p (v := fun ρ => (Gh.dec (γ := Value × Value × Value) (ρ 12)).2.1) (fun _ _ => Df) (Ind.gh (h := fun g => ((Gh.dec (γ := Value × Value × Value) g).2.1 : Value)) 12 0 rfl) (fun _ _ _ _ _ => rfl) ?_
   refine e_p (v := fun ρ => (Gh.dec (γ := Value × Value × Value) (ρ 12)).2.2) (fun _ _ => Df) (Ind.gh (h := fun g => ((Gh.dec (γ := Value × Value × Value) g).2.2 : Value)) 12 0 rfl) (fun _ _ _ _ _ => rfl) ?_
   refine dnl ?_; intro ρ
   refine xq_ (foc 57 cv x.cores (Af (Ap x) bt).1.dst.toNat (Core.cells u (As x (Af (Ap x) bt).1.dst)) :: blk b5 76 (Af (Ap x) bt).1.cells :: blk b 30 [cv, hv, fv] :: (blk (Gh.dec (γ := Nat) (ρ 17)) 57 [(Gh.dec (γ := Value × Value × Value) (ρ 12)).1, vi (Ae (As x (Af (Ap x) bt).1.dst) (Af (Ap x) bt).1.dst (x.cores.length : Int) (Af (Ap x) bt).1).1.wait.kind, vi (Ae (As x (Af (Ap x) bt).1.dst) (Af (Ap x) bt).1.dst (x.cores.length : Int) (Af (Ap x) bt).1).1.wait.line, vi (Ae (As x (Af (Ap x) bt).1.dst) (Af (Ap x) bt).1.dst (x.cores.length : Int) (Af (Ap x) bt).1).1.wait.value] :: L)) ?_
   generalize (Gh.dec (γ := Value × Value × Value) (ρ 12)) = vk
   generalize (Gh.dec (γ := Nat) (ρ 17)) = b10
   refine Gl ?_
   refine JC.conseq (L' := row 57 cv x.cores :: blk b10 57 (Core.cells vk.1 (Ae (As x (Af (Ap x) bt).1.dst) (Af (Ap x) bt).1.dst (x.cores.length : Int) (Af (Ap x) bt).1).1) :: blk b5 76 (Af (Ap x) bt).1.cells :: blk b 30 [cv, hv, fv] :: L) (fun w hs => Ag (Q9 mm hwt (hs.pick pkk))) ?_
   refine kp [0, 4, 5, 10, 11, 12, 65, 66, 67, 68, 69, 70, 71, 72] ?_
   refine Zag ?_
   refine dtl ?_; intro ρ
   refine s_W (α := Core) (Ae (As x (Af (Ap x) bt).1.dst) (Af (Ap x) bt).1.dst (x.cores.length : Int) (Af (Ap x) bt).1).1 Tryz.sizeOf57 rfl rfl rfl pkk (by omega) (Wm mm (Qw hkb.wwf)) ?_
   refine ZJ ?_
   refine An Tryz.call42 rfl (fun w hs => Kl (cv := cv) (hv := hv) (fv := fv) (fs := x.frames) (ms := (Ae (As x (Af (Ap x) bt).1.dst) (Af (Ap x) bt).1.dst (x.cores.length : Int) (Af (Ap x) bt).1).2.1) (Ag (L' := blk b 30 [cv, hv, fv] :: row 57 cv (x.cores.set (Af (Ap x) bt).1.dst.toNat (Ae (As x (Af (Ap x) bt).1.dst) (Af (Ap x) bt).1.dst (x.cores.length : Int) (Af (Ap x) bt).1).1) :: L) hs) mm mm (Xk (by omega) (by omega) hk4 hlb hwk.2.2.2.2.1)) ?_; intro vs
   refine ZC ?_
   have er : Cl x bt = (De x (Af (Ap x) bt).1.dst (Ae (As x (Af (Ap x) bt).1.dst) (Af (Ap x) bt).1.dst (x.cores.length : Int) (Af (Ap x) bt).1).1 (Ae (As x (Af (Ap x) bt).1.dst) (Af (Ap x) bt).1.dst (x.cores.length : Int) (Af (Ap x) bt).1).2.1, (Ae (As x (Af (Ap x) bt).1.dst) (Af (Ap x) bt).1.dst (x.cores.length : Int) (Af (Ap x) bt).1).2.2) := by unfold Cl Bk; rw [if_neg ht21, if_neg ht30]
   rw [er]
   exact Bb (hv, vs, vk.2.2) (hs := fun w hs => (Ag hs : St _ (sl vs (way x.frames (Ae (As x (Af (Ap x) bt).1.dst) (Af (Ap x) bt).1.dst (x.cores.length : Int) (Af (Ap x) bt).1).2.1) :: sl vk.2.2 (Ae (As x (Af (Ap x) bt).1.dst) (Af (Ap x) bt).1.dst (x.cores.length : Int) (Af (Ap x) bt).1).2.2 :: R) w).sub .refl (fs_B hhv))
theorem kv_row {v : Value} {ks : List KV} {cs : List Core} (h : ks.map KV.c = cs) (hs : St (row 57 v ks :: (ks.map Y7 ++ L)) R w) : St (row 57 v cs :: L) R w := by
 subst h
 have h1 : St (ks.map Y7 ++ (row 57 v ks :: L)) R w := hs.perm List.perm_middle.symm
 have h2 := Qp ks h1
 have h3 := Ur (fun x hx => List.mem_append.2 (.inl (List.mem_map.2 ⟨x, hx, rfl⟩))) h2
 exact h3.sub .refl (fun f hf => List.mem_append.2 (.inr hf))
theorem H1 {cv hv fv : Value} {x : Chip} (hs : St L R w) (hcv : sl cv x.cores ∈ R) (hhv : sl hv x.home ∈ R) (hfv : sl fv x.frames ∈ R) (hn4 : x.cores.length ≤ 1000) : Calls Tryz.prog 40 [.agg #[cv, hv, fv]].toArray w (Bs (fun g : Value × Value × Value => .agg #[g.1, g.2.1, g.2.2]) (fun g => row 57 g.1 x.cores :: L) (fun g => sl g.2.2 x.frames :: sl g.2.1 x.home :: R)) :=
 Ja (Aiu hs hcv hhv hfv hn4) (fun g w' hs' => ⟨(g.1, g.2.1, g.2.2.1), rfl, by
  have h1 := G6 (.head _) hs'
  exact (kv_row h1 hs').sub .refl (fun f hf => .tail _ hf)⟩)
theorem Aay {n nl : Nat} {x : Chip} {M : List Int} (h : Inv n nl x M) (i : Nat) : Inv n nl ⟨x.cores, x.home, x.frames.eraseIdx i⟩ M :=
 ⟨h.n1, h.l1, h.nc, h.nh, h.ncl, h.nla, h.ml, h.mv, h.bit, h.gi, h.ci, h.cw, by have := h.fr; have := List.length_eraseIdx_le x.frames i; simp only; omega, fun b hb => h.mi b (List.mem_of_mem_eraseIdx hb)⟩
theorem Acm {cv hv fv : Value} {x : Chip} {s : Step} {n nl : Nat} {M : List Int} (hs : St (L) R w) (hcv : sl cv x.cores ∈ R) (hhv : sl hv x.home ∈ R) (hfv : sl fv x.frames ∈ R) (hsn : s.wf) (h : Inv n nl x M) (hk : s.kind = 1) : Calls Tryz.prog 16 [.agg #[cv, hv, fv], .agg s.cells.toArray].toArray w (Bs (fun v : Value × Value × Value × Value => .tuple #[.agg #[v.1, v.2.1, v.2.2.1], v.2.2.2, vi (Al x s).2.2]) (fun v => L) (fun v => sl v.1 (Al x s).1.cores :: sl v.2.1 (Al x s).1.home :: sl v.2.2.1 (Al x s).1.frames :: sl v.2.2.2 (Al x s).2.1 :: R)) := by
 refine Zbd ?_;intro hnc hnh hn1 hn2 honec honeh honef hn64 hop
 clear hs
 refine ZaM ?_;intro b2 b3 b4
 refine rn1 ?_
 refine An Tryz.call40 rfl (fun w hs => H1 (x := x) (cv := cv) (hv := hv) (fv := fv) hs mm mm mm (by omega)) ?_; intro ⟨cY, hY, fY⟩
 refine Zbg ?_;intro h12
 obtain ⟨honeY1, honeY2, honeY3⟩ := h12
 refine Zbh ?_;intro b7
 refine Za3 ?_
 rcases (show (s.node < 0) ∨ (0 ≤ s.node ∧ (x.cores.length : Int) ≤ s.node) ∨ (0 ≤ s.node ∧ s.node < (x.cores.length : Int)) from by omega) with hc | hc | hc
 ·refine ZY ?_
  refine Gc8 ?_
  exact Zg9
 ·refine Zae ?_
  refine Zbo ?_
  refine Gc1 ?_
  exact Zg9
 ·refine Za8 ?_
  refine Gc1 ?_
  refine ZcX ?_;intro hwt u hkb hlb hk4
  refine cq_ (row 57 cY x.cores :: blk b7 30 [cY, hY, fY] :: blk b4 30 [.slice none 0 0, .slice none 0 0, .slice none 0 0] :: blk b3 38 s.cells :: blk b2 30 [cv, hv, fv] :: L) ?_
  refine jd_ (fun ρ S => row 57 cY x.cores :: blk b7 30 [cY, hY, fY] :: blk b4 30 [.slice none 0 0, .slice none 0 0, .slice none 0 0] :: blk b3 38 s.cells :: blk b2 30 [cv, hv, fv] :: ((bif S 19 then [blk (Gh.dec (γ := Nat) (ρ 19)) 57 (bif S 20 then [(Gh.dec (γ := Value × Value × Value) (ρ 13)).1, vi (Aj (As x s.node) s.node (x.cores.length : Int) s.op).1.wait.kind, vi (Aj (As x s.node) s.node (x.cores.length : Int) s.op).1.wait.line, vi (Aj (As x s.node) s.node (x.cores.length : Int) s.op).1.wait.value] else [.slice none 0 0, vi 0, vi 0, vi 0])] else []) ++ (L))) ?_
  refine dn13 ?_
  refine Bu (γ := Value × Value × Value) (val := fun v => .tuple #[.agg (Core.cells v.1 (Aj (As x s.node) s.node (x.cores.length : Int) s.op).1).toArray, v.2.1, v.2.2, vi (Aj (As x s.node) s.node (x.cores.length : Int) s.op).2.2.2]) (F := fun v => [sl v.1 (Aj (As x s.node) s.node (x.cores.length : Int) s.op).1.lines, sl v.2.1 (Aj (As x s.node) s.node (x.cores.length : Int) s.op).2.1, sl v.2.2 (Aj (As x s.node) s.node (x.cores.length : Int) s.op).2.2.1]) Tryz.call41 (fun _ => rfl) (fun ρ L R w hd hs => Vr (c := (As x s.node)) (id := s.node) (home := (x.cores.length : Int)) (q := s.op) (u := u) hs (hd.base mm) hkb hsn.2.1 hn64 hop) (fun ρ g S hS hA => by have u19 : upS S 13 19 = S 19 := rfl; have u20 : upS S 13 20 = S 20 := rfl; have r19 : Rho.set ρ 13 g 19 = ρ 19 := rfl; have h20 : S 20 = false := hA 20 ⟨0, rfl⟩; simp only [u19, u20, r19, h20, cond_false]) ?_
  refine e_p (v := fun ρ => .tuple #[.agg (Core.cells (Gh.dec (γ := Value × Value × Value) (ρ 13)).1 (Aj (As x s.node) s.node (x.cores.length : Int) s.op).1).toArray, (Gh.dec (γ := Value × Value × Value) (ρ 13)).2.1, (Gh.dec (γ := Value × Value × Value) (ρ 13)).2.2, vi (Aj (As x s.node) s.node (x.cores.length : Int) s.op).2.2.2]) (fun _ _ => Ls) (Ind.gh (h := fun g => (.tuple #[.agg (Core.cells (Gh.dec (γ := Value × Value × Value) g).1 (Aj (As x s.node) s.node (x.cores.length : Int) s.op).1).toArray, (Gh.dec (γ := Value × Value × Value) g).2.1, (Gh.dec (γ := Value × Value × Value) g).2.2, vi (Aj (As x s.node) s.node (x.cores.length : Int) s.op).2.2.2] : Value)) 13 0 rfl) (fun _ _ _ _ _ => rfl) ?_
  refine e_p (v := fun ρ => .agg (Core.cells (Gh.dec (γ := Value × Value × Value) (ρ 13)).1 (Aj (As x s.node) s.node (x.cores.length : Int) s.op).1).toArray) (fun _ _ => q_x) (Ind.gh (h := fun g => (.agg (Core.cells (Gh.dec (γ := Value × Value × Value) g).1 (Aj (As x s.node) s.node (x.cores.length : Int) s.op).1).toArray : Value)) 13 1 rfl) (fun _ _ _ _ _ => rfl) ?_
  refine e_p (v := fun ρ => (Gh.dec (γ := Value × Value × Value) (ρ 13)).2.1) (fun _ _ => q_x) (Ind.gh (h := fun g => ((Gh.dec (γ := Value × Value × Value) g).2.1 : Value)) 13 1 rfl) (fun _ _ _ _ _ => rfl) ?_
  refine e_p (v := fun ρ => (Gh.dec (γ := Value × Value × Value) (ρ 13)).2.2) (fun _ _ => q_x) (Ind.gh (h := fun g => ((Gh.dec (γ := Value × Value × Value) g).2.2 : Value)) 13 1 rfl) (fun _ _ _ _ _ => rfl) ?_
  refine ZeA ?_
  refine Hy (cs := [.slice none 0 0, vi 0, vi 0, vi 0]) Tryz.zeroValue57 rfl (fun ρ b S hS hA => ?_) ?_
  ·have ui : upS S 19 19 = true := rfl; have u20 : upS S 19 20 = S 20 := rfl; have r13 : Rho.set ρ 19 (Gh.enc b) 13 = ρ 13 := rfl; have h20 : S 20 = false := hA 20 ⟨0, rfl⟩; have rs : (Gh.dec (γ := Nat) (Rho.set ρ 19 (Gh.enc b) 19)) = b := rfl
   simp only [ui, hS, u20, r13, h20, rs, cond_true, cond_false, List.nil_append]
   exact ZeZ
  refine es_ 57 0 [19] [] (fun ρ => (Gh.dec (γ := Nat) (ρ 19))) (fun ρ => [.slice none 0 0, vi 0, vi 0, vi 0]) (fun ρ => [(Gh.dec (γ := Value × Value × Value) (ρ 13)).1, vi (Aj (As x s.node) s.node (x.cores.length : Int) s.op).1.wait.kind, vi (Aj (As x s.node) s.node (x.cores.length : Int) s.op).1.wait.line, vi (Aj (As x s.node) s.node (x.cores.length : Int) s.op).1.wait.value]) Tryz.sizeOf57 (h1 := (fun ρ R w L' hd hs => Bl (isSlice.one (hs.fact (hd.dep (it := ⟨13, _, _, _, _⟩) (by repeat (first | exact List.Mem.head _ | refine List.Mem.tail _ ?_)) ⟨9, rfl⟩ (List.Mem.head _)))) (by repeat (first | exact Dy | refine Bl rfl ?_)))) ?_
  refine e_p (v := fun ρ => (Gh.dec (γ := Value × Value × Value) (ρ 13)).2.1) (fun _ _ => Df) (Ind.gh (h := fun g => ((Gh.dec (γ := Value × Value × Value) g).2.1 : Value)) 13 0 rfl) (fun _ _ _ _ _ => rfl) ?_
  refine e_p (v := fun ρ => (Gh.dec (γ := Value × Value × Value) (ρ 13)).2.2) (fun _ _ => Df) (Ind.gh (h := fun g => ((Gh.dec (γ := Value × Value × Value) g).2.2 : Value)) 13 0 rfl) (fun _ _ _ _ _ => rfl) ?_
  refine Jy (v := vi (Aj (As x s.node) s.node (x.cores.length : Int) s.op).2.2.2) (fun _ _ => Df) (fun _ _ _ _ _ => rfl) ?_
  refine dnl ?_; intro ρ
  refine xq_ (row 57 cY x.cores :: blk b7 30 [cY, hY, fY] :: blk b4 30 [.slice none 0 0, .slice none 0 0, .slice none 0 0] :: blk b3 38 s.cells :: blk b2 30 [cv, hv, fv] :: (blk (Gh.dec (γ := Nat) (ρ 19)) 57 [(Gh.dec (γ := Value × Value × Value) (ρ 13)).1, vi (Aj (As x s.node) s.node (x.cores.length : Int) s.op).1.wait.kind, vi (Aj (As x s.node) s.node (x.cores.length : Int) s.op).1.wait.line, vi (Aj (As x s.node) s.node (x.cores.length : Int) s.op).1.wait.value] :: L)) ?_
  generalize (Gh.dec (γ := Value × Value × Value) (ρ 13)) = vk
  generalize (Gh.dec (γ := Nat) (ρ 19)) = b10
  refine Gl ?_
  refine kp [2, 3, 4, 5, 6, 7, 8, 9, 10, 11, 12, 13, 20, 54, 55] ?_
  refine ZO ?_
  refine cdy ?_ ?_
  ·intro ht55
   refine Gl ?_
   refine Zai ?_
   refine Zbp ?_
   have er : Al x s = (zChip, [], (Aj (As x s.node) s.node (x.cores.length : Int) s.op).2.2.2) := by unfold Al Bk; rw [if_pos (by omega), if_neg (by omega), if_pos ht55]
   rw [er]
   exact Zfa
  ·intro ht55
   refine Gm ?_
   refine rn6 ?_
   refine s_W (α := Core) (Aj (As x s.node) s.node (x.cores.length : Int) s.op).1 Tryz.sizeOf57 rfl rfl rfl pkk (by omega) (Wm mm (Oe hop)) ?_
   refine ZI ?_
   refine An Tryz.call42 rfl (fun w hs => Kl (cv := cY) (hv := hY) (fv := fY) (fs := x.frames) (ms := (Aj (As x s.node) s.node (x.cores.length : Int) s.op).2.1) (Ag (L' := blk b7 30 [cY, hY, fY] :: row 57 cY (x.cores.set s.node.toNat (Aj (As x s.node) s.node (x.cores.length : Int) s.op).1) :: blk b4 30 [.slice none 0 0, .slice none 0 0, .slice none 0 0] :: blk b3 38 s.cells :: blk b2 30 [cv, hv, fv] :: L) hs) mm mm (Ud (by omega) (by omega) hk4 hlb)) ?_; intro vs
   refine Za1 ?_
   refine rn1 ?_
   refine Zb4 ?_
   refine JC.shut (v := cY) (xs := (x.cores.set s.node.toNat (Aj (As x s.node) s.node (x.cores.length : Int) s.op).1)) pkk ?_
   refine JC.know (p := vs.oneCell' = true) (fun w hs => isSlice.one (hs.fact (mm (f := sl vs (way x.frames (Aj (As x s.node) s.node (x.cores.length : Int) s.op).2.1))))) (fun honevs => ?_)
   refine ZD ?_
   refine s_B (cs := [cY, hY, vs]) Tryz.sizeOf30 ?_
   refine Ga2 ?_
   have er : Al x s = (De x s.node (Aj (As x s.node) s.node (x.cores.length : Int) s.op).1 (Aj (As x s.node) s.node (x.cores.length : Int) s.op).2.1, (Aj (As x s.node) s.node (x.cores.length : Int) s.op).2.2.1, 0) := by unfold Al Bk; rw [if_pos (by omega), if_neg (by omega), if_neg ht55]
   rw [er]
   exact Cj (cY, hY, vs, vk.2.2) Tryz.isAgg30 Tryz.sizeOf30
theorem Acn {cv hv fv : Value} {x : Chip} {s : Step} {n nl : Nat} {M : List Int} (hs : St (L) R w) (hcv : sl cv x.cores ∈ R) (hhv : sl hv x.home ∈ R) (hfv : sl fv x.frames ∈ R) (hsn : s.wf) (h : Inv n nl x M) (hk : s.kind < 1 ∨ 6 < s.kind) : Calls Tryz.prog 16 [.agg #[cv, hv, fv], .agg s.cells.toArray].toArray w (Bs (fun v : Value × Value × Value × Value => .tuple #[.agg #[v.1, v.2.1, v.2.2.1], v.2.2.2, vi (Al x s).2.2]) (fun v => L) (fun v => sl v.1 (Al x s).1.cores :: sl v.2.1 (Al x s).1.home :: sl v.2.2.1 (Al x s).1.frames :: sl v.2.2.2 (Al x s).2.1 :: R)) := by
 refine Zbd ?_;intro hnc hnh hn1 hn2 honec honeh honef hn64 hop
 clear hs
 refine ZaM ?_;intro b2 b3 b4
 refine rn1 ?_
 refine An Tryz.call40 rfl (fun w hs => H1 (x := x) (cv := cv) (hv := hv) (fv := fv) hs mm mm mm (by omega)) ?_; intro ⟨cY, hY, fY⟩
 refine Zbg ?_;intro h12
 obtain ⟨honeY1, honeY2, honeY3⟩ := h12
 refine Zbh ?_;intro b7
 refine ZF ?_
 refine ZF ?_
 refine ZF ?_
 refine ZF ?_
 refine ZF ?_
 refine ZF ?_
 refine Gb1 ?_
 refine rn1 ?_
 refine ZaR ?_
 refine Zbp ?_
 have er : Al x s = (zChip, [], 1) := by unfold Al Bk; rw [if_neg (by omega), if_neg (by omega), if_neg (by omega), if_neg (by omega), if_neg (by omega), if_neg (by omega)]
 rw [er]
 exact Zfa
theorem Acl {cv hv fv : Value} {x : Chip} {s : Step} {n nl : Nat} {M : List Int} (hs : St (L) R w) (hcv : sl cv x.cores ∈ R) (hhv : sl hv x.home ∈ R) (hfv : sl fv x.frames ∈ R) (hsn : s.wf) (h : Inv n nl x M) (hk : s.kind = 2) : Calls Tryz.prog 16 [.agg #[cv, hv, fv], .agg s.cells.toArray].toArray w (Bs (fun v : Value × Value × Value × Value => .tuple #[.agg #[v.1, v.2.1, v.2.2.1], v.2.2.2, vi (Al x s).2.2]) (fun v => L) (fun v => sl v.1 (Al x s).1.cores :: sl v.2.1 (Al x s).1.home :: sl v.2.2.1 (Al x s).1.frames :: sl v.2.2.2 (Al x s).2.1 :: R)) := by
 refine Zbd ?_;intro hnc hnh hn1 hn2 honec honeh honef hn64 hop
 clear hs
 refine ZaM ?_;intro b2 b3 b4
 refine rn1 ?_
 refine An Tryz.call40 rfl (fun w hs => H1 (x := x) (cv := cv) (hv := hv) (fv := fv) hs mm mm mm (by omega)) ?_; intro ⟨cY, hY, fY⟩
 refine Zbg ?_;intro h12
 obtain ⟨honeY1, honeY2, honeY3⟩ := h12
 refine Zbh ?_;intro b7
 refine ZF ?_
 refine Za3 ?_
 rcases (show (Cn x s.n) ∨ (¬ Cn x s.n) from by exact Classical.em _) with hc | hc
 ·refine Zdj ?_;intro hnt
  refine ZE ?_
  refine An (γ := Value × Value) (val := fun v => .tuple #[v.1, v.2, vi 5]) (Rf := fun v => sl v.1 ([] : Frames) :: sl v.2 ([] : List UInt8) :: _) Tryz.call43 rfl (fun w hs => by have h := I4 (v0 := fv) (l := x.frames) (n := s.n) hs mm hsn.2.2.1; rw [hnt] at h; exact frz h) ?_; intro ⟨va, vb⟩
  refine Gb7 ?_
  refine rn1 ?_
  refine ZaR ?_
  refine kp [2, 3, 4, 5, 6, 7, 8, 9, 14, 15, 16, 20, 81, 82] ?_
  refine Zbp ?_
  have er : Al x s = (zChip, [], 5) := by unfold Al Bk; rw [if_neg (by omega), if_pos (by omega)]; rw [if_pos hc]
  rw [er]
  exact Zfa
 ·refine ZcZ ?_;intro hnt
  refine ZE ?_
  refine An (γ := Value × Value) (val := fun v => .tuple #[v.1, v.2, vi 0]) (Rf := fun v => sl v.1 (x.frames.eraseIdx s.n.toNat) :: sl v.2 (Ay x.frames s.n) :: _) Tryz.call43 rfl (fun w hs => by have h := I4 (v0 := fv) (l := x.frames) (n := s.n) hs mm hsn.2.2.1; rw [hnt] at h; exact frz h) ?_; intro ⟨va, vb⟩
  refine Gb7 ?_
  refine rn1 ?_
  refine Zb4 ?_
  refine JC.know (p := va.oneCell' = true) (fun w hs => isSlice.one (hs.fact (mm (f := sl va (x.frames.eraseIdx s.n.toNat))))) (fun honeva => ?_)
  refine kp [2, 3, 4, 5, 6, 7, 8, 9, 14, 15, 20, 83, 84] ?_
  refine ZD ?_
  refine sc ?_
  refine ZJ ?_
  refine Cf ?_
  refine Gmc ?_
  refine rn1 ?_
  refine An Tryz.call44 rfl (fun w hs => Ym (x := ⟨x.cores, x.home, x.frames.eraseIdx s.n.toNat⟩) (cv := cY) (hv := hY) (fv := va) (bt := (Ay x.frames s.n)) (Ag (L' := row 57 cY x.cores :: blk b7 30 [cY, hY, va] :: blk b4 30 [.slice none 0 0, .slice none 0 0, .slice none 0 0] :: blk b3 38 s.cells :: blk b2 30 [cv, hv, fv] :: L) hs) mm mm mm (Aay h _)) ?_; intro ⟨vh, vf, vd⟩
  refine Gb1 ?_
  refine rn1 ?_
  refine Zb4 ?_
  refine JC.shut (v := cY) (xs := (Cl ⟨x.cores, x.home, x.frames.eraseIdx s.n.toNat⟩ (Ay x.frames s.n)).1.cores) pkk ?_
  refine JC.know (p := vh.oneCell' = true) (fun w hs => isSlice.one (hs.fact (mm (f := sl vh (Cl ⟨x.cores, x.home, x.frames.eraseIdx s.n.toNat⟩ (Ay x.frames s.n)).1.home)))) (fun honevh => ?_)
  refine JC.know (p := vf.oneCell' = true) (fun w hs => isSlice.one (hs.fact (mm (f := sl vf (Cl ⟨x.cores, x.home, x.frames.eraseIdx s.n.toNat⟩ (Ay x.frames s.n)).1.frames)))) (fun honevf => ?_)
  refine ZD ?_
  refine s_B (cs := [cY, vh, vf]) Tryz.sizeOf30 ?_
  refine Ga2 ?_
  have er : Al x s = ((Cl ⟨x.cores, x.home, x.frames.eraseIdx s.n.toNat⟩ (Ay x.frames s.n)).1, (Cl ⟨x.cores, x.home, x.frames.eraseIdx s.n.toNat⟩ (Ay x.frames s.n)).2, 0) := by unfold Al Bk; rw [if_neg (by omega), if_pos (by omega)]; rw [if_neg hc]
  rw [er]
  exact Cj (cY, vh, vf, vd) Tryz.isAgg30 Tryz.sizeOf30
theorem Ack {cv hv fv : Value} {x : Chip} {s : Step} {n nl : Nat} {M : List Int} (hs : St (L) R w) (hcv : sl cv x.cores ∈ R) (hhv : sl hv x.home ∈ R) (hfv : sl fv x.frames ∈ R) (hsn : s.wf) (h : Inv n nl x M) (hk : s.kind = 3) : Calls Tryz.prog 16 [.agg #[cv, hv, fv], .agg s.cells.toArray].toArray w (Bs (fun v : Value × Value × Value × Value => .tuple #[.agg #[v.1, v.2.1, v.2.2.1], v.2.2.2, vi (Al x s).2.2]) (fun v => L) (fun v => sl v.1 (Al x s).1.cores :: sl v.2.1 (Al x s).1.home :: sl v.2.2.1 (Al x s).1.frames :: sl v.2.2.2 (Al x s).2.1 :: R)) := by
 refine Zbd ?_;intro hnc hnh hn1 hn2 honec honeh honef hn64 hop
 clear hs
 refine ZaM ?_;intro b2 b3 b4
 refine rn1 ?_
 refine An Tryz.call40 rfl (fun w hs => H1 (x := x) (cv := cv) (hv := hv) (fv := fv) hs mm mm mm (by omega)) ?_; intro ⟨cY, hY, fY⟩
 refine Zbg ?_;intro h12
 obtain ⟨honeY1, honeY2, honeY3⟩ := h12
 refine Zbh ?_;intro b7
 refine Zaz ?_
 refine Gc1 ?_
 rcases (show (Cn x s.n) ∨ (¬ Cn x s.n) from by exact Classical.em _) with hc | hc
 ·refine Zdj ?_;intro hnt
  refine ZE ?_
  refine An (γ := Value × Value) (val := fun v => .tuple #[v.1, v.2, vi 5]) (Rf := fun v => sl v.1 ([] : Frames) :: sl v.2 ([] : List UInt8) :: _) Tryz.call43 rfl (fun w hs => by have h := I4 (v0 := fv) (l := x.frames) (n := s.n) hs mm hsn.2.2.1; rw [hnt] at h; exact frz h) ?_; intro ⟨va, vb⟩
  refine Ga7 ?_
  refine kp [2, 3, 4, 5, 6, 7, 8, 9, 14, 15, 16, 20, 79, 80] ?_
  refine ZB ?_
  refine ZaR ?_
  refine Zbp ?_
  have er : Al x s = (zChip, [], 5) := by unfold Al Bk; rw [if_neg (by omega), if_neg (by omega), if_pos (by omega)]; rw [if_pos hc]
  rw [er]
  exact Zfa
 ·refine ZcZ ?_;intro hnt
  refine ZE ?_
  refine An (γ := Value × Value) (val := fun v => .tuple #[v.1, v.2, vi 0]) (Rf := fun v => sl v.1 (x.frames.eraseIdx s.n.toNat) :: sl v.2 (Ay x.frames s.n) :: _) Tryz.call43 rfl (fun w hs => by have h := I4 (v0 := fv) (l := x.frames) (n := s.n) hs mm hsn.2.2.1; rw [hnt] at h; exact frz h) ?_; intro ⟨va, vb⟩
  refine Ga7 ?_
  refine kp [2, 3, 4, 5, 6, 7, 8, 9, 14, 15, 16, 20, 79, 80] ?_
  refine ZB ?_
  refine Zb4 ?_
  refine JC.know (p := va.oneCell' = true) (fun w hs => isSlice.one (hs.fact (mm (f := sl va (x.frames.eraseIdx s.n.toNat))))) (fun honeva => ?_)
  refine ZD ?_
  refine sc ?_
  refine ZJ ?_
  refine Aw ?_
  refine Gmc ?_
  refine rn1 ?_
  refine Zb4 ?_
  refine Zdc ?_
  have er : Al x s = (⟨x.cores, x.home, x.frames.eraseIdx s.n.toNat⟩, [], 0) := by unfold Al Bk; rw [if_neg (by omega), if_neg (by omega), if_pos (by omega)]; rw [if_neg hc]
  exact ZgK
theorem Acj {cv hv fv : Value} {x : Chip} {s : Step} {n nl : Nat} {M : List Int} (hs : St (L) R w) (hcv : sl cv x.cores ∈ R) (hhv : sl hv x.home ∈ R) (hfv : sl fv x.frames ∈ R) (hsn : s.wf) (h : Inv n nl x M) (hk : s.kind = 4) : Calls Tryz.prog 16 [.agg #[cv, hv, fv], .agg s.cells.toArray].toArray w (Bs (fun v : Value × Value × Value × Value => .tuple #[.agg #[v.1, v.2.1, v.2.2.1], v.2.2.2, vi (Al x s).2.2]) (fun v => L) (fun v => sl v.1 (Al x s).1.cores :: sl v.2.1 (Al x s).1.home :: sl v.2.2.1 (Al x s).1.frames :: sl v.2.2.2 (Al x s).2.1 :: R)) := by
 refine Zbd ?_;intro hnc hnh hn1 hn2 honec honeh honef hn64 hop
 clear hs
 refine ZaM ?_;intro b2 b3 b4
 refine rn1 ?_
 refine An Tryz.call40 rfl (fun w hs => H1 (x := x) (cv := cv) (hv := hv) (fv := fv) hs mm mm mm (by omega)) ?_; intro ⟨cY, hY, fY⟩
 refine Zbg ?_;intro h12
 obtain ⟨honeY1, honeY2, honeY3⟩ := h12
 refine Zbh ?_;intro b7
 refine ZF ?_
 refine Zaz ?_
 refine Gc1 ?_
 rcases (show (Cn x s.n) ∨ (¬ Cn x s.n) from by exact Classical.em _) with hc | hc
 ·have hnt : E7 x.frames s.n = ([], 5) := by unfold E7; rw [if_pos (show s.n < 0 ∨ (x.frames.length : Int) ≤ s.n from hc)]
  refine ZE ?_
  refine An (γ := Value) (val := fun v => .tuple #[v, vi 5]) (Rf := fun v => sl v ([] : Frames) :: _) Tryz.call45 rfl (fun w hs => by have h := Qn (v0 := fv) (l := x.frames) (n := s.n) hs mm hsn.2.2.1; rw [hnt] at h; exact frz h) ?_; intro va
  refine ZcV ?_;intro honeva
  refine ZB ?_
  refine ZaR ?_
  refine Zbp ?_
  have er : Al x s = (zChip, [], 5) := by unfold Al Bk; rw [if_neg (by omega), if_neg (by omega), if_neg (by omega), if_pos (by omega)]; rw [if_pos hc]
  rw [er]
  exact Zfa
 ·have hnt : E7 x.frames s.n = (Dn x.frames (Ay x.frames s.n), 0) := by unfold E7; rw [if_neg (show ¬ (s.n < 0 ∨ (x.frames.length : Int) ≤ s.n) from hc)]
  refine ZE ?_
  refine An (γ := Value) (val := fun v => .tuple #[v, vi 0]) (Rf := fun v => sl v (Dn x.frames (Ay x.frames s.n)) :: _) Tryz.call45 rfl (fun w hs => by have h := Qn (v0 := fv) (l := x.frames) (n := s.n) hs mm hsn.2.2.1; rw [hnt] at h; exact frz h) ?_; intro va
  refine ZcV ?_;intro honeva
  refine ZB ?_
  refine Zb4 ?_
  refine Zdc ?_
  have er : Al x s = (⟨x.cores, x.home, Dn x.frames (Ay x.frames s.n)⟩, [], 0) := by unfold Al Bk; rw [if_neg (by omega), if_neg (by omega), if_neg (by omega), if_pos (by omega)]; rw [if_neg hc]
  exact ZgK
theorem Aci {cv hv fv : Value} {x : Chip} {s : Step} {n nl : Nat} {M : List Int} (hs : St (L) R w) (hcv : sl cv x.cores ∈ R) (hhv : sl hv x.home ∈ R) (hfv : sl fv x.frames ∈ R) (hsn : s.wf) (h : Inv n nl x M) (hk : s.kind = 5) : Calls Tryz.prog 16 [.agg #[cv, hv, fv], .agg s.cells.toArray].toArray w (Bs (fun v : Value × Value × Value × Value => .tuple #[.agg #[v.1, v.2.1, v.2.2.1], v.2.2.2, vi (Al x s).2.2]) (fun v => L) (fun v => sl v.1 (Al x s).1.cores :: sl v.2.1 (Al x s).1.home :: sl v.2.2.1 (Al x s).1.frames :: sl v.2.2.2 (Al x s).2.1 :: R)) := by
 refine Zbd ?_;intro hnc hnh hn1 hn2 honec honeh honef hn64 hop
 clear hs
 refine ZaM ?_;intro b2 b3 b4
 refine rn1 ?_
 refine An Tryz.call40 rfl (fun w hs => H1 (x := x) (cv := cv) (hv := hv) (fv := fv) hs mm mm mm (by omega)) ?_; intro ⟨cY, hY, fY⟩
 refine Zbg ?_;intro h12
 obtain ⟨honeY1, honeY2, honeY3⟩ := h12
 refine Zbh ?_;intro b7
 refine ZaW ?_
 refine Gd1 ?_
 refine rn1 ?_
 refine An Tryz.call46 rfl (fun w hs => V0 (x := x) (cv := cv) (hv := hv) (fv := fv) (s := s) (Ag (L' := blk b2 30 [cv, hv, fv] :: row 57 cY x.cores :: blk b7 30 [cY, hY, fY] :: blk b4 30 [.slice none 0 0, .slice none 0 0, .slice none 0 0] :: blk b3 38 s.cells :: L) hs) mm mm mm hsn) ?_; intro va
 refine ZcV ?_;intro honeva
 refine ZO ?_
 refine cdy ?_ ?_
 ·intro ht115
  refine Gl ?_
  refine Zai ?_
  refine Zbp ?_
  have er : Al x s = (zChip, [], (Lh x s).2) := by unfold Al Bk; rw [if_neg (by omega), if_neg (by omega), if_neg (by omega), if_neg (by omega), if_pos (by omega)]; revert ht115; unfold Lh; (repeat' split) <;> simp_all
  rw [er]
  exact Cj (.slice none 0 0, .slice none 0 0, .slice none 0 0, .slice none 0 0) Tryz.isAgg30 Tryz.sizeOf30
 ·intro ht115
  refine Gl ?_
  refine Zdc ?_
  have er : Al x s = (⟨x.cores, x.home, (Lh x s).1⟩, [], 0) := by unfold Al Bk; rw [if_neg (by omega), if_neg (by omega), if_neg (by omega), if_neg (by omega), if_pos (by omega)]; revert ht115; unfold Lh; (repeat' split) <;> simp_all
  rw [er]
  exact Cj (cY, hY, va, .slice none 0 0) Tryz.isAgg30 Tryz.sizeOf30
theorem Ach {cv hv fv : Value} {x : Chip} {s : Step} {n nl : Nat} {M : List Int} (hs : St (L) R w) (hcv : sl cv x.cores ∈ R) (hhv : sl hv x.home ∈ R) (hfv : sl fv x.frames ∈ R) (hsn : s.wf) (h : Inv n nl x M) (hk : s.kind = 6) : Calls Tryz.prog 16 [.agg #[cv, hv, fv], .agg s.cells.toArray].toArray w (Bs (fun v : Value × Value × Value × Value => .tuple #[.agg #[v.1, v.2.1, v.2.2.1], v.2.2.2, vi (Al x s).2.2]) (fun v => L) (fun v => sl v.1 (Al x s).1.cores :: sl v.2.1 (Al x s).1.home :: sl v.2.2.1 (Al x s).1.frames :: sl v.2.2.2 (Al x s).2.1 :: R)) := by
 refine Zbd ?_;intro hnc hnh hn1 hn2 honec honeh honef hn64 hop
 clear hs
 refine ZaM ?_;intro b2 b3 b4
 refine rn1 ?_
 refine An Tryz.call40 rfl (fun w hs => H1 (x := x) (cv := cv) (hv := hv) (fv := fv) hs mm mm mm (by omega)) ?_; intro ⟨cY, hY, fY⟩
 refine Zbg ?_;intro h12
 obtain ⟨honeY1, honeY2, honeY3⟩ := h12
 refine Zbh ?_;intro b7
 refine ZF ?_
 refine ZaW ?_
 refine Gd1 ?_
 refine rn2 ?_
 refine An Tryz.call47 rfl (fun w hs => Vz (x := x) (cv := cY) (hv := hY) (fv := fY) (node := s.node) (Ag (L' := row 57 cY x.cores :: blk b7 30 [cY, hY, fY] :: blk b4 30 [.slice none 0 0, .slice none 0 0, .slice none 0 0] :: blk b3 38 s.cells :: blk b2 30 [cv, hv, fv] :: L) hs) mm mm h) ?_; intro va
 refine J.know (p := va.oneCell' = true) (fun w hs => isSlice.one (hs.fact (.head _))) (fun honeva => ?_)
 refine ZG ?_
 refine cdy ?_ ?_
 ·intro ht115
  refine Gl ?_
  refine Zai ?_
  refine kp [4, 5, 6, 7, 8, 9, 116, 117] ?_
  refine Zbp ?_
  have er : Al x s = (zChip, [], (Lg x s.node)) := by unfold Al Bk; rw [if_neg (by omega), if_neg (by omega), if_neg (by omega), if_neg (by omega), if_neg (by omega), if_pos (by omega)]; revert ht115; unfold Lg Bk; split <;> simp_all
  rw [er]
  exact Cj (.slice none 0 0, .slice none 0 0, .slice none 0 0, .slice none 0 0) Tryz.isAgg30 Tryz.sizeOf30
 ·intro ht115
  refine Gl ?_
  refine JC.shut (v := cY) (xs := x.cores) pkk ?_
  refine ZK ?_
  refine kp [4, 5, 6, 7, 8, 118, 119] ?_
  refine ZD ?_
  refine s_B (cs := [cY, hY, va]) Tryz.sizeOf30 ?_
  refine Ga2 ?_
  have er : Al x s = (⟨x.cores, x.home, Ff x s.node⟩, [], 0) := by unfold Al Bk; rw [if_neg (by omega), if_neg (by omega), if_neg (by omega), if_neg (by omega), if_neg (by omega), if_pos (by omega)]; revert ht115; unfold Lg Ff Bk; split <;> simp_all; split <;> rfl
  rw [er]
  exact Cj (cY, hY, va, .slice none 0 0) Tryz.isAgg30 Tryz.sizeOf30
theorem V1 {cv hv fv : Value} {x : Chip} {s : Step} {n nl : Nat} {M : List Int} (hs : St (L) R w) (hcv : sl cv x.cores ∈ R) (hhv : sl hv x.home ∈ R) (hfv : sl fv x.frames ∈ R) (hsn : s.wf) (h : Inv n nl x M) : Calls Tryz.prog 16 [.agg #[cv, hv, fv], .agg s.cells.toArray].toArray w (Bs (fun v : Value × Value × Value × Value => .tuple #[.agg #[v.1, v.2.1, v.2.2.1], v.2.2.2, vi (Al x s).2.2]) (fun v => L) (fun v => sl v.1 (Al x s).1.cores :: sl v.2.1 (Al x s).1.home :: sl v.2.2.1 (Al x s).1.frames :: sl v.2.2.2 (Al x s).2.1 :: R)) := by
 by_cases h1 : s.kind = 1
 ·exact Acm hs hcv hhv hfv hsn h h1
 by_cases h2 : s.kind = 2
 ·exact Acl hs hcv hhv hfv hsn h h2
 by_cases h3 : s.kind = 3
 ·exact Ack hs hcv hhv hfv hsn h h3
 by_cases h4 : s.kind = 4
 ·exact Acj hs hcv hhv hfv hsn h h4
 by_cases h5 : s.kind = 5
 ·exact Aci hs hcv hhv hfv hsn h h5
 by_cases h6 : s.kind = 6
 ·exact Ach hs hcv hhv hfv hsn h h6
 exact Acn hs hcv hhv hfv hsn h (by omega)
def U5 (p : Nat → Bool) : Nat → Int
 | 0 => -1
 | k + 1 => if 0 ≤ U5 p k then U5 p k else if p k = true then (k : Int) else -1
theorem Tu {p : Nat → Bool} : ∀ {k : Nat}, (∀ i, i < k → p i = false) → U5 p k = -1
 | 0, _ => rfl
 | k + 1, h => by
  simp only [U5]
  rw [Tu (k := k) fun i hi => h i (by omega), if_neg (by decide), if_neg (by rw [h k (by omega)]; decide)]
theorem Xi {p : Nat → Bool} {k : Nat} (h : ∀ i, i < k → p i = false) (hk : p k = true) : ∀ {n : Nat}, k < n → U5 p n = (k : Int)
 | 0, hn => absurd hn (by omega)
 | n + 1, hn => by
  simp only [U5]
  by_cases e : k = n
  ·rw [← e, Tu h, if_neg (by decide), if_pos hk]
  ·rw [Xi h hk (n := n) (by omega), if_pos (by omega)]
theorem Xh {p : Nat → Bool} : ∀ {n : Nat}, Lm (fun k => !p k) n = false → 0 ≤ U5 p n
 | 0, e => by cases e
 | n + 1, e => by
  simp only [Lm, Bool.and_eq_false_iff] at e
  simp only [U5]
  by_cases h : 0 ≤ U5 p n
  ·rw [if_pos h]; exact h
  ·rw [if_neg h]
   rcases e with e | e
   ·exact absurd (Xh e) h
   ·rw [if_pos (by simpa using e)]; omega
theorem Agc {p : Nat → Bool} {n : Nat} : decide (0 ≤ U5 p n) = !Lm (fun k => !p k) n := by
 cases e : Lm (fun k => !p k) n with
 | true => rw [Tu fun i hi => by have := allN_iff.1 e i hi; simpa using this]; rfl
 | false => rw [decide_eq_true (Xh e)]; rfl
theorem Agd {cv : Value} {x : Chip} {ff : Nat} {caps : List Value} {p : Nat → Bool} (hs : St (L) R w) (hv : sl cv x.cores ∈ R) (hf : ∀ args w, (callFunc ff args).run Tryz.prog w = .ok (.enter ff args) w) (hc : ∀ k, k < x.cores.length → (cor x k).wait.wf → ∀ uk, uk.oneCell' = true → ∀ R' w, sl uk (cor x k).lines ∈ R' → St L R' w → Calls Tryz.prog ff ([Value.agg (Core.cells uk (cor x k)).toArray] ++ caps).toArray w (Bs (fun _ : Unit => .bool (p k)) (fun _ => L) (fun _ => R'))) : Calls Tryz.prog 101 [cv, .func (.func ff) #[] caps.toArray].toArray w (Bs (fun _ : Unit => vi (U5 p x.cores.length)) (fun _ => L) (fun _ => R)) := by
 have hlen := Be hv hs
 refine Ai Tryz.func101 rfl Tryz.ntmps101 rfl hs ?_
 clear hs
 refine ZN ?_
 refine Ga3 ?_
 refine A7 (γ := Nat) (fun k => k ≤ x.cores.length ∧ ∀ i, i < k → p i = false) (fun _ => L) (fun _ => R) (fun k => [(0, cv), (1, .func (.func ff) #[] caps.toArray), (7, vi (x.cores.length : Int)), (8, vi (k : Int))]) (fun k => x.cores.length - k) 0 ⟨Nat.zero_le _, fun i hi => absurd hi (by omega)⟩ alT (fun w hs => hs) ?_
 rintro k ⟨hk, hp0⟩
 refine ZA ?_
 refine cdy ?_ ?_
 ·intro ht9
  refine ZC ?_
  refine Fh k (v := cv) mm (by omega) (fun hwk uk honek => ?_)
  refine Za2 ?_
  refine By (γ := Unit) (val := fun _ => .bool (p k)) (caps := caps) (vs := [.agg (Core.cells uk (cor x k)).toArray]) rfl hf rfl (fun w hs => hc k (by omega) hwk uk honek _ w mm hs) ?_; intro _
  refine Gl ?_
  first | (refine cdx (p := ?p2) (hd := ?d2) ?e2 ?_ ?_; case e2 => exact rfl) | (refine A9 (b := ?b2) ?e2 ?_ ?_; case e2 => exact rfl)
  ·intro ht16
   refine ZC ?_
   have er : U5 p x.cores.length = (k : Int) := Xi hp0 ht16 (by omega)
   exact Zfo
  ·intro ht16
   refine ZC ?_
   refine Au (k + 1) ⟨by omega, fun i hi => ?_⟩ (by omega) alT (fun w hs => Ag hs)
   by_cases e : i = k
   ·rw [e]; exact ht16
   ·exact hp0 i (by omega)
 ·intro ht9
  refine ZA ?_
  have er : U5 p x.cores.length = -1 := Tu fun i hi => hp0 i (by omega)
  exact Zfo
theorem Aip {cv : Value} {x : Chip} {ff : Nat} {caps : List Value} {p : Nat → Bool} (hs : St (L) R w) (hv : sl cv x.cores ∈ R) (hf : ∀ args w, (callFunc ff args).run Tryz.prog w = .ok (.enter ff args) w) (hc : ∀ k, k < x.cores.length → (cor x k).wait.wf → ∀ uk, uk.oneCell' = true → ∀ R' w, sl uk (cor x k).lines ∈ R' → St L R' w → Calls Tryz.prog ff ([Value.agg (Core.cells uk (cor x k)).toArray] ++ caps).toArray w (Bs (fun _ : Unit => .bool (p k)) (fun _ => L) (fun _ => R'))) : Calls Tryz.prog 81 [cv, .func (.func ff) #[] caps.toArray].toArray w (Bs (fun _ : Unit => .bool (!Lm (fun k => !p k) x.cores.length)) (fun _ => L) (fun _ => R)) := by
 refine Ai Tryz.func81 rfl Tryz.ntmps81 rfl hs ?_
 clear hs
 refine ZN ?_
 refine rn2 ?_
 refine An Tryz.call101 rfl (fun w hs => Agd (ff := ff) (caps := caps) (p := p) hs hv hf hc) ?_; intro _
 refine Ga2 ?_
 rw [← Agc]
 exact Bb ()
theorem Re {cv hv fv : Value} {x : Chip} (hs : St (L) R w) (hcv : sl cv x.cores ∈ R) (hhv : sl hv x.home ∈ R) (hx : CX x) (honef : fv.oneCell' = true) : Calls Tryz.prog 48 [.agg #[cv, hv, fv]].toArray w (Bs (fun _ : Unit => .bool (Fl x)) (fun _ => L) (fun _ => R)) := by
 refine Zbc ?_;intro honec honeh
 have hn4 := hx.n4
 have hh4 := hx.h4
 refine Ai Tryz.func48 rfl Tryz.ntmps48 rfl hs ?_
 clear hs
 refine Zbq ?_;intro b1
 refine Ga4 ?_
 refine A7 (γ := Nat) (fun i => i ≤ x.home.length ∧ Lm (Gi x) i = true) (fun _ => blk b1 30 [cv, hv, fv] :: L) (fun _ => R) (fun i => [(1, bp b1 0), (10, vi (x.home.length : Int)), (11, vi (i : Int))]) (fun i => x.home.length - i) 0 ⟨Nat.zero_le _, rfl⟩ alT (fun w hs => Ag hs) ?_
 rintro i ⟨hi, hal⟩
 refine ZA ?_
 refine cdy ?_ ?_
 ·intro ht12
  refine Za1 ?_
  refine Gb2 ?_
  refine Ga4 ?_
  refine A7 (γ := Nat) (fun p => p ≤ x.cores.length) (fun _ => blk b1 30 [cv, hv, fv] :: L) (fun _ => R) (fun p => [(1, bp b1 0), (3, vi (i : Int)), (4, vi (Gv (fun p => stN x i p == 2) p : Int)), (5, vi (Gv (fun p => stN x i p == 1) p : Int)), (10, vi (x.home.length : Int)), (11, vi (i : Int)), (15, cv), (16, vi (x.cores.length : Int)), (17, vi (p : Int))]) (fun p => x.cores.length - p) 0 (Nat.zero_le _) alT (fun w hs => Ag hs) ?_
  intro p hp
  have hc2 := Sv (f := fun p => stN x i p == 2) (k := p)
  have hc1 := Sv (f := fun p => stN x i p == 1) (k := p)
  refine ZA ?_
  refine cdy ?_ ?_
  ·intro ht18
   refine Gl ?_
   refine Fh p (v := cv) mm (by omega) (fun hwp up honeu => ?_)
   have hln := hx.ln p (by omega)
   refine ZD ?_
   refine al_ (cs := [.slice none 0 0, vi 0, vi 0, vi 0]) Tryz.zeroValue57 ?_; intro b7
   refine s_B (cs := Core.cells up (cor x p)) Tryz.sizeOf57 ?_
   refine Gl ?_
   refine I3 (x := x) (p := p) i (u := up) mm (by omega) (fun hwl => ?_)
   refine Aa ?_
   refine Gb6 ?_
   refine Ga2 ?_
   refine cdy ?_ ?_
   ·intro ht27
    refine Zem ?_
    refine Au (p + 1) (by omega) (by omega) ⟨rfl, rfl, congrArg (fun z : Nat => some (vi (z : Int))) (show _ = Gv (fun p => stN x i p == 2) (p + 1) from (Yc (by simp [stN, ht27])).symm), congrArg (fun z : Nat => some (vi (z : Int))) (show _ = Gv (fun p => stN x i p == 1) (p + 1) from (Oa (by simp [stN, ht27])).symm), alT⟩ (fun w hs => Ag hs)
   ·intro ht27
    refine ZC ?_
    refine cdy ?_ ?_
    ·intro ht31
     refine Zem ?_
     refine Au (p + 1) (by omega) (by omega) ⟨rfl, rfl, congrArg (fun z : Nat => some (vi (z : Int))) (show _ = Gv (fun p => stN x i p == 2) (p + 1) from (Oa (by simp [stN, ht27])).symm), congrArg (fun z : Nat => some (vi (z : Int))) (show _ = Gv (fun p => stN x i p == 1) (p + 1) from (Yc (by simp [stN, ht31])).symm), alT⟩ (fun w hs => Ag hs)
    ·intro ht31
     refine ZC ?_
     refine Au (p + 1) (by omega) (by omega) ⟨rfl, rfl, congrArg (fun z : Nat => some (vi (z : Int))) (show _ = Gv (fun p => stN x i p == 2) (p + 1) from (Oa (by simp [stN, ht27])).symm), congrArg (fun z : Nat => some (vi (z : Int))) (show _ = Gv (fun p => stN x i p == 1) (p + 1) from (Oa (by simp [stN, ht31])).symm), alT⟩ (fun w hs => Ag hs)
  ·intro ht18
   refine Gl ?_
   have hpe : x.cores.length = p := by omega
   rw [← hpe]
   rcases (show (1 < (Gv (fun p => stN x i p == 2) x.cores.length : Int)) ∨ (¬ 1 < (Gv (fun p => stN x i p == 2) x.cores.length : Int) ∧ (Gv (fun p => stN x i p == 2) x.cores.length : Int) = 1 ∧ 0 < (Gv (fun p => stN x i p == 1) x.cores.length : Int)) ∨ (¬ 1 < (Gv (fun p => stN x i p == 2) x.cores.length : Int) ∧ (Gv (fun p => stN x i p == 2) x.cores.length : Int) = 1 ∧ ¬ 0 < (Gv (fun p => stN x i p == 1) x.cores.length : Int)) ∨ (¬ 1 < (Gv (fun p => stN x i p == 2) x.cores.length : Int) ∧ (Gv (fun p => stN x i p == 2) x.cores.length : Int) ≠ 1) from by omega) with hc | hc | hc | hc
   ·have hat : Gi x i = false := by
     exact Zfi
    refine ZB ?_
    refine Fo ?_
    refine Gd8 ?_
    exact Zgw
   ·have hat : Gi x i = false := by
     exact Zfi
    refine ZB ?_
    refine Dz ?_
    refine Zaf ?_
    refine Cf ?_
    refine Zaf ?_
    refine Fo ?_
    refine Gd2 ?_
    exact Zgw
   ·have hat : Gi x i = true := by
     exact Zfi
    refine ZB ?_
    refine Dz ?_
    refine Zaf ?_
    refine Cf ?_
    refine Zaf ?_
    refine Dz ?_
    refine Gd2 ?_
    exact Zgu
   ·have hat : Gi x i = true := by
     exact Zfi
    refine ZB ?_
    refine Dz ?_
    refine Zaf ?_
    refine Aw ?_
    refine Gd5 ?_
    exact Zgu
 ·intro ht12
  refine ZA ?_
  have er : Fl x = true := by unfold Fl; rw [show x.home.length = i by omega]; exact hal
  exact Zfo
theorem Yk {cv hv fv : Value} {x : Chip} {i : Nat} (hs : St (L) R w) (hcv : sl cv x.cores ∈ R) (hhv : sl hv x.home ∈ R) (hx : CX x) (honef : fv.oneCell' = true) (hi : i < x.home.length) : Calls Tryz.prog 80 [.agg #[cv, hv, fv], vi (i : Int)].toArray w (Bs (fun _ : Unit => vi (Ec x i)) (fun _ => L) (fun _ => R)) := by
 refine Zbc ?_;intro honec honeh
 have hn4 := hx.n4
 have hh4 := hx.h4
 refine Ai Tryz.func80 rfl Tryz.ntmps80 rfl hs ?_
 clear hs
 refine Gm ?_
 refine bx ?_; intro b2
 refine Ga1 ?_
 refine O4 i (v := hv) mm hi (fun hwe ue honeu => ?_)
 have hla := hx.la i hi
 refine Aa ?_
 refine Gb5 ?_
 refine Ga4 ?_
 refine A7 (γ := Nat) (fun p => p ≤ x.cores.length ∧ Ln x i p = none) (fun _ => blk b2 30 [cv, hv, fv] :: L) (fun _ => cF hv 10 i (Entry.cells ue (ent x i)) :: sl ue (ent x i).last :: R) (fun p => [(1, vi (i : Int)), (2, bp b2 0), (5, ep hv 10 i 0), (15, cv), (16, vi (x.cores.length : Int)), (17, vi (p : Int))]) (fun p => x.cores.length - p) 0 ⟨Nat.zero_le _, rfl⟩ alT (fun w hs => Ag hs) ?_
 rintro p ⟨hp, hvn⟩
 refine ZA ?_
 refine cdy ?_ ?_
 ·intro ht18
  refine Gl ?_
  refine Fh p (v := cv) mm (by omega) (fun hwp up honep => ?_)
  have hln := hx.ln p (by omega)
  refine ZL ?_
  refine al_ (cs := [.slice none 0 0, vi 0, vi 0, vi 0]) Tryz.zeroValue57 ?_; intro b7
  refine Ze9 ?_;intro hwl
  refine Aaj (x := x) (i := i) p (u := ue) mm (by omega) (fun hwla => ?_)
  rcases (show ((lin x i p).state = 2) ∨ ((lin x i p).state ≠ 2 ∧ (lin x i p).state = 3 ∧ (ent x i).last.getD p 0 < (lin x i p).serial) ∨ ((lin x i p).state ≠ 2 ∧ (lin x i p).state = 3 ∧ ¬ (ent x i).last.getD p 0 < (lin x i p).serial) ∨ ((lin x i p).state ≠ 2 ∧ (lin x i p).state ≠ 3) from by omega) with hc | hc | hc | hc
  ·have ho : Qi x i p = true := by unfold Qi stN; simp [-List.getD_eq_getElem?_getD]; omega
   refine Bq ?_
   refine dn4 ?_
   refine Zam ?_
   refine dn19 ?_
   refine ZZ ?_
   refine ZdR ?_;intro ρ er
   exact Bb ()
  ·have ho : Qi x i p = true := by unfold Qi stN; simp [-List.getD_eq_getElem?_getD]; omega
   refine Zcx ?_
   refine dn4 ?_
   refine dj (dgy ?_)
   refine ZaE ?_
   refine dj (dgy ?_)
   refine dc (fun _ _ => Ls) ?_
   refine Aed ?_
   refine dj (dgy ?_)
   refine dc (fun _ _ => Am rfl rfl (K4 (by omega))) ?_
   refine dj (dgy ?_)
   refine dc (fun _ _ => Eo) ?_
   refine djf ?_
   refine ZdR ?_;intro ρ er
   exact Bb ()
  ·have ho : Qi x i p = false := by unfold Qi stN; simp [-List.getD_eq_getElem?_getD]; omega
   refine Zcx ?_
   refine dn4 ?_
   refine dj (dgy ?_)
   refine ZaE ?_
   refine dj (dgy ?_)
   refine dc (fun _ _ => Ls) ?_
   refine Aed ?_
   refine dj (dgy ?_)
   refine dc (fun _ _ => Am rfl rfl (Pr (by omega))) ?_
   refine dj (dgy ?_)
   refine dc (fun _ _ => Eo) ?_
   exact Zgn
  ·have ho : Qi x i p = false := by unfold Qi stN; simp [-List.getD_eq_getElem?_getD]; omega
   refine Zcx ?_
   refine dn4 ?_
   refine dj (dgy ?_)
   refine Zaw ?_
   refine dj (dgy ?_)
   refine dc (fun _ _ => Ls) ?_
   refine dn12 ?_
   refine dj (dgy ?_)
   refine dc (fun _ _ => Adt) ?_
   exact Zgn
 ·intro ht18
  refine Zau ?_
  refine cdy ?_ ?_
  ·intro ht61
   refine Gl ?_
   have how := hx.ow i hi ht61
   refine Fh (ent x i).owner.toNat (v := cv) mm (by omega) (fun hwo uo honeo => ?_)
   have hlo := hx.ln (ent x i).owner.toNat (by omega)
   refine I3 (x := x) (p := (ent x i).owner.toNat) i (u := uo) mm (by omega) (fun hwlo => ?_)
   refine Bq ?_
   refine dn12 ?_
   refine dnl ?_; intro ρ
   refine Gl ?_
   refine Bq ?_
   refine dn9 ?_
   refine dnl ?_; intro ρ
   refine Gl ?_
   refine cdy ?_ ?_
   ·intro ht81
    refine Gl ?_
    refine kp [4, 5, 9, 82, 83, 84, 85] ?_
    refine Aa ?_
    refine Ga5 ?_
    refine Zdu ?_;intro hve
    have er : Ec x i = (lin x i (ent x i).owner.toNat).given := by rw [Jz hve]; unfold Adk; rw [if_pos ⟨ht61, ht81⟩]
    exact Zfo
   ·intro ht81
    refine Gl ?_
    refine kp [4, 5, 86, 87, 88, 89] ?_
    refine Aa ?_
    refine Ga5 ?_
    refine Zdu ?_;intro hve
    have er : Ec x i = (ent x i).value := by rw [Jz hve]; unfold Adk; rw [if_neg (fun h => ht81 h.2)]
    exact Zfo
  ·intro ht61
   refine Zau ?_
   refine Zdu ?_;intro hve
   have er : Ec x i = (ent x i).value := by rw [Jz hve]; unfold Adk; rw [if_neg (fun h => ht61 h.1)]
   exact Zfo
theorem Acf {up : Value} {x : Chip} {i p : Nat} {v : Int} {b3 b4 : Nat} (hs : St (blk b4 3 [vi v] :: blk b3 3 [vi (i : Int)] :: L) R w) (hu : sl up (cor x p).lines ∈ R) (hil : i < (cor x p).lines.length) (honeu : up.oneCell' = true) : Calls Tryz.prog 82 [.agg (Core.cells up (cor x p)).toArray, bp b3 0, bp b4 0].toArray w (Bs (fun _ : Unit => .bool (stN x i p == 1 && (lin x i p).value != v)) (fun _ => blk b4 3 [vi v] :: blk b3 3 [vi (i : Int)] :: L) (fun _ => R)) := by
 refine Ai Tryz.func82 rfl Tryz.ntmps82 rfl hs ?_
 clear hs
 refine Zap ?_;intro b3
 refine Ga1 ?_
 refine I3 (x := x) (p := p) i (u := up) hu hil (fun hwl => ?_)
 rcases (show ((lin x i p).state ≠ 1) ∨ ((lin x i p).state = 1 ∧ (lin x i p).value = v) ∨ ((lin x i p).state = 1 ∧ ¬ (lin x i p).value = v) from by omega) with hc | hc | hc
 ·have hst : (stN x i p == 1 && (lin x i p).value != v) = false := by unfold stN; simp; omega
  refine Zao ?_
  refine ZaA ?_
  refine djm ?_
  refine dn8 ?_
  refine djf ?_
  refine ZT ?_;intro ρ
  refine Gl ?_
  rw [hst]
  exact Bb ()
 ·have hst : (stN x i p == 1 && (lin x i p).value != v) = false := by unfold stN; simp; omega
  refine Zao ?_
  refine Zam ?_
  refine dn7 ?_
  refine dj (dgy ?_)
  refine dc (fun _ _ => Am rfl rfl (C0 (by omega))) ?_
  refine Zaq ?_;intro ρ
  refine Gl ?_
  rw [hst]
  exact Bb ()
 ·have hst : (stN x i p == 1 && (lin x i p).value != v) = true := by unfold stN; simp; omega
  refine Zao ?_
  refine Zam ?_
  refine dn7 ?_
  refine dj (dgy ?_)
  refine dc (fun _ _ => Am rfl rfl (E4 (by omega))) ?_
  refine Zaq ?_;intro ρ
  refine Gl ?_
  rw [hst]
  exact Bb ()
theorem Pl {cv hv fv : Value} {x : Chip} (hs : St (L) R w) (hcv : sl cv x.cores ∈ R) (hhv : sl hv x.home ∈ R) (hx : CX x) (honef : fv.oneCell' = true) : Calls Tryz.prog 49 [.agg #[cv, hv, fv]].toArray w (Bs (fun _ : Unit => .bool (Gf x)) (fun _ => L) (fun _ => R)) := by
 refine Zbc ?_;intro honec honeh
 have hn4 := hx.n4
 have hh4 := hx.h4
 refine Ai Tryz.func49 rfl Tryz.ntmps49 rfl hs ?_
 clear hs
 refine Zbq ?_;intro b1
 refine Ga4 ?_
 refine A7 (γ := Nat) (fun i => i ≤ x.home.length ∧ Lm (sameAt x) i = true) (fun _ => blk b1 30 [cv, hv, fv] :: L) (fun _ => R) (fun i => [(1, bp b1 0), (6, hv), (7, vi (x.home.length : Int)), (8, vi (i : Int))]) (fun i => x.home.length - i) 0 ⟨Nat.zero_le _, rfl⟩ alT (fun w hs => Ag hs) ?_
 rintro i ⟨hi, hal⟩
 refine ZA ?_
 refine cdy ?_ ?_
 ·intro ht9
  refine ZI ?_
  refine al_ Tryz.zeroValue3 ?_; intro b3
  refine sc ?_
  refine ZJ ?_
  refine An Tryz.call80 rfl (fun w hs => Yk (x := x) (i := i) hs hcv hhv hx honef (by omega)) ?_; intro _
  refine al_ Tryz.zeroValue3 ?_; intro b4
  refine sc ?_
  refine ZJ ?_
  refine C6 (vs := [bp b3 0, bp b4 0]) rfl ?_
  refine An Tryz.call81 rfl (fun w hs => Aip (x := x) (ff := 82) (caps := [bp b3 0, bp b4 0]) (p := Aer x i) (Ag (L' := blk b4 3 [vi (Ec x i)] :: blk b3 3 [vi (i : Int)] :: blk b1 30 [cv, hv, fv] :: L) hs) hcv Tryz.call82 (fun k hk hwk uk honek R1 w1 hu1 hs1 => Acf hs1 hu1 (by have := hx.ln k hk; omega) honek)) ?_; intro _
  refine Gl ?_
  refine A9 (b := ?b2) ?e2 ?_ ?_; case e2 => exact rfl
  ·intro ht17
   refine ZA ?_
   have er : Gf x = false := Ix (show i < x.home.length by omega) (by simpa [sameAt] using ht17)
   exact Zfo
  ·intro ht17
   refine ZC ?_
   refine Au (i + 1) ⟨by omega, Hj hal (by simpa [sameAt] using ht17)⟩ (by omega) alT (fun w hs => Ag hs)
 ·intro ht9
  refine ZA ?_
  have er : Gf x = true := by unfold Gf; rw [show x.home.length = i by omega]; exact hal
  exact Zfo
theorem Rd {cv hv fv : Value} {x : Chip} (hs : St (L) R w) (hcv : sl cv x.cores ∈ R) (hhv : sl hv x.home ∈ R) (hx : CX x) (honef : fv.oneCell' = true) : Calls Tryz.prog 50 [.agg #[cv, hv, fv]].toArray w (Bs (fun _ : Unit => .bool (Fk x)) (fun _ => L) (fun _ => R)) := by
 refine Zbc ?_;intro honec honeh
 have hn4 := hx.n4
 have hh4 := hx.h4
 refine Ai Tryz.func50 rfl Tryz.ntmps50 rfl hs ?_
 clear hs
 refine Zbq ?_;intro b1
 refine Ga4 ?_
 refine A7 (γ := Nat) (fun i => i ≤ x.home.length ∧ Lm (Xa x) i = true) (fun _ => blk b1 30 [cv, hv, fv] :: L) (fun _ => R) (fun i => [(1, bp b1 0), (10, hv), (11, vi (x.home.length : Int)), (12, vi (i : Int))]) (fun i => x.home.length - i) 0 ⟨Nat.zero_le _, rfl⟩ alT (fun w hs => Ag hs) ?_
 rintro i ⟨hi, hal⟩
 refine ZA ?_
 refine cdy ?_ ?_
 ·intro ht13
  refine Gl ?_
  refine O4 i (v := hv) mm (by omega) (fun hwe ue honeu => ?_)
  have hsh := hx.sh i (by omega)
  refine ZL ?_
  refine al_ (cs := [vi 0, vi 0, vi 0, vi 0, vi 0, vi 0, .bool false, vi 0, vi 0, .slice none 0 0]) Tryz.zeroValue62 ?_; intro b4
  refine rn1 ?_
  refine s_B (cs := Entry.cells ue (ent x i)) Tryz.sizeOf62 ?_
  refine Zav ?_
  refine A7 (γ := Nat) (fun p => p ≤ x.cores.length ∧ Lm (Ht x i) p = true) (fun _ => blk b4 62 (Entry.cells ue (ent x i)) :: blk b1 30 [cv, hv, fv] :: L) (fun _ => R) (fun p => [(1, bp b1 0), (3, vi (i : Int)), (4, bp b4 0), (10, hv), (11, vi (x.home.length : Int)), (12, vi (i : Int)), (18, cv), (19, vi (x.cores.length : Int)), (20, vi (p : Int))]) (fun p => x.cores.length - p) 0 ⟨Nat.zero_le _, rfl⟩ alT (fun w hs => Ag hs) ?_
  rintro p ⟨hp, hkp⟩
  refine ZA ?_
  refine cdy ?_ ?_
  ·intro ht21
   refine Gl ?_
   refine Fh p (v := cv) mm (by omega) (fun hwp up honep => ?_)
   have hln := hx.ln p (by omega)
   refine ZL ?_
   refine al_ (cs := [.slice none 0 0, vi 0, vi 0, vi 0]) Tryz.zeroValue57 ?_; intro b6
   refine Ze9 ?_;intro hwl
   have hgd : Ia x i p = true ↔ ((ent x i).phase = 3 ∧ (ent x i).who = (p : Int)) ∧ (lin x i p).seen = (ent x i).turn := by simp [Ia]
   refine Zej ?_
   refine Cs 8 (.bool (decide (Ia x i p = true))) ?_ ?_
   ·rcases (show ((ent x i).phase ≠ 3) ∨ ((ent x i).phase = 3 ∧ (ent x i).who ≠ (p : Int)) ∨ ((ent x i).phase = 3 ∧ (ent x i).who = (p : Int) ∧ (lin x i p).seen ≠ (ent x i).turn) ∨ ((ent x i).phase = 3 ∧ (ent x i).who = (p : Int) ∧ (lin x i p).seen = (ent x i).turn) from by omega) with hm | hm | hm | hm
    ·refine Zah ?_
     refine ZaA ?_
     refine djm ?_
     refine dn4 ?_
     refine Zaa ?_
     refine dn7 ?_
     refine djf ?_
     refine ZT ?_;intro ρ
     exact Zfl
    ·refine Zah ?_
     refine Zam ?_
     refine dn3 ?_
     refine dj (dgy ?_)
     refine Zaw ?_
     refine Zal ?_
     refine dn7 ?_
     refine djf ?_
     refine ZT ?_;intro ρ
     exact Zfl
    ·refine Zej ?_
     refine Zah ?_
     refine Zam ?_
     refine dn3 ?_
     refine dj (dgy ?_)
     refine ZaV ?_
     refine dj (dgy ?_)
     refine Zaw ?_
     refine Zaq ?_;intro ρ
     exact Zfl
    ·refine Zah ?_
     refine Zam ?_
     refine dn3 ?_
     refine dj (dgy ?_)
     refine ZaV ?_
     refine dj (dgy ?_)
     refine ZaE ?_
     refine Zaq ?_;intro ρ
     refine Aq ?_ (fun w hs => hs)
     refine ⟨by first | exact congrArg (fun b => some (Value.bool b)) (decide_eq_true (by rw [hgd]; omega)).symm | exact congrArg (fun b => some (Value.bool b)) (by simp; omega), alT⟩
   ·refine Av ?_
    refine Gl ?_
    refine ZcO ?_
    refine Cs 47 (.bool (decide ((lin x i p).state = 2 ∧ ¬ (ent x i).owner = (p : Int) ∧ ¬ Ia x i p = true))) ?_ ?_
    ·rcases (show ((lin x i p).state ≠ 2) ∨ ((lin x i p).state = 2 ∧ (ent x i).owner = (p : Int)) ∨ ((lin x i p).state = 2 ∧ ¬ (ent x i).owner = (p : Int) ∧ Ia x i p = true) ∨ ((lin x i p).state = 2 ∧ ¬ (ent x i).owner = (p : Int) ∧ ¬ Ia x i p = true) from by grind) with hm | hm | hm | hm
     ·refine ZE ?_
      refine Aw ?_
      refine Ga11 ?_
      exact ZeM
     ·refine Zbv ?_
      refine H9 ?_
      refine Ga6 ?_
      exact ZeM
     ·refine ZcO ?_
      refine Zbv ?_
      refine Hr ?_
      refine ZP ?_
      refine ob (Ef rfl (decide_eq_true hm.2.2)) ?_
      refine Ga2 ?_
      exact ZeM
     ·refine Zbv ?_
      refine Hr ?_
      refine ZP ?_
      refine ob (Mo rfl (decide_eq_false hm.2.2)) ?_
      exact ZfF
    ·refine Av ?_
     first | (refine cdx (p := ?p3) (hd := ?d3) ?e3 ?_ ?_; case e3 => exact rfl) | (refine A9 (b := ?b3) ?e3 ?_ ?_; case e3 => exact rfl)
     ·intro ht47
      refine Gl ?_
      refine ZcO ?_
      refine ZW ?_
      have hka : Ht x i p = false := by
       unfold Ht stN
       cases hg : Ia x i p <;> cases hb : Jk (ent x i).sharers p <;> simp [hg, hb] at ht47 ⊢ <;> omega
      exact Zgj
     ·intro ht47
      refine Gl ?_
      refine ZcH ?_
      refine Cs 63 (.bool (decide ((lin x i p).state = 1 ∧ ¬ Jk (ent x i).sharers p = true ∧ ¬ (ent x i).owner = (p : Int) ∧ ¬ Ia x i p = true))) ?_ ?_
      ·rcases (show ((lin x i p).state ≠ 1) ∨ ((lin x i p).state = 1 ∧ Jk (ent x i).sharers p = true) ∨ ((lin x i p).state = 1 ∧ ¬ Jk (ent x i).sharers p = true ∧ (ent x i).owner = (p : Int)) ∨ ((lin x i p).state = 1 ∧ ¬ Jk (ent x i).sharers p = true ∧ ¬ (ent x i).owner = (p : Int) ∧ Ia x i p = true) ∨ ((lin x i p).state = 1 ∧ ¬ Jk (ent x i).sharers p = true ∧ ¬ (ent x i).owner = (p : Int) ∧ ¬ Ia x i p = true) from by grind) with hm | hm | hm | hm | hm
       ·refine ZE ?_
        refine Aw ?_
        refine Ga19 ?_
        exact ZeM
       ·refine ZdH ?_
        refine ob (Am rfl rfl (Bh (by rw [if_pos hm.2]; decide))) ?_
        refine Ga12 ?_
        exact ZeM
       ·refine ZcH ?_
        refine Zdq ?_
        refine H9 ?_
        refine Ga6 ?_
        exact ZeM
       ·refine Zdq ?_
        refine Hr ?_
        refine ZP ?_
        refine ob (Ef rfl (decide_eq_true hm.2.2.2)) ?_
        refine Ga2 ?_
        exact ZeM
       ·refine ZcH ?_
        refine Zdq ?_
        refine Hr ?_
        refine ZP ?_
        refine ob (Mo rfl (decide_eq_false hm.2.2.2)) ?_
        exact ZfF
      ·refine Av ?_
       first | (refine cdx (p := ?p4) (hd := ?d4) ?e4 ?_ ?_; case e4 => exact rfl) | (refine A9 (b := ?b4) ?e4 ?_ ?_; case e4 => exact rfl)
       ·intro ht63
        refine ZA ?_
        have hka : Ht x i p = false := by
         unfold Ht stN
         cases hg : Ia x i p <;> cases hb : Jk (ent x i).sharers p <;> simp [hg, hb] at ht63 ⊢ <;> omega
        exact Zgj
       ·intro ht63
        refine ZC ?_
        have hka : Ht x i p = true := by
         unfold Ht stN
         cases hg : Ia x i p <;> cases hb : Jk (ent x i).sharers p <;> simp [hg, hb] at ht47 ht63 ⊢ <;> omega
        refine Au (p + 1) ⟨by omega, Hj hkp hka⟩ (by omega) alT (fun w hs => Ag hs)
  ·intro ht21
   refine ZC ?_
   refine Au (i + 1) ⟨by omega, Hj hal (by unfold Xa; rw [show x.cores.length = p by omega]; exact hkp)⟩ (by omega) alT (fun w hs => Ag hs)
 ·intro ht13
  refine ZA ?_
  have er : Fk x = true := by unfold Fk; rw [show x.home.length = i by omega]; exact hal
  exact Zfo
theorem Yj {cv hv fv : Value} {x : Chip} (hs : St (L) R w) (hcv : sl cv x.cores ∈ R) (hhv : sl hv x.home ∈ R) (hx : CX x) (hfv : sl fv x.frames ∈ R) (honef : fv.oneCell' = true) : Calls Tryz.prog 17 [.agg #[cv, hv, fv]].toArray w (Bs (fun _ : Unit => vi (Ev x)) (fun _ => L) (fun _ => R)) := by
 refine Zbc ?_;intro honec honeh
 have hn4 := hx.n4
 have hh4 := hx.h4
 refine Ai Tryz.func17 rfl Tryz.ntmps17 rfl hs ?_
 clear hs
 refine Zbq ?_;intro b1
 refine Ga5 ?_
 refine cdy ?_ ?_
 ·intro ht5
  refine ZA ?_
  have er : Ev x = 4 := by unfold Ev; rw [if_pos (by omega)]
  exact Zfo
 ·intro ht5
  refine Gl ?_
  refine kp [1, 2, 10, 11, 12, 13] ?_
  refine Cs 10 (.bool (decide (Fl x = false))) ?_ ?_
  ·rcases (show (Fl x = false) ∨ (Fl x = true) from by cases Fl x <;> simp) with hm | hm
   ·refine ZB ?_
    refine An Tryz.call48 rfl (fun w hs => Re (x := x) hs hcv hhv hx honef) ?_; intro _
    refine ob (Mo rfl hm) ?_
    refine Ga1 ?_
    refine Aq ?_ (fun w hs => hs)
    refine ⟨by first | exact congrArg (fun b => some (Value.bool b)) (decide_eq_true (by simp [hm])).symm | exact congrArg (fun b => some (Value.bool b)) (by simp; omega), alT⟩
   ·refine ZB ?_
    refine An Tryz.call48 rfl (fun w hs => Re (x := x) hs hcv hhv hx honef) ?_; intro _
    refine ob (Ef rfl hm) ?_
    refine Ga1 ?_
    refine Aq ?_ (fun w hs => hs)
    refine ⟨by first | exact congrArg (fun b => some (Value.bool b)) (decide_eq_false (by simp [hm])).symm | exact congrArg (fun b => some (Value.bool b)) (by simp; omega), alT⟩
  ·refine Av ?_
   first | (refine cdx (p := ?p2) (hd := ?d2) ?e2 ?_ ?_; case e2 => exact rfl) | (refine A9 (b := ?b2) ?e2 ?_ ?_; case e2 => exact rfl)
   ·intro ht10
    refine ZA ?_
    have er : Ev x = 6 := by unfold Ev; rw [if_neg (by omega), if_pos (by simpa using ht10)]
    exact Zfo
   ·intro ht10
    refine Gl ?_
    refine kp [1, 2, 14, 15, 16, 17, 18, 19, 20, 21, 22] ?_
    refine Cs 14 (.bool (decide (Gf x = false ∨ Fk x = false))) ?_ ?_
    ·rcases (show (Gf x = false) ∨ (Gf x = true ∧ Fk x = false) ∨ (Gf x = true ∧ Fk x = true) from by cases Gf x <;> cases Fk x <;> simp) with hm | hm | hm
     ·refine ZB ?_
      refine An Tryz.call49 rfl (fun w hs => Pl (x := x) hs hcv hhv hx honef) ?_; intro _
      refine ob (Mo rfl hm) ?_
      refine Ga6 ?_
      refine Aq ?_ (fun w hs => hs)
      refine ⟨by first | exact congrArg (fun b => some (Value.bool b)) (decide_eq_true (by simp [hm])).symm | exact congrArg (fun b => some (Value.bool b)) (by simp; omega), alT⟩
     ·refine ZB ?_
      refine An Tryz.call49 rfl (fun w hs => Pl (x := x) hs hcv hhv hx honef) ?_; intro _
      refine ob (Ef rfl hm.1) ?_
      refine Zaf ?_
      refine An Tryz.call50 rfl (fun w hs => Rd (x := x) hs hcv hhv hx honef) ?_; intro _
      refine gy ?_
      refine ob (Mo rfl hm.2) ?_
      refine Ga2 ?_
      refine Aq ?_ (fun w hs => hs)
      refine ⟨by first | exact congrArg (fun b => some (Value.bool b)) (decide_eq_true (by simp [hm])).symm | exact congrArg (fun b => some (Value.bool b)) (by simp; omega), alT⟩
     ·refine ZB ?_
      refine An Tryz.call49 rfl (fun w hs => Pl (x := x) hs hcv hhv hx honef) ?_; intro _
      refine ob (Ef rfl hm.1) ?_
      refine Zaf ?_
      refine An Tryz.call50 rfl (fun w hs => Rd (x := x) hs hcv hhv hx honef) ?_; intro _
      refine gy ?_
      refine ob (Ef rfl hm.2) ?_
      refine Ga2 ?_
      refine Aq ?_ (fun w hs => hs)
      refine ⟨by first | exact congrArg (fun b => some (Value.bool b)) (decide_eq_false (by simp [hm])).symm | exact congrArg (fun b => some (Value.bool b)) (by simp; omega), alT⟩
    ·refine Av ?_
     first | (refine cdx (p := ?p3) (hd := ?d3) ?e3 ?_ ?_; case e3 => exact rfl) | (refine A9 (b := ?b3) ?e3 ?_ ?_; case e3 => exact rfl)
     ·intro ht14
      refine ZA ?_
      have er : Ev x = 2 := by unfold Ev; rw [if_neg (by omega), if_neg (by simpa using ht10), if_pos (by simpa using ht14)]
      exact Zfo
     ·intro ht14
      refine Zav ?_
      refine A7 (γ := Nat) (fun i => i ≤ x.frames.length ∧ Lm (Kw x) i = true) (fun _ => blk b1 30 [cv, hv, fv] :: L) (fun _ => R) (fun i => [(24, fv), (25, vi (x.frames.length : Int)), (26, vi (i : Int))]) (fun i => x.frames.length - i) 0 ⟨Nat.zero_le _, rfl⟩ alT (fun w hs => Ag hs) ?_
      rintro i ⟨hi, hal⟩
      refine Gl ?_
      refine kp [2, 24, 25, 26, 27] ?_
      refine ZW ?_
      refine cdy ?_ ?_
      ·intro ht27
       refine Gl ?_
       refine JC.open1 (xs := x.frames) (v := fv) i mm (by omega) (fun _ fu => ?_)
       refine Aa ?_
       refine Gb3 ?_
       refine Ga3 ?_
       refine cdy ?_ ?_
       ·intro ht32
        have g32 : ((x.frames.getD i []).length : Int) ≠ 12 := ht32
        refine ZA ?_
        have er : Ev x = 3 := by unfold Ev; rw [if_neg (by omega), if_neg (by simpa using ht10), if_neg (by simpa using ht14), if_pos (Ix (show i < x.frames.length by omega) (by unfold Kw; simp only [beq_eq_false_iff_ne]; omega))]
        exact Zfo
       ·intro ht32
        have g32 : ¬ ((x.frames.getD i []).length : Int) ≠ 12 := ht32
        refine ZC ?_
        refine Au (i + 1) ⟨by omega, Hj hal (by unfold Kw; simp only [beq_iff_eq]; omega)⟩ (by omega) alT (fun w hs => Ag hs)
      ·intro ht27
       refine ZA ?_
       have er : Ev x = 0 := by unfold Ev; rw [if_neg (by omega), if_neg (by simpa using ht10), if_neg (by simpa using ht14), if_neg (by rw [show x.frames.length = i by omega, hal]; decide)]
       exact Zfo
theorem T6 (p q : Prop) : ¬ p ∨ (p ∧ q) ∨ (p ∧ ¬ q) := by
 by_cases h1 : p <;> by_cases h2 : q <;> simp [h1, h2]
section
variable {h : List Chip} {x : Chip} {ops : List Op} {losses : Bool}
theorem Gr {l : List Step} {j : Nat} (hj : j < l.length) : E2 h x (l.drop j) = match Lj h x (l.getD j zStep) with | none => none | some h' => E2 h' x (l.drop (j + 1)) := by
 rw [List.drop_eq_getElem_cons hj, List.getD_eq_getElem?_getD, List.getElem?_eq_getElem hj]; rfl
theorem Tl {l : List Chip} {i : Nat} (hi : i < l.length) : Hd ops losses h (l.drop i) = match E2 h (l.getD i zChip) (Gx (l.getD i zChip) ops losses) with | none => none | some h' => Hd ops losses h' (l.drop (i + 1)) := by
 rw [List.drop_eq_getElem_cons hi, List.getD_eq_getElem?_getD, List.getElem?_eq_getElem hi]; rfl
theorem try_a {s : Step} (hc : ¬ (Al x s).2.2 = 0) : Lj h x s = some h := by unfold Lj; rw [if_pos (.inl hc)]
theorem try_b {s : Step} (hc : (Al x s).2.2 = 0 ∧ (Al x s).1 ∈ h) : Lj h x s = some h := by unfold Lj; rw [if_pos (.inr hc.2)]
theorem try_c {s : Step} (hc : (Al x s).2.2 = 0 ∧ ¬ (Al x s).1 ∈ h) (hl : h.length = 120) : Lj h x s = none := by
 unfold Lj; rw [if_neg (fun a => a.elim (fun b => b hc.1) hc.2), if_pos hl]
theorem try_d {s : Step} (hc : (Al x s).2.2 = 0 ∧ ¬ (Al x s).1 ∈ h) (hl : ¬ h.length = 120) : Lj h x s = some (h ++ [(Al x s).1]) := by
 unfold Lj; rw [if_neg (fun a => a.elim (fun b => b hc.1) hc.2), if_neg hl]
end
section
variable {c : Config} {ops : List Op} {losses : Bool} {most : Int}
theorem ea_1 (h : (A4 c).2 ≠ 0) : He c ops losses most = (⟨0, 0, false⟩, (A4 c).2) := by unfold He; rw [if_pos h]
theorem ea_2 (h : (A4 c).2 = 0) (h2 : most < 0 ∨ 300 < most) : He c ops losses most = (⟨0, 0, false⟩, 3) := by unfold He; rw [if_neg (by rw [h]; decide), if_pos h2]
theorem ea_3 (h : (A4 c).2 = 0) (h2 : ¬ (most < 0 ∨ 300 < most)) (h3 : 12 < ops.length) : He c ops losses most = (⟨0, 0, false⟩, 4) := by unfold He; rw [if_neg (by rw [h]; decide), if_neg h2, if_pos h3]
theorem ea_n (h : (A4 c).2 = 0) (h2 : ¬ (most < 0 ∨ 300 < most)) (h3 : ¬ 12 < ops.length) (e : Gp ops losses most.toNat [(A4 c).1] 0 = none) : He c ops losses most = (⟨120, 0, true⟩, 0) := by
 unfold He; rw [if_neg (by rw [h]; decide), if_neg h2, if_neg h3, e]
theorem ea_s {l : List Chip} (h : (A4 c).2 = 0) (h2 : ¬ (most < 0 ∨ 300 < most)) (h3 : ¬ 12 < ops.length) (e : Gp ops losses most.toNat [(A4 c).1] 0 = some l) : He c ops losses most = (⟨(l.length : Int), 0, false⟩, 0) := by
 unfold He; rw [if_neg (by rw [h]; decide), if_neg h2, if_neg h3, e]
theorem Tc {k : Nat} {had : List Chip} {f : Nat} (hk : 0 < k) (e : Hd ops losses had (had.drop f) = none) : Gp ops losses k had f = none := by
 obtain ⟨j, rfl⟩ : ∃ j, k = j + 1 := ⟨k - 1, by omega⟩
 unfold Gp; rw [e]
theorem Tb {k : Nat} {had h : List Chip} {f : Nat} (hk : 0 < k) (e : Hd ops losses had (had.drop f) = some h) : Gp ops losses k had f = Gp ops losses (k - 1) h had.length := by
 obtain ⟨j, rfl⟩ : ∃ j, k = j + 1 := ⟨k - 1, by omega⟩
 show (match Hd ops losses had (had.drop f) with | none => none | some h => Gp ops losses j h had.length) = _
 rw [e]; rfl
theorem Xs {had t : List Chip} {y : Chip} : (had ++ t ++ [y]).drop had.length = (had ++ t).drop had.length ++ [y] := by
 rw [List.append_assoc, List.drop_left, List.drop_left]
theorem Xb {n nl : Nat} {l : List Chip} {y : Chip} {M : List Int} (hl : ∀ x ∈ l, ∃ M, Inv n nl x M) (hy : Inv n nl y M) : Hb y ∈ l.map Hb ↔ y ∈ l := by
 refine ⟨fun h => ?_, fun h => List.mem_map.2 ⟨y, h, rfl⟩⟩
 obtain ⟨x, hx, e⟩ := List.mem_map.1 h
 obtain ⟨Mx, hI⟩ := hl x hx
 rw [Xc hI hy e] at hx; exact hx
end
theorem expAll {vo : Value} {c : Config} {ops : List Op} {losses : Bool} {most : Int} (hs : St (L) R w) (ho : sl vo ops ∈ R) (hcw : c.wf) (hm : Ao most) : Calls Tryz.prog 8 [.agg c.cells.toArray, vo, .bool losses, vi most].toArray w (Bs (fun _ : Unit => .tuple #[.agg (Seen.cells (He c ops losses most).1).toArray, vi (He c ops losses most).2]) (fun _ => L) (fun _ => R)) := by
 refine Ai Tryz.func8 rfl Tryz.ntmps8 rfl hs ?_
 clear hs
 refine Gm ?_
 refine bx ?_; intro b4
 refine al_ (cs := zSeen.cells) Tryz.zeroValue41 ?_; intro b8
 refine Gb1 ?_
 refine rn1 ?_
 refine An Tryz.call15 rfl (fun w hs => Acg (c := c) hs hcw) ?_; intro v25
 refine J.know (p := v25.1.oneCell' = true ∧ v25.2.oneCell' = true) (fun w hs => ⟨isSlice.one (hs.fact (.head _)), isSlice.one (hs.fact (.tail _ (.head _)))⟩) (fun h12 => ?_)
 obtain ⟨honev251, honev252⟩ := h12
 refine rn3 ?_
 refine al_ (cs := [.slice none 0 0, .slice none 0 0, .slice none 0 0]) Tryz.zeroValue30 ?_; intro b10
 refine s_B (cs := [v25.1, v25.2, .slice none 0 0]) Tryz.sizeOf30 ?_
 refine ZG ?_
 refine cdy ?_ ?_
 ·intro ht29
  refine Gm ?_
  refine ob (Dx (cs := zSeen.cells) Rw) ?_
  refine rn1 ?_
  refine Zdt ?_
  rw [ea_1 ht29]
  exact Zgr
 ·intro ht29
  refine Gl ?_
  refine kp [1, 2, 3, 8, 9, 10, 32, 33, 34, 35, 36, 37] ?_
  refine Cs 37 (.bool (decide ((most < 0) ∨ (300 < most)))) ?_ ?_
  ·rcases (show ((most < 0)) ∨ (¬ (most < 0) ∧ (300 < most)) ∨ (¬ (most < 0) ∧ ¬ (300 < most)) from by omega) with hm | hm | hm
   ·refine ZB ?_
    refine D5 ?_
    refine Ga4 ?_
    exact ZeQ
   ·refine Zay ?_
    refine Zaf ?_
    refine Fo ?_
    refine Ga1 ?_
    exact ZeQ
   ·refine Zay ?_
    refine Zaf ?_
    refine Dz ?_
    refine Ga1 ?_
    exact ZeV
  ·refine Av ?_
   refine Gl ?_
   first | (refine cdx (p := ?p2) (hd := ?d2) ?e2 ?_ ?_; case e2 => exact rfl) | (refine A9 (b := ?b2) ?e2 ?_ ?_; case e2 => exact rfl)
   ·intro ht37
    refine Gm ?_
    refine ob (Dx (cs := zSeen.cells) Rw) ?_
    refine Zdt ?_
    rw [ea_2 (Decidable.not_not.1 ht29) ht37]
    exact Zgr
   ·intro ht37
    refine ZS ?_
    refine cdy ?_ ?_
    ·intro ht41
     refine Gm ?_
     refine ob (Dx (cs := zSeen.cells) Rw) ?_
     refine Zdt ?_
     rw [ea_3 (Decidable.not_not.1 ht29) ht37 (by omega)]
     exact Zgr
    ·intro ht41
     refine Gl ?_
     have hok : (A4 c).2 = 0 := Decidable.not_not.1 ht29
     have h12 : ¬ 12 < ops.length := by omega
     obtain ⟨m, rfl⟩ : ∃ m : Nat, most = (m : Int) := ⟨most.toNat, by omega⟩
     have hm0 : ¬ ((m : Int) < 0 ∨ 300 < (m : Int)) := ht37
     obtain ⟨n, nl, a1, a2, a3, a4⟩ := I9 hok
     obtain ⟨M0, hI0⟩ : ∃ M, Inv n nl (A4 c).1 M := ⟨_, by rw [a4]; exact My a1 a2⟩
     have hH0 : Had n nl [(A4 c).1] := by rw [a4]; exact Had.one a1 a2
     refine Aa ?_
     refine Afa skv ?_; intro bm
     refine rn1 ?_
     refine An Tryz.call13 rfl (fun w hs => T4 (x := (A4 c).1) hs mm mm mm hI0.kx) ?_; intro _
     refine Aad (Hb (A4 c).1) Ow Tryz.underlying59 Tryz.underlying9 Ov (ks := []) (by simp) rfl rfl rfl pkk ?_
     rw [List.nil_append]
     refine Gb2 ?_
     refine rn1 ?_
     refine li (α := Chip) [(A4 c).1] Vk rfl (Tf mm mm mm) ?_; intro v48
     refine Gb1 ?_
     refine rn1 ?_
     refine al_ (cs := zSeen.cells) Tryz.zeroValue41 ?_; intro b14
     refine s_B (cs := [vi 1, vi 0, .bool false]) Tryz.sizeOf41 ?_
     refine Gl ?_
     refine kp [1, 2, 3, 8, 9, 12, 13, 14, 50, 51] ?_
     refine ZO ?_
     refine A7 (γ := Nat × List Chip × Nat × Value) (fun g => g.1 ≤ m ∧ Had n nl g.2.1 ∧ Gp ops losses (m - g.1) g.2.1 g.2.2.1 = Gp ops losses m [(A4 c).1] 0) (fun g => R3 skv bm (g.2.1.map Hb) :: blk b14 41 [vi (g.2.1.length : Int), vi 0, .bool false] :: blk b8 41 [vi 0, vi 0, .bool false] :: L) (fun g => sl g.2.2.2 (g.2.1.drop g.2.2.1) :: R) (fun g => [(1, vo), (2, .bool losses), (8, bp b8 0), (12, .map (some bm)), (13, g.2.2.2), (14, bp b14 0), (50, vi (m : Int)), (51, vi (g.1 : Int))]) (fun g => m - g.1) (0, [(A4 c).1], 0, v48) ⟨Nat.zero_le _, hH0, rfl⟩ alT (fun w hs => Ag hs) ?_
     rintro ⟨r, had, f, vn⟩ ⟨hr, hH, hrun⟩
     try simp only at hr hH hrun ⊢
     refine ZA ?_
     refine cdy ?_ ?_
     ·intro ht52
      refine ZN ?_
      refine Ga3 ?_
      refine JC.rowNil 30 Chip ?_
      refine A7 (γ := Nat × List Chip × Value) (fun g => g.1 ≤ (had.drop f).length ∧ Had n nl g.2.1 ∧ (∃ t, g.2.1 = had ++ t) ∧ Hd ops losses had (had.drop f) = Hd ops losses g.2.1 ((had.drop f).drop g.1)) (fun g => row 30 g.2.2 (g.2.1.drop had.length) :: R3 skv bm (g.2.1.map Hb) :: blk b14 41 [vi (g.2.1.length : Int), vi 0, .bool false] :: blk b8 41 [vi 0, vi 0, .bool false] :: L) (fun _ => sl vn (had.drop f) :: R) (fun g => [(1, vo), (2, .bool losses), (8, bp b8 0), (12, .map (some bm)), (14, bp b14 0), (15, g.2.2), (50, vi (m : Int)), (51, vi (r : Int)), (53, vn), (54, vi ((had.drop f).length : Int)), (55, vi (g.1 : Int))]) (fun g => (had.drop f).length - g.1) (0, had, .slice none 0 0) ⟨Nat.zero_le _, hH, ⟨[], by simp⟩, rfl⟩ alT (fun w hs => by rw [List.drop_length]; exact Ag hs) ?_
      rintro ⟨i, h, vx⟩ ⟨hi, hHh, ⟨t, ht⟩, hnow⟩
      try simp only at hi hHh ht hnow ⊢
      have hdl : (had.drop f).length ≤ 120 := by have := hH.len; rw [List.length_drop]; omega
      refine ZA ?_
      refine cdy ?_ ?_
      ·intro ht56
       refine Gl ?_
       refine Aak i (xs := had.drop f) (v := vn) mm (by omega) (fun a b c0 hone => ?_)
       obtain ⟨honea, honeb, honec⟩ := hone
       obtain ⟨X, hX⟩ : ∃ X, (had.drop f).getD i zChip = X := ⟨_, rfl⟩
       have hXm : X ∈ had := by
        exact Zgf
       rw [hX]
       obtain ⟨MX, hIX⟩ := hH.inv X hXm
       refine ZD ?_
       refine al_ (cs := [.slice none 0 0, .slice none 0 0, .slice none 0 0]) Tryz.zeroValue30 ?_; intro b17
       refine s_B (cs := [a, b, c0]) Tryz.sizeOf30 ?_
       refine Zad ?_
       refine An Tryz.call6 rfl (fun w hs => T3 (x := X) (ops := ops) (losses := losses) hs mm mm mm hIX.kx (by omega)) ?_; intro v62
       refine Ga2 ?_
       obtain ⟨S, hS⟩ : ∃ S, Gx X ops losses = S := ⟨_, rfl⟩
       rw [hS]
       refine A7 (γ := Nat × List Chip × Value) (fun g => g.1 ≤ S.length ∧ Had n nl g.2.1 ∧ (∃ t, g.2.1 = had ++ t) ∧ E2 h X S = E2 g.2.1 X (S.drop g.1)) (fun g => row 30 g.2.2 (g.2.1.drop had.length) :: blk b17 30 [a, b, c0] :: R3 skv bm (g.2.1.map Hb) :: blk b14 41 [vi (g.2.1.length : Int), vi 0, .bool false] :: blk b8 41 [vi 0, vi 0, .bool false] :: L) (fun _ => sl v62 S :: sl a X.cores :: sl b X.home :: sl c0 X.frames :: sl vn (had.drop f) :: R) (fun g => [(1, vo), (2, .bool losses), (8, bp b8 0), (12, .map (some bm)), (14, bp b14 0), (15, g.2.2), (17, bp b17 0), (50, vi (m : Int)), (51, vi (r : Int)), (53, vn), (54, vi ((had.drop f).length : Int)), (55, vi (i : Int)), (62, v62), (63, vi (S.length : Int)), (64, vi (g.1 : Int))]) (fun g => S.length - g.1) (0, h, vx) ⟨Nat.zero_le _, hHh, ⟨t, ht⟩, rfl⟩ alT (fun w hs => Ag hs) ?_
       rintro ⟨j, h2, vx⟩ ⟨hj, hH2, ⟨t, ht⟩, hst⟩
       try simp only at hj hH2 ht hst ⊢
       have hl2 := hH2.len
       have hSl : S.length ≤ 200 := by
        have h1 := Ol X ops losses (X.cores.length + 1)
        rw [Om, hS] at h1
        have h2 := Nat.mul_le_mul hIX.kx.cl (show ops.length ≤ 12 by omega)
        have h3 := hIX.kx.cl
        have h4 := hIX.kx.fl
        omega
       refine ZA ?_
       refine cdy ?_ ?_
       ·intro ht65
        refine Gl ?_
        obtain ⟨SJ, hSJ⟩ : ∃ SJ, S.getD j zStep = SJ := ⟨_, rfl⟩
        refine JC.open0 (xs := S) (v := v62) j mm (by omega) (fun hsw => ?_)
        have hsw2 : Step.wf (S.getD j zStep) := hsw
        refine JC.conseq (L' := row 30 vx (h2.drop had.length) :: blk b17 30 [a, b, c0] :: R3 skv bm (h2.map Hb) :: blk b14 41 [vi (h2.length : Int), vi 0, .bool false] :: blk b8 41 [vi 0, vi 0, .bool false] :: L) (R' := cF v62 7 j SJ.cells :: sl v62 S :: sl a X.cores :: sl b X.home :: sl c0 X.frames :: sl vn (had.drop f) :: R) (fun w hs => by rw [← hSJ]; exact hs) ?_
        rw [hSJ] at hsw2
        refine ZD ?_
        refine al_ (cs := zStep.cells) Tryz.zeroValue38 ?_; intro b19
        refine s_B (cs := SJ.cells) Tryz.sizeOf38 ?_
        refine ZJ ?_
        refine An Tryz.call16 rfl (fun w hs => V1 (x := X) (s := SJ) hs mm mm mm hsw2 hIX) ?_; intro v71
        refine J.know (p := v71.1.oneCell' = true ∧ v71.2.1.oneCell' = true ∧ v71.2.2.1.oneCell' = true) (fun w hs => ⟨isSlice.one (hs.fact (.head _)), isSlice.one (hs.fact (.tail _ (.head _))), isSlice.one (hs.fact (.tail _ (.tail _ (.head _))))⟩) (fun h12 => ?_)
        obtain ⟨honev711, honev712, honev713⟩ := h12
        refine rn4 ?_
        refine al_ (cs := [.slice none 0 0, .slice none 0 0, .slice none 0 0]) Tryz.zeroValue30 ?_; intro b20
        refine s_B (cs := [v71.1, v71.2.1, v71.2.2.1]) Tryz.sizeOf30 ?_
        refine Ga2 ?_
        rcases (show (¬ (Al X SJ).2.2 = 0) ∨ ((Al X SJ).2.2 = 0 ∧ (Al X SJ).1 ∈ h2) ∨ ((Al X SJ).2.2 = 0 ∧ ¬ (Al X SJ).1 ∈ h2) from by exact T6 _ _) with hc | hc | hc
        ·refine ZcR ?_
         refine ob (Am rfl rfl (E4 hc)) ?_
         refine Gd6 ?_
         refine Ga2 ?_
         have htd := try_a (h := h2) hc
         have hsa := Gr (h := h2) (x := X) (l := S) (j := j) (by omega)
         rw [hSJ, htd] at hsa
         refine Au (j + 1, h2, vx) ⟨by show j + 1 ≤ S.length; omega, hH2, ⟨t, ht⟩, by rw [hst, hsa]⟩ (by show S.length - (j + 1) < S.length - j; omega) alT (fun w hs => Ag hs)
        ·obtain ⟨MD, hID, _⟩ := Tt hIX hc.1
         have hkm := Xb hH2.inv hID
         refine ZcR ?_
         refine Zcz ?_
         refine An Tryz.call13 rfl (fun w hs => T4 (x := (Al X SJ).1) hs mm mm mm hID.kx) ?_; intro _
         refine gy ?_
         refine Qd (Hb (Al X SJ).1) true (hv := ⟨fun _ => hkm.2 hc.2, fun _ => rfl⟩) Ow Tryz.underlying59 Tryz.underlying9 Tryz.zeroValue4 Ov rfl rfl pkk ?_
         refine Gd1 ?_
         refine Ga2 ?_
         have htd := try_b (h := h2) hc
         have hsa := Gr (h := h2) (x := X) (l := S) (j := j) (by omega)
         rw [hSJ, htd] at hsa
         refine Au (j + 1, h2, vx) ⟨by show j + 1 ≤ S.length; omega, hH2, ⟨t, ht⟩, by rw [hst, hsa]⟩ (by show S.length - (j + 1) < S.length - j; omega) alT (fun w hs => Ag hs)
        ·obtain ⟨MD, hID, _⟩ := Tt hIX hc.1
         have hkm := Xb hH2.inv hID
         refine ZcR ?_
         refine Zcz ?_
         refine An Tryz.call13 rfl (fun w hs => T4 (x := (Al X SJ).1) hs mm mm mm hID.kx) ?_; intro _
         refine gy ?_
         refine Qd (Hb (Al X SJ).1) false (hv := ⟨fun h => absurd h (by decide), fun a => absurd (hkm.1 a) hc.2⟩) Ow Tryz.underlying59 Tryz.underlying9 Tryz.zeroValue4 Ov rfl rfl pkk ?_
         refine Gd1 ?_
         refine rn1 ?_
         refine Aac Tryz.underlying59 rfl pkk ?_
         rw [List.length_map]
         refine Ga1 ?_
         refine cdy ?_ ?_
         ·intro ht85
          refine Gm ?_
          refine ZH ?_
          refine ZI ?_
          refine s_B (cs := [vi (h2.length : Int), vi 0, .bool true]) Tryz.sizeOf41 ?_
          refine Ga1 ?_
          have htn := try_c (h := h2) hc (by omega)
          have hsa := Gr (h := h2) (x := X) (l := S) (j := j) (by omega)
          rw [hSJ, htn] at hsa
          have hst2 : E2 h X S = none := by rw [hst, hsa]
          have hn1 := Tl (ops := ops) (losses := losses) (h := h) (l := had.drop f) (i := i) (by omega)
          rw [hX, hS, hst2] at hn1
          have hr1 : Gp ops losses m [(A4 c).1] 0 = none := by rw [← hrun]; exact Tc (by omega) (by rw [hnow, hn1])
          rw [ea_n hok hm0 h12 hr1, show ((h2.length : Nat) : Int) = 120 by omega]
          exact Fr () Tryz.isAgg41 Tryz.sizeOf41
         ·intro ht85
          refine ZJ ?_
          refine An Tryz.call13 rfl (fun w hs => T4 (x := (Al X SJ).1) hs mm mm mm hID.kx) ?_; intro _
          refine Aab (Hb (Al X SJ).1) Ow Tryz.underlying59 Tryz.underlying9 Ov (fun a => hc.2 (hkm.1 a)) rfl rfl rfl pkk ?_
          refine Zak ?_
          refine sc ?_
          refine ZJ ?_
          refine ob (Am rfl rfl (Ba rfl)) ?_
          refine Gmc ?_
          refine rn1 ?_
          refine An Tryz.call17 rfl (fun w hs => by have h8 := Yj (x := (Al X SJ).1) hs mm mm hID.cx mm honev713; rw [Yf hID] at h8; exact h8) ?_; intro _
          refine ZH ?_
          refine ZJ ?_
          refine li (α := Chip) [(Al X SJ).1] Vk rfl (Tf mm mm mm) ?_; intro v103
          refine ap Vk (hb := fun w hs => by have : maxN = 16777216 := rfl; have := hH2.len; simp only [List.length_cons, List.length_nil, List.length_drop]; omega) (k := ?_); intro v104
          refine Ga1 ?_
          refine kp [1, 2, 8, 9, 12, 13, 14, 15, 17, 19, 20, 22, 50, 51, 52, 53, 54, 55, 56, 57, 58, 59, 60, 61, 62, 63, 64, 65, 66, 67, 68, 69, 70, 71, 72, 73, 74, 75, 76, 77, 78, 79, 80, 81, 82, 83, 84, 85, 86, 87, 88, 89, 90, 91, 92, 93, 94, 95, 96, 97, 98, 99, 100, 101, 102, 103, 104, 105] ?_
          refine ZO ?_
          have htd := try_d hc (by omega)
          have hsa := Gr (h := h2) (x := X) (l := S) (j := j) (by omega)
          rw [hSJ, htd] at hsa
          refine Au (j + 1, h2 ++ [(Al X SJ).1], v104) ⟨by show j + 1 ≤ S.length; omega, hH2.try ⟨_, hIX⟩ htd, ⟨t ++ [(Al X SJ).1], by rw [ht, List.append_assoc]⟩, by rw [hst, hsa]⟩ (by show S.length - (j + 1) < S.length - j; omega) alT (fun w hs => ?_)
          try simp only
          rw [List.map_append, List.length_append, List.length_singleton]
          have hdr : (h2 ++ [(Al X SJ).1]).drop had.length = h2.drop had.length ++ [(Al X SJ).1] := by rw [ht]; exact Xs
          rw [hdr]; exact Ag hs
       ·intro ht65
        refine ZC ?_
        have hje : j = S.length := by omega
        have hst2 : E2 h X S = some h2 := by rw [hst, hje, List.drop_length]; rfl
        have hn1 := Tl (ops := ops) (losses := losses) (h := h) (l := had.drop f) (i := i) (by omega)
        rw [hX, hS, hst2] at hn1
        refine Au (i + 1, h2, vx) ⟨by show i + 1 ≤ (had.drop f).length; omega, hH2, ⟨t, ht⟩, by show Hd ops losses had (had.drop f) = Hd ops losses h2 ((had.drop f).drop (i + 1)); rw [hnow, hn1]⟩ (by show (had.drop f).length - (i + 1) < (had.drop f).length - i; omega) alT (fun w hs => Ag hs)
      ·intro ht56
       refine Gl ?_
       have hnow2 : Hd ops losses had (had.drop f) = some h := by rw [hnow, List.drop_of_length_le (by omega)]; rfl
       refine JC.shut (v := vx) pkk ?_
       refine Aa ?_
       refine Gb2 ?_
       refine Ga2 ?_
       refine Au (r + 1, h, had.length, vx) ⟨by show r + 1 ≤ m; omega, hHh, by show Gp ops losses (m - (r + 1)) h had.length = _; rw [show m - (r + 1) = m - r - 1 by omega, ← Tb (by omega) hnow2]; exact hrun⟩ (by show m - (r + 1) < m - r; omega) alT (fun w hs => Ag hs)
     ·intro ht52
      refine ZI ?_
      refine s_B (cs := [vi (had.length : Int), vi 0, .bool false]) Tryz.sizeOf41 ?_
      refine Ga1 ?_
      have hr1 : Gp ops losses m [(A4 c).1] 0 = some had := by rw [← hrun, show m - r = 0 by omega]; rfl
      rw [ea_s hok hm0 h12 hr1]
      exact Zgr
end Go.Proofs.YtbigiimomnfpdaaGreat
set_option maxHeartbeats 1000000
set_option maxRecDepth 8000
namespace Go.Proofs.YtbigiimomnfpdaaGreat
open Go
variable {L : List Chunk} {R : List Fact} {w : World}
theorem Pm {a b : Chip} (h : a.cores ≠ b.cores ∨ a.home ≠ b.home ∨ a.frames ≠ b.frames) : ¬ a = b := by
 intro e; subst e; simp at h
theorem Un (a b : Chip) : a.cores.length ≠ b.cores.length ∨ (a.cores.length = b.cores.length ∧ a.home ≠ b.home) ∨ (a.cores.length = b.cores.length ∧ a.home = b.home ∧ a.frames ≠ b.frames) ∨ (a.cores.length = b.cores.length ∧ a.home = b.home ∧ a.frames = b.frames) := by
 by_cases h1 : a.cores.length = b.cores.length <;> by_cases h2 : a.home = b.home <;> by_cases h3 : a.frames = b.frames <;> simp [h1, h2, h3]
theorem Xd (c : Config) (l m : List Step) : KX (build c l).1 ∧ KX (build c m).1 ∧ (Hb (build c l).1 = Hb (build c m).1 ↔ (build c l).1 = (build c m).1) := by
 by_cases h : (A4 c).2 = 0
 ·obtain ⟨n, nl, h1, M, h2, _⟩ := Qu (l := l) h
  obtain ⟨n', nl', g1, M', g2, _⟩ := Qu (l := m) h
  have e1 : (n : Int) = n' := by have := congrArg Config.cores (h1.symm.trans g1); exact this
  have e2 : (nl : Int) = nl' := by have := congrArg Config.lines (h1.symm.trans g1); exact this
  have f1 : n' = n := by omega
  have f2 : nl' = nl := by omega
  subst f1 f2
  exact ⟨h2.kx, g2.kx, Afw h2 g2⟩
 ·have e : ∀ k, (build c k).1 = zChip := fun k => by
   unfold build; rw [if_pos h]
  rw [e l, e m]
  exact ⟨W8, W8, ⟨fun _ => rfl, fun _ => rfl⟩⟩
theorem Ta {c1 h1 f1 c2 h2 f2 : Value} {a b : Chip} (hs : St (L) R w) (ha : sl c1 a.cores ∈ R) (hb : sl h1 a.home ∈ R) (hf1 : sl f1 a.frames ∈ R) (hd : sl c2 b.cores ∈ R) (he : sl h2 b.home ∈ R) (hf2 : sl f2 b.frames ∈ R) : Calls Tryz.prog 14 [.agg #[c1, h1, f1], .agg #[c2, h2, f2]].toArray w (Bs (fun _ : Unit => .bool (decide (a = b))) (fun _ => L) (fun _ => R)) := by
 have hla := Be ha hs
 refine Ai Tryz.func14 rfl Tryz.ntmps14 rfl hs ?_
 clear hs
 refine ZbD ?_;intro b2 b3
 refine Ga1 ?_
 rcases (show (a.cores.length ≠ b.cores.length) ∨ (a.cores.length = b.cores.length ∧ a.home ≠ b.home) ∨ (a.cores.length = b.cores.length ∧ a.home = b.home ∧ a.frames ≠ b.frames) ∨ (a.cores.length = b.cores.length ∧ a.home = b.home ∧ a.frames = b.frames) from by exact Un a b) with hc | hc | hc | hc
 ·refine Zar ?_
  refine Hr ?_
  refine Gd16 ?_
  refine Ga1 ?_
  rw [decide_eq_false (Pm (.inl (fun e => hc (by rw [e]))))]
  exact Bb ()
 ·refine Zar ?_
  refine H9 ?_
  refine ZR ?_
  refine An Tryz.call34 rfl (fun w hs => by have h := Ox (a := a.home) (b := b.home) hs mm mm; rw [decide_eq_false hc.2] at h; exact h) ?_; intro _
  refine Gd10 ?_
  refine Ga1 ?_
  rw [decide_eq_false (Pm (.inr (.inl hc.2)))]
  exact Bb ()
 ·refine Zar ?_
  refine H9 ?_
  refine ZR ?_
  refine An Tryz.call34 rfl (fun w hs => by have h := Ox (a := a.home) (b := b.home) hs mm mm; rw [decide_eq_true hc.2.1] at h; exact h) ?_; intro _
  refine rn7 ?_
  refine gy ?_
  refine An Tryz.call35 rfl (fun w hs => by have h := N2 (a := a.frames) (b := b.frames) hs mm mm; rw [decide_eq_false hc.2.2] at h; exact h) ?_; intro _
  refine Gd2 ?_
  refine Ga1 ?_
  rw [decide_eq_false (Pm (.inr (.inr hc.2.2)))]
  exact Bb ()
 ·refine Zar ?_
  refine H9 ?_
  refine ZR ?_
  refine An Tryz.call34 rfl (fun w hs => by have h := Ox (a := a.home) (b := b.home) hs mm mm; rw [decide_eq_true hc.2.1] at h; exact h) ?_; intro _
  refine rn7 ?_
  refine gy ?_
  refine An Tryz.call35 rfl (fun w hs => by have h := N2 (a := a.frames) (b := b.frames) hs mm mm; rw [decide_eq_true hc.2.2] at h; exact h) ?_; intro _
  refine Gd2 ?_
  refine Ga4 ?_
  refine A7 (γ := Nat) (fun k => k ≤ a.cores.length ∧ a.cores.take k = b.cores.take k) (fun _ => blk b2 30 [c1, h1, f1] :: blk b3 30 [c2, h2, f2] :: L) (fun _ => R) (fun k => [(2, bp b2 0), (3, bp b3 0), (31, vi (a.cores.length : Int)), (32, vi (k : Int))]) (fun k => a.cores.length - k) 0 ⟨Nat.zero_le _, rfl⟩ alT (fun w hs => Ag hs) ?_
  rintro k ⟨hk, htk⟩
  try simp only at hk htk ⊢
  refine ZA ?_
  refine cdy ?_ ?_
  ·intro ht33
   refine Gl ?_
   refine kp [2, 3, 4, 5, 31, 32, 33, 34] ?_
   refine ZO ?_
   refine Fh k (v := c1) mm (by omega) (fun _ ua honeua => ?_)
   refine Fh k (v := c2) mm (by omega) (fun _ ub honeub => ?_)
   have hcopy := hc
   rcases (show (cor a k = cor b k) ∨ (¬ cor a k = cor b k) from by exact Classical.em _) with hc | hc
   ·have hc6 := hc
    have hc := hcopy
    refine Bq ?_
    refine Xv ?_
    refine dj ?_
    refine Q7 (γ := Unit) (val := fun _ => .bool true) (F := fun _ => []) (C := fun _ => []) Tryz.call36 (fun _ => rfl) (fun _ _ _ _ => rfl) (fun ρ L R w hd hs => by have h := S9 (a := cor a k) (b := cor b k) hs (hd.base mm) (hd.base mm); rw [decide_eq_true hc6] at h; exact h) ?_
    first | refine djc (fun _ _ => N6) ?_ | refine djc (fun _ _ => O2) ?_
    refine Za6 ?_;intro ρ
    refine Ga2 ?_
    refine Au (k + 1) ⟨by omega, by rw [Es Er (by omega), Es Er (by omega), htk]; exact congrArg (fun z => b.cores.take k ++ [z]) hc6⟩ (by omega) alT (fun w hs => Ag hs)
   ·have hc6 := hc
    have hc := hcopy
    refine Bq ?_
    refine Xv ?_
    refine dj ?_
    refine Q7 (γ := Unit) (val := fun _ => .bool false) (F := fun _ => []) (C := fun _ => []) Tryz.call36 (fun _ => rfl) (fun _ _ _ _ => rfl) (fun ρ L R w hd hs => by have h := S9 (a := cor a k) (b := cor b k) hs (hd.base mm) (hd.base mm); rw [decide_eq_false hc6] at h; exact h) ?_
    first | refine djc (fun _ _ => N6) ?_ | refine djc (fun _ _ => O2) ?_
    refine Za6 ?_;intro ρ
    refine Ga1 ?_
    rw [decide_eq_false (Pm (.inl (fun e => hc6 (by unfold cor; rw [e]))))]
    exact Bb ()
  ·intro ht33
   refine Gl ?_
   refine kp [2, 3, 4, 5, 31, 32, 33, 34, 35, 36, 37, 38, 39, 40, 41, 42, 43, 44, 45, 46, 47] ?_
   refine ZW ?_
   have hcc : a.cores = b.cores := by rw [← List.take_length (l := a.cores), show a.cores.length = k by omega, htk, List.take_of_length_le (by omega)]
   have hab : a = b := by
    have e2 := hc.2.1
    have e3 := hc.2.2
    cases a; cases b; simp only at hcc e2 e3; rw [hcc, e2, e3]
   rw [decide_eq_true hab]
   exact Bb ()
end Go.Proofs.YtbigiimomnfpdaaGreat
namespace Go.Proofs.YtbigiimomnfpdaaGreat
open Go
variable {L : List Chunk} {R : List Fact} {w : World}
section
variable {α : Type} [Enc α] {v u : Value} {xs ys : List α} {i : Nat} {e : α} {T : TypeId}
def Part (v : Value) (xs : List α) (u : Value) (ys : List α) : Prop :=
 ∃ g cap lo hi, v = .slice (some ⟨g, 0, none⟩) xs.length cap ∧ xs.length ≤ cap ∧ u = .slice (if cap = lo then some ⟨g, 0, none⟩ else some ((⟨g, 0, none⟩ : Addr).add (lo * Enc.sz α))) (hi - lo) (cap - lo) ∧ lo ≤ hi ∧ hi ≤ xs.length ∧ ys = (xs.take hi).drop lo
def vw (T : TypeId) (v : Value) (xs : List α) (u : Value) (ys : List α) : Chunk :=
 ⟨fun m j => (row T v xs).p m j ∧ (isSlice u ys j ∨ Part v xs u ys), fun m i i' h hp => ⟨(row T v xs).mono m i i' h hp.1, hp.2.imp (isSlice.mono h) id⟩⟩
theorem Afh {lo hi : Nat} (h : ys = (xs.take hi).drop lo) (hi' : ys[i]? = some e) : xs[lo + i]? = some e ∧ lo + i < hi := by
 rw [h, List.getElem?_drop, List.getElem?_take] at hi'
 split at hi'
 ·exact ⟨hi', by assumption⟩
 ·cases hi'
theorem Tj {lo hi : Nat} (h1 : hi ≤ xs.length) (h : ys = (xs.take hi).drop lo) : ys.length = hi - lo := by
 rw [h, List.length_drop, List.length_take]; omega
theorem Ze {m j : Mem} {w : World} (hm : Mem.le m (Cv w)) (hj : Mem.le j (Cv w)) (h : (vw T v xs u ys).p m j) (hi : ys[i]? = some e) :
  ∃ a c cs, u = .slice (some a) ys.length c ∧ Enc.rd e cs j ∧ ∀ (k : Nat) c, cs[k]? = some c → w.cell? (a.add (i * Enc.sz α + k)) = some c := by
 obtain ⟨h1, h2 | ⟨g, cap, lo, hi', hv, hcap, hu, hlo, hf, hy⟩⟩ := h
 ·obtain ⟨a, cs, e1, _, e3, e4⟩ := Ou hj h2 hi
  exact ⟨a, _, cs, e1, e3, e4⟩
 ·obtain ⟨p1, p2⟩ := Afh hy hi
  obtain ⟨a, cs, e1, _, e3, e4⟩ := J4 hm h1 p1
  have ha : a = ⟨g, 0, none⟩ := by rw [hv] at e1; injection e1 with e5; injection e5 with e6; exact e6.symm
  subst ha
  refine ⟨(⟨g, 0, none⟩ : Addr).add (lo * Enc.sz α), cap - lo, cs, by rw [hu, if_neg (by omega), Tj hf hy], e3, fun k x hk => ?_⟩
  have := e4 k x hk
  rw [F1]
  rw [show lo * Enc.sz α + (i * Enc.sz α + k) = (lo + i) * Enc.sz α + k by rw [Nat.add_mul]; omega]
  exact this
theorem Aep {m j : Mem} (h : (vw T v xs u ys).p m j) : ∃ base cap, u = .slice base ys.length cap ∧ (0 < ys.length → ∃ a, base = some a) := by
 obtain ⟨h1, ⟨base, cap, hu, hn, hc⟩ | ⟨g, cap, lo, hi, hv, hcap, hu, hlo, hf, hy⟩⟩ := h
 ·refine ⟨base, cap, hu, fun h0 => ?_⟩
  obtain ⟨a, _, _, _, _, h1, _⟩ := hc (by intro h; rw [h] at h0; simp at h0)
  exact ⟨a, h1⟩
 ·refine ⟨_, _, by rw [hu, Tj hf hy], fun _ => ?_⟩
  split
  ·exact ⟨_, rfl⟩
  ·exact ⟨_, rfl⟩
section
variable {P : Program} {n : Nat} {ops : Array Oper} {Q : Exit → Act → World → Prop} {rest : List Oper} {L L' : List Chunk} {R : List Fact} {al : List (Nat × Value)} {d : Nat} {x y : Operand} {T' ty : TypeId} {pos : String} {aft : Array Edge}
theorem Adx (hp : Pick L (vw T v xs u ys) L') : Dv L R u ys.length := by
 intro w hs
 obtain ⟨m, j, _, hle, _, hr, _⟩ := (hs.pick hp).head
 exact Aep hr
theorem St.vw_row {w : World} (hs : St (vw T v xs u ys :: L) R w) : St (row T v xs :: L) R w := St.weaken (c := vw T v xs u ys) (c' := row T v xs) (fun _ _ h => And.left h) hs
theorem St.vw_sl {w : World} (hm : sl u ys ∈ R) (hs : St (row T v xs :: L) R w) : St (vw T v xs u ys :: L) R w := St.weaken_fact (c := row T v xs) (c' := vw T v xs u ys) hm (fun _ _ h1 h2 => And.intro h2 (.inl h1)) hs
theorem St.vw_part {w : World} (hp : Part v xs u ys) (hs : St (row T v xs :: L) R w) : St (vw T v xs u ys :: L) R w := St.weaken (c := row T v xs) (c' := vw T v xs u ys) (fun _ _ h => And.intro h (.inr hp)) hs
theorem St.vw_cases {w : World} (hs : St (vw T v xs u ys :: L) R w) : St (row T v xs :: L) (sl u ys :: R) w ∨ (Part v xs u ys ∧ St (row T v xs :: L) R w) := by
 obtain ⟨m, j, hd, hm, hj, ⟨m1, m2, hd', h1, h2, ⟨hc, hv⟩, hst⟩, hr⟩ := hs
 rcases hv with h | h
 ·refine .inl ⟨m, j, hd, hm, hj, ⟨m1, m2, hd', h1, h2, hc, hst⟩, fun g hg => ?_⟩
  cases List.mem_cons.1 hg with
  | inl e => rw [e]; exact h
  | inr e => exact hr g e
 ·exact .inr ⟨h, m, j, hd, hm, hj, ⟨m1, m2, hd', h1, h2, hc, hst⟩, hr⟩
theorem Afb {γ : Type} {cf : γ → List Value} {F : γ → List Fact} {sz : Nat} (hT : ∀ w, (isAgg T).run P w = .ok true w) (hsz : ∀ w, (sizeOf T).run P w = .ok sz w) (hx : ev n al x = some (ep u (Enc.sz α) i 0)) (hp : Pick L (vw T' v xs u ys) L') (hi : ys[i]? = some e)
  (hl : ∀ g, (cf g).length = sz) (hc : ∀ cs m, Enc.rd e cs m → ∃ g, cs = cf g ∧ ∀ q ∈ F g, q.p m)
  (k : ∀ g, J P n ops Q rest L (F g ++ R) ((d, .agg (cf g).toArray) :: al)) : J P n ops Q (⟨some d, .load T x, ty, pos, aft, none⟩ :: rest) L R al :=
 O1 (γ := γ) (val := fun g => .agg (cf g).toArray) (F := F) hx (fun w hs => by
  obtain ⟨m, j, hd, hmw, hjw, hst, hr⟩ := hs
  obtain ⟨m1, m2, hd', h1, h2, hc', hst'⟩ := Ic hp hst
  obtain ⟨a, c, cs, hv, hrd, hk⟩ := Ze (Mem.le_trans h1 hmw) hjw hc' hi
  obtain ⟨g, hg, hq⟩ := hc _ _ hrd
  refine ⟨g, ?_, ⟨m, j, hd, hmw, hjw, hst, fun q hq' => ?_⟩⟩
  ·rw [hv, Lk]
   exact J2 hT hsz (hl g) (fun k c hk' => by rw [F1, Nat.add_zero]; exact hk _ _ (by rw [hg]; exact hk'))
  ·cases List.mem_append.1 hq' with
   | inl e => exact hq q e
   | inr e => exact hr q e) k
theorem Wt {g cap : Nat} {zs : List α} (hp : Part v xs u ys) (hv : v = .slice (some ⟨g, 0, none⟩) xs.length cap) (hc : (xs ++ zs).length ≤ cap) : Part (.slice (some ⟨g, 0, none⟩) (xs ++ zs).length cap) (xs ++ zs) u ys := by
 obtain ⟨g', cap', lo, hi, hv', hcap, hu, hlo, hf, hy⟩ := hp
 rw [hv] at hv'
 injection hv' with e1 e2 e3
 injection e1 with e4
 injection e4 with e5
 subst e5; subst e3
 refine ⟨g, cap, lo, hi, rfl, hc, hu, hlo, by rw [List.length_append]; omega, ?_⟩
 rw [List.take_append_of_le_length hf]
 exact hy
theorem Aaf {m : Mem} (hp : Part v xs u ys) (h : isSlice v xs m) : isSlice u ys m := by
 obtain ⟨g, cap, lo, hi, hv, hcap, hu, hlo, hf, hy⟩ := hp
 subst hv
 have := Ws h hlo hf
 rw [hu, hy]; exact this
theorem S1 {t e : TypeId} {sz bytes : Nat} {z : Value} {zs : List α} {q : Value} {w : World} (he : ElemOf P t e sz z bytes) (hsz : Enc.sz α = sz) (hpos : 0 < sz) (hne : zs ≠ [])
  (hs : St (vw e v xs u ys :: L) R w) (hm : sl q zs ∈ R) (hb : xs.length + zs.length ≤ maxN) :
  ∃ v' w', (Builtin.append_ #[t, t] ty #[v, q]).run P w = .ok v' w' ∧ St (vw e v' (xs ++ zs) u ys :: L) R w' := by
 rcases hs.vw_cases with h | ⟨hp, h⟩
 ·obtain ⟨v', w', h1, h2⟩ := Hi (ty := ty) he hsz hpos h (List.mem_cons_of_mem _ hm) hb
  exact ⟨v', w', h1, (St.vw_sl (List.mem_cons_self ..) h2).facts fun f hf => List.mem_cons_of_mem _ hf⟩
 obtain ⟨i, hi, hz, hisz, hiby⟩ := he.info
 have hN : maxN = 16777216 := rfl
 have hzpos : 0 < zs.length := List.length_pos_iff.2 hne
 obtain ⟨g, cap, lo, hi', hv, hcap, hrest⟩ := id hp
 by_cases hroom : xs.length + zs.length ≤ cap
 ·obtain ⟨v', w', h1, h2⟩ := Hi (ty := ty) he hsz hpos h hm hb
  refine ⟨v', w', h1, ?_⟩
  obtain ⟨m, j, hd, hmw, hjw, ⟨m1, m2, hd', g1, g2, hc, hst⟩, hr⟩ := h
  obtain ⟨a, ucap, news, hu, hnl, hnrd, hnc⟩ := Mc hjw (hr _ hm) hne
  obtain ⟨h0, ⟨hv2, hx⟩ | ⟨g', cap', cur, cs, hv2, hg, hcap2, hml, hcsz, htk, hrd⟩⟩ := hc
  ·rw [hv] at hv2; cases hv2
  rw [hv] at hv2
  injection hv2 with e1 e2 e3
  injection e1 with e4
  injection e4 with e5
  subst e5; subst e3
  have hgw : w.heap[g]? = some (.cells cur e (0, 0)) := Iq (hmw _ _ (g1 _ _ hg))
  have hfit : xs.length * Enc.sz α + news.length ≤ cur.size := by rw [hcsz, hnl, ← Nat.add_mul]; exact Nat.mul_le_mul_right _ hroom
  have hrun := run_append_room (P := P) (w := w) t ty e i he.und hi g xs.length cap cur hgw a zs.length ucap news (by rw [hisz, ← hsz]; exact hnl) hnc hnrd.one hroom (by rw [hisz, ← hsz]; exact hfit)
  rw [hv, hu, hrun] at h1
  injection h1 with e6 e7
  have hv' : v' = .slice (some ⟨g, 0, none⟩) (xs ++ zs).length cap := by rw [List.length_append]; exact e6.symm
  rw [hv'] at h2 ⊢
  exact St.vw_part (Wt hp hv (by rw [List.length_append]; exact hroom)) h2
 ·have hsh := h.shut
  obtain ⟨m, j, hd, hmw, hjw, hst, hr⟩ := hsh
  have hslv := hr _ (List.mem_cons_self ..)
  obtain ⟨a, ucap, news, hu, hnl, hnrd, hnc⟩ := Mc hjw (hr _ (List.mem_cons_of_mem _ hm)) hne
  have hslu := Aaf hp hslv
  have hgc : (xs ++ zs).length ≤ grownCap w (xs.length + zs.length) cap e ∧ grownCap w (xs.length + zs.length) cap e ≤ maxLen := ⟨by rw [List.length_append]; exact grownCap_ge _ _ _ _, grownCap_le_maxLen _ _ _ _ (by rw [hN] at hb; unfold maxLen; omega)⟩
  have hbnd : (xs.length + zs.length) * i.bytes ≤ 140737488355328 := by
   have : (xs.length + zs.length) * i.bytes ≤ 16777216 * 1024 := Nat.mul_le_mul (by omega) (by rw [hiby]; exact he.bnd)
   omega
  have hzc : ∀ k, (Builtin.zeroCells z.cells k).size = k * Enc.sz α := by intro k; rw [size_zeroCells, he.zsz, hsz]
  have hall : ∃ cs, cs.length = xs.length * Enc.sz α ∧ RdL xs cs j ∧ ∀ (k : Nat) c, cs[k]? = some c → w.cell? ((⟨g, 0, none⟩ : Addr).add k) = some c := by
   by_cases hx : xs = []
   ·subst hx; exact ⟨[], by simp, rfl, fun k c hk => by simp at hk⟩
   ·obtain ⟨a', c', cs, e1, e2, e3, e4⟩ := Mc hjw hslv hx
    rw [hv] at e1
    injection e1 with e5
    injection e5 with e6
    subst e6
    exact ⟨cs, e2, e3, e4⟩
  obtain ⟨cs, hcsl, hrd, holds⟩ := hall
  refine ⟨_, _, by rw [hv, hu]; exact run_append_grow (P := P) (w := w) t ty e i z he.und hi hz ⟨g, 0, none⟩ xs.length cap cs (by rw [hisz, ← hsz]; exact hcsl) holds a zs.length ucap news (by rw [hisz, ← hsz]; exact hnl) hnc (by omega) (by omega) (growslice_fits (by omega) hbnd), ?_⟩
  have hlen : (xs ++ zs).length = xs.length + zs.length := List.length_append
  refine St.newC (c := vw e _ (xs ++ zs) u ys) (o := .cells (cs.toArray ++ news.toArray ++ Builtin.zeroCells z.cells (grownCap w (xs.length + zs.length) cap e - (xs.length + zs.length))) e (0, 0)) hd hmw hjw hst (fun f hf => hr f (List.mem_cons_of_mem _ hf)) rfl rfl rfl ⟨⟨by rw [hlen]; exact hb, .inr ⟨w.heap.size, grownCap w (xs.length + zs.length) cap e, _, cs ++ news, by rw [hlen], Eu _ _, hgc.1, hgc.2, ?_, ?_, RdL.append hnrd hrd⟩⟩, .inl hslu⟩
  ·rw [Array.size_append, Array.size_append, hzc, List.size_toArray, List.size_toArray, hnl, hcsl, ← Nat.add_mul, ← Nat.add_mul]; congr 1; have := hgc.1; omega
  ·simp only [Array.toList_append]; rw [List.take_append_of_le_length (by simp [hnl, hcsl, Nat.add_mul]), List.take_of_length_le (by simp [hnl, hcsl, Nat.add_mul])]
theorem Wq {t e : TypeId} {sz bytes : Nat} {z : Value} {zs : List α} {q : Value} (he : ElemOf P t e sz z bytes) (hx : ev n al x = some v) (hy : ev n al y = some q) (hsz : Enc.sz α = sz) (hpos : 0 < sz) (hne : zs ≠ [])
  (hp : Pick L (vw e v xs u ys) L') (hm : sl q zs ∈ R) (hb : xs.length + zs.length ≤ maxN)
  (k : ∀ v', J P n ops Q rest (vw e v' (xs ++ zs) u ys :: L') R ((d, v') :: al)) : J P n ops Q (⟨some d, .call { callee := .builtin .append, args := #[x, y], argTypes := #[t, t] }, ty, pos, aft, none⟩ :: rest) L R al :=
 J.yieldEx (v := fun v' => v') (L' := fun v' => vw e v' (xs ++ zs) u ys :: L') (R' := fun _ => R) rfl rfl (fun B w hs => by
  obtain ⟨v', w', h1, h2⟩ := S1 (ty := ty) he hsz hpos hne (hs.pick hp) hm hb
  exact ⟨v', w', Fs (by rw [Bf hx, Bf hy]; exact h1), h2⟩) k
theorem Aaa {t e0 : TypeId} {low high : Operand} {lo hi : Nat} (ht : Dd P t e0 (Enc.sz α)) (hx : ev n al x = some v) (hp : Pick L (row T v xs) L')
  (hlo : ev n al low = some (vi (lo : Int))) (hhi : ev n al high = some (vi (hi : Int))) (h1 : lo ≤ hi) (h2 : hi ≤ xs.length) (hne : xs ≠ []) (hy : (xs.take hi).drop lo = ys)
  (k : ∀ u, J P n ops Q rest (vw T v xs u ys :: L') R ((d, u) :: al)) : J P n ops Q (⟨some d, .slice t x (some low) (some high) none, ty, pos, aft, none⟩ :: rest) L R al :=
 J.yieldEx (v := fun u => u) (L' := fun u => vw T v xs u ys :: L') (R' := fun _ => R) rfl rfl (fun B w hs => by
  have hs2 := hs.pick hp
  obtain ⟨m, j, hd, hmw, hjw, ⟨m1, m2, hd', g1, g2, hc, hst⟩, hr⟩ := id hs2
  obtain ⟨h0, ⟨hv2, hx2⟩ | ⟨g, cap, cur, cs, hv, hg, hcap, hml, hcsz, htk, hrd⟩⟩ := hc
  ·exact absurd hx2 hne
  refine ⟨.slice (if cap = lo then some ⟨g, 0, none⟩ else some ((⟨g, 0, none⟩ : Addr).add (lo * Enc.sz α))) (hi - lo) (cap - lo), w, ?_, St.vw_part ⟨g, cap, lo, hi, hv, hcap, rfl, h1, h2, hy.symm⟩ hs2⟩
  show (Instr.sliceAt t ((mkA n al B).eval x) (some ((mkA n al B).eval low)) (some ((mkA n al B).eval high)) none >>= fun v => Pure.pure (Next.value v)).run P w = _
  rw [Bf hx, Bf hlo, Bf hhi, Sem.run_bind, hv]
  have e1 : (0 : Int) ≤ (lo : Int) ∧ (lo : Int) ≤ (hi : Int) := by omega
  have e2 : (0 : Int) ≤ (hi : Int) ∧ (hi : Int) ≤ (cap : Int) := by omega
  have h3 : hi ≤ cap := by omega
  have : (Instr.sliceAt t (.slice (some ⟨g, 0, none⟩) xs.length cap) (some (vi (lo : Int))) (some (vi (hi : Int))) none).run P w = .ok (.slice (if cap = lo then some ⟨g, 0, none⟩ else some ((⟨g, 0, none⟩ : Addr).add (lo * Enc.sz α))) (hi - lo) (cap - lo)) w := by
   simp [Instr.sliceAt, Instr.slice, Instr.sliceBounds, Instr.sliceBound, Cy ht.1, ht.2, asIntOf, e1, e2, h1, h3] <;> (try omega)
  rw [this]; rfl) k
end
end
set_option maxHeartbeats 1000000
set_option maxRecDepth 8000
def Adz (losses : Bool) (k q : Nat) : List Step := (([2, 3, 4] : List Int).take q).flatMap fun a => if losses = true ∨ a = 2 then [⟨a, 0, (k : Int), 0, zOp⟩] else []
theorem Abk (losses : Bool) (k : Nat) : Adz losses k 3 = Y8 losses k := by cases losses <;> rfl
theorem M6 {losses : Bool} {k q : Nat} (h : q < 3) : Adz losses k (q + 1) = Adz losses k q ++ (if losses = true ∨ ([2, 3, 4] : List Int).getD q 0 = 2 then [⟨([2, 3, 4] : List Int).getD q 0, 0, (k : Int), 0, zOp⟩] else []) := by
 unfold Adz; rw [Es 0 (by exact h), List.flatMap_append]; simp
theorem Abj (losses : Bool) (k q : Nat) : (Adz losses k q).length ≤ 3 := by
 have := Is (f := fun a : Int => if losses = true ∨ a = 2 then [(⟨a, 0, (k : Int), 0, zOp⟩ : Step)] else []) (k := 1) (l := ([2, 3, 4] : List Int).take q) (fun a _ => by split <;> simp)
 rw [List.length_take] at this
 unfold Adz
 have h3 : ([2, 3, 4] : List Int).length = 3 := rfl
 omega
theorem kind3 {q : Nat} (h : q < 3) : 2 ≤ ([2, 3, 4] : List Int).getD q 0 ∧ ([2, 3, 4] : List Int).getD q 0 ≤ 4 := by
 rcases (show q = 0 ∨ q = 1 ∨ q = 2 by omega) with e | e | e <;> rw [e] <;> decide
theorem Aas (a : Bool) (p : Prop) : a = true ∨ (a = false ∧ p) ∨ (a = false ∧ ¬ p) := by
 cases a <;> by_cases h : p <;> simp [h]
theorem Aez {R : List Fact} : ∀ j, (∀ q ∈ R, q.p j) → RdV ([2, 3, 4] : List Int) [vi 2, vi 3, vi 4] j := fun j _ => ⟨⟨_, rfl, rfl, by unfold Ao; decide⟩, ⟨_, rfl, rfl, by unfold Ao; decide⟩, ⟨_, rfl, rfl, by unfold Ao; decide⟩, trivial⟩
theorem T7 {cv hv fv vo : Value} {x : Chip} {ops : List Op} {losses : Bool} (hs : St (L) R w) (hcv : sl cv x.cores ∈ R) (hfv : sl fv x.frames ∈ R) (ho : sl vo ops ∈ R) (hx : KX x) (hol : ops.length ≤ 4000000) : Calls Tryz.prog 7 [.agg #[cv, hv, fv], vo, .bool losses].toArray w (Bs (fun g : Value => g) (fun g => L) (fun g => sl g (Gx x ops losses) :: R)) := by
 refine Ai Tryz.func7 rfl Tryz.ntmps7 rfl hs ?_
 clear hs
 refine Zap ?_;intro b3
 refine Gb1 ?_
 refine Ga1 ?_
 have hcl := hx.cl
 have hfl := hx.fl
 refine ZaH ?_
 refine JC.rowNil 38 Step ?_
 refine A7 (γ := Nat × Value) (fun g => g.1 ≤ x.cores.length) (fun g => row 38 g.2 (stA x ops g.1) :: blk b3 30 [cv, hv, fv] :: L) (fun _ => R) (fun g => [(1, vo), (2, .bool losses), (3, bp b3 0), (7, g.2), (17, vi (x.cores.length : Int)), (18, vi (g.1 : Int))]) (fun g => x.cores.length - g.1) (0, .slice none 0 0) (Nat.zero_le _) alT (fun w hs => Ag hs) ?_
 rintro ⟨p, v⟩ hp
 try simp only at hp ⊢
 have hal := Ry x ops p
 have hmul : p * ops.length ≤ 4 * ops.length := Nat.mul_le_mul_right _ (by omega)
 refine ZA ?_
 refine cdy ?_ ?_
 ·intro ht19
  refine Za1 ?_
  refine Ga3 ?_
  refine A7 (γ := Nat × Value) (fun g => g.1 ≤ ops.length) (fun g => row 38 g.2 (stA x ops p ++ Je x ops p g.1) :: blk b3 30 [cv, hv, fv] :: L) (fun _ => R) (fun g => [(1, vo), (2, .bool losses), (3, bp b3 0), (7, g.2), (8, vi (p : Int)), (17, vi (x.cores.length : Int)), (18, vi (p : Int)), (21, vo), (22, vi (ops.length : Int)), (23, vi (g.1 : Int))]) (fun g => ops.length - g.1) (0, v) (Nat.zero_le _) alT (fun w hs => by rw [show Je x ops p 0 = [] by unfold Je; split <;> rfl, List.append_nil]; exact Ag hs) ?_
  rintro ⟨j, v⟩ hj
  try simp only at hj ⊢
  have hol2 := Qj x ops p j
  have hmul2 : (p + 1) * ops.length ≤ 4 * ops.length := Nat.mul_le_mul_right _ (by omega)
  rw [Nat.succ_mul] at hmul2
  refine ZA ?_
  refine cdy ?_ ?_
  ·intro ht24
   refine Gl ?_
   refine JC.open0 (xs := ops) (v := vo) j mm (by omega) (fun how => ?_)
   refine ZD ?_
   refine al_ (cs := zOp.cells) Tryz.zeroValue36 ?_; intro b10
   refine s_B (cs := (ops.getD j zOp).cells) Tryz.sizeOf36 ?_
   refine Gl ?_
   refine Fh p (v := cv) mm (by omega) (fun hwt uc honeuc => ?_)
   refine Aa ?_
   refine Ga8 ?_
   refine cdy ?_ ?_
   ·intro ht34
    refine ZE ?_
    refine li (α := Step) [⟨1, (p : Int), 0, 0, (ops.getD j zOp)⟩] Jg rfl (Mn (by unfold Step.wf Ao; exact ⟨by simp only; omega, by simp only; omega, by simp only; omega, by simp only; omega, how⟩)) ?_; intro v39
    refine ap Jg (hb := fun w hs => by have : maxN = 16777216 := rfl; simp only [List.length_cons, List.length_nil, List.length_append]; omega) (k := ?_); intro v40
    refine Ga1 ?_
    refine kp [1, 2, 3, 6, 7, 8, 10, 17, 18, 19, 20, 21, 22, 23, 24, 25, 26, 27, 28, 29, 30, 31, 32, 33, 34, 35, 36, 37, 38, 39, 40, 41] ?_
    refine ZO ?_
    refine Au (j + 1, v40) (by show j + 1 ≤ ops.length; omega) (by show ops.length - (j + 1) < ops.length - j; omega) alT (fun w hs => ?_)
    try simp only
    rw [Wy ht34 (by omega), ← List.append_assoc]; exact Ag hs
   ·intro ht34
    refine ZC ?_
    refine Au (j + 1, v) (by show j + 1 ≤ ops.length; omega) (by show ops.length - (j + 1) < ops.length - j; omega) alT (fun w hs => ?_)
    try simp only
    rw [Wz ht34]; exact Ag hs
  ·intro ht24
   exact Zg2
 ·intro ht19
  refine Zav ?_
  have hpe : p = x.cores.length := by omega
  have hml : x.cores.length * ops.length ≤ 4 * ops.length := Nat.mul_le_mul_right _ hcl
  refine A7 (γ := Nat × Value) (fun g => g.1 ≤ x.frames.length) (fun g => row 38 g.2 (stB x ops losses g.1) :: blk b3 30 [cv, hv, fv] :: L) (fun _ => R) (fun g => [(2, .bool losses), (3, bp b3 0), (7, g.2), (45, vi (x.frames.length : Int)), (46, vi (g.1 : Int))]) (fun g => x.frames.length - g.1) (0, v) (Nat.zero_le _) alT (fun w hs => by rw [hpe] at hs; unfold stB; rw [List.range_zero, List.flatMap_nil, List.append_nil]; exact Ag hs) ?_
  rintro ⟨k, v⟩ hk
  try simp only at hk ⊢
  have hbl := Rx x ops losses k
  refine ZA ?_
  refine cdy ?_ ?_
  ·intro ht47
   refine Za1 ?_
   refine li (α := Int) ([2, 3, 4] : List Int) Ea rfl Aez ?_; intro v49
   refine Ga2 ?_
   refine A7 (γ := Nat × Value) (fun g => g.1 ≤ 3) (fun g => row 38 g.2 (stB x ops losses k ++ Adz losses k g.1) :: blk b3 30 [cv, hv, fv] :: L) (fun _ => sl v49 ([2, 3, 4] : List Int) :: R) (fun g => [(2, .bool losses), (3, bp b3 0), (7, g.2), (11, vi (k : Int)), (45, vi (x.frames.length : Int)), (46, vi (k : Int)), (49, v49), (50, vi 3), (51, vi (g.1 : Int))]) (fun g => 3 - g.1) (0, v) (Nat.zero_le _) alT (fun w hs => by rw [show Adz losses k 0 = [] from rfl, List.append_nil]; exact Ag hs) ?_
   rintro ⟨q, v⟩ hq
   try simp only at hq ⊢
   have hfl2 := Abj losses k q
   refine ZA ?_
   refine cdy ?_ ?_
   ·intro ht52
    refine Gl ?_
    refine JC.open0 (xs := ([2, 3, 4] : List Int)) (v := v49) q mm (by show q < 3; omega) (fun hqw => ?_)
    have hk3 := kind3 (q := q) (by omega)
    refine ZaD ?_
    rcases (show (losses = true) ∨ (losses = false ∧ (([2, 3, 4] : List Int).getD q 0) = 2) ∨ (losses = false ∧ ¬ (([2, 3, 4] : List Int).getD q 0) = 2) from by exact Aas _ _) with hc | hc | hc
    ·subst hc
     refine Aa ?_
     refine ob Ls ?_
     refine ob Ls ?_
     refine Gd3 ?_
     refine Ze2 ?_;intro v64
     refine ap Jg (hb := fun w hs => by have : maxN = 16777216 := rfl; simp only [List.length_cons, List.length_nil, List.length_append]; omega) (k := ?_); intro v65
     refine Zex ?_
     have hnx := M6 (losses := true) (k := k) (q := q) (by omega)
     rw [if_pos (.inl rfl)] at hnx
     refine Au (q + 1, v65) (by show q + 1 ≤ 3; omega) (by show 3 - (q + 1) < 3 - q; omega) alT (fun w hs => ?_)
     try simp only
     rw [hnx, ← List.append_assoc]; exact Ag hs
    ·obtain ⟨hc1, hc⟩ := hc; subst hc1
     refine Aa ?_
     refine ob Ls ?_
     refine ob Ls ?_
     refine rn1 ?_
     refine gy ?_
     refine ob (Am rfl rfl (Ba hc)) ?_
     refine Gd1 ?_
     refine Ze2 ?_;intro v64
     refine ap Jg (hb := fun w hs => by have : maxN = 16777216 := rfl; simp only [List.length_cons, List.length_nil, List.length_append]; omega) (k := ?_); intro v65
     refine Zex ?_
     have hnx := M6 (losses := false) (k := k) (q := q) (by omega)
     rw [if_pos (.inr hc)] at hnx
     refine Au (q + 1, v65) (by show q + 1 ≤ 3; omega) (by show 3 - (q + 1) < 3 - q; omega) alT (fun w hs => ?_)
     try simp only
     rw [hnx, ← List.append_assoc]; exact Ag hs
    ·obtain ⟨hc1, hc⟩ := hc; subst hc1
     refine Aa ?_
     refine ob Ls ?_
     refine ob Ls ?_
     refine rn1 ?_
     refine gy ?_
     refine ob (Am rfl rfl (Bh hc)) ?_
     refine Gd1 ?_
     refine Ga2 ?_
     have hnx := M6 (losses := false) (k := k) (q := q) (by omega)
     rw [if_neg (fun a => a.elim (fun b => by cases b) hc), List.append_nil] at hnx
     refine Au (q + 1, v) (by show q + 1 ≤ 3; omega) (by show 3 - (q + 1) < 3 - q; omega) alT (fun w hs => ?_)
     try simp only
     rw [hnx]; exact Ag hs
   ·intro ht52
    refine ZC ?_
    have hqe : q = 3 := by omega
    refine Au (k + 1, v) (by show k + 1 ≤ x.frames.length; omega) (by show x.frames.length - (k + 1) < x.frames.length - k; omega) alT (fun w hs => ?_)
    try simp only
    rw [hqe, Abk, ← On] at hs
    exact Ag hs
  ·intro ht47
   refine Zau ?_
   have hke : k = x.frames.length := by omega
   refine A7 (γ := Nat × Value) (fun g => g.1 ≤ x.cores.length + 1) (fun g => row 38 g.2 (stC x ops losses g.1) :: L) (fun _ => R) (fun g => [(2, .bool losses), (7, g.2), (71, vi ((x.cores.length + 1 : Nat) : Int)), (72, vi (g.1 : Int))]) (fun g => x.cores.length + 1 - g.1) (0, v) (Nat.zero_le _) alT (fun w hs => by rw [hke] at hs; unfold stC; rw [List.range_zero, List.flatMap_nil, List.append_nil]; exact Ag hs) ?_
   rintro ⟨i, v⟩ hi
   try simp only at hi ⊢
   have hcl2 := Ol x ops losses i
   refine ZA ?_
   refine cdy ?_ ?_
   ·intro ht73
    refine Za1 ?_
    refine Ga1 ?_
    first | (refine cdx (p := ?p7) (hd := ?d7) ?e7 ?_ ?_; case e7 => exact rfl) | (refine A9 (b := ?b7) ?e7 ?_ ?_; case e7 => exact rfl)
    ·intro ht75
     refine ZL ?_
     refine li (α := Step) [⟨6, (i : Int), 0, 0, zOp⟩] Jg rfl (Mn (by unfold Step.wf Ao zOp; simp only; omega)) ?_; intro v79
     refine ap Jg (hb := fun w hs => by have : maxN = 16777216 := rfl; simp only [List.length_cons, List.length_nil, List.length_append]; omega) (k := ?_); intro v80
     refine ZG ?_
     have e1 : Uj losses i = [⟨6, (i : Int), 0, 0, zOp⟩] := by unfold Uj; rw [ht75]; rfl
     refine Au (i + 1, v80) (by show i + 1 ≤ x.cores.length + 1; omega) (by show x.cores.length + 1 - (i + 1) < x.cores.length + 1 - i; omega) alT (fun w hs => ?_)
     try simp only
     rw [Lq, e1]; exact Ag hs
    ·intro ht75
     refine ZC ?_
     have e1 : Uj losses i = [] := by unfold Uj; rw [ht75]; rfl
     exact ZfG
   ·intro ht73
    exact ZfZ
theorem Yl {x : Chip} (cs : List Value) (m : Mem) (h : Enc.rd x cs m) : ∃ g : Value × Value × Value, cs = [g.1, g.2.1, g.2.2] ∧ ∀ q ∈ [sl g.1 x.cores, sl g.2.1 x.home, sl g.2.2 x.frames], q.p m := by
 obtain ⟨a, b, c, h1, ha, hb, hc⟩ := h
 refine ⟨(a, b, c), h1, fun q hq => ?_⟩
 simp only [List.mem_cons, List.not_mem_nil, or_false] at hq
 rcases hq with e | e | e <;> rw [e] <;> assumption
section
variable {P : Program} {n : Nat} {ops : Array Oper} {Q : Exit → Act → World → Prop} {rest : List Oper} {L L' : List Chunk} {R : List Fact} {al : List (Nat × Value)} {d : Nat} {x : Operand} {T T' ty : TypeId} {pos : String} {aft : Array Edge} {v u : Value} {xs ys : List Chip}
theorem one3 {a b c : Value} {p : List Core} {q : List Entry} {r : List (List UInt8)} {l : List Oper} (k : a.oneCell' = true ∧ b.oneCell' = true ∧ c.oneCell' = true → J P n ops Q l L (sl a p :: sl b q :: sl c r :: R) al) : J P n ops Q l L (sl a p :: sl b q :: sl c r :: R) al :=
 J.know (fun w hs => ⟨isSlice.one (hs.fact (.head _)), isSlice.one (hs.fact (.tail _ (.head _))), isSlice.one (hs.fact (.tail _ (.tail _ (.head _))))⟩) k
theorem Afd (i : Nat) (hT : ∀ w, (isAgg T).run P w = .ok true w) (hsz : ∀ w, (sizeOf T).run P w = .ok 3 w) (hx : ev n al x = some (ep v 3 i 0)) (hp : Pick L (row T' v xs) L') (hi : i < xs.length)
  (k : ∀ a b c, a.oneCell' = true ∧ b.oneCell' = true ∧ c.oneCell' = true → J P n ops Q rest L (sl a (xs.getD i zChip).cores :: sl b (xs.getD i zChip).home :: sl c (xs.getD i zChip).frames :: R) ((d, .agg [a, b, c].toArray) :: al)) : J P n ops Q (⟨some d, .load T x, ty, pos, aft, none⟩ :: rest) L R al :=
 Uw (γ := Value × Value × Value) (cf := fun g => [g.1, g.2.1, g.2.2]) (F := fun g => [sl g.1 (xs.getD i zChip).cores, sl g.2.1 (xs.getD i zChip).home, sl g.2.2 (xs.getD i zChip).frames]) hT hsz hx hp (getD_some zChip hi) (fun _ => rfl) Yl (fun g => one3 (k g.1 g.2.1 g.2.2))
theorem Afc (i : Nat) (hT : ∀ w, (isAgg T).run P w = .ok true w) (hsz : ∀ w, (sizeOf T).run P w = .ok 3 w) (hx : ev n al x = some (ep u 3 i 0)) (hp : Pick L (vw T' v xs u ys) L') (hi : i < ys.length)
  (k : ∀ a b c, a.oneCell' = true ∧ b.oneCell' = true ∧ c.oneCell' = true → J P n ops Q rest L (sl a (ys.getD i zChip).cores :: sl b (ys.getD i zChip).home :: sl c (ys.getD i zChip).frames :: R) ((d, .agg [a, b, c].toArray) :: al)) : J P n ops Q (⟨some d, .load T x, ty, pos, aft, none⟩ :: rest) L R al :=
 Afb (γ := Value × Value × Value) (cf := fun g => [g.1, g.2.1, g.2.2]) (F := fun g => [sl g.1 (ys.getD i zChip).cores, sl g.2.1 (ys.getD i zChip).home, sl g.2.2 (ys.getD i zChip).frames]) hT hsz hx hp (getD_some zChip hi) (fun _ => rfl) Yl (fun g => one3 (k g.1 g.2.1 g.2.2))
theorem Afv (hp : Pick L (vw T v xs u ys) L') : Dv L R v xs.length := fun w hs => Da (T := T) (L' := L') .hd w (hs.pick hp).vw_row
end
theorem Agb {x : Chip} {l : List Chip} {k : Nat} (h : k < l.length) (e : x = l.getD k zChip) : x ∈ l := by
 rw [e, List.getD_eq_getElem?_getD, List.getElem?_eq_getElem h]; exact List.getElem_mem _
theorem Aga {x : Chip} {l : List Chip} {k : Nat} (h : k < l.length) (h1 : ¬ x ∈ l.take k) (h2 : ¬ x = l.getD k zChip) : ¬ x ∈ l.take (k + 1) := by
 rw [Es zChip h]; intro hm
 rcases List.mem_append.1 hm with a | a
 ·exact h1 a
 ·exact h2 (List.mem_singleton.1 a)
theorem in_all {x : Chip} {l : List Chip} {k : Nat} (h : l.length ≤ k) (h1 : ¬ x ∈ l.take k) : ¬ x ∈ l := by rwa [List.take_of_length_le h] at h1
theorem exIn {cv hv fv vl : Value} {x : Chip} {l : List Chip} {t : Bool} (hs : St (row 30 vl l :: L) R w) (hcv : sl cv x.cores ∈ R) (hhv : sl hv x.home ∈ R) (hfv : sl fv x.frames ∈ R) (ht : t = true ↔ x ∈ l) : Calls Tryz.prog 11 [vl, .agg #[cv, hv, fv]].toArray w (Bs (fun _ : Unit => .bool t) (fun _ => row 30 vl l :: L) (fun _ => R)) := by
 refine Ai Tryz.func11 rfl Tryz.ntmps11 rfl hs ?_
 clear hs
 refine Zap ?_;intro b3
 refine Ga1 ?_
 refine JC.know (p := cv.oneCell' = true ∧ hv.oneCell' = true ∧ fv.oneCell' = true) (fun w hs => ⟨isSlice.one (hs.fact hcv), isSlice.one (hs.fact hhv), isSlice.one (hs.fact hfv)⟩) (fun hone => ?_)
 obtain ⟨honec, honeh, honef⟩ := hone
 refine JC.know (p := l.length ≤ 16777216) (fun w hs => Wg (T := 30) (v := vl) (xs := l) pkk hs) (fun hll => ?_)
 refine ZaD ?_
 refine A7 (γ := Nat) (fun k => k ≤ l.length ∧ ¬ x ∈ l.take k) (fun _ => row 30 vl l :: blk b3 30 [cv, hv, fv] :: L) (fun _ => R) (fun k => [(3, bp b3 0), (7, vl), (8, vi (l.length : Int)), (9, vi (k : Int))]) (fun k => l.length - k) 0 ⟨Nat.zero_le _, by simp⟩ alT (fun w hs => Ag hs) ?_
 rintro k ⟨hk, hnot⟩
 try simp only at hk hnot ⊢
 refine ZA ?_
 refine cdy ?_ ?_
 ·intro ht10
  refine ZI ?_
  refine Afd k Tryz.isAgg30 Tryz.sizeOf30 rfl pkk (by omega) (fun a b c0 hone => ?_)
  obtain ⟨honea, honeb, honec0⟩ := hone
  refine Zds ?_;intro b6
  refine s_B (cs := [a, b, c0]) Tryz.sizeOf30 ?_
  refine Gl ?_
  rcases (show (x = (l.getD k zChip)) ∨ (¬ x = (l.getD k zChip)) from by exact Classical.em _) with hc | hc
  ·refine ZD ?_
   refine An Tryz.call14 rfl (fun w hs => by have h := Ta (a := x) (b := (l.getD k zChip)) hs mm mm mm mm mm mm; rw [decide_eq_true hc] at h; exact h) ?_; intro _
   refine Gmc ?_
   refine Ga1 ?_
   have htt : t = true := ht.2 (Agb (by omega) hc)
   rw [htt]
   exact Bb ()
  ·refine ZD ?_
   refine An Tryz.call14 rfl (fun w hs => by have h := Ta (a := x) (b := (l.getD k zChip)) hs mm mm mm mm mm mm; rw [decide_eq_false hc] at h; exact h) ?_; intro _
   refine Gmc ?_
   refine Ga2 ?_
   refine Au (k + 1) ⟨by omega, Aga (by omega) hnot hc⟩ (by omega) alT (fun w hs => Ag hs)
 ·intro ht10
  refine ZA ?_
  have htt : t = false := by
   cases t with
   | false => rfl
   | true => exact absurd (ht.1 rfl) (in_all (by omega) hnot)
  rw [htt]
  exact Bb ()
theorem exInV {cv hv fv vl u : Value} {x : Chip} {l ys : List Chip} {t : Bool} (hs : St (vw 30 vl l u ys :: L) R w) (hcv : sl cv x.cores ∈ R) (hhv : sl hv x.home ∈ R) (hfv : sl fv x.frames ∈ R) (ht : t = true ↔ x ∈ l) : Calls Tryz.prog 11 [vl, .agg #[cv, hv, fv]].toArray w (Bs (fun _ : Unit => .bool t) (fun _ => vw 30 vl l u ys :: L) (fun _ => R)) := by
 rcases hs.vw_cases with h | ⟨hp, h⟩
 ·exact (exIn (R := sl u ys :: R) h (.tail _ hcv) (.tail _ hhv) (.tail _ hfv) ht).mono fun e w' ⟨g, h1, h2⟩ => ⟨g, h1, (St.vw_sl (.head _) h2).facts fun f hf => .tail _ hf⟩
 ·exact (exIn h hcv hhv hfv ht).mono fun e w' ⟨g, h1, h2⟩ => ⟨g, h1, St.vw_part hp h2⟩
theorem Ky {vl vo : Value} {c : Config} {l : List Step} {ops : List Op} {losses : Bool} {most : Int} (hs : St (L) R w) (hl : sl vl l ∈ R) (ho : sl vo ops ∈ R) (hcw : c.wf) (hm : Ao most) (hol : ops.length ≤ 4000000) : Calls Tryz.prog 3 [.agg c.cells.toArray, vl, vo, .bool losses, vi most].toArray w (Bs (fun _ : Unit => .bool true) (fun _ => L) (fun _ => R)) := by
 refine Ai Tryz.func3 rfl Tryz.ntmps3 rfl hs ?_
 clear hs
 refine Gm ?_
 refine bx ?_; intro b5
 refine Gb1 ?_
 refine rn2 ?_
 refine An Tryz.call5 rfl (fun w hs => Z0 (c := c) (l := l) hs mm hcw) ?_; intro v33
 refine J.know (p := v33.1.oneCell' = true ∧ v33.2.1.oneCell' = true ∧ v33.2.2.1.oneCell' = true) (fun w hs => ⟨isSlice.one (hs.fact (.head _)), isSlice.one (hs.fact (.tail _ (.head _))), isSlice.one (hs.fact (.tail _ (.tail _ (.head _))))⟩) (fun h12 => ?_)
 obtain ⟨honev331, honev332, honev333⟩ := h12
 refine rn3 ?_
 refine al_ (cs := [.slice none 0 0, .slice none 0 0, .slice none 0 0]) Tryz.zeroValue30 ?_; intro b11
 refine s_B (cs := [v33.1, v33.2.1, v33.2.2.1]) Tryz.sizeOf30 ?_
 refine Ga1 ?_
 obtain ⟨kx, _, _⟩ := Xd c l l
 refine cq_ (blk b11 30 [v33.1, v33.2.1, v33.2.2.1] :: blk b5 23 c.cells :: L) ?_
 refine jd_ (fun ρ S => blk b11 30 [v33.1, v33.2.1, v33.2.2.1] :: blk b5 23 c.cells :: L) ?_
 refine dn3 ?_
 refine Bu (γ := Value) (val := fun v => v) (F := fun v => [sl v (Gx (build c l).1 ops losses)]) Tryz.call6 (fun _ => rfl) (fun ρ L R w hd hs => T3 (x := (build c l).1) (ops := ops) (losses := losses) hs (hd.base mm) (hd.base mm) (hd.base mm) kx hol) (fun _ _ _ _ _ => rfl) ?_
 refine dn3 ?_
 refine Bu (γ := Value) (val := fun v => v) (F := fun v => [sl v (Gx (build c l).1 ops losses)]) Tryz.call7 (fun _ => rfl) (fun ρ L R w hd hs => T7 (x := (build c l).1) (ops := ops) (losses := losses) hs (hd.base mm) (hd.base mm) (hd.base mm) kx hol) (fun _ _ _ _ _ => rfl) ?_
 refine epg 3 0 ?_
 refine epg 7 0 ?_
 refine dnl ?_; intro ρ
 refine xq_ (blk b11 30 [v33.1, v33.2.1, v33.2.2.1] :: blk b5 23 c.cells :: L) ?_
 generalize (Gh.dec (γ := Value) (ρ 3)) = v39
 generalize (Gh.dec (γ := Value) (ρ 7)) = v43
 refine Gl ?_
 obtain ⟨S, hS⟩ : ∃ S, Gx (build c l).1 ops losses = S := ⟨_, rfl⟩
 rw [hS]
 refine ZE ?_
 refine ob (Am rfl rfl (C0 rfl)) ?_
 refine Gmc ?_
 refine Ga3 ?_
 refine JC.know (p := S.length ≤ 16777216) (fun w hs => Be (v := v39) (xs := S) mm hs) (fun hSl => ?_)
 refine A7 (γ := Nat) (fun k => k ≤ S.length) (fun _ => blk b5 23 c.cells :: L) (fun _ => sl v39 S :: sl v43 S :: R) (fun k => [(2, vo), (3, .bool losses), (4, vi most), (5, bp b5 0), (13, v39), (14, v43), (50, vi (S.length : Int)), (51, vi (k : Int))]) (fun k => S.length - k) 0 (Nat.zero_le _) alT (fun w hs => Ag hs) ?_
 intro k hk
 try simp only at hk ⊢
 refine ZA ?_
 refine cdy ?_ ?_
 ·intro ht52
  refine ZC ?_
  refine JC.open0 (xs := S) (v := v39) k mm (by omega) (fun _ => ?_)
  refine JC.open0 (xs := S) (v := v43) k mm (by omega) (fun _ => ?_)
  refine kp [2, 3, 4, 5, 10, 13, 14, 15, 50, 51, 52, 53, 54, 55, 56, 57, 58, 59, 60, 61, 62] ?_
  refine Zag ?_
  refine djc (fun _ _ => F3 rfl rfl (Ajq (S.getD k zStep) (S.getD k zStep) _) (Yn (x := (S.getD k zStep)) (y := (S.getD k zStep)) rfl)) ?_
  refine Za6 ?_;intro ρ
  refine Ga2 ?_
  refine Au (k + 1) (by omega) (by omega) alT (fun w hs => Ag hs)
 ·intro ht52
  refine Zak ?_
  refine An Tryz.call8 rfl (fun w hs => expAll (c := c) (ops := ops) (losses := losses) (most := most) hs mm hcw hm) ?_; intro _u
  refine rn3 ?_
  refine al_ (cs := zSeen.cells) Tryz.zeroValue41 ?_; intro b16
  refine s_B (cs := (He c ops losses most).1.cells) Tryz.sizeOf41 ?_
  refine Ga1 ?_
  refine kp [2, 3, 4, 5, 10, 16, 17, 18, 19, 72, 73, 74, 75, 76] ?_
  refine ZB ?_
  refine An Tryz.call9 rfl (fun w hs => Adr (c := c) hs hcw) ?_; intro v74
  refine J.know (p := v74.1.oneCell' = true ∧ v74.2.oneCell' = true) (fun w hs => ⟨isSlice.one (hs.fact (.head _)), isSlice.one (hs.fact (.tail _ (.head _)))⟩) (fun h12 => ?_)
  obtain ⟨honev741, honev742⟩ := h12
  refine rn3 ?_
  refine al_ (cs := [.slice none 0 0, .slice none 0 0, .slice none 0 0]) Tryz.zeroValue30 ?_; intro b18
  refine s_B (cs := [v74.1, v74.2, .slice none 0 0]) Tryz.sizeOf30 ?_
  refine ZaG ?_
  refine cdy ?_ ?_
  ·intro ht77
   have he := ea_1 (ops := ops) (losses := losses) (most := most) ht77
   refine ZJ ?_
   refine ZcK ?_
   exact Bb ()
  ·intro ht77
   refine Gl ?_
   refine kp [2, 3, 4, 10, 16, 17, 18, 88, 89, 90, 91, 92, 93, 94] ?_
   refine Cs 88 (.bool (decide ((most < 0) ∨ (300 < most)))) ?_ ?_
   ·rcases (show ((most < 0)) ∨ (¬ (most < 0) ∧ (300 < most)) ∨ (¬ (most < 0) ∧ ¬ (300 < most)) from by omega) with hm | hm | hm
    ·refine ZB ?_
     refine D5 ?_
     refine Ga5 ?_
     exact ZeQ
    ·refine Zay ?_
     refine Zaf ?_
     refine Fo ?_
     refine Ga2 ?_
     exact ZeQ
    ·refine Zay ?_
     refine Zaf ?_
     refine Dz ?_
     refine Ga2 ?_
     exact ZeV
   ·refine Av ?_
    first | (refine cdx (p := ?p3) (hd := ?d3) ?e3 ?_ ?_; case e3 => exact rfl) | (refine A9 (b := ?b3) ?e3 ?_ ?_; case e3 => exact rfl)
    ·intro ht88
     have he := ea_2 (ops := ops) (losses := losses) (Decidable.not_not.1 ht77) ht88
     refine ZI ?_
     refine ZcK ?_
     exact Bb ()
    ·intro ht88
     refine Zav ?_
     refine cdy ?_ ?_
     ·intro ht102
      have he := ea_3 (losses := losses) (Decidable.not_not.1 ht77) ht88 (show 12 < ops.length by omega)
      refine ZI ?_
      refine ZcK ?_
      exact Bb ()
     ·intro ht102
      refine Gl ?_
      have hok : (A4 c).2 = 0 := Decidable.not_not.1 ht77
      have h12 : ¬ 12 < ops.length := by omega
      obtain ⟨m, rfl⟩ : ∃ m : Nat, most = (m : Int) := ⟨most.toNat, by omega⟩
      have hm0 : ¬ ((m : Int) < 0 ∨ 300 < (m : Int)) := ht88
      obtain ⟨W, hW⟩ : ∃ W, He c ops losses (m : Int) = W := ⟨_, rfl⟩
      rw [hW]
      obtain ⟨n, nl, a1, a2, a3, a4⟩ := I9 hok
      obtain ⟨M0, hI0⟩ : ∃ M, Inv n nl (A4 c).1 M := ⟨_, by rw [a4]; exact My a1 a2⟩
      have hH0 : Had n nl [(A4 c).1] := by rw [a4]; exact Had.one a1 a2
      refine ZB ?_
      refine liO (α := Chip) [(A4 c).1] Vk rfl (Tf mm mm mm) ?_; intro v114
      refine Gb1 ?_
      refine ZG ?_
      refine A7 (γ := Nat × List Chip × Nat × Value) (fun g => g.1 ≤ m ∧ Had n nl g.2.1 ∧ g.2.1 ≠ [] ∧ g.2.2.1 ≤ g.2.1.length ∧ Gp ops losses (m - g.1) g.2.1 g.2.2.1 = Gp ops losses m [(A4 c).1] 0) (fun g => row 30 g.2.2.2 g.2.1 :: blk b16 41 W.1.cells :: L) (fun _ => R) (fun g => [(2, vo), (3, .bool losses), (16, bp b16 0), (17, vi W.2), (20, g.2.2.2), (21, vi (g.2.2.1 : Int)), (115, vi (m : Int)), (116, vi (g.1 : Int))]) (fun g => m - g.1) (0, [(A4 c).1], 0, v114) ⟨Nat.zero_le _, hH0, by simp, Nat.zero_le _, rfl⟩ alT (fun w hs => Ag hs) ?_
      rintro ⟨r, had, f, vh⟩ ⟨hr, hH, hne, hf, hrun⟩
      try simp only at hr hH hne hf hrun ⊢
      have hhl := hH.len
      refine Gl ?_
      refine kp [2, 3, 10, 16, 17, 20, 21, 115, 116, 117] ?_
      refine ZW ?_
      refine cdy ?_ ?_
      ·intro ht117
       refine Gm ?_
       refine Gb3 ?_
       refine rn3 ?_
       refine Aaa (lo := f) (hi := had.length) (ys := had.drop f) Aet rfl pkk rfl rfl hf (Nat.le_refl _) hne (by rw [List.take_length]) ?_; intro v123
       refine ob (Nq (hl := Adx pkk) Tryz.underlying46) ?_
       refine Ga1 ?_
       refine A7 (γ := Nat × List Chip × Value) (fun g => g.1 ≤ (had.drop f).length ∧ Had n nl g.2.1 ∧ (∃ t, g.2.1 = had ++ t) ∧ Hd ops losses had (had.drop f) = Hd ops losses g.2.1 ((had.drop f).drop g.1)) (fun g => vw 30 g.2.2 g.2.1 v123 (had.drop f) :: blk b16 41 W.1.cells :: L) (fun _ => R) (fun g => [(2, vo), (3, .bool losses), (16, bp b16 0), (17, vi W.2), (20, g.2.2), (22, vi (had.length : Int)), (115, vi (m : Int)), (116, vi (r : Int)), (123, v123), (124, vi ((had.drop f).length : Int)), (125, vi (g.1 : Int))]) (fun g => (had.drop f).length - g.1) (0, had, vh) ⟨Nat.zero_le _, hH, ⟨[], by simp⟩, rfl⟩ alT (fun w hs => Ag hs) ?_
       rintro ⟨i, h, vx⟩ ⟨hi, hHh, ⟨t, ht⟩, hnow⟩
       try simp only at hi hHh ht hnow ⊢
       have hdl : (had.drop f).length ≤ 120 := by rw [List.length_drop]; omega
       refine ZA ?_
       refine cdy ?_ ?_
       ·intro ht126
        refine Gm ?_
        refine ob (Fn (i := i) (hl := Adx pkk) Aet) ?_
        refine Afc i Tryz.isAgg30 Tryz.sizeOf30 rfl pkk (by omega) (fun a b c0 hone => ?_)
        obtain ⟨honea, honeb, honec0⟩ := hone
        obtain ⟨X, hX⟩ : ∃ X, (had.drop f).getD i zChip = X := ⟨_, rfl⟩
        have hXm : X ∈ had := by
         exact Zgf
        rw [hX]
        obtain ⟨MX, hIX⟩ := hH.inv X hXm
        refine al_ (cs := [.slice none 0 0, .slice none 0 0, .slice none 0 0]) Tryz.zeroValue30 ?_; intro b24
        refine s_B (cs := [a, b, c0]) Tryz.sizeOf30 ?_
        refine Zad ?_
        refine An Tryz.call7 rfl (fun w hs => T7 (x := X) (ops := ops) (losses := losses) hs mm mm mm hIX.kx (by omega)) ?_; intro v132
        refine Ga2 ?_
        obtain ⟨S2, hS2⟩ : ∃ S2, Gx X ops losses = S2 := ⟨_, rfl⟩
        rw [hS2]
        refine A7 (γ := Nat × List Chip × Value) (fun g => g.1 ≤ S2.length ∧ Had n nl g.2.1 ∧ (∃ t, g.2.1 = had ++ t) ∧ E2 h X S2 = E2 g.2.1 X (S2.drop g.1)) (fun g => vw 30 g.2.2 g.2.1 v123 (had.drop f) :: blk b24 30 [a, b, c0] :: blk b16 41 W.1.cells :: L) (fun _ => sl v132 S2 :: sl a X.cores :: sl b X.home :: sl c0 X.frames :: R) (fun g => [(2, vo), (3, .bool losses), (16, bp b16 0), (17, vi W.2), (20, g.2.2), (22, vi (had.length : Int)), (24, bp b24 0), (115, vi (m : Int)), (116, vi (r : Int)), (123, v123), (124, vi ((had.drop f).length : Int)), (125, vi (i : Int)), (132, v132), (133, vi (S2.length : Int)), (134, vi (g.1 : Int))]) (fun g => S2.length - g.1) (0, h, vx) ⟨Nat.zero_le _, hHh, ⟨t, ht⟩, rfl⟩ alT (fun w hs => Ag hs) ?_
        rintro ⟨j, h2, vx⟩ ⟨hj, hH2, ⟨t, ht⟩, hst⟩
        try simp only at hj hH2 ht hst ⊢
        have hl2 := hH2.len
        have hS2l : S2.length ≤ 200 := by
         have h1 := Ol X ops losses (X.cores.length + 1)
         rw [Om, hS2] at h1
         have h2 := Nat.mul_le_mul hIX.kx.cl (show ops.length ≤ 12 by omega)
         have h3 := hIX.kx.cl
         have h4 := hIX.kx.fl
         omega
        refine ZA ?_
        refine cdy ?_ ?_
        ·intro ht135
         refine Gl ?_
         obtain ⟨SJ, hSJ⟩ : ∃ SJ, S2.getD j zStep = SJ := ⟨_, rfl⟩
         refine JC.open0 (xs := S2) (v := v132) j mm (by omega) (fun hsw => ?_)
         have hsw2 : Step.wf (S2.getD j zStep) := hsw
         refine JC.conseq (L' := vw 30 vx h2 v123 (had.drop f) :: blk b24 30 [a, b, c0] :: blk b16 41 W.1.cells :: L) (R' := cF v132 7 j SJ.cells :: sl v132 S2 :: sl a X.cores :: sl b X.home :: sl c0 X.frames :: R) (fun w hs => by rw [← hSJ]; exact hs) ?_
         rw [hSJ] at hsw2
         refine ZD ?_
         refine al_ (cs := zStep.cells) Tryz.zeroValue38 ?_; intro b26
         refine s_B (cs := SJ.cells) Tryz.sizeOf38 ?_
         refine ZJ ?_
         refine An Tryz.call10 rfl (fun w hs => Ads (x := X) (s := SJ) hs mm mm mm hIX hsw2) ?_; intro v141
         refine J.know (p := v141.1.oneCell' = true ∧ v141.2.1.oneCell' = true ∧ v141.2.2.1.oneCell' = true) (fun w hs => ⟨isSlice.one (hs.fact (.head _)), isSlice.one (hs.fact (.tail _ (.head _))), isSlice.one (hs.fact (.tail _ (.tail _ (.head _))))⟩) (fun h12 => ?_)
         obtain ⟨honev1411, honev1412, honev1413⟩ := h12
         refine rn4 ?_
         refine al_ (cs := [.slice none 0 0, .slice none 0 0, .slice none 0 0]) Tryz.zeroValue30 ?_; intro b27
         refine s_B (cs := [v141.1, v141.2.1, v141.2.2.1]) Tryz.sizeOf30 ?_
         refine Ga2 ?_
         rcases (show (¬ (Al X SJ).2.2 = 0) ∨ ((Al X SJ).2.2 = 0 ∧ (Al X SJ).1 ∈ h2) ∨ ((Al X SJ).2.2 = 0 ∧ ¬ (Al X SJ).1 ∈ h2) from by exact T6 _ _) with hc | hc | hc
         ·refine ZcN ?_
          refine ob (Am rfl rfl (E4 hc)) ?_
          refine Gd5 ?_
          refine Ga2 ?_
          have htd := try_a (h := h2) hc
          have hsa := Gr (h := h2) (x := X) (l := S2) (j := j) (by omega)
          rw [hSJ, htd] at hsa
          refine Au (j + 1, h2, vx) ⟨by show j + 1 ≤ S2.length; omega, hH2, ⟨t, ht⟩, by rw [hst, hsa]⟩ (by show S2.length - (j + 1) < S2.length - j; omega) alT (fun w hs => Ag hs)
         ·refine ZcN ?_
          refine Zcz ?_
          refine An Tryz.call11 rfl (fun w hs => exInV (x := (Al X SJ).1) (l := h2) (u := v123) (ys := had.drop f) (t := true) (Ag (L' := vw 30 vx h2 v123 (had.drop f) :: blk b27 30 [v141.1, v141.2.1, v141.2.2.1] :: blk b24 30 [a, b, c0] :: blk b16 41 W.1.cells :: L) hs) mm mm mm ⟨fun _ => hc.2, fun _ => rfl⟩) ?_; intro _
          refine Gd1 ?_
          refine Ga2 ?_
          have htd := try_b (h := h2) hc
          have hsa := Gr (h := h2) (x := X) (l := S2) (j := j) (by omega)
          rw [hSJ, htd] at hsa
          refine Au (j + 1, h2, vx) ⟨by show j + 1 ≤ S2.length; omega, hH2, ⟨t, ht⟩, by rw [hst, hsa]⟩ (by show S2.length - (j + 1) < S2.length - j; omega) alT (fun w hs => Ag hs)
         ·refine ZcN ?_
          refine Zcz ?_
          refine An Tryz.call11 rfl (fun w hs => exInV (x := (Al X SJ).1) (l := h2) (u := v123) (ys := had.drop f) (t := false) (Ag (L' := vw 30 vx h2 v123 (had.drop f) :: blk b27 30 [v141.1, v141.2.1, v141.2.2.1] :: blk b24 30 [a, b, c0] :: blk b16 41 W.1.cells :: L) hs) mm mm mm ⟨fun h => absurd h (by decide), fun a => absurd a hc.2⟩) ?_; intro _
          refine Gd1 ?_
          refine rn1 ?_
          refine ob (Nq (hl := Afv pkk) Tryz.underlying46) ?_
          refine Ga1 ?_
          refine cdy ?_ ?_
          ·intro ht154
           refine Gl ?_
           have htn := try_c (h := h2) hc (by omega)
           have hsa := Gr (h := h2) (x := X) (l := S2) (j := j) (by omega)
           rw [hSJ, htn] at hsa
           have hst2 : E2 h X S2 = none := by rw [hst, hsa]
           have hn1 := Tl (ops := ops) (losses := losses) (h := h) (l := had.drop f) (i := i) (by omega)
           rw [hX, hS2, hst2] at hn1
           have hr1 : Gp ops losses m [(A4 c).1] 0 = none := by rw [← hrun]; exact Tc (by omega) (by rw [hnow, hn1])
           have hW2 : W = (⟨120, 0, true⟩, 0) := by rw [← hW]; exact ea_n hok hm0 h12 (by exact hr1)
           refine ZB ?_
           refine ob (Am rfl rfl (Ba (by rw [hW2]))) ?_
           refine ZP ?_
           refine ob (F3 rfl rfl (Nl W.1 (⟨120, 0, true⟩ : Seen) _) (Iv (x := W.1) (y := (⟨120, 0, true⟩ : Seen)) (by rw [hW2]))) ?_
           refine Ga2 ?_
           exact Bb ()
          ·intro ht154
           refine ZJ ?_
           refine li (α := Chip) [(Al X SJ).1] Vk rfl (Tf mm mm mm) ?_; intro v164
           refine Wq (xs := h2) (zs := [(Al X SJ).1]) (u := v123) (ys := had.drop f) Vk rfl rfl rfl (by decide) (by simp) pkk mm (by have : maxN = 16777216 := rfl; simp only [List.length_singleton]; omega) ?_; intro v165
           refine ZG ?_
           have htd := try_d hc (by omega)
           have hsa := Gr (h := h2) (x := X) (l := S2) (j := j) (by omega)
           rw [hSJ, htd] at hsa
           refine Au (j + 1, h2 ++ [(Al X SJ).1], v165) ⟨by show j + 1 ≤ S2.length; omega, hH2.try ⟨_, hIX⟩ htd, ⟨t ++ [(Al X SJ).1], by rw [ht, List.append_assoc]⟩, by rw [hst, hsa]⟩ (by show S2.length - (j + 1) < S2.length - j; omega) alT (fun w hs => Ag hs)
        ·intro ht135
         refine ZC ?_
         have hje : j = S2.length := by omega
         have hst2 : E2 h X S2 = some h2 := by rw [hst, hje, List.drop_length]; rfl
         have hn1 := Tl (ops := ops) (losses := losses) (h := h) (l := had.drop f) (i := i) (by omega)
         rw [hX, hS2, hst2] at hn1
         refine Au (i + 1, h2, vx) ⟨by show i + 1 ≤ (had.drop f).length; omega, hH2, ⟨t, ht⟩, by show Hd ops losses had (had.drop f) = Hd ops losses h2 ((had.drop f).drop (i + 1)); rw [hnow, hn1]⟩ (by show (had.drop f).length - (i + 1) < (had.drop f).length - i; omega) alT (fun w hs => Ag hs)
       ·intro ht126
        refine Gl ?_
        have hnow2 : Hd ops losses had (had.drop f) = some h := by rw [hnow, List.drop_of_length_le (by omega)]; rfl
        refine JC.conseq (L' := row 30 vx h :: blk b16 41 W.1.cells :: L) (R' := R) (fun w hs => St.vw_row hs) ?_
        refine Aa ?_
        refine Gb2 ?_
        refine Ga2 ?_
        refine Au (r + 1, h, had.length, vx) ⟨by show r + 1 ≤ m; omega, hHh, by show h ≠ []; rw [ht]; simp [hne], by show had.length ≤ h.length; rw [ht, List.length_append]; omega, by show Gp ops losses (m - (r + 1)) h had.length = _; rw [show m - (r + 1) = m - r - 1 by omega, ← Tb (by omega) hnow2]; exact hrun⟩ (by show m - (r + 1) < m - r; omega) alT (fun w hs => Ag hs)
      ·intro ht117
       refine Gl ?_
       have hr1 : Gp ops losses m [(A4 c).1] 0 = some had := by rw [← hrun, show m - r = 0 by omega]; rfl
       have hW2 : W = (⟨(had.length : Int), 0, false⟩, 0) := by rw [← hW]; exact ea_s hok hm0 h12 (by exact hr1)
       refine ZB ?_
       refine ob (Am rfl rfl (Ba (by rw [hW2]))) ?_
       refine ZR ?_
       refine ob (F3 rfl rfl (Nl W.1 (⟨(had.length : Int), 0, false⟩ : Seen) _) (Iv (x := W.1) (y := (⟨(had.length : Int), 0, false⟩ : Seen)) (by rw [hW2]))) ?_
       refine Ga2 ?_
       exact Bb ()
end Go.Proofs.YtbigiimomnfpdaaGreat
