/- This file proves parts of what its law needs: each part is told ahead of it. No conditions. -/
import Derived.Test.YtehpekiedfpnkaaXM3
import Derived.Test.YtehpekiedfpnkaaXM2
set_option linter.unusedVariables false
set_option linter.unusedSimpArgs false
set_option maxHeartbeats 1000000
set_option maxRecDepth 8000
namespace Go.Proofs.Ytehpekiedfpnkaa
open Go
variable {L : List Chunk} {R : List Fact} {w : World}
structure KB (c : Core) : Prop where
 n : c.lines.length ≤ 4
 v : ∀ i, i < c.lines.length → 0 ≤ (c.lines.getD i zLine).value ∧ (c.lines.getD i zLine).value ≤ 255
 w : CW c c.lines.length
theorem Hx {P : Program} {n : Nat} {Q : Exit → Act → World → Prop} {L : List Chunk} {R : List Fact} {al : List (Nat × Value)} {cd : Code} {v : Value} {c : Core} (i : Int) (hm : sl v c.lines ∈ R) (h0 : 0 ≤ i) (hi : i < c.lines.length) (k : (Ac c i).wf → JC P n cd Q L (cF v 7 i.toNat (Ac c i).cells :: R) al) : JC P n cd Q L R al := JC.open0 i.toNat hm (by omega) k
theorem Abg {u : Value} {c : Core} {id home : Int} {q : Op} (hs : St (L) R w) (hu : sl u c.lines ∈ R) (hk : KB c) (hid : An id) (hhome : An home) (hq : q.wf) : Calls Try.prog 50 [.agg (c.cells u).toArray, vi id, vi home, .agg q.cells.toArray].toArray w (Bw (fun v : Value × Value × Value => .tuple #[.agg (Core.cells v.1 (Ah c id home q).1).toArray, v.2.1, v.2.2, vi (Ah c id home q).2.2.2]) (fun v => L) (fun v => sl v.1 (Ah c id home q).1.lines :: sl v.2.1 (Ah c id home q).2.1 :: sl v.2.2 (Ah c id home q).2.2.1 :: R)) := by
 have hlen := Bg hu hs
 refine Za2 ?_;intro hone0
 have hn4 := hk.n
 refine Aj Try.func50 rfl Try.ntmps50 rfl hs ?_
 clear hs
 refine Gm ?_
 refine bx ?_; intro b4
 refine Zb6 ?_;intro b7 b8
 refine Ga3 ?_
 rcases (show (q.kind < 1) ∨ (¬ q.kind < 1 ∧ 4 < q.kind) ∨ (1 ≤ q.kind ∧ q.kind ≤ 4) from by omega) with hc | hc | hc
 ·refine ZX ?_
  refine Gc5 ?_
  exact ZfJ
 ·refine Zbl ?_
  refine Gc1 ?_
  exact ZfJ
 ·refine Za8 ?_
  refine Gc1 ?_
  rcases (show (q.line < 0) ∨ (0 ≤ q.line ∧ (c.lines.length : Int) ≤ q.line) ∨ (0 ≤ q.line ∧ q.line < (c.lines.length : Int) ∧ q.value < 0) ∨ (0 ≤ q.line ∧ q.line < (c.lines.length : Int) ∧ 255 < q.value) ∨ (0 ≤ q.line ∧ q.line < (c.lines.length : Int) ∧ 0 ≤ q.value ∧ q.value ≤ 255) from by omega) with hc | hc | hc | hc | hc
  ·refine ZX ?_
   refine Gc18 ?_
   exact Zgb
  ·refine ZZ ?_
   refine Zbk ?_
   refine Gc11 ?_
   exact Zgb
  ·refine Zau ?_
   refine ZaD ?_
   refine Gc6 ?_
   exact Zgb
  ·refine Zau ?_
   refine Za6 ?_
   refine G3 ?_
   refine Gc1 ?_
   exact Zgb
  ·refine Zau ?_
   refine Zaw ?_
   refine Gc1 ?_
   refine Hx (c := c) (v := u) q.line mm (by omega) (by omega) (fun hlw => ?_)
   refine kp [1, 2, 4, 7, 8, 9, 10, 11, 12, 47, 48, 49, 50, 51, 52] ?_
   refine Za0 ?_
   refine al_ (cs := zLine.cells) Try.zeroValue82 ?_; intro b12
   refine s_B (cs := (Ac c q.line).cells) Try.sizeOf82 ?_
   refine Gl ?_
   rcases (show (c.wait.kind ≠ 0) ∨ (c.wait.kind = 0 ∧ 65535 ≤ (Ac c q.line).serial) ∨ (c.wait.kind = 0 ∧ (Ac c q.line).serial < 65535) from by omega) with hc | hc | hc
   ·refine ZI ?_
    refine Kk ?_
    refine Gc5 ?_
    exact Zf2
   ·refine ZI ?_
    refine K5 ?_
    refine ZQ ?_
    refine Hj ?_
    refine Gc1 ?_
    exact Zf2
   ·refine ZI ?_
    refine K5 ?_
    refine ZQ ?_
    refine Dm ?_
    refine Gd1 ?_
    refine Za3 ?_
    refine Ga2 ?_
    refine cdy ?_ ?_
    ·intro ht68
     refine Zad ?_
     refine cdy ?_ ?_
     ·intro ht72
      refine Aa ?_
      refine ZH ?_
      refine cTp (p := (3 : Int) ≠ 0) (by decide) ?_
      refine Zaj ?_
      refine ob (Gc (by exact rfl) (by exact rfl) (by unfold Line.wf An at hlw; omega) (by unfold Line.wf An at hlw; omega)) ?_
      refine ZG ?_
      refine ZG ?_
      refine Gl ?_
      refine kp [1, 2, 4, 7, 8, 9, 10, 11, 12, 13, 91, 92] ?_
      refine ZW ?_
      refine cTp (p := (3 : Int) = 3) (by decide) ?_
      refine ZB ?_
      refine sc ?_
      refine Zam ?_
      have hXw : ({ (Ac c q.line) with state := 3, want := 3, serial := (Ac c q.line).serial + 1 } : Line).wf := by unfold Line.wf An at hlw ⊢; simp only; omega
      refine Ao Try.call81 rfl (fun w hs => Bq (l := { (Ac c q.line) with state := 3, want := 3, serial := (Ac c q.line).serial + 1 }) hs mm hXw (by omega)) ?_; intro v98
      refine ZcC ?_;intro hone98 b14
      refine cq_ (blk b8 57 [.slice none 0 0, vi 0, vi 0, vi 0] :: blk b14 57 [v98, vi q.kind, vi q.line, vi q.value] :: blk b12 82 [vi 3, vi (Ac c q.line).value, vi 3, vi ((Ac c q.line).serial + 1), vi (Ac c q.line).seen, vi (Ac c q.line).gave, vi (Ac c q.line).given] :: blk b7 26 q.cells :: L) ?_
      refine jd_ (fun ρ S => blk b8 57 (bif S 8 then [v98, vi q.kind, vi q.line, vi q.value] else [.slice none 0 0, vi 0, vi 0, vi 0]) :: blk b14 57 [v98, vi q.kind, vi q.line, vi q.value] :: blk b12 82 [vi 3, vi (Ac c q.line).value, vi 3, vi ((Ac c q.line).serial + 1), vi (Ac c q.line).seen, vi (Ac c q.line).gave, vi (Ac c q.line).given] :: blk b7 26 q.cells :: L) ?_
      refine dn6 ?_
      refine Bt (γ := Unit) (val := fun _ => .agg (By ({ (Ac c q.line) with state := 3, want := 3, serial := (Ac c q.line).serial + 1 }) id home q.line).cells.toArray) (F := fun _ => []) Try.call82 (fun _ => rfl) (fun ρ L R w hd hs => Pf (l := { (Ac c q.line) with state := 3, want := 3, serial := (Ac c q.line).serial + 1 }) (id := id) (home := home) (i := q.line) hs ) (fun _ _ _ _ _ => rfl) ?_
      refine Fz ([By ({ (Ac c q.line) with state := 3, want := 3, serial := (Ac c q.line).serial + 1 }) id home q.line] : List Msg) Fy rfl (fun _ => rfl) rfl (fun _ => rfl) rfl rfl (fun ρ R hd => Is (Vd hXw hid hhome hq.2.1)) (fun _ _ _ _ _ => rfl) ?_
      refine ZcM ?_;intro ρ
      refine xq_ (blk b8 57 [v98, vi q.kind, vi q.line, vi q.value] :: blk b14 57 [v98, vi q.kind, vi q.line, vi q.value] :: blk b12 82 [vi 3, vi (Ac c q.line).value, vi 3, vi ((Ac c q.line).serial + 1), vi (Ac c q.line).seen, vi (Ac c q.line).gave, vi (Ac c q.line).given] :: blk b7 26 q.cells :: L) ?_
      generalize (Gh.dec (γ := Value) (ρ 7)) = v108
      refine Gl ?_
      have eb : Ax (Ac c q.line) q = { (Ac c q.line) with state := 3, want := 3, serial := (Ac c q.line).serial + 1 } := by unfold Ax; rw [if_pos (by omega), if_pos (by omega)]
      have ed : Ba (Ac c q.line) q = false := by unfold Ba; split <;> simp <;> omega
      have er : Ah c id home q = (A2 c q.line ({ (Ac c q.line) with state := 3, want := 3, serial := (Ac c q.line).serial + 1 }) q, [By ({ (Ac c q.line) with state := 3, want := 3, serial := (Ac c q.line).serial + 1 }) id home q.line], [], 0) := by unfold Ah; rw [if_neg (by omega), if_neg (by omega), if_neg (by omega), ed, if_neg (by decide), eb]
      rw [er]
      exact Fc (v98, v108, .slice none 0 0) Try.isAgg57 Try.sizeOf57
     ·intro ht72
      exact Zex
    ·intro ht68
     refine ZD ?_
     refine cdy ?_ ?_
     ·intro ht73
      refine Zam ?_
      refine jgx (t := 78) (p := ?p5) (hd := ?d5) ?e5 ?_ ?_; case e5 => exact rfl
      ·intro ht78
       refine Ga4 ?_
       refine cdy ?_ ?_
       ·intro ht82
        refine kp [1, 2, 4, 7, 8, 9, 10, 11, 12, 13] ?_
        refine Aa ?_
        refine ZH ?_
        refine cTp (p := (1 : Int) ≠ 0) (by decide) ?_
        refine Zaj ?_
        refine ob (Gc (by exact rfl) (by exact rfl) (by unfold Line.wf An at hlw; omega) (by unfold Line.wf An at hlw; omega)) ?_
        refine ZG ?_
        refine ZG ?_
        refine ZD ?_
        refine cFp (p := (1 : Int) = 3) (by decide) ?_
        refine Zam ?_
        have hXw : ({ (Ac c q.line) with want := 1, serial := (Ac c q.line).serial + 1 } : Line).wf := by unfold Line.wf An at hlw ⊢; simp only; omega
        refine Ao Try.call81 rfl (fun w hs => Bq (l := { (Ac c q.line) with want := 1, serial := (Ac c q.line).serial + 1 }) hs mm hXw (by omega)) ?_; intro v98
        refine ZcC ?_;intro hone98 b14
        refine cq_ (blk b8 57 [.slice none 0 0, vi 0, vi 0, vi 0] :: blk b14 57 [v98, vi q.kind, vi q.line, vi q.value] :: blk b12 82 [vi (Ac c q.line).state, vi (Ac c q.line).value, vi 1, vi ((Ac c q.line).serial + 1), vi (Ac c q.line).seen, vi (Ac c q.line).gave, vi (Ac c q.line).given] :: blk b7 26 q.cells :: L) ?_
        refine jd_ (fun ρ S => blk b8 57 (bif S 8 then [v98, vi q.kind, vi q.line, vi q.value] else [.slice none 0 0, vi 0, vi 0, vi 0]) :: blk b14 57 [v98, vi q.kind, vi q.line, vi q.value] :: blk b12 82 [vi (Ac c q.line).state, vi (Ac c q.line).value, vi 1, vi ((Ac c q.line).serial + 1), vi (Ac c q.line).seen, vi (Ac c q.line).gave, vi (Ac c q.line).given] :: blk b7 26 q.cells :: L) ?_
        refine dn6 ?_
        refine Bt (γ := Unit) (val := fun _ => .agg (By ({ (Ac c q.line) with want := 1, serial := (Ac c q.line).serial + 1 }) id home q.line).cells.toArray) (F := fun _ => []) Try.call82 (fun _ => rfl) (fun ρ L R w hd hs => Pf (l := { (Ac c q.line) with want := 1, serial := (Ac c q.line).serial + 1 }) (id := id) (home := home) (i := q.line) hs ) (fun _ _ _ _ _ => rfl) ?_
        refine Fz ([By ({ (Ac c q.line) with want := 1, serial := (Ac c q.line).serial + 1 }) id home q.line] : List Msg) Fy rfl (fun _ => rfl) rfl (fun _ => rfl) rfl rfl (fun ρ R hd => Is (Vd hXw hid hhome hq.2.1)) (fun _ _ _ _ _ => rfl) ?_
        refine ZcM ?_;intro ρ
        refine xq_ (blk b8 57 [v98, vi q.kind, vi q.line, vi q.value] :: blk b14 57 [v98, vi q.kind, vi q.line, vi q.value] :: blk b12 82 [vi (Ac c q.line).state, vi (Ac c q.line).value, vi 1, vi ((Ac c q.line).serial + 1), vi (Ac c q.line).seen, vi (Ac c q.line).gave, vi (Ac c q.line).given] :: blk b7 26 q.cells :: L) ?_
        generalize (Gh.dec (γ := Value) (ρ 7)) = v108
        refine Gl ?_
        have eb : Ax (Ac c q.line) q = { (Ac c q.line) with want := 1, serial := (Ac c q.line).serial + 1 } := by unfold Ax; rw [if_neg (by omega), if_neg (by omega), if_pos (by omega)]
        have ed : Ba (Ac c q.line) q = false := by unfold Ba; split <;> simp <;> omega
        have er : Ah c id home q = (A2 c q.line ({ (Ac c q.line) with want := 1, serial := (Ac c q.line).serial + 1 }) q, [By ({ (Ac c q.line) with want := 1, serial := (Ac c q.line).serial + 1 }) id home q.line], [], 0) := by unfold Ah; rw [if_neg (by omega), if_neg (by omega), if_neg (by omega), ed, if_neg (by decide), eb]
        rw [er]
        exact Fc (v98, v108, .slice none 0 0) Try.isAgg57 Try.sizeOf57
       ·intro ht82
        refine Gl ?_
        exact Zey
      ·intro ht78
       refine Gc4 ?_
       exact Zey
     ·intro ht73
      refine Zad ?_
      refine cdy ?_ ?_
      ·intro ht67
       refine Aa ?_
       refine ZH ?_
       refine cTp (p := (2 : Int) ≠ 0) (by decide) ?_
       refine Zaj ?_
       refine ob (Gc (by exact rfl) (by exact rfl) (by unfold Line.wf An at hlw; omega) (by unfold Line.wf An at hlw; omega)) ?_
       refine ZG ?_
       refine ZG ?_
       refine Gl ?_
       refine kp [1, 2, 4, 7, 8, 9, 10, 11, 12, 13, 91, 92] ?_
       refine ZW ?_
       refine cFp (p := (2 : Int) = 3) (by decide) ?_
       refine Zam ?_
       have hXw : ({ (Ac c q.line) with want := 2, serial := (Ac c q.line).serial + 1 } : Line).wf := by unfold Line.wf An at hlw ⊢; simp only; omega
       refine Ao Try.call81 rfl (fun w hs => Bq (l := { (Ac c q.line) with want := 2, serial := (Ac c q.line).serial + 1 }) hs mm hXw (by omega)) ?_; intro v98
       refine ZcC ?_;intro hone98 b14
       refine cq_ (blk b8 57 [.slice none 0 0, vi 0, vi 0, vi 0] :: blk b14 57 [v98, vi q.kind, vi q.line, vi q.value] :: blk b12 82 [vi (Ac c q.line).state, vi (Ac c q.line).value, vi 2, vi ((Ac c q.line).serial + 1), vi (Ac c q.line).seen, vi (Ac c q.line).gave, vi (Ac c q.line).given] :: blk b7 26 q.cells :: L) ?_
       refine jd_ (fun ρ S => blk b8 57 (bif S 8 then [v98, vi q.kind, vi q.line, vi q.value] else [.slice none 0 0, vi 0, vi 0, vi 0]) :: blk b14 57 [v98, vi q.kind, vi q.line, vi q.value] :: blk b12 82 [vi (Ac c q.line).state, vi (Ac c q.line).value, vi 2, vi ((Ac c q.line).serial + 1), vi (Ac c q.line).seen, vi (Ac c q.line).gave, vi (Ac c q.line).given] :: blk b7 26 q.cells :: L) ?_
       refine dn6 ?_
       refine Bt (γ := Unit) (val := fun _ => .agg (By ({ (Ac c q.line) with want := 2, serial := (Ac c q.line).serial + 1 }) id home q.line).cells.toArray) (F := fun _ => []) Try.call82 (fun _ => rfl) (fun ρ L R w hd hs => Pf (l := { (Ac c q.line) with want := 2, serial := (Ac c q.line).serial + 1 }) (id := id) (home := home) (i := q.line) hs ) (fun _ _ _ _ _ => rfl) ?_
       refine Fz ([By ({ (Ac c q.line) with want := 2, serial := (Ac c q.line).serial + 1 }) id home q.line] : List Msg) Fy rfl (fun _ => rfl) rfl (fun _ => rfl) rfl rfl (fun ρ R hd => Is (Vd hXw hid hhome hq.2.1)) (fun _ _ _ _ _ => rfl) ?_
       refine ZcM ?_;intro ρ
       refine xq_ (blk b8 57 [v98, vi q.kind, vi q.line, vi q.value] :: blk b14 57 [v98, vi q.kind, vi q.line, vi q.value] :: blk b12 82 [vi (Ac c q.line).state, vi (Ac c q.line).value, vi 2, vi ((Ac c q.line).serial + 1), vi (Ac c q.line).seen, vi (Ac c q.line).gave, vi (Ac c q.line).given] :: blk b7 26 q.cells :: L) ?_
       generalize (Gh.dec (γ := Value) (ρ 7)) = v108
       refine Gl ?_
       have eb : Ax (Ac c q.line) q = { (Ac c q.line) with want := 2, serial := (Ac c q.line).serial + 1 } := by unfold Ax; rw [if_neg (by omega), if_neg (by omega), if_neg (by omega)]
       have ed : Ba (Ac c q.line) q = false := by unfold Ba; split <;> simp <;> omega
       have er : Ah c id home q = (A2 c q.line ({ (Ac c q.line) with want := 2, serial := (Ac c q.line).serial + 1 }) q, [By ({ (Ac c q.line) with want := 2, serial := (Ac c q.line).serial + 1 }) id home q.line], [], 0) := by unfold Ah; rw [if_neg (by omega), if_neg (by omega), if_neg (by omega), ed, if_neg (by decide), eb]
       rw [er]
       exact Fc (v98, v108, .slice none 0 0) Try.isAgg57 Try.sizeOf57
      ·intro ht67
       exact Zex
theorem Rq {b5 b6 b7 : Nat} {kind turn v id home line : Int} (hs : St (L) R w) (c5 : C2 L R (bp b5 0) [vi id]) (c6 : C2 L R (bp b6 0) [vi home]) (c7 : C2 L R (bp b7 3) [vi line]) (hkd : An kind) (ht : An turn) (hv : An v) (hid : An id) (hhome : An home) (hl : An line) : Calls Try.prog 89 [vi kind, vi turn, vi v, bp b5 0, bp b6 0, bp b7 0].toArray w (Bw (fun u : Value => u) (fun u => L) (fun u => sl u [A8 kind id home line turn v] :: R)) := by
 refine Aj Try.func89 rfl Try.ntmps89 rfl hs ?_
 clear hs
 refine ZL ?_
 refine rn1 ?_
 refine ob (C3 Try.isAgg3 (hc := c5)) ?_
 refine ob (C3 Try.isAgg3 (hc := c6)) ?_
 refine rn1 ?_
 refine ob (C3 Try.isAgg3 (hc := c7)) ?_
 refine rn3 ?_
 refine li ([A8 kind id home line turn v] : List Msg) Fy rfl (Is (by unfold Msg.wf A8 An at *; simp only; omega)) ?_; intro v18
 refine Ga1 ?_
 exact Co v18
theorem Ahp {b5 b4 : Nat} {id : Int} {q : Op} (hs : St (L) R w) (c5 : C2 L R (bp b5 0) [vi id]) (c4 : C2 L R (bp b4 1) q.cells) (hid : An id) (hq : q.wf) : Calls Try.prog 90 [bp b5 0, bp b4 0].toArray w (Bw (fun u : Value => u) (fun u => L) (fun u => sl u [(⟨id, q, 0⟩ : Done)] :: R)) := by
 refine Aj Try.func90 rfl Try.ntmps90 rfl hs ?_
 clear hs
 refine ZL ?_
 refine ob (C3 Try.isAgg3 (hc := c5)) ?_
 refine rn1 ?_
 refine ob (Xv Try.isAgg26 Try.sizeOf26 (hc := c4)) ?_
 refine rn1 ?_
 refine li ([⟨id, q, 0⟩] : List Done) F4 rfl (Gi ⟨hid, hq.1, hq.2.1, hq.2.2, by unfold An; simp only; omega⟩) ?_; intro v7
 refine Ga1 ?_
 exact Co v7
theorem Nb {v : Int} {o : Op} (hv : An v) : An (Ay v o).2 := by
 unfold Ay; split
 ·exact hv
 split
 ·unfold An; simp only; omega
 split
 ·exact hv
 ·unfold An; simp only; omega
theorem KB.wait {c : Core} (h : KB c) (i : Int) (hi : i.toNat < c.lines.length) (hw : (Ac c i).want ≠ 0) : (1 ≤ c.wait.kind ∧ c.wait.kind ≤ 4) ∧ (0 ≤ c.wait.line ∧ c.wait.line < c.lines.length) ∧ (0 ≤ c.wait.value ∧ c.wait.value ≤ 255) := by
 have hb := h.w.busy (fun h0 => hw ((h.w.free h0).2 i.toNat hi))
 exact ⟨hb.1, hb.2.1, hb.2.2.1⟩
theorem KB.wwf {c : Core} (h : KB c) : c.wait.wf := by
 by_cases h0 : c.wait.kind = 0
 ·rw [(h.w.free h0).1]; unfold Op.wf An zOp; simp only; omega
 ·obtain ⟨h1, h2, h3, _⟩ := h.w.busy h0
  have := h.n
  unfold Op.wf An; omega
theorem Ma {c : Core} {id home : Int} {m : Msg} (h : m.line < 0 ∨ (c.lines.length : Int) ≤ m.line) : Ae c id home m = (c, [], []) := by unfold Ae; rw [if_pos h]
end Go.Proofs.Ytehpekiedfpnkaa
namespace Go.Proofs.Ytehpekiedfpnkaa
open Abs
def Dg (M : List Int) : List Done → List Int → Prop
 | [], M' => M' = M
 | d :: r, M' => (1 ≤ d.op.kind ∧ d.op.kind ≤ 4) ∧ (0 ≤ d.op.line ∧ d.op.line < M.length) ∧ (0 ≤ d.op.value ∧ d.op.value ≤ 255) ∧
  d.value = (if d.op.kind = 4 then 0 else (Ay (M.getD d.op.line.toNat 0) d.op).2) ∧ Dg (M.set d.op.line.toNat (Ay (M.getD d.op.line.toNat 0) d.op).1) r M'
theorem Na {v : Int} {o : Op} (hv : 0 ≤ v ∧ v ≤ 255) (ho : 0 ≤ o.value ∧ o.value ≤ 255) : 0 ≤ (Ay v o).1 ∧ (Ay v o).1 ≤ 255 := by
 unfold Ay
 split
 ·exact hv
 ·split
  ·exact ho
  ·split
   ·simp only; omega
   ·exact hv
theorem Hi {v : Int} {o : Op} (h : o.kind = 1 ∨ o.kind = 4) : (Ay v o).1 = v := by
 unfold Ay
 rcases h with h | h <;> simp [h]
section
variable {n nl : Nat} {x : Chip} {M : List Int}
theorem Fp {α : Type} (l : List α) (i : Nat) (d : α) (h : i < l.length) : l.set i (l.getD i d) = l := by
 apply List.ext_getElem?
 intro j
 by_cases hj : j = i
 ·subst hj; rw [List.getElem?_set_self h, List.getD_eq_getElem?_getD, List.getElem?_eq_getElem h]; rfl
 ·rw [List.getElem?_set_ne (Ne.symm hj)]
theorem Inv.same (h : Inv n nl x M) (i : Nat) (hi : i < nl) : M.set i (M.getD i 0) = M := Fp _ _ _ (by rw [h.ml]; exact hi)
theorem Hv (h : Inv n nl x M) {p i : Nat} (hp : p < n) (hi : i < nl) {kind serial turn value : Int} {al : Bool} (hk : 1 ≤ kind ∧ kind ≤ 11) (hs : 0 ≤ serial ∧ serial ≤ 65535) (ht : 0 ≤ turn ∧ turn ≤ 65535) (hv : 0 ≤ value ∧ value ≤ 255) :
  Bd (Ef n nl) ⟨kind, p, n, i, serial, turn, value, al⟩ = 0 :=
 Ty hk (by simp only [Ef]; omega) (by simp only [Ef]; omega) hs ht hv (by simp only [Ef]; intro h; have h' := h.2 trivial; omega)
theorem Me (h : Inv n nl x M) {p i : Nat} (hp : p < n) (hi : i < nl) {kind serial turn value : Int} {al : Bool} (hk : 1 ≤ kind ∧ kind ≤ 11) (hs : 0 ≤ serial ∧ serial ≤ 65535) (ht : 0 ≤ turn ∧ turn ≤ 65535) (hv : 0 ≤ value ∧ value ≤ 255) :
  Bd (Ef n nl) ⟨kind, n, p, i, serial, turn, value, al⟩ = 0 :=
 Ty hk (by simp only [Ef]; omega) (by simp only [Ef]; omega) hs ht hv (by simp only [Ef]; intro h; have h' := h.1 trivial; omega)
theorem M8 {p i : Nat} {kind serial turn value : Int} {al : Bool} : J1 n ⟨kind, p, n, i, serial, turn, value, al⟩ = p := by simp [J1]
theorem Q9 {p i : Nat} (hp : p < n) {kind serial turn value : Int} {al : Bool} : J1 n ⟨kind, n, p, i, serial, turn, value, al⟩ = p := by
 unfold J1
 rw [if_neg (by simp only; omega)]; simp
theorem Ul {p i : Nat} {l' : Line} {w' : Op} (h : Inv n nl x M) (hp : p < n) (hi : i < nl) {fr : Frames} : lin ⟨x.cores.set p (A2 (cor x p) i l' w'), x.home, fr⟩ i p = l' := by
 unfold lin cor
 rw [Ch _ _ _ _ _ (by rw [h.nc]; exact hp), if_pos rfl]
 show ((cor x p).lines.set _ l').getD i zLine = l'
 rw [Int.toNat_natCast, Ch _ _ _ _ _ (by rw [h.ncl p hp]; exact hi), if_pos rfl]
theorem Ajn {k : Core} {i : Nat} {l' : Line} {o : Op} (hl : k.lines.length = nl) (h : CW k nl) (h0 : k.wait.kind = 0) (hi : i < nl) (ho : (1 ≤ o.kind ∧ o.kind ≤ 4) ∧ o.line = i ∧ (0 ≤ o.value ∧ o.value ≤ 255)) (hw : l'.want = Gg o.kind) : CW (A2 k i l' o) nl := by
 constructor
 ·intro h'; exact absurd h' (by show o.kind ≠ 0; omega)
 ·intro _
  refine ⟨ho.1, ?_, ho.2.2, fun j hj => ?_⟩
  ·show 0 ≤ o.line ∧ o.line < nl; omega
  ·show ((k.lines.set _ l').getD j zLine).want = if (j : Int) = o.line then _ else _
   rw [Int.toNat_natCast, Ch _ _ _ _ _ (by rw [hl]; exact hi), ho.2.1]
   by_cases hj' : j = i
   ·rw [if_pos hj', if_pos (by rw [hj'])]; exact hw
   ·rw [if_neg hj', if_neg (by omega)]; exact (h.free h0).2 j hj
theorem H6 {k : Core} {i : Nat} {l' : Line} (hl : k.lines.length = nl) (h : CW k nl) (hi : i < nl) (h0 : k.wait.kind = 0 ∨ k.wait.line = i) (hw : l'.want = 0) : CW (A2 k i l' zOp) nl := by
 constructor
 ·intro _
  refine ⟨rfl, fun j hj => ?_⟩
  show ((k.lines.set _ l').getD j zLine).want = 0
  rw [Int.toNat_natCast, Ch _ _ _ _ _ (by rw [hl]; exact hi)]
  by_cases hj' : j = i
  ·rw [if_pos hj']; exact hw
  ·rw [if_neg hj']
   by_cases h00 : k.wait.kind = 0
   ·exact (h.free h00).2 j hj
   ·have := (h.busy h00).2.2.2 j hj
    rw [this, if_neg (by omega)]
 ·intro h'; exact absurd rfl h'
theorem P4 {k : Core} {i : Nat} {l' : Line} (hl : k.lines.length = nl) (h : CW k nl) (hi : i < nl) (hw : l'.want = (k.lines.getD i zLine).want) : CW (A2 k i l' k.wait) nl := by
 have hg : ∀ j, ((A2 k i l' k.wait).lines.getD j zLine).want = (k.lines.getD j zLine).want := by
  intro j
  show ((k.lines.set _ l').getD j zLine).want = _
  rw [Int.toNat_natCast, Ch _ _ _ _ _ (by rw [hl]; exact hi)]
  by_cases hj' : j = i
  ·rw [if_pos hj', hj']; exact hw
  ·rw [if_neg hj']
 constructor
 ·intro h0
  exact ⟨(h.free h0).1, fun j hj => by rw [hg]; exact (h.free h0).2 j hj⟩
 ·intro h0
  obtain ⟨h1, h2, h3, h4⟩ := h.busy h0
  exact ⟨h1, h2, h3, fun j hj => by rw [hg]; exact h4 j hj⟩
theorem Ld {k : Core} {i : Nat} (h : CW k nl) (hi : i < nl) (hw : (k.lines.getD i zLine).want ≠ 0) : k.wait.kind ≠ 0 ∧ k.wait.line = i ∧ (k.lines.getD i zLine).want = Gg k.wait.kind := by
 have h0 : k.wait.kind ≠ 0 := fun h0 => hw ((h.free h0).2 i hi)
 have h1 := (h.busy h0).2.2.2 i hi
 by_cases he : (i : Int) = k.wait.line
 ·rw [if_pos he] at h1; exact ⟨h0, he.symm, h1⟩
 ·rw [if_neg he] at h1; exact absurd h1 hw
theorem Yj {p : Nat} {o : Op} (h : Inv n nl x M) (hp : p < n) (hok : (Ah (cor x p) p n o).2.2.2 = 0) :
  ∃ M', Inv n nl (C1 x p (Ah (cor x p) p n o).1 (Ah (cor x p) p n o).2.1) M' ∧ Dg M (Ah (cor x p) p n o).2.2.1 M' := by
 have hcl := h.ncl p hp
 have hcw := h.cw p hp
 unfold Ah at hok ⊢
 split at hok
 ·cases hok
 split at hok
 ·cases hok
 split at hok
 ·cases hok
 rename_i k1 k2 k3
 rw [if_neg k1, if_neg k2, if_neg k3]
 obtain ⟨i, hi⟩ : ∃ i : Nat, o.line = i := ⟨o.line.toNat, by omega⟩
 have hin : i < nl := by omega
 have hlat : Ac (cor x p) o.line = lin x i p := by unfold Ac lin; rw [hi, Int.toNat_natCast]
 rw [hlat] at k3 ⊢
 have hci := h.ci i hin p hp
 have hgi := h.gi i hin
 have hw0 : (lin x i p).want = 0 := (hcw.free (by omega)).2 i hin
 have hval := h.mv i hin
 have hov : 0 ≤ o.value ∧ o.value ≤ 255 := by omega
 by_cases hd : Ba (lin x i p) o = true
 ·rw [if_pos hd]
  unfold C1
  simp only [Int.toNat_natCast, way, hi]
  by_cases h4 : o.kind = 4
  ·have hs : (lin x i p).state ≠ 2 := by unfold Ba at hd; rw [if_pos h4] at hd; simpa using hd
   have hb : Ax (lin x i p) o = { lin x i p with state := 0, value := 0 } := by unfold Ax; rw [if_pos h4, if_neg hs]
   have ht : Bu (lin x i p) o = 0 := by unfold Bu; rw [if_pos h4]
   rw [hb, ht]
   obtain ⟨c1, c2⟩ := Aei hgi hci hw0 hs
   have hI := h.core (w' := zOp) hp hin c1 (fun _ _ _ hh => hh) c2 (H6 hcl hcw hin (.inl (by omega)) hw0) hval
   refine ⟨_, hI, ?_, ?_, hov, ?_, ?_⟩
   ·show 1 ≤ o.kind ∧ o.kind ≤ 4; omega
   ·show 0 ≤ o.line ∧ o.line < M.length; rw [h.ml]; omega
   ·show (0 : Int) = _; rw [if_pos h4]
   ·show Dg _ [] _
    simp only [Dg, hi, Int.toNat_natCast]
    rw [Hi (.inr h4)]
  ·have hs : (lin x i p).state = 2 ∨ (lin x i p).state = 1 ∧ o.kind = 1 := by unfold Ba at hd; rw [if_neg h4] at hd; simpa using hd
   have hb : Ax (lin x i p) o = { lin x i p with value := (Ay (lin x i p).value o).1 } := by unfold Ax; rw [if_neg h4, if_pos hs]
   have ht : Bu (lin x i p) o = (Ay (lin x i p).value o).2 := by unfold Bu; rw [if_neg h4]
   have hV : (lin x i p).value = M.getD i 0 := by
    rcases hs with hs | hs
    ·exact (hci.alo (.inl hs)).2
    ·exact (hci.cop hs.1).2
   rw [hb, ht]
   have hr := Na (o := o) hci.va hov
   have hI : Inv n nl ⟨x.cores.set p (A2 (cor x p) i { lin x i p with value := (Ay (lin x i p).value o).1 } zOp), x.home, x.frames⟩ (M.set i (Ay (lin x i p).value o).1) := by
    rcases hs with hs | hs
    ·obtain ⟨c1, c2⟩ := Ajv hgi hci hs hr
     exact h.core (w' := zOp) hp hin c1 (fun q hq hqp hh => Aeh hgi hci (by omega) (by omega) hqp hh) c2 (H6 hcl hcw hin (.inl (by omega)) hw0) hr
    ·have e : (Ay (lin x i p).value o).1 = (lin x i p).value := Hi (.inl hs.2)
     rw [e]
     exact h.core (w' := zOp) hp hin (by show CI _ p (lin x i p) (lin x i p).value; rw [hV]; exact hci) (fun _ _ _ hh => by rw [hV]; exact hh) (fun _ hm => hm) (H6 hcl hcw hin (.inl (by omega)) hw0) hci.va
   refine ⟨_, hI, ?_, ?_, hov, ?_, ?_⟩
   ·show 1 ≤ o.kind ∧ o.kind ≤ 4; omega
   ·show 0 ≤ o.line ∧ o.line < M.length; rw [h.ml]; omega
   ·show (Ay (lin x i p).value o).2 = _; rw [if_neg h4]; simp only [hi, Int.toNat_natCast]; rw [hV]
   ·show Dg _ [] _
    simp only [Dg, hi, Int.toNat_natCast]
    rw [hV]
 ·rw [if_neg hd]
  unfold C1
  simp only [Int.toNat_natCast, hi]
  -- it asks
  have key : ∃ l', Ax (lin x i p) o = l' ∧ CI (ab (ent x i)) p l' (M.getD i 0) ∧ (∀ m, MI (ab (ent x i)) p (lin x i p) m → MI (ab (ent x i)) p l' m) ∧ l'.want = Gg o.kind ∧ l'.serial = (lin x i p).serial + 1 := by
   by_cases h4 : o.kind = 4
   ·have hs : (lin x i p).state = 2 := by unfold Ba at hd; rw [if_pos h4] at hd; simpa using hd
    obtain ⟨c1, c2⟩ := c_put hgi hci hw0 hs (by omega)
    refine ⟨_, rfl, ?_⟩
    have hb : Ax (lin x i p) o = { lin x i p with state := 3, want := 3, serial := (lin x i p).serial + 1 } := by unfold Ax; rw [if_pos h4, if_pos hs]
    rw [hb]
    exact ⟨c1, c2, by simp [Gg, h4], rfl⟩
   ·have hs : ¬ ((lin x i p).state = 2 ∨ (lin x i p).state = 1 ∧ o.kind = 1) := by unfold Ba at hd; rw [if_neg h4] at hd; simpa using hd
    have hst := hci.st
    have hlv := hci.leav
    have hkk : (if o.kind = 1 then (1 : Int) else 2) = Gg o.kind := by unfold Gg; split <;> first | rfl | rw [if_neg h4]
    obtain ⟨c1, c2⟩ := c_ask (k := if o.kind = 1 then 1 else 2) hgi hci hw0 (by split <;> omega) (by omega)
    refine ⟨_, rfl, ?_⟩
    have hb : Ax (lin x i p) o = { lin x i p with want := if o.kind = 1 then 1 else 2, serial := (lin x i p).serial + 1 } := by unfold Ax; rw [if_neg h4, if_neg hs]
    rw [hb]
    exact ⟨c1, c2, hkk, rfl⟩
  obtain ⟨l', hb, c1, c2, c3, c4⟩ := key
  rw [hb]
  have hI := h.core (w' := o) hp hin c1 (fun _ _ _ hh => hh) c2 (Ajn hcl hcw (by omega) hin ⟨by omega, hi, hov⟩ c3) hval
  rw [h.same i hin] at hI
  refine ⟨M, ?_, rfl⟩
  refine hI.way fun m hm => ?_
  rw [List.mem_singleton.1 hm]
  have hwr : 1 ≤ l'.want ∧ l'.want ≤ 3 := by rw [c3]; unfold Gg; split <;> (try split) <;> omega
  refine ⟨Hv h hp hin (by omega) c1.se ⟨by omega, by omega⟩ (by have := c1.va; split <;> omega), ?_⟩
  unfold MX
  have hpe : J1 n (By l' p n i) = p := M8
  rw [hpe]
  show MI (ab (ent x _)) p (lin _ _ p) _
  rw [show ((By l' p n i).line).toNat = i from Int.toNat_natCast i, Ul h hp hin]
  have hla := hci.la
  have e1 : (By l' p n i).kind = l'.want := rfl
  have e2 : (By l' p n i).serial = l'.serial := rfl
  have e3 : (By l' p n i).value = if l'.want = 3 then l'.value else 0 := rfl
  constructor <;> rw [e1] <;> (try rw [e2]) <;> (try rw [e3])
  ·intro hk; exact ⟨Int.le_refl _, fun _ => ⟨rfl, rfl⟩⟩
  ·intro hk; exact ⟨Int.le_refl _, fun _ => .inl ⟨rfl, hk, by rw [if_pos hk]⟩⟩
  all_goals intro hk; omega
theorem MX.said {p i : Nat} {l' : Line} {w' : Op} (h : Inv n nl x M) (hp : p < n) (hi : i < nl) {kind serial turn value : Int} {al : Bool} (hm : MI (ab (ent x i)) p l' ⟨kind, p, n, i, serial, turn, value, al⟩) {fr : Frames} :
  MX n ⟨x.cores.set p (A2 (cor x p) i l' w'), x.home, fr⟩ ⟨kind, p, n, i, serial, turn, value, al⟩ := by
 unfold MX
 rw [M8]
 show MI (ab (ent x ((i : Int).toNat))) p (lin _ ((i : Int).toNat) p) _
 rw [Int.toNat_natCast, Ul h hp hi]
 exact hm
theorem MX.saidSame {p i : Nat} (hp : p < n) {kind serial turn value : Int} {al : Bool} (hm : MI (ab (ent x i)) p (lin x i p) ⟨kind, p, n, i, serial, turn, value, al⟩) : MX n x ⟨kind, p, n, i, serial, turn, value, al⟩ := by
 unfold MX
 rw [M8]
 show MI (ab (ent x ((i : Int).toNat))) p (lin _ ((i : Int).toNat) p) _
 rw [Int.toNat_natCast]
 exact hm
theorem MX.told {p i : Nat} {e' : Entry} (h : Inv n nl x M) (hp : p < n) (hi : i < nl) {kind serial turn value : Int} {al : Bool} (hm : MI (ab e') p (lin x i p) ⟨kind, n, p, i, serial, turn, value, al⟩) {fr : Frames} :
  MX n ⟨x.cores, x.home.set i e', fr⟩ ⟨kind, n, p, i, serial, turn, value, al⟩ := by
 unfold MX
 rw [Q9 hp]
 show MI (ab ((x.home.set i e').getD ((i : Int).toNat) A1)) p (lin x ((i : Int).toNat) p) _
 rw [Int.toNat_natCast, Ch _ _ _ _ _ (by rw [h.nh]; exact hi), if_pos rfl]
 exact hm
theorem Ack {p : Nat} {m : Msg} (h : Inv n nl x M) (hp : p < n) (hd : m.dst = p) (hs : m.src = n) (hl : 0 ≤ m.line ∧ m.line < nl) (hr : (0 ≤ m.serial ∧ m.serial ≤ 65535) ∧ (0 ≤ m.turn ∧ m.turn ≤ 65535) ∧ (0 ≤ m.value ∧ m.value ≤ 255)) (hm : MX n x m) :
  ∃ M', Inv n nl (C1 x p (Ae (cor x p) p n m).1 (Ae (cor x p) p n m).2.1) M' ∧ Dg M (Ae (cor x p) p n m).2.2 M' := by
 have hcl := h.ncl p hp
 have hcw := h.cw p hp
 obtain ⟨i, hi⟩ : ∃ i : Nat, m.line = i := ⟨m.line.toNat, by omega⟩
 have hin : i < nl := by omega
 have hlat : Ac (cor x p) m.line = lin x i p := by unfold Ac lin; rw [hi, Int.toNat_natCast]
 have hci := h.ci i hin p hp
 have hgi := h.gi i hin
 have hval := h.mv i hin
 have hMI : MI (ab (ent x i)) p (lin x i p) m := by
  unfold MX at hm
  have : J1 n m = p := by unfold J1; rw [if_neg (by omega), hd]; simp
  rw [this, hi, Int.toNat_natCast] at hm
  exact hm
 have hsame : Inv n nl (C1 x p (cor x p) []) M := by
  unfold C1
  simp only [Int.toNat_natCast, way]
  have : x.cores.set p (cor x p) = x.cores := Fp _ _ _ (by rw [h.nc]; exact hp)
  rw [this]; exact h
 have hsaid : ∀ m', Bd (Ef n nl) m' = 0 → MX n x m' → Inv n nl (C1 x p (cor x p) [m']) M := by
  intro m' h1 h2
  unfold C1
  simp only [Int.toNat_natCast]
  have : x.cores.set p (cor x p) = x.cores := Fp _ _ _ (by rw [h.nc]; exact hp)
  rw [this]
  exact h.way fun m'' hm'' => by rw [List.mem_singleton.1 hm'']; exact ⟨h1, h2⟩
 unfold Ae
 rw [if_neg (by rw [hcl]; omega)]
 rw [hlat]
 by_cases k4 : m.kind = 4
 ·rw [if_pos k4]
  obtain ⟨c1, c2⟩ := c_inv hgi hci hMI k4
  have hwant : (C5 (lin x i p) m.turn).want = (lin x i p).want := by unfold C5; split <;> (try split) <;> rfl
  have hI := h.core (w' := (cor x p).wait) hp hin c1 (fun _ _ _ hh => hh) c2 (P4 hcl hcw hin hwant) hval
  rw [h.same i hin] at hI
  refine ⟨M, ?_, rfl⟩
  unfold C1
  refine Zco ?_
  refine ⟨Hv h hp hin (by omega) (by omega) hr.2.1 (by omega), MX.said h hp hin ?_⟩
  have hseen : m.turn ≤ (C5 (lin x i p) m.turn).seen := by unfold C5; split <;> (try split) <;> first | exact Int.le_refl _ | omega
  constructor <;> simp only <;> intro hk <;> first | omega | exact hseen
 rw [if_neg k4]
 by_cases k5 : m.kind = 5 ∨ m.kind = 6
 ·rw [if_pos k5]
  by_cases hf : D1 (lin x i p) m.turn
  ·rw [if_pos hf]
   obtain ⟨c1, c2, c3, c4⟩ := Ajy hgi hci hMI k5 hf
   by_cases hw : (lin x i p).want = 3
   ·rw [if_pos hw, if_pos hw]
    obtain ⟨w1, w2, w3⟩ := Ld hcw hin (by show (lin x i p).want ≠ 0; omega)
    have hwant : (Cv (lin x i p) m.kind m.turn).want = 0 := by unfold Cv; rw [if_pos hw]
    have hI := h.core (w' := zOp) hp hin c1 (fun _ _ _ hh => hh) c2 (H6 hcl hcw hin (.inr w2) hwant) hval
    rw [h.same i hin] at hI
    obtain ⟨b1, b2, b3, b4⟩ := hcw.busy w1
    have hk4 : (cor x p).wait.kind = 4 := by
     exact ZfC
    refine ⟨M, ?_, b1, by rw [h.ml]; exact b2, b3, by show (0 : Int) = _; rw [if_pos hk4], ?_⟩
    ·unfold C1
     refine Zco ?_
     exact ⟨Hv h hp hin (by omega) (by omega) hr.2.1 hci.va, MX.said h hp hin (c4 _ rfl rfl rfl)⟩
    ·exact ZfX
   ·rw [if_neg hw, if_neg hw]
    have hwant : (Cv (lin x i p) m.kind m.turn).want = (lin x i p).want := by unfold Cv; rw [if_neg hw]; split <;> rfl
    have hI := h.core (w' := (cor x p).wait) hp hin c1 (fun _ _ _ hh => hh) c2 (P4 hcl hcw hin hwant) hval
    rw [h.same i hin] at hI
    refine ⟨M, ?_, rfl⟩
    unfold C1
    refine Zco ?_
    exact ⟨Hv h hp hin (by omega) (by omega) hr.2.1 hci.va, MX.said h hp hin (c4 _ rfl rfl rfl)⟩
  ·rw [if_neg hf]
   split
   ·rename_i hg
    refine ⟨M, hsaid _ ?_ ?_, rfl⟩
    ·rw [hi]; exact Hv h hp hin (by omega) (by omega) (by rw [← hg.1]; exact hr.2.1) hci.gi
    ·rw [hi]; refine MX.saidSame hp ?_
     have := hci.ga
     constructor <;> simp only <;> intro hk <;> first | omega | exact ⟨this.2.1, fun a b c => ⟨a, trivial⟩⟩
   ·exact ⟨M, hsame, rfl⟩
 rw [if_neg k5]
 by_cases k7 : m.kind = 7
 ·rw [if_pos k7]
  by_cases hse : (lin x i p).serial < m.serial
  ·rw [if_pos hse]; exact ⟨M, hsame, rfl⟩
  rw [if_neg hse]
  by_cases ha : Gp (lin x i p) m
  ·rw [if_pos ha]
   have hwne : (lin x i p).want ≠ 0 := by have := ha.2; omega
   obtain ⟨w1, w2, w3⟩ := Ld hcw hin hwne
   obtain ⟨b1, b2, b3, b4⟩ := hcw.busy w1
   have w3' : (lin x i p).want = Gg (cor x p).wait.kind := w3
   have hnk4 : (cor x p).wait.kind ≠ 4 := by
    intro e; rw [e] at w3'; simp [Gg] at w3'; have := ha.2; omega
   have hload : m.alone = false → (Ay m.value (cor x p).wait).1 = m.value := by
    intro hal
    have h2 := ha.2
    rw [hal] at h2
    have : (lin x i p).want = 1 := by simpa using h2
    refine Hi (.inl ?_)
    rw [this] at w3'
    unfold Gg at w3'; split at w3' <;> (try split at w3') <;> first | assumption | omega
   have hv := Na (o := (cor x p).wait) hr.2.2 b3
   obtain ⟨c1, c2, c3, c4, c5⟩ := Ajx (v := (Ay m.value (cor x p).wait).1) hgi hci hMI k7 ha hv hload
   have hI := h.core (w' := zOp) hp hin c1 (fun q _ hq hh => c4 q _ hq hh) c2 (H6 hcl hcw hin (.inr w2) rfl) hv
   refine ⟨M.set i (Ay m.value (cor x p).wait).1, ?_, b1, by rw [h.ml]; exact b2, b3, ?_, ?_⟩
   ·unfold C1
    refine Zco ?_
    exact ⟨Hv h hp hin (by omega) (by omega) hr.2.1 (by omega), MX.said h hp hin (c5 _ rfl rfl)⟩
   ·show (Ay m.value (cor x p).wait).2 = _
    rw [if_neg hnk4, w2, Int.toNat_natCast, c3]
   ·show Dg _ [] _
    simp only [Dg]
    rw [w2, Int.toNat_natCast, c3]
  ·rw [if_neg ha]
   refine ⟨M, hsaid _ ?_ ?_, rfl⟩
   ·rw [hi]; exact Hv h hp hin (by omega) (by omega) hr.2.1 (by omega)
   ·rw [hi]; refine MX.saidSame hp ?_
    have hg := hMI.gra k7
    have hseen : m.turn ≤ (lin x i p).seen := by
     by_cases hc : m.serial = (lin x i p).serial ∧ (lin x i p).want ≠ 0
     ·obtain ⟨g1, g2, g3, g4, g5⟩ := hg.2.1 hc.1 hc.2
      have hcur := hci.cur (by omega) g2
      exfalso
      apply ha
      refine ⟨hc.1, ?_⟩
      have hse' : (ab (ent x i)).serial = (lin x i p).serial := by have := hci.la; omega
      cases hal : m.alone with
      | true => right; have := g4.1 hal; exact ⟨by omega, rfl⟩
      | false =>
       left
       have hnot : ¬ (ab (ent x i)).alone = 1 := fun h1 => by have := g4.2 h1; rw [hal] at this; cases this
       have := hgi.al
       exact ⟨by omega, rfl⟩
     ·exact hg.2.2 (by omega)
    constructor <;> simp only <;> intro hk <;> first | omega | exact hseen
 rw [if_neg k7]
 split
 ·rename_i hk
  obtain ⟨k11, hw, hse⟩ := hk
  obtain ⟨c1, c2⟩ := Ajw hgi hci hMI k11 hw hse
  obtain ⟨w1, w2, w3⟩ := Ld hcw hin (by show (lin x i p).want ≠ 0; omega)
  obtain ⟨b1, b2, b3, b4⟩ := hcw.busy w1
  have hk4 : (cor x p).wait.kind = 4 := by
   exact ZfC
  have hI := h.core (w' := zOp) hp hin c1 (fun _ _ _ hh => hh) c2 (H6 hcl hcw hin (.inr w2) rfl) hval
  rw [h.same i hin] at hI
  refine ⟨M, ?_, b1, by rw [h.ml]; exact b2, b3, by show (0 : Int) = _; rw [if_pos hk4], ?_⟩
  ·unfold C1
   simp only [Int.toNat_natCast, hi, way]
   exact hI
  ·exact ZfX
 ·exact ⟨M, hsame, rfl⟩
end
end Go.Proofs.Ytehpekiedfpnkaa
namespace Go.Proofs.Ytehpekiedfpnkaa
open Abs
theorem Ajq : ∀ (s : Fin 16) (p q : Fin 4), (Gs (s.val : Int) (p.val : Int)).toNat.testBit q.val = (decide (q ≠ p) && s.val.testBit q.val) := by decide
theorem Zt : ∀ (s : Fin 16) (p : Fin 4), 0 ≤ Gs (s.val : Int) (p.val : Int) ∧ Gs (s.val : Int) (p.val : Int) ≤ s.val := by decide
theorem Age : ∀ (s : Fin 16) (p q : Fin 4), (Hr (s.val : Int) (p.val : Int)).toNat.testBit q.val = (decide (q = p) || s.val.testBit q.val) := by decide
theorem Xk : ∀ (n : Fin 5) (s : Fin 16) (p : Fin 4), p.val < n.val → s.val < 2 ^ n.val → 0 ≤ Hr (s.val : Int) (p.val : Int) ∧ Hr (s.val : Int) (p.val : Int) < (2 ^ n.val : Nat) := by decide
theorem Aag : ∀ (s : Fin 16), (∀ q : Fin 4, s.val.testBit q.val = false) → s.val = 0 := by decide
theorem high (s : Int) (h : 0 ≤ s ∧ s < 16) (q : Nat) (hq : 4 ≤ q) : s.toNat.testBit q = false := by
 apply Nat.testBit_lt_two_pow
 have : 2 ^ 4 ≤ 2 ^ q := Nat.pow_le_pow_right (by omega) hq
 omega
theorem Ji (s : Int) (h : 0 ≤ s ∧ s < 16) (q : Nat) (hq : 4 ≤ q) : C6 s q = 0 := by unfold C6; rw [high s h q hq]; rfl
theorem Dr (q : Nat) : C6 0 q = 0 := by simp [C6]
theorem Xc {s : Int} (h : 0 ≤ s ∧ s < 16) : ∃ f : Fin 16, (f.val : Int) = s := ⟨⟨s.toNat, by omega⟩, by simp only; omega⟩
theorem Fw {s : Int} {p : Nat} (h : 0 ≤ s ∧ s < 16) (hp : p < 4) : C6 (Gs s p) = upd (C6 s) p 0 := by
 obtain ⟨f, rfl⟩ := Xc h
 funext q
 have hr := Zt f ⟨p, hp⟩
 simp only at hr
 by_cases hq : q < 4
 ·have := Ajq f ⟨p, hp⟩ ⟨q, hq⟩
  simp only at this
  unfold C6 upd
  rw [this]
  by_cases hqp : q = p
  ·subst hqp; simp
  ·simp [hqp]
 ·rw [Ji _ (by omega) _ (by omega)]
  unfold upd
  rw [if_neg (by omega), Ji _ (by omega) _ (by omega)]
theorem Se {s : Int} {p : Nat} (h : 0 ≤ s ∧ s < 16) (hp : p < 4) (q : Nat) : C6 (Hr s p) q = if q = p then 1 else C6 s q := by
 obtain ⟨f, rfl⟩ := Xc h
 have hr : 0 ≤ Hr (f.val : Int) (p : Int) ∧ Hr (f.val : Int) (p : Int) < 16 := Xk 4 f ⟨p, hp⟩ hp f.isLt
 by_cases hq : q < 4
 ·have := Age f ⟨p, hp⟩ ⟨q, hq⟩
  simp only at this
  unfold C6
  rw [this]
  by_cases hqp : q = p
  ·subst hqp; simp
  ·simp [hqp]
 ·rw [Ji _ (by omega) _ (by omega), if_neg (by omega), Ji _ (by omega) _ (by omega)]
theorem Ow {s : Int} {p n : Nat} (hn : n ≤ 4) (h : 0 ≤ s ∧ s < (2 ^ n : Nat)) (hp : p < 4) : 0 ≤ Gs s p ∧ Gs s p < (2 ^ n : Nat) := by
 have : (2 ^ n : Nat) ≤ 2 ^ 4 := Nat.pow_le_pow_right (by omega) hn
 obtain ⟨f, rfl⟩ := Xc (s := s) (by omega)
 have hr := Zt f ⟨p, hp⟩
 simp only at hr
 omega
theorem Aey {s : Int} {p n : Nat} (hn : n ≤ 4) (h : 0 ≤ s ∧ s < (2 ^ n : Nat)) (hp : p < n) : 0 ≤ Hr s p ∧ Hr s p < (2 ^ n : Nat) := by
 have : (2 ^ n : Nat) ≤ 2 ^ 4 := Nat.pow_le_pow_right (by omega) hn
 obtain ⟨f, rfl⟩ := Xc (s := s) (by omega)
 exact Xk ⟨n, by omega⟩ f ⟨p, by omega⟩ hp (by simp only; omega)
theorem Hz {s : Int} {n : Nat} (hn : n ≤ 4) (h : 0 ≤ s ∧ s < (2 ^ n : Nat)) : 0 ≤ s ∧ s < 16 := by
 have : (2 ^ n : Nat) ≤ 2 ^ 4 := Nat.pow_le_pow_right (by omega) hn
 omega
theorem I3 {s : Int} (h : 0 ≤ s ∧ s < 16) (hb : ∀ q, q < 4 → C6 s q = 0) : s = 0 := by
 obtain ⟨f, rfl⟩ := Xc h
 have := Aag f fun q => by
  have := hb q.val q.isLt
  unfold C6 at this
  simp only [Int.toNat_natCast] at this
  cases ht : f.val.testBit q.val with
  | false => rfl
  | true => simp [ht] at this
 omega
theorem Sd {s : Int} {n : Nat} (hn : n ≤ 4) (h : 0 ≤ s ∧ s < (2 ^ n : Nat)) (h0 : s ≠ 0) : ∃ q : Nat, q < n ∧ C6 s q = 1 := by
 apply Classical.byContradiction
 intro hno
 apply h0
 refine I3 (Hz hn h) fun q _ => ?_
 by_cases hq : q < n
 ·have : ¬ C6 s q = 1 := fun he => hno ⟨q, hq, he⟩
  unfold C6 at this ⊢
  split <;> rename_i hb
  ·rw [if_pos hb] at this; exact absurd rfl this
  ·rfl
 ·unfold C6
  rw [Nat.testBit_lt_two_pow (show s.toNat < 2 ^ q by have : 2 ^ n ≤ 2 ^ q := Nat.pow_le_pow_right (by omega) (by omega); omega)]
  rfl
theorem Iz (s : Int) (p : Nat) : Lx s p = true ↔ C6 s p = 1 := by
 unfold Lx C6
 rw [Int.toNat_natCast]
 cases s.toNat.testBit p <;> simp
section
variable {n nl : Nat} {x : Chip} {M : List Int}
theorem Kz (h : Inv n nl x M) {i : Nat} (hi : i < nl) : ∀ m ∈ D4 (ent x i) i n, Bd (Ef n nl) m = 0 ∧ MX n x m := by
 intro m hm
 have hg := h.gi i hi
 have hn := h.n1
 have hto : ∀ {p : Nat} {kind serial turn value : Int} {al : Bool}, p < n → MI (ab (ent x i)) p (lin x i p) ⟨kind, n, p, i, serial, turn, value, al⟩ → MX n x ⟨kind, n, p, i, serial, turn, value, al⟩ := by
  intro p kind serial turn value al hp hmi
  unfold MX
  rw [Q9 hp]
  show MI (ab (ent x ((i : Int).toNat))) p (lin x ((i : Int).toNat) p) _
  rw [Int.toNat_natCast]; exact hmi
 unfold D4 at hm
 by_cases h1 : (ent x i).phase = 1
 ·rw [if_pos h1] at hm
  rw [List.mem_singleton.1 hm]
  have hf := hg.f1 h1
  have how := hg.own
  obtain ⟨p, hp⟩ : ∃ p : Nat, (ent x i).owner = p := ⟨(ent x i).owner.toNat, by show _ = _; have := hf.1; show (ent x i).owner = _; simp only [ab] at this; omega⟩
  have hpn : p < n := by have := how.2; simp only [ab] at this; omega
  rw [hp]
  refine ⟨Me h hpn hi (by split <;> omega) (by omega) hg.tu (by omega), hto hpn ?_⟩
  have ha : (if (ent x i).alone = true then (6 : Int) else 5) = 5 + (ab (ent x i)).alone := by simp only [ab]; split <;> rfl
  rw [ha]
  have hal := hg.al
  constructor <;> simp only <;> intro hk <;> first | omega | exact ⟨Int.le_refl _, fun _ => ⟨rfl, h1, hp, trivial⟩⟩
 rw [if_neg h1] at hm
 by_cases h2 : (ent x i).phase = 2
 ·rw [if_pos h2] at hm
  obtain ⟨q, hq, rfl⟩ := List.mem_map.1 hm
  obtain ⟨hq1, hq2⟩ := List.mem_filter.1 hq
  obtain ⟨p, rfl⟩ : ∃ p : Nat, q = p := ⟨q.toNat, by simp at hq1; omega⟩
  have hb := (Iz _ _).1 hq2
  have hpn : p < n := by
   apply Classical.byContradiction
   intro hge
   have hbit := (h.bit i hi).2
   unfold C6 at hb
   rw [Nat.testBit_lt_two_pow (show (ent x i).need.toNat < 2 ^ p by have : 2 ^ n ≤ 2 ^ p := Nat.pow_le_pow_right (by omega) (by omega); omega)] at hb
   simp at hb
  refine ⟨Me h hpn hi (by omega) (by omega) hg.tu (by omega), hto hpn ?_⟩
  constructor <;> simp only <;> intro hk <;> first | omega | exact ⟨Int.le_refl _, fun _ => ⟨rfl, h2, hb⟩⟩
 rw [if_neg h2] at hm
 by_cases h3 : (ent x i).phase = 3
 ·rw [if_pos h3] at hm
  rw [List.mem_singleton.1 hm]
  have hw := hg.whor (by show (ent x i).phase ≠ 0; omega)
  simp only [ab] at hw
  obtain ⟨p, hp⟩ : ∃ p : Nat, (ent x i).who = p := ⟨(ent x i).who.toNat, by omega⟩
  have hpn : p < n := by omega
  have hci := h.ci i hi p hpn
  have hcur := hci.cur (by show (ent x i).phase ≠ 0; omega) hp
  rw [hp]
  refine ⟨Me h hpn hi (by omega) hg.se hg.tu hg.va, hto hpn ?_⟩
  constructor <;> simp only <;> intro hk <;> first | omega | skip
  refine ⟨by have := hcur.1; simp only [ab] at this ⊢; omega, fun e1 e2 => ⟨h3, hp, rfl, ?_, rfl⟩, fun hn' => ?_⟩
  ·simp only [ab]; cases (ent x i).alone <;> simp
  ·rcases hcur.2 with ⟨d1, d2, d3⟩ | ⟨d1, d2, d3, d4⟩
   ·have hal := hg.al
    simp only [ab] at d1 d2 hal
    omega
   ·simp only [ab] at d3 ⊢; omega
 ·rw [if_neg h3] at hm; cases hm
theorem Sv (h : Inv n nl x M) : ∀ (k : Nat) (l : List Entry), x.home.drop k = l → ∀ m ∈ Cm n k l, Bd (Ef n nl) m = 0 ∧ MX n x m := by
 intro k l
 induction l generalizing k with
 | nil => intro _ m hm; cases hm
 | cons e l ih =>
  intro hd m hm
  have hk : k < x.home.length := by
   apply Classical.byContradiction
   intro hge
   rw [List.drop_of_length_le (by omega)] at hd; cases hd
  rw [List.drop_eq_getElem_cons hk] at hd
  injection hd with he hd
  simp only [Cm] at hm
  rcases List.mem_append.1 hm with hm | hm
  ·have : ent x k = e := by unfold ent; rw [List.getD_eq_getElem?_getD, List.getElem?_eq_getElem hk, he]; rfl
   rw [← this] at hm
   exact Kz h (by rw [← h.nh]; exact hk) m hm
  ·exact ih (k + 1) hd m (by push_cast; exact hm)
theorem Po (h : Inv n nl x M) : Inv n nl ⟨x.cores, x.home, way x.frames (Fe x.home n)⟩ M :=
 h.way fun m hm => Sv h 0 x.home rfl m hm
theorem Z9 (h : Inv n nl x M) {p i : Nat} (hp : p < n) (hi : i < nl) (hw : (lin x i p).want ≠ 0) : Bd (Ef n nl) (By (lin x i p) p n i) = 0 ∧ MX n x (By (lin x i p) p n i) := by
 have hci := h.ci i hi p hp
 have hwa := hci.wa
 refine ⟨Hv h hp hi (by omega) hci.se ⟨by omega, by omega⟩ (by have := hci.va; split <;> omega), MX.saidSame hp ?_⟩
 constructor <;> simp only <;> intro hk <;> first | exact ⟨Int.le_refl _, fun _ => ⟨trivial, trivial⟩⟩ | exact ⟨Int.le_refl _, fun _ => .inl ⟨trivial, hk, by rw [if_pos hk]⟩⟩ | omega
theorem Ql (h : Inv n nl x M) {p : Nat} (hp : p < n) : ∀ (k : Nat) (l : List Line), (cor x p).lines.drop k = l → ∀ m ∈ Br p n k l, Bd (Ef n nl) m = 0 ∧ MX n x m := by
 intro k l
 induction l generalizing k with
 | nil => intro _ m hm; cases hm
 | cons e l ih =>
  intro hd m hm
  have hk : k < (cor x p).lines.length := by
   apply Classical.byContradiction
   intro hge
   rw [List.drop_of_length_le (by omega)] at hd; cases hd
  rw [List.drop_eq_getElem_cons hk] at hd
  injection hd with he hd
  have hlin : lin x k p = e := by unfold lin; rw [List.getD_eq_getElem?_getD, List.getElem?_eq_getElem hk, he]; rfl
  simp only [Br] at hm
  split at hm
  ·rename_i hw
   rcases List.mem_cons.1 hm with hm | hm
   ·rw [hm, ← hlin]
    exact Z9 h hp (by rw [← h.ncl p hp]; exact hk) (by rw [hlin]; exact hw)
   ·exact ih (k + 1) hd m (by push_cast; exact hm)
  ·exact ih (k + 1) hd m (by push_cast; exact hm)
theorem Pq (h : Inv n nl x M) {p : Nat} (hp : p < n) : Inv n nl ⟨x.cores, x.home, way x.frames (C9 (cor x p) p n)⟩ M :=
 h.way fun m hm => Ql h hp 0 _ rfl m hm
theorem Aji (h : Inv n nl x M) {i : Nat} (hi : i < nl) (e' : Entry) (fr : Frames) : ent ⟨x.cores, x.home.set i e', fr⟩ i = e' := by
 unfold ent
 rw [Ch _ _ _ _ _ (by rw [h.nh]; exact hi), if_pos rfl]
theorem Inv.homeSays {i : Nat} {e' : Entry} (h : Inv n nl x M) (hi : i < nl) (hI : Inv n nl ⟨x.cores, x.home.set i e', x.frames⟩ M) : Inv n nl ⟨x.cores, x.home.set i e', Go.Proofs.Ytehpekiedfpnkaa.way x.frames (D4 e' i n)⟩ M := by
 have := Kz hI hi
 rw [Aji h hi] at this
 exact hI.way this
end
end Go.Proofs.Ytehpekiedfpnkaa
namespace Go.Proofs.Ytehpekiedfpnkaa
open Abs
section
variable {n nl : Nat} {x : Chip} {M : List Int}
theorem Ve (e : Entry) : (ab e).alone = 1 ↔ e.alone = true := by simp only [ab]; cases e.alone <;> simp
theorem So (e : Entry) : (ab e).alone = 0 ↔ e.alone = false := by simp only [ab]; cases e.alone <;> simp
theorem Ahj {p i : Nat} {m : Msg} (h : Inv n nl x M) (hp : p < n) (hi : i < nl) (hs : m.src = p) (hms : 0 ≤ m.serial ∧ m.serial ≤ 65535) (hM : MI (ab (ent x i)) p (lin x i p) m) (hk : m.kind = 1 ∨ m.kind = 2) (h0 : (ent x i).phase = 0)
  (hl : Dt (ent x i) m.src < m.serial) (ht : (ent x i).turn < 65535) : Inv n nl ⟨x.cores, x.home.set i (Kq (ent x i) m), x.frames⟩ M := by
 refine Zb5 ?_;intro hn hb hgi
 have hlast : (ent x i).last.getD p 0 < m.serial := by unfold Dt at hl; rw [hs, Int.toNat_natCast] at hl; exact hl
 have hla := h.nla i hi
 have hlu : (fun q => ((ent x i).last.set p m.serial).getD q 0) = upd (ab (ent x i)).last p m.serial := by
  funext q; rw [Ch _ _ _ _ _ (by rw [hla]; exact hp)]; rfl
 have hclr := Ow (by omega) hb.1 (show p < 4 by omega)
 have hbc := Fw (Hz (by omega) hb.1) (show p < 4 by omega)
 have hal : (if (m.kind == 2) = true then (1 : Int) else 0) = m.kind - 1 := by rcases hk with hk | hk <;> simp [hk]
 unfold Kq A9
 simp only [hs, Int.toNat_natCast]
 by_cases ho : 0 ≤ (ent x i).owner
 ·rw [if_pos ho]
  refine Zem ?_
  exact Ahq hgi (h.ci i hi) hp hM hk hms h0 hlast ht rfl rfl rfl rfl rfl hal rfl hlu (.inl ⟨ho, rfl, fun q => Dr q⟩)
 ·rw [if_neg ho]
  by_cases hc : (m.kind == 2) = true ∧ Gs (ent x i).sharers p ≠ 0
  ·rw [if_pos hc]
   refine h.home hi (by simpa using hla) ⟨hb.1, hclr⟩ ?_
   refine Ahq hgi (h.ci i hi) hp hM hk hms h0 hlast ht rfl rfl rfl rfl rfl hal rfl hlu (.inr (.inl ⟨by simp only [ab]; omega, by simpa using hc.1, rfl, Sd (by omega) hclr hc.2, fun q => ?_⟩))
   show C6 (Gs (ent x i).sharers p) q = _
   rw [hbc]; rfl
  ·rw [if_neg hc]
   refine Zem ?_
   refine Ahq hgi (h.ci i hi) hp hM hk hms h0 hlast ht rfl rfl rfl rfl rfl hal rfl hlu (.inr (.inr ⟨by simp only [ab]; omega, rfl, fun q => Dr q, fun hk2 q hq hqp => ?_⟩))
   have hz : Gs (ent x i).sharers p = 0 := Classical.byContradiction fun hz => hc ⟨by simp [hk2], hz⟩
   have := congrFun hbc q
   exact Zf0
theorem Ahi {p i : Nat} {m : Msg} (h : Inv n nl x M) (hp : p < n) (hi : i < nl) (hs : m.src = p) (hms : 0 ≤ m.serial ∧ m.serial ≤ 65535) (hmv : 0 ≤ m.value ∧ m.value ≤ 255) (hM : MI (ab (ent x i)) p (lin x i p) m) (hk : m.kind = 3) (h0 : (ent x i).phase = 0) :
  Inv n nl ⟨x.cores, x.home.set i (Fl (ent x i) m), x.frames⟩ M ∧ m.serial ≤ (Fl (ent x i) m).last.getD p 0 := by
 have hb := h.bit i hi
 have hgi := h.gi i hi
 have hla := h.nla i hi
 have hlu : (fun q => ((ent x i).last.set p m.serial).getD q 0) = upd (ab (ent x i)).last p m.serial := by
  funext q; rw [Ch _ _ _ _ _ (by rw [hla]; exact hp)]; rfl
 have hlast : Dt (ent x i) m.src = (ent x i).last.getD p 0 := by unfold Dt; rw [hs, Int.toNat_natCast]
 unfold Fl
 simp only [hs, Int.toNat_natCast] at hlast ⊢
 rw [hlast]
 by_cases hl : (ent x i).last.getD p 0 < m.serial
 ·rw [if_pos hl]
  by_cases ho : (ent x i).owner = p
  ·rw [if_pos ho]
   refine ⟨h.home hi (by simpa using hla) hb ?_, ?_⟩
   ·exact h_put hgi (h.ci i hi) hp hM hk hmv h0 hl rfl rfl rfl rfl rfl hlu rfl rfl (.inl ⟨ho, rfl, rfl⟩)
   ·exact Zgd
  ·rw [if_neg ho]
   refine ⟨h.home hi (by simpa using hla) hb ?_, ?_⟩
   ·exact h_put hgi (h.ci i hi) hp hM hk hmv h0 hl rfl rfl rfl rfl rfl hlu rfl rfl (.inr ⟨ho, rfl, rfl⟩)
   ·exact Zgd
 ·rw [if_neg hl]
  have : x.home.set i (ent x i) = x.home := Fp _ _ _ (by rw [h.nh]; exact hi)
  rw [this]
  exact ⟨h, by omega⟩
theorem Acm {p i : Nat} {m : Msg} (h : Inv n nl x M) (hp : p < n) (hi : i < nl) (hs : m.src = p) (hmv : 0 ≤ m.value ∧ m.value ≤ 255) (hM : MI (ab (ent x i)) p (lin x i p) m) (hk : m.kind = 9) (h0 : (ent x i).phase = 1) (ht : m.turn = (ent x i).turn) (ho : m.src = (ent x i).owner) :
  Inv n nl ⟨x.cores, x.home.set i (Ge (ent x i) m), x.frames⟩ M := by
 refine Zb5 ?_;intro hn hb hgi
 have hla := h.nla i hi
 have hop : (ent x i).owner = p := by rw [← ho]; exact hs
 have hf := hgi.f1 h0
 have hsh0 : ∀ q, q < n → C6 (ent x i).sharers q = 0 := by
  intro q hq
  have h1 := (h.ci i hi q hq).shs
  have h2 := (h.ci i hi q hq).bits
  simp only [ab] at h1 h2 hf
  omega
 have hz : (ent x i).sharers = 0 := by
  refine I3 (Hz (by omega) hb.1) fun q _ => ?_
  by_cases hq : q < n
  ·exact hsh0 q hq
  ·unfold C6
   refine Zch ?_
   rfl
 have hpos : 0 < 2 ^ n := Nat.two_pow_pos n
 unfold Ge A9
 simp only
 rw [if_neg (by omega)]
 have hclr0 : ∀ w : Int, Gs 0 w = 0 := by intro w; unfold Gs Lx; simp
 have hc : ¬ ((ent x i).alone = true ∧ Gs (if (ent x i).alone = true then (ent x i).sharers else Hr (ent x i).sharers (ent x i).owner) (ent x i).who ≠ 0) := by
  rintro ⟨h1, h2⟩
  rw [if_pos h1, hz, hclr0] at h2
  exact h2 rfl
 rw [if_neg hc]
 refine h.home hi hla ⟨?_, ⟨by simp only; omega, by simp only; omega⟩⟩ ?_
 ·simp only
  split
  ·exact hb.1
  ·rw [hop]; exact Aey (by omega) hb.1 hp
 ·refine h_data hgi (h.ci i hi) hp hM hk hmv h0 ht hop rfl rfl (fun q => ?_) rfl rfl rfl rfl rfl rfl (fun q => Dr q)
  show C6 (if (ent x i).alone = true then (ent x i).sharers else Hr (ent x i).sharers (ent x i).owner) q = if q = p ∧ (ab (ent x i)).alone = 0 then 1 else C6 (ent x i).sharers q
  have ha0 := So (ent x i)
  have hbs := Se (Hz (by omega) hb.1) (show p < 4 by omega) q
  rw [hop]
  cases hal : (ent x i).alone with
  | true => rw [hal] at ha0; simp only [Bool.true_eq_false, iff_false] at ha0; simp [ha0]
  | false => rw [hal] at ha0; simp only [iff_true] at ha0; simp [ha0, hbs]
theorem Acl {p i : Nat} {m : Msg} (h : Inv n nl x M) (hp : p < n) (hi : i < nl) (hs : m.src = p) (hM : MI (ab (ent x i)) p (lin x i p) m) (hk : m.kind = 8) (h0 : (ent x i).phase = 2) (ht : m.turn = (ent x i).turn) (ho : Lx (ent x i).need m.src = true) :
  Inv n nl ⟨x.cores, x.home.set i (if (Cc (ent x i) m).need = 0 then A9 (Cc (ent x i) m) else Cc (ent x i) m), x.frames⟩ M := by
 refine Zb5 ?_;intro hn hb hgi
 have hla := h.nla i hi
 have hnd : C6 (ent x i).need p = 1 := by rw [hs] at ho; exact (Iz _ _).1 ho
 have hc1 := Ow (by omega) hb.1 (show p < 4 by omega)
 have hc2 := Ow (by omega) hb.2 (show p < 4 by omega)
 refine Zei ?_;intro hb1 hb2 hown
 have hal := (hgi.c2 h0).1
 rw [Ve] at hal
 unfold Cc
 simp only [hs]
 by_cases hz : Gs (ent x i).need p = 0
 ·rw [if_pos hz]
  have hrest : ∀ q : Nat, q ≠ p → q < n → C6 (ent x i).need q = 0 := by
   intro q hqp hq
   have := congrFun hb2 q
   exact Zf0
  have hpw : (ent x i).who ≠ p := ((h.ci i hi p hp).ned hnd).2.1
  have hsh : ∀ q, q < n → (ent x i).who ≠ q → q ≠ p → C6 (ent x i).sharers q = 0 := by
   exact ZfL
  have hw := hgi.whor (by show (ent x i).phase ≠ 0; omega)
  simp only [ab] at hw
  obtain ⟨w, hw'⟩ : ∃ w : Nat, (ent x i).who = w := ⟨(ent x i).who.toNat, by omega⟩
  have hcc : Gs (Gs (ent x i).sharers p) (ent x i).who = 0 := by
   exact ZeZ
  have hne : A9 { ent x i with need := Gs (ent x i).need p, sharers := Gs (ent x i).sharers p } = { ent x i with need := 0, sharers := Gs (ent x i).sharers p, phase := 3 } := by
   unfold A9
   simp only
   rw [if_neg (by omega), if_neg (by rintro ⟨_, h2⟩; exact h2 hcc)]
  rw [hne]
  refine h.home hi hla ⟨hc1, ⟨by simp only; omega, by have : 0 < 2 ^ n := Nat.two_pow_pos n; simp only; omega⟩⟩ ?_
  exact Afh hgi (h.ci i hi) hp hM hk h0 ht hnd rfl rfl hb1 rfl rfl rfl rfl rfl (.inr ⟨rfl, fun q => Dr q, fun q h1 h2 => hrest q h1 h2⟩)
 ·rw [if_neg hz]
  refine h.home hi hla ⟨hc1, hc2⟩ ?_
  exact Afh hgi (h.ci i hi) hp hM hk h0 ht hnd rfl rfl hb1 rfl rfl rfl rfl rfl (.inl ⟨h0, hb2, Sd (by omega) hc2 hz⟩)
theorem V5 {p i : Nat} {m : Msg} (h : Inv n nl x M) (hp : p < n) (hi : i < nl) (hs : m.src = p) (hM : MI (ab (ent x i)) p (lin x i p) m) (hk : m.kind = 10) (h0 : (ent x i).phase = 3) (ht : m.turn = (ent x i).turn) (ho : m.src = (ent x i).who) :
  Inv n nl ⟨x.cores, x.home.set i (Df (ent x i)), x.frames⟩ M := by
 refine Zb5 ?_;intro hn hb hgi
 have hla := h.nla i hi
 have hwp : (ent x i).who = p := by rw [← ho]; exact hs
 have hpos : 0 < 2 ^ n := Nat.two_pow_pos n
 unfold Df
 split
 ·rename_i hal
  refine h.home hi hla ⟨⟨by simp only; omega, by simp only; omega⟩, hb.2⟩ ?_
  exact Us hgi (h.ci i hi) hp hM hk h0 ht hwp rfl rfl rfl rfl rfl rfl rfl (fun q => rfl) (.inl ⟨(Ve _).2 hal, hwp, fun q => Dr q⟩)
 ·rename_i hal
  refine h.home hi hla ⟨by simp only; rw [hwp]; exact Aey (by omega) hb.1 hp, hb.2⟩ ?_
  refine Us hgi (h.ci i hi) hp hM hk h0 ht hwp rfl rfl rfl rfl rfl rfl rfl (fun q => rfl) (.inr ⟨(So _).2 (by simpa using hal), rfl, fun q => ?_⟩)
  show C6 (Hr (ent x i).sharers (ent x i).who) q = _
  rw [hwp, Se (Hz (by omega) hb.1) (by omega)]; rfl
theorem Rk {p : Nat} {m : Msg} (h : Inv n nl x M) (hp : p < n) (hs : m.src = p) (hd : m.dst = n) (hl : 0 ≤ m.line ∧ m.line < nl) (hr : (0 ≤ m.serial ∧ m.serial ≤ 65535) ∧ (0 ≤ m.turn ∧ m.turn ≤ 65535) ∧ (0 ≤ m.value ∧ m.value ≤ 255)) (hm : MX n x m) :
  Inv n nl ⟨x.cores, (Al x.home n m).1, way x.frames (Al x.home n m).2⟩ M := by
 obtain ⟨i, hi⟩ : ∃ i : Nat, m.line = i := ⟨m.line.toNat, by omega⟩
 have hin : i < nl := by omega
 have hen : Ad x.home m.line = ent x i := by unfold Ad ent; rw [hi, Int.toNat_natCast]
 have hla := h.nla i hin
 have hMI : MI (ab (ent x i)) p (lin x i p) m := by
  unfold MX at hm
  have : J1 n m = p := by unfold J1; rw [if_pos hd, hs]; simp
  rw [this, hi, Int.toNat_natCast] at hm
  exact hm
 have hsame : x.home.set i (ent x i) = x.home := Fp _ _ _ (by rw [h.nh]; exact hin)
 unfold Al
 rw [hen, if_neg (by rw [h.nh, hla]; omega)]
 simp only [hi, Int.toNat_natCast]
 unfold Ag
 by_cases k1 : m.kind = 1 ∨ m.kind = 2
 ·rw [if_pos k1]
  by_cases hc : (ent x i).phase ≠ 0 ∨ m.serial ≤ Dt (ent x i) m.src ∨ 65535 ≤ (ent x i).turn
  ·rw [if_pos hc]; simp only [way]; rw [hsame]; exact h
  ·rw [if_neg hc, hi]
   exact h.homeSays hin (Ahj h hp hin hs hr.1 hMI k1 (by omega) (by omega) (by omega))
 rw [if_neg k1]
 by_cases k3 : m.kind = 3
 ·rw [if_pos k3]
  by_cases hc : (ent x i).phase ≠ 0
  ·rw [if_pos hc]; simp only [way]; rw [hsame]; exact h
  ·rw [if_neg hc]
   obtain ⟨hI, hle⟩ := Ahi h hp hin hs hr.1 hr.2.2 hMI k3 (by omega)
   refine hI.way fun m' hm' => ?_
   rw [List.mem_singleton.1 hm', hs, hi]
   refine ⟨Me h hp hin (by omega) hr.1 (by omega) (by omega), MX.told h hp hin ?_⟩
   constructor <;> simp only <;> intro hk <;> first | omega | exact hle
 rw [if_neg k3]
 by_cases k9 : m.kind = 9 ∧ m.turn = (ent x i).turn ∧ (ent x i).phase = 1 ∧ m.src = (ent x i).owner
 ·rw [if_pos k9, hi]
  exact h.homeSays hin (Acm h hp hin hs hr.2.2 hMI k9.1 k9.2.2.1 k9.2.1 k9.2.2.2)
 rw [if_neg k9]
 by_cases k8 : m.kind = 8 ∧ m.turn = (ent x i).turn ∧ (ent x i).phase = 2 ∧ Lx (ent x i).need m.src = true
 ·rw [if_pos k8]
  have hI := Acl h hp hin hs hMI k8.1 k8.2.2.1 k8.2.1 k8.2.2.2
  by_cases hz : (Cc (ent x i) m).need = 0
  ·rw [if_pos hz] at hI ⊢; rw [hi]; exact h.homeSays hin hI
  ·rw [if_neg hz] at hI ⊢; exact hI
 rw [if_neg k8]
 by_cases k10 : m.kind = 10 ∧ m.turn = (ent x i).turn ∧ (ent x i).phase = 3 ∧ m.src = (ent x i).who
 ·rw [if_pos k10]
  exact V5 h hp hin hs hMI k10.1 k10.2.2.1 k10.2.1 k10.2.2.2
 ·rw [if_neg k10]; simp only [way]; rw [hsame]; exact h
theorem Afq (h : Inv n nl x M) : Ap x = Ef n nl := by unfold Ap Ef A7; rw [h.nc, h.nh]
theorem P6 {p : Nat} : Aq x p = cor x p := by unfold Aq cor; rw [Int.toNat_natCast]
theorem Rl {b : List UInt8} (h : Inv n nl x M) (hb : b.length = 12 ∧ ∀ m, Af (Ef n nl) b = (m, 0) → MX n x m) :
  ∃ M', Inv n nl (Be x b).1 M' ∧ Dg M (Be x b).2 M' := by
 unfold Be
 rw [Afq h]
 have hnc : A7 x = n := by unfold A7; rw [h.nc]
 rw [hnc]
 by_cases he : (Af (Ef n nl) b).2 ≠ 0
 ·rw [if_pos he]; exact ⟨M, h, rfl⟩
 rw [if_neg he]
 have hpar : Af (Ef n nl) b = ((Af (Ef n nl) b).1, 0) := by
  have : (Af (Ef n nl) b).2 = 0 := Classical.byContradiction he
  rw [← this]
 have hm := hb.2 _ hpar
 obtain ⟨w1, w2, w3, w4, w5, w6, w7⟩ := Ey (Fg hpar).2.2.2.2.1
 generalize (Af (Ef n nl) b).1 = m at hm w1 w2 w3 w4 w5 w6 w7 ⊢
 simp only [Ef] at w2 w3 w7
 by_cases hd : m.dst = (n : Int)
 ·rw [if_pos hd]
  have hs : ¬ m.src = (n : Int) := fun hs => w7 ⟨fun _ => hd, fun _ => hs⟩
  obtain ⟨p, hp⟩ : ∃ p : Nat, m.src = p := ⟨m.src.toNat, by omega⟩
  exact ⟨M, Rk h (by omega) hp hd w3 ⟨w4, w5, w6⟩ hm, rfl⟩
 ·rw [if_neg hd]
  have hs : m.src = (n : Int) := Classical.byContradiction fun hs => w7 ⟨fun h => absurd h hs, fun h => absurd h hd⟩
  obtain ⟨p, hp⟩ : ∃ p : Nat, m.dst = p := ⟨m.dst.toNat, by omega⟩
  rw [hp, P6]
  exact Ack h (by omega) hp hs w3 ⟨w4, w5, w6⟩ hm
theorem Ix {s : Step} (h : Inv n nl x M) (hok : (Ak x s).2.2 = 0) : ∃ M', Inv n nl (Ak x s).1 M' ∧ Dg M (Ak x s).2.1 M' := by
 have hnc : A7 x = n := by unfold A7; rw [h.nc]
 have hcf := Afq h
 unfold Ak at hok ⊢
 rw [hnc] at hok ⊢
 rw [hcf] at hok ⊢
 by_cases k1 : s.kind = 1
 ·rw [if_pos k1] at hok ⊢
  split at hok
  ·cases hok
  rename_i hnode
  rw [if_neg hnode]
  obtain ⟨p, hp⟩ : ∃ p : Nat, s.node = p := ⟨s.node.toNat, by omega⟩
  have hpn : p < n := by omega
  rw [hp, P6] at hok ⊢
  split at hok
  ·rename_i hz; exact absurd hok hz
  rename_i hz
  rw [if_neg hz]
  exact Yj h hpn (Classical.byContradiction hz)
 rw [if_neg k1] at hok ⊢
 by_cases k2 : s.kind = 2
 ·rw [if_pos k2] at hok ⊢
  split at hok
  ·cases hok
  rename_i hf
  rw [if_neg hf]
  exact Rl (h.erase _) (h.mi _ (Iv hf))
 rw [if_neg k2] at hok ⊢
 by_cases k3 : s.kind = 3
 ·rw [if_pos k3] at hok ⊢
  split at hok
  ·cases hok
  rename_i hf
  rw [if_neg hf]
  exact ⟨M, h.erase _, rfl⟩
 rw [if_neg k3] at hok ⊢
 by_cases k4 : s.kind = 4
 ·rw [if_pos k4] at hok ⊢
  split at hok
  ·cases hok
  rename_i hf
  rw [if_neg hf]
  exact ⟨M, h.send (h.mi _ (Iv hf)), rfl⟩
 rw [if_neg k4] at hok ⊢
 by_cases k5 : s.kind = 5
 ·rw [if_pos k5] at hok ⊢
  split at hok
  ·cases hok
  rename_i hf
  rw [if_neg hf]
  split at hok
  ·cases hok
  rename_i hq
  rw [if_neg hq]
  split at hok
  ·rename_i hz; exact absurd hok hz
  rename_i hz
  rw [if_neg hz]
  have hf' : ¬ (s.n < 0 ∨ (x.frames.length : Int) ≤ s.n) := hf
  unfold Cg at hz ⊢
  rw [if_neg hf'] at hz ⊢
  split at hz
  ·exact absurd (show (3 : Int) ≠ 0 by decide) hz
  rename_i hbit
  rw [if_neg hbit]
  exact ⟨M, h.spoil hf' (Classical.byContradiction hq) (by omega) (by omega), rfl⟩
 rw [if_neg k5] at hok ⊢
 by_cases k6 : s.kind = 6
 ·rw [if_pos k6] at hok ⊢
  split at hok
  ·cases hok
  rename_i hnode
  rw [if_neg hnode]
  by_cases hh : s.node = (n : Int)
  ·rw [if_pos hh, hh]; exact ⟨M, Po h, rfl⟩
  ·rw [if_neg hh]
   obtain ⟨p, hp⟩ : ∃ p : Nat, s.node = p := ⟨s.node.toNat, by omega⟩
   rw [hp, P6]
   exact ⟨M, Pq h (by omega), rfl⟩
 ·rw [if_neg k6] at hok; cases hok
end
end Go.Proofs.Ytehpekiedfpnkaa
namespace Go.Proofs.Ytehpekiedfpnkaa
open Abs
section
variable {n nl : Nat} {x : Chip} {M : List Int}
theorem F8 {α : Type} (k i : Nat) (a d : α) (h : i < k) : (List.replicate k a).getD i d = a := by
 rw [List.getD_eq_getElem?_getD, List.getElem?_replicate, if_pos h]; rfl
theorem Jp {α : Type} (k i : Nat) (a : α) : (List.replicate k a).getD i a = a := by
 rw [List.getD_eq_getElem?_getD, List.getElem?_replicate]; split <;> rfl
def Fr (n nl : Nat) : Chip := ⟨List.replicate n ⟨List.replicate nl zLine, zOp⟩, List.replicate nl { A1 with last := List.replicate n 0 }, []⟩
theorem Tc (hn : 1 ≤ n ∧ n ≤ 4) (hl : 1 ≤ nl ∧ nl ≤ 4) : Inv n nl (Fr n nl) (List.replicate nl 0) := by
 have hcor : ∀ p, p < n → cor (Fr n nl) p = ⟨List.replicate nl zLine, zOp⟩ := fun p hp => F8 _ _ _ _ hp
 have hlin : ∀ i p, i < nl → p < n → lin (Fr n nl) i p = zLine := by
  intro i p hi hp; unfold lin; rw [hcor p hp]; exact F8 _ _ _ _ hi
 have hent : ∀ i, i < nl → ent (Fr n nl) i = { A1 with last := List.replicate n 0 } := fun i hi => F8 _ _ _ _ hi
 have hpos : 0 < 2 ^ n := Nat.two_pow_pos n
 have hM : ∀ i, (List.replicate nl (0 : Int)).getD i 0 = 0 := fun i => Jp _ _ _
 refine ⟨hn, hl, by simp [Fr], by simp [Fr], ?_, ?_, by simp, ?_, ?_, ?_, ?_, ?_, by simp [Fr], ?_⟩
 ·intro p hp; rw [hcor p hp]; simp
 ·intro i hi; rw [hent i hi]; simp
 ·intro i hi; rw [hM]; omega
 ·intro i hi; rw [hent i hi]; simp only [A1]; omega
 ·intro i hi; rw [hent i hi]
  have h1 : ∀ q, C6 0 q = 0 := fun q => Dr q
  constructor <;> simp only [ab, A1] <;> first | omega | (intro h; omega) | simp
 ·intro i hi p hp
  rw [hent i hi, hlin i p hi hp, hM]
  have h1 : C6 0 p = 0 := Dr p
  have h2 : (List.replicate n (0 : Int)).getD p 0 = 0 := Jp _ _ _
  constructor <;> simp only [ab, A1, zLine] <;> (try rw [h1]) <;> (try rw [h2]) <;> first | omega | simp
 ·intro p hp
  rw [hcor p hp]
  constructor
  ·intro _; exact ⟨rfl, fun i hi => by rw [F8 _ _ _ _ hi]; rfl⟩
  ·intro h; exact absurd rfl h
 ·intro b hb; cases hb
theorem Oz {c : Config} (h : (Cw c).2 = 0) : ∃ n nl : Nat, (1 ≤ n ∧ n ≤ 4) ∧ (1 ≤ nl ∧ nl ≤ 4) ∧ c = Ef n nl ∧ Cw c = (Fr n nl, 0) := by
 unfold Cw at h ⊢
 split at h
 ·cases h
 rename_i hc
 have hc0 : Ku c = 0 := Classical.byContradiction hc
 unfold Ku at hc0
 split at hc0
 ·cases hc0
 rename_i hr
 refine ⟨c.cores.toNat, c.lines.toNat, by omega, by omega, ?_, ?_⟩
 ·unfold Ef; cases c; simp only [Config.mk.injEq]; simp only at hr; omega
 ·rw [if_neg hc]; rfl
theorem H5 {M M' M'' : List Int} : ∀ {a b : List Done}, Dg M a M' → Dg M' b M'' → Dg M (a ++ b) M''
 | [], b, h1, h2 => by rw [show M' = M from h1] at h2; exact h2
 | d :: a, b, ⟨h1, h2, h3, h4, h5⟩, h6 => ⟨h1, h2, h3, h4, H5 h5 h6⟩
theorem Fs : ∀ (l : List Step) {x : Chip} {M : List Int}, Inv n nl x M → ∃ M', Inv n nl (Cq x l).1 M' ∧ Dg M (Cq x l).2 M'
 | [], x, M, h => ⟨M, h, rfl⟩
 | s :: r, x, M, h => by
  simp only [Cq]
  split
  ·rename_i hok
   obtain ⟨M1, h1, d1⟩ := Ix h hok
   obtain ⟨M2, h2, d2⟩ := Fs r h1
   exact ⟨M2, h2, H5 d1 d2⟩
  ·exact Fs r h
end
set_option maxHeartbeats 1000000
set_option maxRecDepth 8000
variable {L : List Chunk} {R : List Fact} {w : World}
theorem Uy {α : Type} {l : List α} {d : α} {P : α → Prop} (h : ∀ i, i < l.length → P (l.getD i d)) : ∀ x ∈ l, P x := by
 intro x hx
 obtain ⟨i, hi, rfl⟩ := List.getElem_of_mem hx
 have := h i hi
 rwa [List.getD_eq_getElem?_getD, List.getElem?_eq_getElem hi] at this
section
variable {n nl : Nat} {x : Chip} {M : List Int}
open Abs
theorem Inv.kb (h : Inv n nl x M) {p : Nat} (hp : p < n) : KB (cor x p) := by
 have h1 := h.ncl p hp
 have h2 := h.l1
 refine ⟨by omega, fun i hi => (h.ci i (by omega) p hp).va, by rw [h1]; exact h.cw p hp⟩
theorem Inv.eb (h : Inv n nl x M) {i : Nat} (hi : i < nl) : EB (ent x i) := by
 have hg := h.gi i hi
 have hb := h.bit i hi
 have hn := h.n1
 have b1 := Hz hn.2 hb.1
 have b2 := Hz hn.2 hb.2
 have w : 0 ≤ (ent x i).who ∧ (ent x i).who < 4 := by
  by_cases h0 : (ent x i).phase = 0
  ·have := (hg.idle h0).1; simp only [ab] at this; omega
  ·have := hg.whor h0; simp only [ab] at this; omega
 have o := hg.own; have ph := hg.ph; have tu := hg.tu; have va := hg.va; have se := hg.se
 simp only [ab] at o ph tu va se
 unfold EB Entry.wf An
 omega
theorem Inv.ebd (h : Inv n nl x M) {i : Nat} (hi : i < nl) : ((ent x i).turn ≤ 65535) ∧ (0 ≤ (ent x i).serial ∧ (ent x i).serial ≤ 65535) ∧ (0 ≤ (ent x i).value ∧ (ent x i).value ≤ 255) := by
 have hg := h.gi i hi
 exact ⟨hg.tu.2, hg.se, hg.va⟩
def LB (l : Line) : Prop := (0 ≤ l.value ∧ l.value ≤ 255) ∧ (0 ≤ l.want ∧ l.want ≤ 3) ∧ (0 ≤ l.serial ∧ l.serial ≤ 65535) ∧ (0 ≤ l.gave ∧ l.gave ≤ 65535) ∧ (0 ≤ l.given ∧ l.given ≤ 255) ∧ (0 ≤ l.seen ∧ l.seen ≤ 65535) ∧ (0 ≤ l.state ∧ l.state ≤ 3)
theorem Inv.lb (h : Inv n nl x M) {i p : Nat} (hi : i < nl) (hp : p < n) : LB (lin x i p) := by
 have hc := h.ci i hi p hp
 have ht := (h.gi i hi).tu
 have h1 := hc.ga
 exact ⟨hc.va, hc.wa, hc.se, by omega, hc.gi, by omega, hc.st⟩
end
theorem Afz {l : Line} (h : LB l) {id home i : Int} (h1 : 0 ≤ id ∧ id ≤ 15) (h2 : 0 ≤ home ∧ home ≤ 15) (h3 : 0 ≤ i ∧ i ≤ 255) : MsgIn (By l id home i) := by
 unfold By MsgIn; unfold LB at h; simp only; split <;> omega
theorem Mf {kind id home i t v : Int} (h1 : 0 ≤ id ∧ id ≤ 15) (h2 : 0 ≤ home ∧ home ≤ 15) (h3 : 0 ≤ i ∧ i ≤ 255) (hk : 0 ≤ kind ∧ kind ≤ 255) (ht : 0 ≤ t ∧ t ≤ 65535) (hv : 0 ≤ v ∧ v ≤ 255) : MsgIn (A8 kind id home i t v) := by
 unfold A8 MsgIn; simp only; omega
theorem Va {c : Core} {id home : Int} {o : Op} (h1 : 0 ≤ id ∧ id ≤ 15) (h2 : 0 ≤ home ∧ home ≤ 15) (hl : c.lines.length ≤ 4) (hb : ∀ i, i < c.lines.length → LB (c.lines.getD i zLine)) : ∀ m ∈ (Ah c id home o).2.1, MsgIn m := by
 unfold Ah
 split
 ·intro m hm; cases hm
 split
 ·intro m hm; cases hm
 split
 ·intro m hm; cases hm
 rename_i k1 k2 k3
 split
 ·intro m hm; cases hm
 ·intro m hm
  rw [List.mem_singleton.1 hm]
  have hL : LB (Ac c o.line) := hb o.line.toNat (by omega)
  refine Afz ?_ h1 h2 (by omega)
  unfold LB at hL ⊢
  unfold Ax
  split
  ·split <;> simp only <;> omega
  split
  ·exfalso
   rename_i h3 h4 h5
   apply h3
   unfold Ba
   rw [if_neg h4]
   simp; omega
  ·split <;> simp only <;> omega
theorem Yq {c : Core} {id home : Int} {m : Msg} (h1 : 0 ≤ id ∧ id ≤ 15) (h2 : 0 ≤ home ∧ home ≤ 15) (hl : c.lines.length ≤ 4) (hb : ∀ i, i < c.lines.length → LB (c.lines.getD i zLine)) (ht : 0 ≤ m.turn ∧ m.turn ≤ 65535) : ∀ a ∈ (Ae c id home m).2.1, MsgIn a := by
 unfold Ae
 split
 ·exact ZfD
 rename_i k1
 have hL : LB (Ac c m.line) := hb m.line.toNat (by omega)
 have h3 : 0 ≤ m.line ∧ m.line ≤ 255 := by omega
 unfold LB at hL
 split
 ·exact Zfn
 split
 ·split
  ·exact Zfn
  split
  ·intro a ha; rw [List.mem_singleton.1 ha]; exact Mf h1 h2 h3 (by omega) (by omega) (by omega)
  ·exact ZfD
 split
 ·split
  ·exact ZfD
  split
  ·exact Zfn
  ·exact Zfn
 split
 ·exact ZfD
 ·exact ZfD
theorem says_in {e : Entry} {i id : Int} (he : EB e) (ht : e.turn ≤ 65535) (hs : 0 ≤ e.serial ∧ e.serial ≤ 65535) (hv : 0 ≤ e.value ∧ e.value ≤ 255) (hp : e.phase = 1 → 0 ≤ e.owner) (hi : 0 ≤ i ∧ i ≤ 255) (hd : 0 ≤ id ∧ id ≤ 15) : ∀ a ∈ D4 e i id, MsgIn a := by
 unfold D4
 unfold EB at he
 split
 ·rename_i h1
  have := hp h1
  intro a ha; rw [List.mem_singleton.1 ha]; unfold MsgIn; simp only; split <;> omega
 split
 ·intro a ha
  obtain ⟨p, hp, rfl⟩ := List.mem_map.1 ha
  have h4 := (List.mem_filter.1 hp).1
  have : 0 ≤ p ∧ p ≤ 3 := by
   simp only [List.mem_cons, List.not_mem_nil, or_false] at h4; omega
  unfold MsgIn; simp only; omega
 split
 ·exact Zgy
 ·exact ZfD
theorem Pl {e : Entry} : (A9 e).phase = 1 → 0 ≤ (A9 e).owner := by
 unfold A9; split
 ·intro _; assumption
 split
 ·intro h; simp at h
 ·intro h; simp at h
theorem K6 (e : Entry) : (A9 e).turn = e.turn ∧ (A9 e).serial = e.serial ∧ (A9 e).value = e.value ∧ (A9 e).owner = e.owner ∧ (A9 e).last = e.last := by
 unfold A9; split
 ·simp
 split <;> simp
theorem Nh {l : List Entry} {id : Int} {m : Msg} (hd : 0 ≤ id ∧ id ≤ 15) (hl : l.length ≤ 4) (hb : ∀ i, i < l.length → EB (l.getD i A1) ∧ (l.getD i A1).turn ≤ 65535 ∧ (0 ≤ (l.getD i A1).serial ∧ (l.getD i A1).serial ≤ 65535) ∧ (0 ≤ (l.getD i A1).value ∧ (l.getD i A1).value ≤ 255) ∧ (l.getD i A1).last.length ≤ 4)
  (hs : 0 ≤ m.serial ∧ m.serial ≤ 65535) (hv : 0 ≤ m.value ∧ m.value ≤ 255) : ∀ a ∈ (Al l id m).2, MsgIn a := by
 unfold Al
 split
 ·exact ZfD
 rename_i k
 obtain ⟨h1, h2, h3, h4, h5⟩ := hb m.line.toNat (by omega)
 change EB (Ad l m.line) at h1
 change (Ad l m.line).turn ≤ 65535 at h2
 change 0 ≤ (Ad l m.line).serial ∧ (Ad l m.line).serial ≤ 65535 at h3
 change 0 ≤ (Ad l m.line).value ∧ (Ad l m.line).value ≤ 255 at h4
 change (Ad l m.line).last.length ≤ 4 at h5
 have hi : 0 ≤ m.line ∧ m.line ≤ 255 := by omega
 have hE := h1
 unfold EB Entry.wf An at hE
 simp only
 generalize Ad l m.line = e at h1 h2 h3 h4 h5 hE k
 unfold Ag
 split
 ·split
  ·exact ZfD
  ·rename_i k2
   have hX : EB { e with last := e.last.set m.src.toNat m.serial, who := m.src, serial := m.serial, alone := m.kind == 2, turn := e.turn + 1 } := by unfold EB Entry.wf An; simp only; omega
   have hr := K6 { e with last := e.last.set m.src.toNat m.serial, who := m.src, serial := m.serial, alone := m.kind == 2, turn := e.turn + 1 }
   simp only at hr
   unfold Kq
   exact says_in (Di hX) (by rw [hr.1]; omega) (by rw [hr.2.1]; exact hs) (by rw [hr.2.2.1]; exact h4) Pl hi hd
 split
 ·split
  ·exact ZfD
  ·exact Zgy
 split
 ·rename_i k3
  have hs4 : 0 ≤ (if e.alone = true then e.sharers else Hr e.sharers e.owner) ∧ (if e.alone = true then e.sharers else Hr e.sharers e.owner) < 16 := by
   split
   ·omega
   ·obtain ⟨_, _, r, _⟩ := Cr hE.2.1.1 hE.2.1.2 (show 0 ≤ e.owner by omega) hE.2.2.2.2.1.2; exact r
  have hX : EB { e with value := m.value, sharers := if e.alone then e.sharers else Hr e.sharers e.owner, owner := -1 } := by
   exact ZfQ
  have hr := K6 { e with value := m.value, sharers := if e.alone then e.sharers else Hr e.sharers e.owner, owner := -1 }
  simp only at hr
  unfold Ge
  exact says_in (Di hX) (by rw [hr.1]; exact h2) (by rw [hr.2.1]; exact h3) (by rw [hr.2.2.1]; exact hv) Pl hi hd
 split
 ·split
  ·have c1 := (Cr hE.2.1.1 hE.2.1.2 (show 0 ≤ m.src by omega) (show m.src < 4 by omega)).2.2.2
   have c2 := (Cr hE.2.2.1.1 hE.2.2.1.2 (show 0 ≤ m.src by omega) (show m.src < 4 by omega)).2.2.2
   have hX : EB (Cc e m) := by
    unfold Cc EB Entry.wf An; simp only; omega
   have hr := K6 (Cc e m)
   exact says_in (Di hX) (by rw [hr.1]; exact h2) (by rw [hr.2.1]; exact h3) (by rw [hr.2.2.1]; exact h4) Pl hi hd
  ·exact ZfD
 split
 ·exact ZfD
 ·exact ZfD
theorem O6 {id home : Int} (h1 : 0 ≤ id ∧ id ≤ 15) (h2 : 0 ≤ home ∧ home ≤ 15) : ∀ (l : List Line) (i : Int), 0 ≤ i → i + l.length ≤ 256 → (∀ x ∈ l, LB x) → ∀ a ∈ Br id home i l, MsgIn a
 | [], _, _, _, _ => fun a ha => by cases ha
 | x :: l, i, h0, hn, hb => by
  intro a ha
  simp only [List.length_cons] at hn
  have ih := O6 h1 h2 l (i + 1) (by omega) (by omega) (fun y hy => hb y (.tail _ hy))
  simp only [Br] at ha
  split at ha
  ·rcases List.mem_cons.1 ha with e | e
   ·rw [e]; exact Afz (hb x (.head _)) h1 h2 (by omega)
   ·exact ih a e
  ·exact ih a ha
theorem I8 : ∀ (a b : List Msg) (f : Frames), way f (a ++ b) = way (way f a) b
 | [], _, _ => rfl
 | _ :: a, b, _ => I8 a b _
theorem Hu (id : Int) : ∀ (l : List Entry) (i : Int) (x : Entry), Cm id i (l ++ [x]) = Cm id i l ++ D4 x (i + l.length) id
 | [], i, x => by simp [Cm]
 | a :: l, i, x => by
  have ih := Hu id l (i + 1) x
  have e : i + 1 + (l.length : Int) = i + ((a :: l).length : Int) := by simp only [List.length_cons]; omega
  rw [e] at ih
  simp only [List.cons_append, Cm, ih, List.append_assoc]
theorem Ke {α : Type} {l : List α} {i : Nat} {d : α} : l.set i (l.getD i d) = l := by
 by_cases h : i < l.length
 ·rw [List.getD_eq_getElem?_getD, List.getElem?_eq_getElem h]; exact List.set_getElem_self h
 ·exact List.set_eq_of_length_le (by omega)
theorem q_mx {P : Program} {n : Nat} {L : List Chunk} {R : List Fact} {al : List (Nat × Value)} {d : Nat} {x : Operand} {T ty : TypeId} {pos : String} {aft : Array Edge} {a : Int} (hx : ev n al x = some (vi a)) (h0 : 0 ≤ a) : A4 P n al L R ⟨some d, .call { callee := .builtin .max, args := #[x, .const (.int .i64 0)], argTypes := #[T, T] }, ty, pos, aft, none⟩ (vi a) :=
 ⟨rfl, fun ρ w h _ => by
  have hx' := h x (by simp [Op.operands, Call.operands]) _ hx
  have hc' := h (.const (.int .i64 0)) (by simp [Op.operands, Call.operands]) _ rfl
  simp [execOp, resolve, invoke, builtin, hx', hc', Builtin.max_, Builtin.max2, show ¬ (a < 0) from by omega]⟩
theorem Ajg {a : Int} (hs : St (L) R w) (h0 : 0 ≤ a) (h1 : a ≤ 16777216) : Calls Try.prog 97 [vi a].toArray w (Bw (fun v : Value => v) (fun v => row 3 v (List.replicate a.toNat (0 : Int)) :: L) (fun v => R)) := by
 refine Aj Try.func97 rfl Try.ntmps97 rfl hs ?_
 clear hs
 refine ZL ?_
 refine rn1 ?_
 refine ob (q_mx (a := a) rfl h0) ?_
 refine Afb (α := Int) (x0 := 0) (zc := [vi 0]) Ff rfl (by decide) rfl rfl rfl (fun j => ⟨rfl, by unfold An; omega⟩) h0 h1 ?_; intro v5
 refine Ga1 ?_
 exact Co v5
theorem Ajh {v0 : Value} {m : List Int} {o : Op} (hs : St (L) R w) (h0 : sl v0 m ∈ R) : Calls Try.prog 98 [v0, .agg o.cells.toArray].toArray w (Bw (fun v : Value => .tuple #[v, vi (Db m o).2.1, vi (Db m o).2.2]) (fun v => L) (fun v => sl v (Db m o).1 :: R)) := by
 have hlen := Bg h0 hs
 refine Aj Try.func98 rfl Try.ntmps98 rfl hs ?_
 clear hs
 refine Zaz ?_;intro b3
 refine Ga3 ?_
 rcases (show (o.kind < 1) ∨ (¬ o.kind < 1 ∧ 4 < o.kind) ∨ (1 ≤ o.kind ∧ o.kind ≤ 4) from by omega) with hc | hc | hc
 ·refine ZX ?_
  refine Gd6 ?_
  exact Zga
 ·refine Zbl ?_
  refine Gd2 ?_
  exact Zga
 ·refine Za8 ?_
  refine Gc2 ?_
  rcases (show (o.line < 0) ∨ (0 ≤ o.line ∧ (m.length : Int) ≤ o.line) ∨ (0 ≤ o.line ∧ o.line < (m.length : Int) ∧ o.value < 0) ∨ (0 ≤ o.line ∧ o.line < (m.length : Int) ∧ 255 < o.value) ∨ (0 ≤ o.line ∧ o.line < (m.length : Int) ∧ 0 ≤ o.value ∧ o.value ≤ 255) from by omega) with hc | hc | hc | hc | hc
  ·refine ZX ?_
   refine Gc18 ?_
   exact Zfv
  ·refine ZZ ?_
   refine ZR ?_
   refine Hj ?_
   refine Gc12 ?_
   exact Zfv
  ·refine Zb4 ?_
   refine ZaD ?_
   refine Gc7 ?_
   exact Zfv
  ·refine Zb4 ?_
   refine Za6 ?_
   refine G3 ?_
   refine Gc2 ?_
   exact Zfv
  ·refine Zb4 ?_
   refine Zaw ?_
   refine Gc2 ?_
   refine JC.rowNil 3 Int ?_
   refine kp [0, 3, 4, 5, 6, 7, 39, 40] ?_
   refine ZB ?_
   refine ap Ff (hb := fun w hs => by have := Bg h0 hs; have : maxN = 16777216 := rfl; simp; omega) (k := ?_); intro v40
   refine Ga1 ?_
   refine JC.open0 (xs := m) (v := v0) o.line.toNat mm (by omega) (fun hw => ?_)
   have hw9 : An (m.getD o.line.toNat 0) := hw
   refine Aa ?_
   refine Gb6 ?_
   refine Ga2 ?_
   rcases (show (o.kind = 1) ∨ (o.kind = 2) ∨ (o.kind = 3) ∨ (o.kind = 4) from by omega) with hc | hc | hc | hc
   ·refine Aa ?_
    refine Cs ?_
    refine Gd1 ?_
    refine Ga5 ?_
    have er : Db m o = (m, m.getD o.line.toNat 0, 0) := by unfold Db; rw [if_neg (by omega), if_neg (by omega), opv1 hc]; exact congrArg (·, _) Ke
    exact Zfu
   ·refine Aa ?_
    refine ZF ?_
    refine Cs ?_
    refine Gd1 ?_
    refine rn6 ?_
    refine Ez (xs := m) Try.sizeOf3 rfl rfl pkk (getD_some 0 (by omega)) (by unfold An at hw9 ⊢; omega) ?_
    refine Gm ?_
    refine Ga4 ?_
    have er : Db m o = ((m.set o.line.toNat o.value), 0, 0) := by unfold Db; rw [if_neg (by omega), if_neg (by omega), opv2 hc]
    exact Zfu
   ·refine Aa ?_
    refine Zan ?_
    refine Gd1 ?_
    refine rn6 ?_
    refine ob (F1 (a := m.getD o.line.toNat 0) (b := o.value) Afw) ?_
    refine ob (F1 (b := 255) Aeo) ?_
    rw [Oc]
    refine rn1 ?_
    refine Ez (xs := m) Try.sizeOf3 rfl rfl pkk (getD_some 0 (by omega)) (by unfold An at hw9 ⊢; omega) ?_
    refine Gm ?_
    refine Ga5 ?_
    have er : Db m o = ((m.set o.line.toNat ((m.getD o.line.toNat 0 + o.value) % 256)), m.getD o.line.toNat 0, 0) := by unfold Db; rw [if_neg (by omega), if_neg (by omega), opv3 hc]
    exact Zfu
   ·refine Aa ?_
    refine ZF ?_
    refine ZF ?_
    refine ZF ?_
    refine Ga4 ?_
    have er : Db m o = (m, 0, 0) := by unfold Db; rw [if_neg (by omega), if_neg (by omega), opv4 hc]; exact congrArg (·, _) Ke
    exact Zfu
theorem Wz {v0 : Value} {xs : List Line} (hs : St (L) R w) (h0 : sl v0 xs ∈ R) : Calls Try.prog 93 [v0].toArray w (Bw (fun v : Value => v) (fun v => row 82 v xs :: L) (fun v => R)) := by
 refine Aj Try.func93 rfl Try.ntmps93 rfl hs ?_
 clear hs
 refine ZL ?_
 refine rn1 ?_
 refine ob (Agr Try.underlying55 (Er h0)) ?_
 refine Gl ?_
 refine Bk (b := ?b1) ?e1 ?_ ?_; case e1 => exact rfl
 ·intro ht4
  refine JC.nilOf ht4 h0 (fun hx => ?_)
  refine ZE ?_
  exact Co (.slice none 0 0) (hs := fun w hs => by rw [hx]; exact Ai (hs.rowNil 82 Line))
 ·intro ht4
  refine Gm ?_
  refine liO ([] : List Line) Y2 rfl (fun j h => Gu) ?_; intro v5
  refine rn1 ?_
  refine ap Y2 (hb := fun w hs => by have := Bg h0 hs; have : maxN = 16777216 := rfl; simp; omega) (k := ?_); intro v7
  refine Ga1 ?_
  exact Co v7
theorem Zu {v0 : Value} {xs : List Int} (hs : St (L) R w) (h0 : sl v0 xs ∈ R) : Calls Try.prog 91 [v0].toArray w (Bw (fun v : Value => v) (fun v => row 3 v xs :: L) (fun v => R)) := by
 refine Aj Try.func91 rfl Try.ntmps91 rfl hs ?_
 clear hs
 refine ZL ?_
 refine rn1 ?_
 refine ob (Agr Try.underlying68 (Er h0)) ?_
 refine Gl ?_
 refine Bk (b := ?b1) ?e1 ?_ ?_; case e1 => exact rfl
 ·intro ht4
  refine JC.nilOf ht4 h0 (fun hx => ?_)
  refine ZE ?_
  exact Co (.slice none 0 0) (hs := fun w hs => by rw [hx]; exact Ai (hs.rowNil 3 Int))
 ·intro ht4
  refine Gm ?_
  refine liO ([] : List Int) Ff rfl (fun j h => Gu) ?_; intro v5
  refine rn1 ?_
  refine ap Ff (hb := fun w hs => by have := Bg h0 hs; have : maxN = 16777216 := rfl; simp; omega) (k := ?_); intro v7
  refine Ga1 ?_
  exact Co v7
def pr (p : Prop) : Fact := ⟨fun _ => p, fun _ _ _ h => h⟩
theorem St.pr {p : Prop} (h : p) (hs : St L R w) : St L (pr p :: R) w := by
 obtain ⟨m, j, hd, hm, hj, hst, hr⟩ := hs
 exact ⟨m, j, hd, hm, hj, hst, fun q hq => by
  rcases List.mem_cons.1 hq with e | e
  ·rw [e]; exact h
  ·exact hr q e⟩
theorem Hh {p : Prop} (hm : pr p ∈ R) (hs : St L R w) : p := hs.fact hm
theorem Ho {P : Program} {γ δ : Type} {f : FuncId} {args : Array Value} {w : World} {val : γ → Value} {val2 : δ → Value} {L : γ → List Chunk} {R : γ → List Fact} {L2 : δ → List Chunk} {R2 : δ → List Fact} (h : Calls P f args w (Bw val L R)) (hk : ∀ g w', St (L g) (R g) w' → ∃ d, val g = val2 d ∧ St (L2 d) (R2 d) w') : Calls P f args w (Bw val2 L2 R2) := by
 refine h.mono ?_
 rintro e w' ⟨g, rfl, hs'⟩
 obtain ⟨d, h1, h2⟩ := hk g w' hs'
 exact ⟨d, by rw [h1], h2⟩
structure EV where
 e : Entry
 u : Value
instance instEncEV : Enc EV where
 sz := 10
 rd x cs _ := cs = x.e.cells x.u ∧ x.e.wf ∧ x.u.oneCell' = true
 mono _ _ _ _ _ h := h
 len x cs _ h := by rw [h.1]; rfl
 one x cs _ h := by have := h.2.2; rw [h.1]; simp [Entry.cells, Value.oneCell'] at this ⊢; exact this
def Jo (x : EV) : Chunk := row 3 x.u x.e.last
def Ach (x : EV) : Fact := sl x.u x.e.last
theorem K7 {L : List Chunk} {w : World} : ∀ (l : List EV) {R : List Fact}, St (l.map Jo ++ L) R w → St L (l.map Ach ++ R) w
 | [], _, hs => hs
 | x :: l, R, hs => by
  have h1 : St (row 3 x.u x.e.last :: (l.map Jo ++ L)) R w := hs
  have h2 := K7 l h1.shut
  exact h2.sub .refl (fun f hf => by
   simp only [List.map_cons, List.cons_append, List.mem_append, List.mem_cons] at hf ⊢
   rcases hf with e | e | e
   ·exact .inr (.inl e)
   ·exact .inl e
   ·exact .inr (.inr e))
theorem Xy {α : Type} : ∀ (l : List α) (i : Nat) (hi : i < l.length), l.Perm (l[i] :: l.eraseIdx i)
 | x :: l, 0, _ => .refl _
 | x :: l, i + 1, hi => ((Xy l i (by simpa using hi)).cons x).trans (.swap ..)
theorem Acf {l : List EV} {i : Nat} (hi : i < l.length) (hs : St (l.map Jo ++ L) R w) : St (Jo l[i] :: ((l.eraseIdx i).map Jo ++ L)) R w := by
 refine hs.perm ?_
 have h := (Xy l i hi).map Jo
 exact h.append_right L
theorem Vt {T : TypeId} {v : Value} {l : List EV} {i : Nat} (hi : i < l.length) (hf : ∀ (k : Nat) x, k ≠ i → l[k]? = some x → Ach x ∈ R) (hs : St (row T v l :: L) R w) : St (foc T v (l.map EV.e) i (Entry.cells l[i].u l[i].e) :: L) R w := by
 obtain ⟨m, j, hd, hm, hj, ⟨m1, m2, hd', h1, h2, hc, hst⟩, hr⟩ := hs
 obtain ⟨rs, r1, r2, r3⟩ := K0 hc
 have hir : i < rs.length := by rw [r2]; exact hi
 refine ⟨m, j, hd, hm, hj, ⟨m1, m2, hd', h1, h2, ⟨rs, r1, by rw [r2]; simp, ⟨rs[i], List.getElem?_eq_getElem hir, ?_⟩, fun k e r hk he hkr => ?_⟩, hst⟩, hr⟩
 ·exact (r3 i l[i] rs[i] (List.getElem?_eq_getElem hi) (List.getElem?_eq_getElem hir)).1
 ·rw [List.getElem?_map] at he
  obtain ⟨x, hx, hxe⟩ := Option.map_eq_some_iff.1 he
  have h3 := r3 k x r hx hkr
  refine ⟨x.u, ?_, ?_, ?_⟩
  ·rw [← hxe]; exact h3.1
  ·rw [← hxe]; exact hr _ (hf k x hk hx)
  ·rw [← hxe]; exact h3.2.1
theorem Vu {T : TypeId} {v : Value} {l : List EV} (hf : ∀ x ∈ l, Ach x ∈ R) (hs : St (row T v l :: L) R w) : St (row T v (l.map EV.e) :: L) R w := by
 obtain ⟨m, j, hd, hm, hj, ⟨m1, m2, hd', h1, h2, hc, hst⟩, hr⟩ := hs
 obtain ⟨rs, r1, r2, r3⟩ := K0 hc
 refine ⟨m, j, hd, hm, hj, ⟨m1, m2, hd', h1, h2, S1 (xs := l.map EV.e) (rs := rs) r1 (by rw [r2]; simp) (fun k e r he hkr => ?_), hst⟩, hr⟩
 exact Zfd
theorem Nn {v : Value} {l : List EV} (hs : St (row 80 v l :: (l.map Jo ++ L)) R w) : St L (sl v (l.map EV.e) :: R) w := by
 have h1 : St (l.map Jo ++ (row 80 v l :: L)) R w := hs.perm List.perm_middle.symm
 have h2 := Vu (fun x hx => List.mem_append.2 (.inl (List.mem_map.2 ⟨x, hx, rfl⟩))) (K7 l h1)
 exact h2.shut.sub .refl (fun f hf => by
  rcases List.mem_cons.1 hf with e | e
  ·exact List.mem_cons.2 (.inl e)
  ·exact List.mem_cons.2 (.inr (List.mem_append.2 (.inr e))))
theorem J3 {v : Value} {l : List EV} {es : List Entry} (i : Nat) (he : l.map EV.e = es) (hi : i < es.length) (hs : St (row 80 v l :: (l.map Jo ++ L)) R w) : ∃ u, (es.getD i A1).wf ∧ u.oneCell' = true ∧ St (foc 80 v es i (Entry.cells u (es.getD i A1)) :: row 3 u (es.getD i A1).last :: L) R w := by
 subst he
 have hil : i < l.length := by simpa using hi
 have e1 : (l.map EV.e).getD i A1 = l[i].e := by rw [List.getD_eq_getElem?_getD, List.getElem?_map, List.getElem?_eq_getElem hil]; rfl
 refine ⟨l[i].u, ?_⟩
 rw [e1]
 have hw : l[i].e.wf ∧ l[i].u.oneCell' = true := by
  obtain ⟨m, j, hd, hm, hj, ⟨m1, m2, hd', h1, h2, hc, hst⟩, hr⟩ := hs
  obtain ⟨rs, r1, r2, r3⟩ := K0 hc
  exact (r3 i l[i] rs[i] (List.getElem?_eq_getElem hil) (List.getElem?_eq_getElem (by rw [r2]; exact hil))).2
 refine ⟨hw.1, hw.2, ?_⟩
 have h1 : St (l.map Jo ++ (row 80 v l :: L)) R w := hs.perm List.perm_middle.symm
 have h2 := Acf hil h1
 have h3 : St ((l.eraseIdx i).map Jo ++ (Jo l[i] :: row 80 v l :: L)) R w := h2.perm List.perm_middle.symm
 have h4 := K7 _ h3
 have h5 : St (row 80 v l :: Jo l[i] :: L) ((l.eraseIdx i).map Ach ++ R) w := h4.perm (.swap ..)
 have h6 := Vt hil (fun k x hk hx => List.mem_append.2 (.inl (List.mem_map.2 ⟨x, ?_, rfl⟩))) h5
 ·exact h6.sub .refl (fun f hf => List.mem_append.2 (.inr hf))
 ·obtain ⟨hkl, hkx⟩ := List.getElem?_eq_some_iff.1 hx
  rw [← hkx]
  exact List.mem_eraseIdx_iff_getElem.2 ⟨k, hkl, hk, rfl⟩
theorem H0 {v0 : Value} {l : List Entry} (hs : St (L) R w) (h0 : sl v0 l ∈ R) : Calls Try.prog 60 [v0].toArray w (Bw (fun g : Value × List EV => g.1) (fun g => row 80 g.1 g.2 :: (g.2.map Jo ++ L)) (fun g => pr (g.2.map EV.e = l) :: R)) := by
 have hlen := Bg h0 hs
 refine Aj Try.func60 rfl Try.ntmps60 rfl hs ?_
 clear hs
 refine ZL ?_
 refine ZaA ?_
 refine JC.rowNil 80 EV ?_
 refine Bx (γ := Nat × Value × List EV) (fun g => g.1 ≤ l.length ∧ g.2.2.map EV.e = l.take g.1) (fun g => row 80 g.2.1 g.2.2 :: (g.2.2.map Jo ++ L)) (fun _ => R) (fun g => [(3, g.2.1), (6, v0), (7, vi (l.length : Int)), (8, vi (g.1 : Int))]) (fun g => l.length - g.1) (0, .slice none 0 0, []) ⟨Nat.zero_le _, by simp⟩ alT (fun w hs => hs) ?_
 rintro ⟨k, vs, xs⟩ ⟨hk, hx⟩
 try simp only at hk hx ⊢
 have hxl : xs.length = k := by
  have := congrArg List.length hx
  simp at this; omega
 refine ZE ?_
 refine cdy ?_ ?_
 ·intro ht9
  refine Gl ?_
  refine JC.open1 (xs := l) (v := v0) k mm (by omega) (fun hwE u => ?_)
  refine JC.know (p := u.oneCell' = true) (fun w hs => isSlice.one (hs.fact (.tail _ (.head _)))) (fun honeu => ?_)
  refine ZA ?_
  refine al_ (cs := zEC) Try.zeroValue80 ?_; intro b5
  refine s_B (cs := Entry.cells u (l.getD k A1)) Try.sizeOf80 ?_
  refine ZK ?_
  refine Ao Try.call91 rfl (fun w hs => Zu (xs := (l.getD k A1).last) hs mm) ?_; intro v14
  refine J.know (p := v14.oneCell' = true) (fun w hs => Cn .hd hs) (fun honev => ?_)
  refine ZG ?_
  refine ZK ?_
  refine li (α := EV) [⟨(l.getD k A1), v14⟩] Wm rfl (fun j hj => ⟨⟨_, rfl, rfl, hwE, honev⟩, trivial⟩) ?_; intro v18
  refine ap Wm (hb := fun w hs => by have : maxN = 16777216 := rfl; simp only [List.length_cons, List.length_nil]; omega) (k := ?_); intro v19
  refine ZH ?_
  refine Bb (k + 1, v19, xs ++ [⟨(l.getD k A1), v14⟩]) ⟨by show k + 1 ≤ l.length; omega, by rw [List.map_append, hx, G7 A1 (by omega)]; rfl⟩ (by show l.length - (k + 1) < l.length - k; omega) alT (fun w hs => ?_)
  try simp only
  have h9 : St (row 80 v19 (xs ++ [⟨(l.getD k A1), v14⟩]) :: row 3 v14 (l.getD k A1).last :: (xs.map Jo ++ L)) R w := Ai hs
  refine h9.perm (.cons _ ?_)
  rw [List.map_append, List.append_assoc]
  exact List.perm_middle.symm
 ·intro ht9
  refine ZD ?_
  have hkl : k = l.length := by omega
  rw [hkl, List.take_length] at hx
  exact Co (vs, xs) (hs := fun w hs => St.pr hx (Ai hs))
theorem Uq {v0 : Value} {l : List Entry} (hs : St (L) R w) (h0 : sl v0 l ∈ R) : Calls Try.prog 60 [v0].toArray w (Bw (fun v : Value => v) (fun _ => L) (fun v => sl v l :: R)) :=
 Ho (H0 hs h0) (fun g w' hs' => ⟨g.1, rfl, by
  have h1 : g.2.map EV.e = l := Hh (.head _) hs'
  have h2 := Nn hs'
  rw [h1] at h2
  exact h2.sub .refl (fun f hf => by
   rcases List.mem_cons.1 hf with e | e
   ·exact List.mem_cons.2 (.inl e)
   ·exact List.mem_cons.2 (.inr (.tail _ e)))⟩)
def J8 (s : Int) : Int := if s = 0 then 0 else if s < 2 then 1 else if s < 4 then 2 else if s < 8 then 3 else 4
theorem q_ixS {P : Program} {n : Nat} {L : List Chunk} {R : List Fact} {al : List (Nat × Value)} {d : Nat} {x y : Operand} {T ty : TypeId} {pos : String} {aft : Array Edge} {s : ByteArray} {k : IntKind} {i : Int} {b : UInt8} (ht : P.underlying T = some .string) (hx : ev n al x = some (.string s)) (hy : ev n al y = some (.int k i)) (h0 : 0 ≤ i) (hb : s[i.toNat]? = some b) : A4 P n al L R ⟨some d, .index T x y, ty, pos, aft, none⟩ (vb b) :=
 ⟨rfl, fun ρ w h _ => by
  show (Instr.index T (ρ x) (ρ y) >>= fun v => Pure.pure (Next.value v)).run P w = _
  rw [h x (by simp [Op.operands]) _ hx, h y (by simp [Op.operands]) _ hy]
  simp [Instr.index, asIntOf, Dl ht, h0, hb]⟩
theorem len64 {s : Int} (hs : St (L) R w) (h0 : 0 ≤ s) (h1 : s < 16) : Calls Try.prog 114 [.int .u64 s].toArray w (Bw (fun _ : Unit => vi (J8 s)) (fun _ => L) (fun _ => R)) := by
 refine Aj Try.func114 rfl Try.ntmps114 rfl hs ?_
 clear hs
 refine ZL ?_
 refine rn1 ?_
 refine Dm ?_
 refine Gmc ?_
 refine rn1 ?_
 refine Dm ?_
 refine Gmc ?_
 refine rn1 ?_
 refine Dm ?_
 refine Gmc ?_
 refine rn2 ?_
 refine ob (Ar (v := .int .u8 s) Try.underlying162 Try.underlying5 rfl (by rcases (show s = 0 ∨ s = 1 ∨ s = 2 ∨ s = 3 ∨ s = 4 ∨ s = 5 ∨ s = 6 ∨ s = 7 ∨ s = 8 ∨ s = 9 ∨ s = 10 ∨ s = 11 ∨ s = 12 ∨ s = 13 ∨ s = 14 ∨ s = 15 by omega) with h | h | h | h | h | h | h | h | h | h | h | h | h | h | h | h <;> subst h <;> rfl)) ?_
 refine ob (q_ixS (b := u8 (J8 s)) Try.underlying9 rfl rfl h0 (by rcases (show s = 0 ∨ s = 1 ∨ s = 2 ∨ s = 3 ∨ s = 4 ∨ s = 5 ∨ s = 6 ∨ s = 7 ∨ s = 8 ∨ s = 9 ∨ s = 10 ∨ s = 11 ∨ s = 12 ∨ s = 13 ∨ s = 14 ∨ s = 15 by omega) with h | h | h | h | h | h | h | h | h | h | h | h | h | h | h | h <;> subst h <;> kernel_rfl)) ?_
 refine ob (Ar (v := vi (J8 s)) Try.underlying5 Try.underlying3 rfl (by rcases (show s = 0 ∨ s = 1 ∨ s = 2 ∨ s = 3 ∨ s = 4 ∨ s = 5 ∨ s = 6 ∨ s = 7 ∨ s = 8 ∨ s = 9 ∨ s = 10 ∨ s = 11 ∨ s = 12 ∨ s = 13 ∨ s = 14 ∨ s = 15 by omega) with h | h | h | h | h | h | h | h | h | h | h | h | h | h | h | h <;> subst h <;> rfl)) ?_
 refine ob (Gc (a := 0) (b := J8 s) (by exact rfl) (by exact rfl) (by unfold J8; omega) (by unfold J8; omega)) ?_
 rw [Int.zero_add]
 refine Ga1 ?_
 exact Co ()
theorem Akd {s : Int} (hs : St (L) R w) (h0 : 0 ≤ s) (h1 : s < 16) : Calls Try.prog 112 [.int .u64 s].toArray w (Bw (fun _ : Unit => vi (J8 s)) (fun _ => L) (fun _ => R)) := by
 refine Aj Try.func112 rfl Try.ntmps112 rfl hs ?_
 clear hs
 refine Gm ?_
 refine Gd1 ?_
 refine rn1 ?_
 refine Ao Try.call114 rfl (fun w hs => len64 hs h0 h1) ?_; intro _
 refine Ga1 ?_
 exact Co ()
section
variable {P : Program} {n : Nat} {Q : Exit → Act → World → Prop} {Sh : Rho → (Nat → Bool) → List Chunk} {R0 : List Fact} {al0 : List (Nat × Value)}
variable {ops : Array Oper} {i : Nat} {rest : List Oper} {its : List Item} {d : Nat} {x y : Operand} {T ty : TypeId} {pos : String} {aft : Array Edge}
theorem Y4 {γ : Type} [Gh γ] {val : γ → Value} {F : γ → List Fact} {C : γ → List Chunk} {f : FuncId} {args : List Operand} {ts : Array TypeId} {vs : Rho → List Value} (hf : ∀ args w, (callFunc f args).run P w = .ok (.enter f args) w)
  (ha : ∀ ρ, evL n (El its al0 ρ) args = some (vs ρ)) (hc : ∀ ρ L' R' w, Deps ops R0 its i ρ R' → St L' R' w → Calls P f (vs ρ).toArray w (Bw val (fun g => C g ++ L') (fun g => F g ++ R'))) (hSh : J7 ops Sh i)
  (k : DJ P n ops Q Sh R0 al0 (i + 1) rest (⟨i, some d, fun ρ => val (Gh.dec (ρ i)), fun ρ => F (Gh.dec (ρ i)), fun ρ => C (Gh.dec (ρ i))⟩ :: its)) :
  DJ P n ops Q Sh R0 al0 i (⟨some d, .call { callee := .value (.func f), args := args.toArray, argTypes := ts }, ty, pos, aft, none⟩ :: rest) its :=
 Adl (C := C) rfl rfl hSh (fun ρ S a L' R' w K h hK => by
  unfold Oper.wp
  rw [Ko hf rfl, Oper.upon_enter, List.map_toArray, G1 h.agree (fun x hx => by simp [Op.operands, Call.operands, hx]) (ha ρ)]
  refine (hc ρ _ _ w ⟨h.base, h.deps⟩ h.st).mono ?_
  rintro e w' ⟨g, rfl, hs'⟩
  exact hK g w' hs') k
end
theorem Hd {u : Value} {c : Core} (hs : St (L) R w) (hu : sl u c.lines ∈ R) : Calls Try.prog 62 [.agg (c.cells u).toArray].toArray w (Bw (fun v : Value => .agg (Core.cells v c).toArray) (fun v => row 82 v c.lines :: L) (fun v => R)) := by
 refine Za2 ?_;intro hone0
 refine Aj Try.func62 rfl Try.ntmps62 rfl hs ?_
 clear hs
 refine Gm ?_
 refine bx ?_; intro b1
 refine al_ (cs := [.slice none 0 0, vi 0, vi 0, vi 0]) Try.zeroValue57 ?_; intro b2
 refine Gl ?_
 refine cq_ (blk b2 57 [.slice none 0 0, vi 0, vi 0, vi 0] :: blk b1 57 (c.cells u) :: L) ?_
 refine jd_ (fun ρ S => blk b2 57 (bif S 6 then [(Gh.dec (γ := Value) (ρ 2)), vi c.wait.kind, vi c.wait.line, vi c.wait.value] else [.slice none 0 0, vi 0, vi 0, vi 0]) :: blk b1 57 (c.cells u) :: L) ?_
 refine dn2 ?_
 refine Y4 (γ := Value) (val := fun v => v) (F := fun v => [pr (v.oneCell' = true)]) (C := fun v => [row 82 v c.lines]) Try.call93 (fun _ => rfl) (fun ρ L R w hd hs => Ho (Wz (xs := c.lines) hs (hd.base mm)) (fun v w hs => ⟨v, rfl, St.pr (Cn .hd hs) hs⟩)) (fun ρ g S hS hA => by have u6 : upS S 2 6 = S 6 := rfl; have h6 : S 6 = false := hA 6 ⟨0, rfl⟩; simp only [u6, h6, cond_false]) ?_
 refine dn2 ?_
 refine e_pd (v := fun ρ => .agg ([(Gh.dec (γ := Value) (ρ 2)), vi c.wait.kind, vi c.wait.line, vi c.wait.value]).toArray) (fun ρ S R' L' w hd hs => by have h1 : ((Gh.dec (γ := Value) (ρ 2))).oneCell' = true := hs.fact (hd.dep (it := ⟨2, _, _, _, _⟩) (by repeat (first | exact List.Mem.head _ | refine List.Mem.tail _ ?_)) ⟨9, rfl⟩ (List.Mem.head _)); exact Fn Ht) (Ind.gh (h := fun g => Value.agg ([(Gh.dec (γ := Value) g), vi c.wait.kind, vi c.wait.line, vi c.wait.value]).toArray) 2 3 rfl) (fun _ _ _ _ _ => rfl) ?_
 refine es_ 57 0 [] [] (fun ρ => b2) (fun ρ => [.slice none 0 0, vi 0, vi 0, vi 0]) (fun ρ => [(Gh.dec (γ := Value) (ρ 2)), vi c.wait.kind, vi c.wait.line, vi c.wait.value]) Try.sizeOf57 (h1 := (fun ρ R w L' hd hs => Bi (hs.fact (hd.dep (it := ⟨2, _, _, _, _⟩) (by repeat (first | exact List.Mem.head _ | refine List.Mem.tail _ ?_)) ⟨9, rfl⟩ (List.Mem.head _)) : ((Gh.dec (γ := Value) (ρ 2))).oneCell' = true) (by repeat (first | exact D7 | refine Bi rfl ?_)))) ?_
 refine dnl ?_; intro ρ
 refine JX.conseq (L' := row 82 (Gh.dec (γ := Value) (ρ 2)) c.lines :: blk b2 57 [(Gh.dec (γ := Value) (ρ 2)), vi c.wait.kind, vi c.wait.line, vi c.wait.value] :: blk b1 57 (c.cells u) :: L) (fun w hs => Ai hs) ?_
 generalize (Gh.dec (γ := Value) (ρ 2)) = v5
 refine Gl ?_
 exact N7 v5 Try.isAgg57 Try.sizeOf57
theorem Fu {LX : List Chunk} {R : List Fact} {w : World} {vL vo vd : Value} {bk : Nat} {q : Op} {id home : Int} {ms : List Msg} {kind line serial turn value : Int} (hs : St (blk bk 120 [vL, vi q.kind, vi q.line, vi q.value, vi id, vi home, vo, vd] :: row 49 vo ms :: LX) R w) (hn : ms.length ≤ 1000) (hwf : (⟨kind, id, home, line, serial, turn, value, false⟩ : Msg).wf) : Calls Try.prog 104 [bp bk 0, vi kind, vi line, vi serial, vi turn, vi value].toArray w (Bw (fun v : Value => .tuple #[]) (fun v => blk bk 120 [vL, vi q.kind, vi q.line, vi q.value, vi id, vi home, v, vd] :: row 49 v (ms ++ [(⟨kind, id, home, line, serial, turn, value, false⟩ : Msg)]) :: LX) (fun v => R)) := by
 refine Aj Try.func104 rfl Try.ntmps104 rfl hs ?_
 clear hs
 refine cq_ (blk bk 120 [vL, vi q.kind, vi q.line, vi q.value, vi id, vi home, vo, vd] :: row 49 vo ms :: LX) ?_
 refine jd_ (fun ρ S => blk bk 120 (bif S 23 then [vL, vi q.kind, vi q.line, vi q.value, vi id, vi home, (Gh.dec (γ := Value) (ρ 20)), vd] else [vL, vi q.kind, vi q.line, vi q.value, vi id, vi home, vo, vd]) :: (bif S 20 then row 49 (Gh.dec (γ := Value) (ρ 20)) (ms ++ [(⟨kind, id, home, line, serial, turn, value, false⟩ : Msg)]) else row 49 vo ms) :: (LX)) ?_
 refine dn4 ?_
 refine Ig (v := vo) (fun ρ S hS hB hA => by have h23 : S 23 = false := hA 23 ⟨0, rfl⟩; simp only [h23, cond_false]; exact C3 (hc := A0 pkk (by repeat (first | exact rfl | refine Dd rfl ?_))) Try.isAgg86) (fun _ _ _ _ _ => rfl) ?_
 refine dn4 ?_
 refine Ig (v := vi id) (fun ρ S hS hB hA => by have h23 : S 23 = false := hA 23 ⟨0, rfl⟩; simp only [h23, cond_false]; exact C3 (hc := A0 pkk (by repeat (first | exact rfl | refine Dd rfl ?_))) Try.isAgg3) (fun _ _ _ _ _ => rfl) ?_
 refine dn3 ?_
 refine Ig (v := vi home) (fun ρ S hS hB hA => by have h23 : S 23 = false := hA 23 ⟨0, rfl⟩; simp only [h23, cond_false]; exact C3 (hc := A0 pkk (by repeat (first | exact rfl | refine Dd rfl ?_))) Try.isAgg3) (fun _ _ _ _ _ => rfl) ?_
 refine dn4 ?_
 first | refine epc (fun _ _ => Eo Ec) ?_ | refine epc (fun _ _ => Fn Ec) ?_ | refine epp (fun _ _ => Eo Ec) ?_ | refine epp (fun _ _ => Fn Ec) ?_
 refine Fz ([(⟨kind, id, home, line, serial, turn, value, false⟩ : Msg)] : List Msg) Fy rfl (fun _ => rfl) rfl (fun _ => rfl) rfl rfl (fun ρ R hd => Is hwf) (fun _ _ _ _ _ => rfl) ?_
 refine F9 (e := 49) (xs := ms) (ys := [(⟨kind, id, home, line, serial, turn, value, false⟩ : Msg)]) (v := vo) Fy (fun _ => rfl) (fun _ => rfl) rfl (by decide) (fun ρ R hd => (hd.dep (it := ⟨19, _, _, _, _⟩) (by repeat (first | exact List.Mem.head _ | refine List.Mem.tail _ ?_)) ⟨9, rfl⟩ (List.Mem.head _))) (by have : maxN = 16777216 := rfl; simp only [List.length_cons, List.length_nil]; omega) (fun ρ g S hS hB hA => ?_) ?_
 ·have ui : upS S 20 20 = true := rfl; have u23 : upS S 20 23 = S 23 := rfl; have h23 : S 23 = false := hA 23 ⟨0, rfl⟩; have rs : (Gh.dec (γ := Value) (Rho.set ρ 20 (Gh.enc g) 20)) = g := rfl
  simp only [ui, hS, u23, h23, rs, cond_true, cond_false]
  exact pex
 refine dn2 ?_
 refine Eu (T0 := 120) (f := 6) (vs := fun ρ => [vL, vi q.kind, vi q.line, vi q.value, vi id, vi home, vo, vd]) (v := fun ρ => (Gh.dec (γ := Value) (ρ 20))) (fun ρ => bk) Try.sizeOf86 (fun _ => rfl) (fun _ => rfl) (fun ρ S R w L9 hB hd hs => by have h20 : S 20 = true := hB 20 ⟨9, rfl⟩; simp only [h20, cond_true] at hs; exact Cn pkk hs) (fun _ => rfl) (fun ρ g S hS hB hA => ?_) ?_
 ·have ui : upS S 23 23 = true := rfl; have u20 : upS S 23 20 = S 20 := rfl; have r20 : Rho.set ρ 23 g 20 = ρ 20 := rfl
  simp only [ui, hS, u20, r20, cond_true, cond_false]
  exact pex
 refine dnl ?_; intro ρ
 refine xq_ (blk bk 120 [vL, vi q.kind, vi q.line, vi q.value, vi id, vi home, (Gh.dec (γ := Value) (ρ 20)), vd] :: row 49 (Gh.dec (γ := Value) (ρ 20)) (ms ++ [(⟨kind, id, home, line, serial, turn, value, false⟩ : Msg)]) :: (LX)) ?_
 generalize (Gh.dec (γ := Value) (ρ 19)) = v31
 generalize (Gh.dec (γ := Value) (ρ 20)) = v32
 refine Bf (.inl rfl) (fun B w hs => Im rfl _ w) (fun w hs => ⟨v32, rfl, Ai hs⟩)
theorem L6 {P : Program} {n : Nat} {Q : Exit → Act → World → Prop} {L : List Chunk} {R : List Fact} {al : List (Nat × Value)} {cd : Code} {v : Value} {x : Chip} (p : Nat) (hm : sl v x.cores ∈ R) (hp : p < x.cores.length) (k : (cor x p).wait.wf → ∀ u, u.oneCell' = true → JC P n cd Q L (cF v 4 p (Core.cells u (cor x p)) :: sl u (cor x p).lines :: R) al) : JC P n cd Q L R al :=
 JC.open1 p hm hp fun hw u => JC.know (p := u.oneCell' = true) (fun w hs => isSlice.one (hs.fact (.tail _ (.head _)))) (k hw u)
theorem Ue {P : Program} {n : Nat} {Q : Exit → Act → World → Prop} {L : List Chunk} {R : List Fact} {al : List (Nat × Value)} {cd : Code} {v : Value} {x : Chip} (i : Nat) (hm : sl v x.home ∈ R) (hi : i < x.home.length) (k : (ent x i).wf → ∀ u, u.oneCell' = true → JC P n cd Q L (cF v 10 i (Entry.cells u (ent x i)) :: sl u (ent x i).last :: R) al) : JC P n cd Q L R al :=
 JC.open1 i hm hi fun hw u => JC.know (p := u.oneCell' = true) (fun w hs => isSlice.one (hs.fact (.tail _ (.head _)))) (k hw u)
section
variable {P : Program} {n : Nat} {Q : Exit → Act → World → Prop} {Sh : Rho → (Nat → Bool) → List Chunk} {R0 : List Fact} {al0 : List (Nat × Value)}
variable {ops : Array Oper} {i : Nat} {rest : List Oper} {its : List Item} {d : Nat} {x y : Operand} {T ty : TypeId} {pos : String} {aft : Array Edge}
theorem Y5 {α : Type} [Enc α] {t e : TypeId} {d sz bytes : Nat} {z : Value} {xs : List α} {ys : Rho → List α} {v : Value} {u : Rho → Value} (he : ElemOf P t e sz z bytes) (hx : ∀ ρ, ev n (El its al0 ρ) x = some v) (hy : ∀ ρ, ev n (El its al0 ρ) y = some (u ρ)) (hsz : Enc.sz α = sz) (hpos : 0 < sz)
  (hm : ∀ ρ R', Deps ops R0 its i ρ R' → sl (u ρ) (ys ρ) ∈ R') (hb : ∀ ρ, xs.length + (ys ρ).length ≤ maxN)
  (hSh : ∀ ρ (g : Value) S, S i = false → (∀ j, Bef ops j i → S j = true) → (∀ j, Bef ops i j → S j = false) → ∃ L1, (Sh ρ S).Perm (row e v xs :: L1) ∧ (Sh (Rho.set ρ i (Gh.enc g)) (upS S i)).Perm (row e g (xs ++ ys ρ) :: L1))
  (k : DJ P n ops Q Sh R0 al0 (i + 1) rest (⟨i, some d, fun ρ => (Gh.dec (ρ i) : Value), fun _ => [], fun _ => []⟩ :: its)) :
  DJ P n ops Q Sh R0 al0 i (⟨some d, .call { callee := .builtin .append, args := #[x, y], argTypes := #[t, t] }, ty, pos, aft, none⟩ :: rest) its := by
 refine dj ⟨⟨i, some d, fun ρ => (Gh.dec (ρ i) : Value), fun _ => [], fun _ => []⟩, rfl, rfl, Ind.self (h := fun g => (Gh.dec g : Value)), Ind.const _, Ind.const _, ?_, k⟩
 intro ρ S a L' R' w K hS hbef haft hag hdep hbase hst hK
 rw [if_pos (by simp [Region.wanted])]
 left
 unfold Oper.wp
 obtain ⟨L1, p1, _⟩ := hSh ρ undef S hS hbef haft
 have hs' : St (row e v xs :: (L1 ++ L')) R' w := hst.perm (p1.append_right L')
 obtain ⟨v', w', h1, h2⟩ := Lj (ty := ty) he hsz hpos hs' (hm ρ R' ⟨hbase, hdep⟩) (hb ρ)
 have hx' := Cx hag (by simp [Op.operands, Call.operands]) (hx ρ)
 have hy' := Cx hag (by simp [Op.operands, Call.operands]) (hy ρ)
 rw [Gx (w' := w') (v := v') (by rw [hx', hy']; exact h1), Oper.upon_value]
 obtain ⟨L2, q1, q2⟩ := hSh ρ v' S hS hbef haft
 have e2 : (Rho.set ρ i (Gh.enc v')) i = Gh.enc v' := by simp [Rho.set]
 have h3 := h2
 have hL : L1.Perm L2 := (List.perm_cons _).1 (p1.symm.trans q1)
 have := hK (Gh.enc v') w' ((h3.perm ((hL.append_right L').cons _)).perm (by
  refine List.Perm.trans ?_ (q2.symm.append_right L')
  exact List.Perm.refl _))
 simp only [e2, Gh.ok] at this
 exact this
theorem e_litR {α : Type} [Enc α] {t el : TypeId} {sz bytes len : Nat} {z : Value} {parts : List (Nat × Operand)} {vs : Rho → List Value} (xs : Rho → List α) (he : ElemOf P t el sz z bytes) (hsz : Enc.sz α = sz)
  (ha : ∀ ρ, evL n (El its al0 ρ) (parts.map (·.2)) = some (vs ρ)) (hidx : parts.map (·.1) = List.range' 0 len) (hlv : ∀ ρ, (vs ρ).length = len) (hsmall : Nat.ble (len * sz) 1000 = true) (hsm2 : Nat.ble len 1000 = true)
  (hrd : ∀ ρ R', Deps ops R0 its i ρ R' → ∀ j, (∀ q ∈ R', q.p j) → RdV (xs ρ) (vs ρ) j) (hxi : Ind ops i xs) (hxs : ∀ ρ g, xs (Rho.set ρ i g) = xs ρ) (hSh : J7 ops Sh i)
  (k : DJ P n ops Q Sh R0 al0 (i + 1) rest (⟨i, some d, fun ρ => (Gh.dec (ρ i) : Value), fun ρ => [sl (Gh.dec (ρ i) : Value) (xs ρ)], fun _ => []⟩ :: its)) :
  DJ P n ops Q Sh R0 al0 i (⟨some d, .buildSlice t len parts.toArray, ty, pos, aft, none⟩ :: rest) its := by
 refine dj ⟨⟨i, some d, fun ρ => (Gh.dec (ρ i) : Value), fun ρ => [sl (Gh.dec (ρ i) : Value) (xs ρ)], fun _ => []⟩, rfl, rfl, Ind.self (h := fun g => (Gh.dec g : Value)), (fun q g ρ hq hn => ?_), Ind.const _, ?_, k⟩
 ·show [sl (Gh.dec ((Rho.set ρ q g) i) : Value) (xs (Rho.set ρ q g))] = [sl (Gh.dec (ρ i) : Value) (xs ρ)]
  rw [hxi q g ρ hq hn]; simp [Rho.set, Ne.symm hq]
 intro ρ S ac L' R' w K hS hbef haft hag hdep hbase hst hK
 rw [if_pos (by simp [Region.wanted])]
 left
 obtain ⟨j, hj, hrj⟩ := hst.ex
 have hrd' := hrd ρ R' ⟨hbase, hdep⟩
 obtain ⟨h1, h2, h3⟩ := (hrd' j hrj).list
 have hlen := hlv ρ
 have hb := Nat.le_of_ble_eq_true hsmall
 have hb2 := Nat.le_of_ble_eq_true hsm2
 have hrun := G8 (vs := vs ρ) he (fun v hv => by rw [h2 v hv, hsz]) (by rw [hlen]; exact hb) w
 have e : (execOp ac.eval ⟨some d, .buildSlice t len parts.toArray, ty, pos, aft, none⟩).run P w = .ok (.value (.slice (some ⟨w.heap.size, 0, none⟩) len len)) (w.alloc (.cells ((vs ρ).flatMap fun v => v.cells.toList).toArray el)) := by
  show (Instr.buildSlice t len (parts.toArray.map fun (i, x) => (i, ac.eval x)) >>= fun v => Pure.pure (Next.value v)).run P w = _
  have hp : (parts.toArray.map fun (i, x) => (i, ac.eval x)) = ((parts.map (·.1)).zip (vs ρ)).toArray := by
   rw [← G1 hag (fun x hx => by simpa [Op.operands] using hx) (ha ρ)]
   simp only [List.map_toArray, List.map_map, List.zip_map', Function.comp_def]
  rw [hp, hidx, Sem.run_bind, ← hlen, hrun]; rfl
 unfold Oper.wp
 rw [e, Oper.upon_value]
 obtain ⟨m, j', hd, hmw, hjw, hst', hr⟩ := hst
 have hnew : St (row el (.slice (some ⟨w.heap.size, 0, none⟩) len len) (xs ρ) :: (Sh ρ S ++ L')) R' (w.alloc (.cells ((vs ρ).flatMap fun v => v.cells.toList).toArray el)) := by
  obtain ⟨g1, g2, g3⟩ := (hrd' j' hr).list
  have hcl : ((vs ρ).flatMap fun v => v.cells.toList).length = len * sz := by rw [g3.len, g1, hlen, hsz]
  exact St.newC hd hmw hjw hst' hr rfl rfl rfl ⟨by rw [g1, hlen]; have : maxN = 16777216 := rfl; omega, .inr ⟨w.heap.size, len, _, _, by rw [g1, hlen], E0 _ _, by rw [g1, hlen]; exact Nat.le_refl _, by unfold maxLen; omega, by rw [hsz]; simpa using hcl, rfl, by
   rw [g1, hlen, hsz, ← hcl, List.toList_toArray, List.take_length]; exact g3⟩⟩
 have e2 : (Rho.set ρ i (Gh.enc (Value.slice (some ⟨w.heap.size, 0, none⟩) len len))) i = Gh.enc (Value.slice (some ⟨w.heap.size, 0, none⟩) len len) := by simp [Rho.set]
 have := hK (Gh.enc (Value.slice (some ⟨w.heap.size, 0, none⟩) len len)) (w.alloc (.cells ((vs ρ).flatMap fun v => v.cells.toList).toArray el))
 simp only [e2, Gh.ok, hxs, hSh ρ _ S hS haft] at this
 exact this hnew.shut
end
structure KV where
 c : Core
 u : Value
instance instEncKV : Enc KV where
 sz := 4
 rd x cs _ := cs = x.c.cells x.u ∧ x.c.wait.wf ∧ x.u.oneCell' = true
 mono _ _ _ _ _ h := h
 len x cs _ h := by rw [h.1]; rfl
 one x cs _ h := by have := h.2.2; rw [h.1]; simp [Core.cells] at this ⊢; refine ⟨this, ?_⟩; simp [Value.oneCell']
def Aaf (x : KV) : Chunk := row 82 x.u x.c.lines
def linF (x : KV) : Fact := sl x.u x.c.lines
theorem Rg {L : List Chunk} {w : World} : ∀ (l : List KV) {R : List Fact}, St (l.map Aaf ++ L) R w → St L (l.map linF ++ R) w
 | [], _, hs => hs
 | x :: l, R, hs => by
  have h1 : St (row 82 x.u x.c.lines :: (l.map Aaf ++ L)) R w := hs
  have h2 := Rg l h1.shut
  exact h2.sub .refl (fun f hf => by
   simp only [List.map_cons, List.cons_append, List.mem_append, List.mem_cons] at hf ⊢
   rcases hf with e | e | e
   ·exact .inr (.inl e)
   ·exact .inl e
   ·exact .inr (.inr e))
theorem Vs {T : TypeId} {v : Value} {l : List KV} (hf : ∀ x ∈ l, linF x ∈ R) (hs : St (row T v l :: L) R w) : St (row T v (l.map KV.c) :: L) R w := by
 obtain ⟨m, j, hd, hm, hj, ⟨m1, m2, hd', h1, h2, hc, hst⟩, hr⟩ := hs
 obtain ⟨rs, r1, r2, r3⟩ := K0 hc
 refine ⟨m, j, hd, hm, hj, ⟨m1, m2, hd', h1, h2, S1 (xs := l.map KV.c) (rs := rs) r1 (by rw [r2]; simp) (fun k e r he hkr => ?_), hst⟩, hr⟩
 exact Zfd
theorem Ajt {cv hv fv : Value} {x : Chip} (hs : St (L) R w) (hcv : sl cv x.cores ∈ R) (hhv : sl hv x.home ∈ R) (hfv : sl fv x.frames ∈ R) (hn4 : x.cores.length ≤ 1000) : Calls Try.prog 22 [.agg #[cv, hv, fv]].toArray w (Bw (fun g : Value × Value × Value × List KV => .agg #[g.1, g.2.1, g.2.2.1]) (fun g => row 57 g.1 g.2.2.2 :: (g.2.2.2.map Aaf ++ L)) (fun g => pr (g.2.2.2.map KV.c = x.cores) :: sl g.2.2.1 x.frames :: sl g.2.1 x.home :: R)) := by
 refine Zbr ?_;intro honec honeh honef
 refine Aj Try.func22 rfl Try.ntmps22 rfl hs ?_
 clear hs
 refine ZbE ?_;intro b1 b2
 refine Gl ?_
 refine cq_ (blk b2 33 [.slice none 0 0, .slice none 0 0, .slice none 0 0] :: blk b1 33 [cv, hv, fv] :: L) ?_
 refine jd_ (fun ρ S => blk b2 33 [.slice none 0 0, .slice none 0 0, .slice none 0 0] :: blk b1 33 [cv, hv, fv] :: ((bif S 7 then [blk (Gh.dec (γ := Nat) (ρ 7)) 33 (bif S 8 then [.slice none 0 0, (Gh.dec (γ := Value) (ρ 2)), (Gh.dec (γ := Value) (ρ 5))] else [.slice none 0 0, .slice none 0 0, .slice none 0 0])] else []) ++ (L))) ?_
 refine dn2 ?_
 refine Bt (γ := Value) (val := fun v => v) (F := fun v => [sl v x.home]) Try.call60 (fun _ => rfl) (fun ρ L R w hd hs => Uq (l := x.home) hs (hd.base mm)) (fun ρ g S hS hA => by have u7 : upS S 2 7 = S 7 := rfl; have u8 : upS S 2 8 = S 8 := rfl; have r5 : Rho.set ρ 2 g 5 = ρ 5 := rfl; have r7 : Rho.set ρ 2 g 7 = ρ 7 := rfl; have h8 : S 8 = false := hA 8 ⟨0, rfl⟩; simp only [u7, u8, r5, r7, h8, cond_false]) ?_
 refine dn2 ?_
 refine Bt (γ := Value) (val := fun v => v) (F := fun v => [sl v x.frames]) Try.call61 (fun _ => rfl) (fun ρ L R w hd hs => frz (Uk (l := x.frames) hs (hd.base mm))) (fun ρ g S hS hA => by have u7 : upS S 5 7 = S 7 := rfl; have u8 : upS S 5 8 = S 8 := rfl; have r2 : Rho.set ρ 5 g 2 = ρ 2 := rfl; have r7 : Rho.set ρ 5 g 7 = ρ 7 := rfl; have h8 : S 8 = false := hA 8 ⟨0, rfl⟩; simp only [u7, u8, r2, r7, h8, cond_false]) ?_
 refine e_pd (v := fun ρ => .agg ([.slice none 0 0, (Gh.dec (γ := Value) (ρ 2)), (Gh.dec (γ := Value) (ρ 5))]).toArray) (fun ρ S R' L' w hd hs => by have h1 : ((Gh.dec (γ := Value) (ρ 2))).oneCell' = true := isSlice.one (hs.fact (hd.dep (it := ⟨2, _, _, _, _⟩) (by repeat (first | exact List.Mem.head _ | refine List.Mem.tail _ ?_)) ⟨9, rfl⟩ (List.Mem.head _))); have h2 : ((Gh.dec (γ := Value) (ρ 5))).oneCell' = true := isSlice.one (hs.fact (hd.dep (it := ⟨5, _, _, _, _⟩) (by repeat (first | exact List.Mem.head _ | refine List.Mem.tail _ ?_)) ⟨9, rfl⟩ (List.Mem.head _))); exact Fn Jn) (Ind.gh2 (h := fun g g' => Value.agg ([.slice none 0 0, (Gh.dec (γ := Value) g), (Gh.dec (γ := Value) g')]).toArray) 2 5 3 rfl rfl) (fun _ _ _ _ _ => rfl) ?_
 refine J4 (cs := [.slice none 0 0, .slice none 0 0, .slice none 0 0]) Try.zeroValue33 rfl (fun ρ b S hS hA => ?_) ?_
 ·have ui : upS S 7 7 = true := rfl; have u8 : upS S 7 8 = S 8 := rfl; have r2 : Rho.set ρ 7 (Gh.enc b) 2 = ρ 2 := rfl; have r5 : Rho.set ρ 7 (Gh.enc b) 5 = ρ 5 := rfl; have h8 : S 8 = false := hA 8 ⟨0, rfl⟩; have rs : (Gh.dec (γ := Nat) (Rho.set ρ 7 (Gh.enc b) 7)) = b := rfl
  simp only [ui, hS, u8, r2, r5, h8, rs, cond_true, cond_false, List.nil_append]
  exact ZeM
 refine es_ 33 0 [7] [] (fun ρ => (Gh.dec (γ := Nat) (ρ 7))) (fun ρ => [.slice none 0 0, .slice none 0 0, .slice none 0 0]) (fun ρ => [.slice none 0 0, (Gh.dec (γ := Value) (ρ 2)), (Gh.dec (γ := Value) (ρ 5))]) Try.sizeOf33 (h1 := (fun ρ R w L' hd hs => Bi rfl (Bi (isSlice.one (hs.fact (hd.dep (it := ⟨2, _, _, _, _⟩) (by repeat (first | exact List.Mem.head _ | refine List.Mem.tail _ ?_)) ⟨9, rfl⟩ (List.Mem.head _)))) (Bi (isSlice.one (hs.fact (hd.dep (it := ⟨5, _, _, _, _⟩) (by repeat (first | exact List.Mem.head _ | refine List.Mem.tail _ ?_)) ⟨9, rfl⟩ (List.Mem.head _)))) D7)))) ?_
 refine dnl ?_; intro ρ
 refine xq_ (blk b2 33 [.slice none 0 0, .slice none 0 0, .slice none 0 0] :: blk b1 33 [cv, hv, fv] :: (blk (Gh.dec (γ := Nat) (ρ 7)) 33 [.slice none 0 0, (Gh.dec (γ := Value) (ρ 2)), (Gh.dec (γ := Value) (ρ 5))] :: L)) ?_
 generalize (Gh.dec (γ := Value) (ρ 2)) = v8
 generalize (Gh.dec (γ := Value) (ρ 5)) = v11
 generalize (Gh.dec (γ := Nat) (ρ 7)) = b3
 refine Gm ?_
 refine Ga4 ?_
 refine JC.rowNil 57 KV ?_
 refine Bx (γ := Nat × Value × List KV) (fun g => g.1 ≤ x.cores.length ∧ g.2.2.map KV.c = x.cores.take g.1) (fun g => row 57 g.2.1 g.2.2 :: blk b3 33 [g.2.1, v8, v11] :: blk b2 33 [.slice none 0 0, .slice none 0 0, .slice none 0 0] :: blk b1 33 [cv, hv, fv] :: (g.2.2.map Aaf ++ L)) (fun _ => sl v11 x.frames :: sl v8 x.home :: R) (fun g => [(2, bp b2 0), (3, bp b3 0), (14, cv), (15, vi (x.cores.length : Int)), (16, vi (g.1 : Int))]) (fun g => x.cores.length - g.1) (0, .slice none 0 0, []) ⟨Nat.zero_le _, by simp⟩ alT (fun w hs => Ai hs) ?_
 rintro ⟨k, vs, xs⟩ ⟨hk, hxc⟩
 try simp only at hk hxc ⊢
 have hxl : xs.length = k := by
  have := congrArg List.length hxc
  simp at this; omega
 refine ZE ?_
 refine cdy ?_ ?_
 ·intro ht17
  refine Gl ?_
  refine L6 k (v := cv) mm (by omega) (fun hwp up honep => ?_)
  refine ZA ?_
  refine al_ (cs := [.slice none 0 0, vi 0, vi 0, vi 0]) Try.zeroValue57 ?_; intro b5
  refine s_B (cs := Core.cells up (cor x k)) Try.sizeOf57 ?_
  refine Gl ?_
  refine cq_ (blk b3 33 [vs, v8, v11] :: row 57 vs xs :: blk b5 57 (Core.cells up (cor x k)) :: blk b2 33 [.slice none 0 0, .slice none 0 0, .slice none 0 0] :: blk b1 33 [cv, hv, fv] :: (xs.map Aaf ++ L)) ?_
  refine jd_ (fun ρ S => blk b3 33 (bif S 7 then [(Gh.dec (γ := Value) (ρ 5)), v8, v11] else [vs, v8, v11]) :: (bif S 5 then row 57 (Gh.dec (γ := Value) (ρ 5)) (xs ++ [(⟨cor x k, (Gh.dec (γ := Value) (ρ 3))⟩ : KV)]) else row 57 vs xs) :: blk b5 57 (Core.cells up (cor x k)) :: blk b2 33 [.slice none 0 0, .slice none 0 0, .slice none 0 0] :: blk b1 33 [cv, hv, fv] :: ((xs.map Aaf ++ L))) ?_
  refine dn1 ?_
  refine Ig (v := vs) (fun ρ S hS hB hA => by have h7 : S 7 = false := hA 7 ⟨0, rfl⟩; simp only [h7, cond_false]; exact C3 (hc := A0 pkk (by repeat (first | exact rfl | refine Dd rfl ?_))) Try.isAgg29) (fun _ _ _ _ _ => rfl) ?_
  refine dn1 ?_
  refine Y4 (γ := Value) (val := fun v => .agg (Core.cells v (cor x k)).toArray) (F := fun v => [pr (v.oneCell' = true)]) (C := fun v => [row 82 v (cor x k).lines]) Try.call62 (fun _ => rfl) (fun ρ L R w hd hs => Ho (Hd (u := up) (c := cor x k) hs (hd.base mm)) (fun v w hs => ⟨v, rfl, St.pr (Cn .hd hs) hs⟩)) (fun ρ g S hS hA => by have u5 : upS S 3 5 = S 5 := rfl; have u7 : upS S 3 7 = S 7 := rfl; have r5 : Rho.set ρ 3 g 5 = ρ 5 := rfl; have h5 : S 5 = false := hA 5 ⟨0, rfl⟩; simp only [u5, u7, r5, h5, cond_false]) ?_
  refine e_litR (fun ρ => [(⟨cor x k, (Gh.dec (γ := Value) (ρ 3))⟩ : KV)]) Wn rfl (fun _ => rfl) rfl (fun _ => rfl) rfl rfl (fun ρ R hd j hj => ⟨⟨_, rfl, rfl, hwp, hj (pr (((Gh.dec (γ := Value) (ρ 3))).oneCell' = true)) (hd.dep (it := ⟨3, _, _, _, _⟩) (by repeat (first | exact List.Mem.head _ | refine List.Mem.tail _ ?_)) ⟨9, rfl⟩ (List.Mem.head _))⟩, trivial⟩) (Ind.gh (h := fun g => [(⟨cor x k, Gh.dec (γ := Value) g⟩ : KV)]) 3 0 rfl) (fun _ _ => rfl) (fun _ _ _ _ _ => rfl) ?_
  refine Y5 (e := 57) (xs := xs) (ys := fun ρ => [(⟨cor x k, (Gh.dec (γ := Value) (ρ 3))⟩ : KV)]) (v := vs) Wn (fun _ => rfl) (fun _ => rfl) rfl (by decide) (fun ρ R hd => (hd.dep (it := ⟨4, _, _, _, _⟩) (by repeat (first | exact List.Mem.head _ | refine List.Mem.tail _ ?_)) ⟨9, rfl⟩ (List.Mem.head _))) (fun _ => by have : maxN = 16777216 := rfl; simp only [List.length_cons, List.length_nil]; omega) (fun ρ g S hS hB hA => ?_) ?_
  ·have ui : upS S 5 5 = true := rfl; have u7 : upS S 5 7 = S 7 := rfl; have r3 : Rho.set ρ 5 (Gh.enc g) 3 = ρ 3 := rfl; have h7 : S 7 = false := hA 7 ⟨0, rfl⟩; have rs : (Gh.dec (γ := Value) (Rho.set ρ 5 (Gh.enc g) 5)) = g := rfl
   simp only [ui, hS, u7, r3, h7, rs, cond_true, cond_false]
   exact pex
  refine dn1 ?_
  refine Eu (T0 := 33) (f := 0) (vs := fun ρ => [vs, v8, v11]) (v := fun ρ => (Gh.dec (γ := Value) (ρ 5))) (fun ρ => b3) Try.sizeOf29 (fun _ => rfl) (fun _ => rfl) (fun ρ S R w L9 hB hd hs => by have h5 : S 5 = true := hB 5 ⟨9, rfl⟩; simp only [h5, cond_true] at hs; exact Cn pkk hs) (fun _ => rfl) (fun ρ g S hS hB hA => ?_) ?_
  ·have ui : upS S 7 7 = true := rfl; have u5 : upS S 7 5 = S 5 := rfl; have r3 : Rho.set ρ 7 g 3 = ρ 3 := rfl; have r5 : Rho.set ρ 7 g 5 = ρ 5 := rfl
   simp only [ui, hS, u5, r3, r5, cond_true, cond_false]
   exact pex
  refine dnl ?_; intro ρ
  refine JX.conseq (L' := row 82 (Gh.dec (γ := Value) (ρ 3)) (cor x k).lines :: blk b3 33 [(Gh.dec (γ := Value) (ρ 5)), v8, v11] :: row 57 (Gh.dec (γ := Value) (ρ 5)) (xs ++ [(⟨cor x k, (Gh.dec (γ := Value) (ρ 3))⟩ : KV)]) :: blk b5 57 (Core.cells up (cor x k)) :: blk b2 33 [.slice none 0 0, .slice none 0 0, .slice none 0 0] :: blk b1 33 [cv, hv, fv] :: ((xs.map Aaf ++ L))) (fun w hs => Ai hs) ?_
  generalize (Gh.dec (γ := Value) (ρ 3)) = v23
  generalize (Gh.dec (γ := Value) (ρ 4)) = v24
  generalize (Gh.dec (γ := Value) (ρ 5)) = v25
  refine ZD ?_
  refine Bb (k + 1, v25, xs ++ [⟨cor x k, v23⟩]) ⟨by show k + 1 ≤ x.cores.length; omega, by rw [List.map_append, hxc, G7 E4 (by omega)]; rfl⟩ (by show x.cores.length - (k + 1) < x.cores.length - k; omega) alT (fun w hs => ?_)
  try simp only
  have h9 : St (row 57 v25 (xs ++ [⟨cor x k, v23⟩]) :: blk b3 33 [v25, v8, v11] :: blk b2 33 [.slice none 0 0, .slice none 0 0, .slice none 0 0] :: blk b1 33 [cv, hv, fv] :: row 82 v23 (cor x k).lines :: (xs.map Aaf ++ L)) (sl v11 x.frames :: sl v8 x.home :: R) w := Ai hs
  refine h9.perm (.cons _ (.cons _ (.cons _ (.cons _ ?_))))
  rw [List.map_append, List.append_assoc]
  exact List.perm_middle.symm
 ·intro ht17
  refine Gl ?_
  refine JC.know (p := vs.oneCell' = true) (fun w hs => Cn .hd hs) (fun hone5 => ?_)
  refine JC.know (p := v8.oneCell' = true ∧ v11.oneCell' = true) (fun w hs => ⟨isSlice.one (hs.fact (.tail _ (.head _))), isSlice.one (hs.fact (.head _))⟩) (fun h12 => ?_)
  obtain ⟨hone1, hone2⟩ := h12
  refine ZB ?_
  refine s_B (cs := [vs, v8, v11]) Try.sizeOf33 ?_
  refine Gl ?_
  have hkl : k = x.cores.length := by omega
  rw [hkl, List.take_length] at hxc
  exact N7 (vs, v8, v11, xs) Try.isAgg33 Try.sizeOf33 (hs := fun w hs => St.pr hxc (Ai hs))
theorem Ha {v0 : Value} {b : List UInt8} (hs : St L R w) (h0 : sl v0 b ∈ R) : Calls Try.prog 99 [v0].toArray w (Bw (fun _ : Unit => vi (Hq b)) (fun _ => L) (fun _ => R)) := by
 have hlen := Bg h0 hs
 refine Aj Try.func99 rfl Try.ntmps99 rfl hs ?_
 clear hs
 repeat refine Bj ?_
 refine ZaC ?_
 repeat refine Bj ?_
 refine ZaC ?_
 repeat refine Bj ?_
 refine ZcZ ?_
 repeat refine Bj ?_
 refine D5 ?_
 refine Bx (γ := Nat) (fun k => k ≤ b.length) (fun _ => L) (fun _ => R) (fun k => [(0, v0), (6, v0), (7, vi (b.length : Int)), (8, vi (k : Int)), (3, vi ((Kw b k).toNat : Int))]) (fun k => b.length - k) 0 (by omega) ⟨rfl, rfl, rfl, rfl, rfl, trivial⟩ (fun w hs => hs) ?_
 intro k hk
 repeat refine Bj ?_
 refine ZbM ?_
 repeat refine Bj ?_
 refine Bk rfl (fun ht9 => ?_) (fun ht9 => ?_)
 ·
  try simp only [decide_eq_true_eq, decide_eq_false_iff_not, beq_iff_eq, bne_iff_ne, beq_eq_false_iff_ne, bne_eq_false_iff_eq, Int.not_lt, Int.not_le, Bool.not_eq_true, ne_eq, Bool.not_eq_eq_eq_not, Bool.not_true, Bool.not_false] at ht9
  refine Za9 ?_
  repeat refine Bj ?_
  refine D5 ?_
  repeat refine Bj ?_
  refine Aa ?_
  first | refine G6 Cz rfl rfl (by first | exact Dn pkk | exact Er mm) (by first | assumption | omega | (simp only [List.length_nil, List.length_cons, List.length_append, List.length_take, List.length_drop, List.length_set, List.length_replicate]; omega)) ?_ | refine Gv Cz rfl rfl (by first | exact Dn pkk | exact Er mm) (by first | assumption | omega | (simp only [List.length_nil, List.length_cons, List.length_append, List.length_take, List.length_drop, List.length_set, List.length_replicate]; omega)) (by first | assumption | omega | (simp only [List.length_nil, List.length_cons, List.length_append, List.length_take, List.length_drop, List.length_set, List.length_replicate]; omega)) ?_
  first | refine Hw Try.isAgg5 rfl (A0 pkk (by exact rfl)) ?_ | refine Hw Try.isAgg5 rfl (Jl pkk (by first | assumption | omega | (simp only [List.length_nil, List.length_cons, List.length_append, List.length_take, List.length_drop, List.length_set, List.length_replicate]; omega))) ?_ | refine Hw Try.isAgg5 rfl (Mc mm (by first | assumption | omega | (simp only [List.length_nil, List.length_cons, List.length_append, List.length_take, List.length_drop, List.length_set, List.length_replicate]; omega))) ?_
  refine Zai ?_
  repeat refine Bj ?_
  refine ZM ?_
  refine Bm rfl ?_
  refine r_p (Ar Try.underlying5 Try.underlying3 rfl (A6 _)) rfl ?_
  refine Pg rfl rfl (Z1 (s := 8) (by omega) (by have := (b.getD k 0).toNat_lt; omega)) ?_
  refine Ed rfl rfl (Vb (lt63 _) (by have := (b.getD k 0).toNat_lt; omega)) ?_
  refine Zai ?_
  repeat refine Bj ?_
  refine ZM ?_
  refine Zah ?_
  refine D5 ?_
  refine Bx (γ := Nat) (fun j => j ≤ 8) (fun _ => L) (fun _ => R) (fun j => [(0, v0), (6, v0), (7, vi (b.length : Int)), (8, vi (k : Int)), (17, vi (j : Int)), (3, vi ((H7 j (Kw b k ^^^ (Eb (b.getD k 0) <<< 8))).toNat : Int))]) (fun j => 8 - j) 0 (by omega) ⟨rfl, rfl, rfl, rfl, rfl, congrArg (fun z : Nat => some (vi (z : Int))) (crc_in _ _), trivial⟩ (fun w hs => hs) ?_
  intro j hj
  generalize hx : H7 j (Kw b k ^^^ (Eb (b.getD k 0) <<< 8)) = x
  have hcb : H7 (j + 1) (Kw b k ^^^ (Eb (b.getD k 0) <<< 8)) = Ic x := by rw [← hx]; rfl
  repeat refine Bj ?_
  refine ZbM ?_
  repeat refine Bj ?_
  refine Bk rfl (fun ht18 => ?_) (fun ht18 => ?_)
  ·
   try simp only [decide_eq_true_eq, decide_eq_false_iff_not, beq_iff_eq, bne_iff_ne, beq_eq_false_iff_ne, bne_eq_false_iff_eq, Int.not_lt, Int.not_le, Bool.not_eq_true, ne_eq, Bool.not_eq_eq_eq_not, Bool.not_true, Bool.not_false] at ht18
   refine Za9 ?_
   repeat refine Bj ?_
   refine D5 ?_
   repeat refine Bj ?_
   refine ZM ?_
   refine Ed rfl rfl (Vc (b := 32768) (lt63 _) (by omega)) ?_
   refine Ed rfl rfl Z2 ?_
   refine Zah ?_
   repeat refine Bj ?_
   refine Bk rfl (fun ht21 => ?_) (fun ht21 => ?_)
   ·
    try simp only [decide_eq_true_eq, decide_eq_false_iff_not, beq_iff_eq, bne_iff_ne, beq_eq_false_iff_ne, bne_eq_false_iff_eq, Int.not_lt, Int.not_le, Bool.not_eq_true, ne_eq, Bool.not_eq_eq_eq_not, Bool.not_true, Bool.not_false] at ht21
    replace ht21 : x.toNat &&& 32768 ≠ 0 := by intro h; apply ht21; rw [h]; rfl
    refine ZM ?_
    refine Pg rfl rfl (Z1 (s := 1) (by omega) (by have := x.isLt; omega)) ?_
    refine Ed rfl rfl (Vb (b := 4129) (by have := x.isLt; omega) (by omega)) ?_
    refine Zai ?_
    refine ZM ?_
    refine Ed rfl rfl (Vc (b := 65535) (Tx (by have := x.isLt; omega) (by omega)) (by omega)) ?_
    refine Zbd ?_
    refine Zbs ?_
    refine Bb (j + 1) (by omega) (by omega) ⟨rfl, rfl, rfl, rfl, rfl, ?_, trivial⟩ (fun w hs => hs)
    rw [hcb]; exact congrArg (fun z : Nat => some (vi (z : Int))) (crc_hi x ht21)
   ·
    try simp only [decide_eq_true_eq, decide_eq_false_iff_not, beq_iff_eq, bne_iff_ne, beq_eq_false_iff_ne, bne_eq_false_iff_eq, Int.not_lt, Int.not_le, Bool.not_eq_true, ne_eq, Bool.not_eq_eq_eq_not, Bool.not_true, Bool.not_false] at ht21
    replace ht21 : x.toNat &&& 32768 = 0 := by omega
    refine ZM ?_
    refine Pg rfl rfl (Z1 (s := 1) (by omega) (by have := x.isLt; omega)) ?_
    refine Zai ?_
    refine ZM ?_
    refine Ed rfl rfl (Vc (b := 65535) (by have := x.isLt; omega) (by omega)) ?_
    refine Zbd ?_
    refine Zbs ?_
    refine Bb (j + 1) (by omega) (by omega) ⟨rfl, rfl, rfl, rfl, rfl, ?_, trivial⟩ (fun w hs => hs)
    rw [hcb]; exact congrArg (fun z : Nat => some (vi (z : Int))) (crc_lo x ht21)
  ·
   try simp only [decide_eq_true_eq, decide_eq_false_iff_not, beq_iff_eq, bne_iff_ne, beq_eq_false_iff_ne, bne_eq_false_iff_eq, Int.not_lt, Int.not_le, Bool.not_eq_true, ne_eq, Bool.not_eq_eq_eq_not, Bool.not_true, Bool.not_false] at ht18
   refine G9 ?_
   repeat (first | refine Dw ?_ | refine Ew rfl ?_)
   refine Dy ?_
   refine Zbs ?_
   refine Bb (k + 1) (by omega) (by omega) ⟨rfl, rfl, rfl, rfl, ?_, trivial⟩ (fun w hs => hs)
   have h8 : j = 8 := by omega
   subst h8
   rw [Of (by omega), ← hx]; rfl
 ·
  try simp only [decide_eq_true_eq, decide_eq_false_iff_not, beq_iff_eq, bne_iff_ne, beq_eq_false_iff_ne, bne_eq_false_iff_eq, Int.not_lt, Int.not_le, Bool.not_eq_true, ne_eq, Bool.not_eq_eq_eq_not, Bool.not_true, Bool.not_false] at ht9
  refine G9 ?_
  repeat (first | refine Dw ?_ | refine Ew rfl ?_)
  refine Dy ?_
  refine Aw ?_
  repeat refine Bj ?_
  refine Zb3 ?_
  repeat (first | refine Em ?_ | refine Dx ?_)
  have hkl : k = b.length := by omega
  subst hkl
  rw [Aew]
  refine Bf (.inr rfl) (fun B w _ => Afa rfl rfl B w) (fun w hs => ⟨(), ?_, Ai hs⟩)
  rfl
theorem Ip {v0 : Value} {b : List UInt8} (hs : St L R w) (h0 : sl v0 b ∈ R) : Calls Try.prog 63 [v0].toArray w (Bw (fun _ : Unit => vi (Hq b)) (fun _ => L) (fun _ => R)) := by
 have hlen := Bg h0 hs
 refine Aj Try.func63 rfl Try.ntmps63 rfl hs ?_
 clear hs
 repeat refine Bj ?_
 refine ZaC ?_
 repeat refine Bj ?_
 refine ZaC ?_
 repeat refine Bj ?_
 refine ZcZ ?_
 repeat refine Bj ?_
 refine D5 ?_
 refine Bx (γ := Nat) (fun k => k ≤ b.length) (fun _ => L) (fun _ => R) (fun k => [(0, v0), (9, v0), (10, vi (b.length : Int)), (11, vi (k : Int)), (3, vi ((Kw b k).toNat : Int))]) (fun k => b.length - k) 0 (by omega) ⟨rfl, rfl, rfl, rfl, rfl, trivial⟩ (fun w hs => hs) ?_
 intro k hk
 repeat refine Bj ?_
 refine ZbM ?_
 repeat refine Bj ?_
 refine Bk rfl (fun ht12 => ?_) (fun ht12 => ?_)
 ·
  try simp only [decide_eq_true_eq, decide_eq_false_iff_not, beq_iff_eq, bne_iff_ne, beq_eq_false_iff_ne, bne_eq_false_iff_eq, Int.not_lt, Int.not_le, Bool.not_eq_true, ne_eq, Bool.not_eq_eq_eq_not, Bool.not_true, Bool.not_false] at ht12
  refine Za9 ?_
  repeat refine Bj ?_
  refine D5 ?_
  repeat refine Bj ?_
  refine Aa ?_
  first | refine G6 Cz rfl rfl (by first | exact Dn pkk | exact Er mm) (by first | assumption | omega | (simp only [List.length_nil, List.length_cons, List.length_append, List.length_take, List.length_drop, List.length_set, List.length_replicate]; omega)) ?_ | refine Gv Cz rfl rfl (by first | exact Dn pkk | exact Er mm) (by first | assumption | omega | (simp only [List.length_nil, List.length_cons, List.length_append, List.length_take, List.length_drop, List.length_set, List.length_replicate]; omega)) (by first | assumption | omega | (simp only [List.length_nil, List.length_cons, List.length_append, List.length_take, List.length_drop, List.length_set, List.length_replicate]; omega)) ?_
  first | refine Hw Try.isAgg5 rfl (A0 pkk (by exact rfl)) ?_ | refine Hw Try.isAgg5 rfl (Jl pkk (by first | assumption | omega | (simp only [List.length_nil, List.length_cons, List.length_append, List.length_take, List.length_drop, List.length_set, List.length_replicate]; omega))) ?_ | refine Hw Try.isAgg5 rfl (Mc mm (by first | assumption | omega | (simp only [List.length_nil, List.length_cons, List.length_append, List.length_take, List.length_drop, List.length_set, List.length_replicate]; omega))) ?_
  refine Zai ?_
  repeat refine Bj ?_
  refine ZaC ?_
  refine D5 ?_
  refine Bx (γ := Nat) (fun j => j ≤ 8) (fun _ => L) (fun _ => R) (fun j => [(0, v0), (9, v0), (10, vi (b.length : Int)), (11, vi (k : Int)), (5, vb (b.getD k 0)), (6, vi (7 - (j : Int))), (3, vi ((Ir (b.getD k 0) j (Kw b k)).toNat : Int))]) (fun j => 8 - j) 0 (by omega) ⟨rfl, rfl, rfl, rfl, rfl, rfl, rfl, trivial⟩ (fun w hs => hs) ?_
  intro j hj
  generalize hx : Ir (b.getD k 0) j (Kw b k) = x
  repeat refine Bj ?_
  refine ZM ?_
  refine Ed rfl rfl Qd ?_
  refine Zah ?_
  repeat refine Bj ?_
  refine Bk rfl (fun ht16 => ?_) (fun ht16 => ?_)
  ·
   try simp only [decide_eq_true_eq, decide_eq_false_iff_not, beq_iff_eq, bne_iff_ne, beq_eq_false_iff_ne, bne_eq_false_iff_eq, Int.not_lt, Int.not_le, Bool.not_eq_true, ne_eq, Bool.not_eq_eq_eq_not, Bool.not_true, Bool.not_false] at ht16
   refine Za9 ?_
   repeat refine Bj ?_
   refine D5 ?_
   repeat refine Bj ?_
   obtain ⟨q, hq⟩ : ∃ q : Nat, 7 - (j : Int) = (q : Int) := ⟨7 - j, by omega⟩
   have hq2 : q = 7 - j := by omega
   rw [hq]
   refine ZM ?_
   refine r_p (Ar Try.underlying5 Try.underlying3 rfl (A6 _)) rfl ?_
   refine Bm rfl ?_
   refine Pg rfl rfl (b_shr (by omega) (by omega)) ?_
   rw [Int.toNat_natCast, show ((b.getD k 0).toNat : Int) / 2 ^ q = ((((b.getD k 0).toNat : Int) / 2 ^ q).toNat : Int) from (Int.toNat_of_nonneg (Int.ediv_nonneg (by omega) (Int.pow_nonneg (by omega)))).symm]
   refine Ed rfl rfl (Vc (b := 1) (by have := (b.getD k 0).toNat_lt; have h1 := Int.ediv_le_self (a := ((b.getD k 0).toNat : Int)) (2 ^ q) (by omega); omega) (by omega)) ?_
   rw [Aaq _ _ (by omega)]
   refine Zai ?_
   repeat refine Bj ?_
   refine ZM ?_
   refine Ed rfl rfl (b_quo (by decide) (by rw [Sx]; split <;> omega) (by rw [Sx]; split <;> omega)) ?_
   rw [Sx]
   refine Zai ?_
   repeat refine Bj ?_
   refine ZM ?_
   refine Ed rfl rfl b_mulw ?_
   refine Ed rfl rfl (Aem (by decide) (by rw [Sy]; omega) (by rw [Sy]; have := (x <<< 1).isLt; omega)) ?_
   rw [Sy]
   refine Zai ?_
   repeat refine Bj ?_
   refine ZM ?_
   refine Bm rfl ?_
   refine Ed rfl rfl Z2 ?_
   refine Zah ?_
   refine Bk rfl (fun ht31 => ?_) (fun ht31 => ?_)
   ·
    try simp only [decide_eq_true_eq, decide_eq_false_iff_not, beq_iff_eq, bne_iff_ne, beq_eq_false_iff_ne, bne_eq_false_iff_eq, Int.not_lt, Int.not_le, Bool.not_eq_true, ne_eq, Bool.not_eq_eq_eq_not, Bool.not_true, Bool.not_false] at ht31
    replace ht31 : (x.msb ^^ (b.getD k 0).toBitVec.getLsbD (7 - j)) = true := by rw [← hq2]; generalize b.getD k 0 = c at ht31 ⊢; cases h1 : x.msb <;> cases h2 : c.toBitVec.getLsbD q <;> simp [h1, h2] at ht31 ⊢
    refine ZM ?_
    refine Ed rfl rfl (Vb (b := 4129) (lt63 _) (by omega)) ?_
    refine Zbd ?_
    refine Es ?_
    refine Aw ?_
    refine ZM ?_
    refine Ed rfl rfl (Zz (by omega) (by omega)) ?_
    refine Zbd ?_
    refine Bb (j + 1) (by omega) (by omega) ⟨rfl, rfl, rfl, rfl, rfl, ?_, ?_, trivial⟩ (fun w hs => hs)
    ·exact ZfT
    rw [Lo, hx]
    exact congrArg (fun z : Nat => some (vi (z : Int))) (by rw [Agl]; unfold Oo; rw [if_pos ht31])
   ·
    try simp only [decide_eq_true_eq, decide_eq_false_iff_not, beq_iff_eq, bne_iff_ne, beq_eq_false_iff_ne, bne_eq_false_iff_eq, Int.not_lt, Int.not_le, Bool.not_eq_true, ne_eq, Bool.not_eq_eq_eq_not, Bool.not_true, Bool.not_false] at ht31
    replace ht31 : (x.msb ^^ (b.getD k 0).toBitVec.getLsbD (7 - j)) = false := by rw [← hq2]; generalize b.getD k 0 = c at ht31 ⊢; cases h1 : x.msb <;> cases h2 : c.toBitVec.getLsbD q <;> simp [h1, h2] at ht31 ⊢
    refine Fi ?_
    refine Es ?_
    refine Aw ?_
    refine ZM ?_
    refine Ed rfl rfl (Zz (by omega) (by omega)) ?_
    refine Zbd ?_
    refine Bb (j + 1) (by omega) (by omega) ⟨rfl, rfl, rfl, rfl, rfl, ?_, ?_, trivial⟩ (fun w hs => hs)
    ·exact ZfT
    rw [Lo, hx]
    exact congrArg (fun z : Nat => some (vi (z : Int))) (by unfold Oo; rw [if_neg (by rw [ht31]; decide), BitVec.xor_zero])
  ·
   try simp only [decide_eq_true_eq, decide_eq_false_iff_not, beq_iff_eq, bne_iff_ne, beq_eq_false_iff_ne, bne_eq_false_iff_eq, Int.not_lt, Int.not_le, Bool.not_eq_true, ne_eq, Bool.not_eq_eq_eq_not, Bool.not_true, Bool.not_false] at ht16
   refine G9 ?_
   repeat (first | refine Dw ?_ | refine Ew rfl ?_)
   refine Dy ?_
   refine Zbs ?_
   refine Bb (k + 1) (by omega) (by omega) ⟨rfl, rfl, rfl, rfl, ?_, trivial⟩ (fun w hs => hs)
   have h8 : j = 8 := by omega
   subst h8
   rw [Of (by omega), Th, hx]; rfl
 ·
  try simp only [decide_eq_true_eq, decide_eq_false_iff_not, beq_iff_eq, bne_iff_ne, beq_eq_false_iff_ne, bne_eq_false_iff_eq, Int.not_lt, Int.not_le, Bool.not_eq_true, ne_eq, Bool.not_eq_eq_eq_not, Bool.not_true, Bool.not_false] at ht12
  refine G9 ?_
  repeat (first | refine Dw ?_ | refine Ew rfl ?_)
  refine Dy ?_
  refine Aw ?_
  repeat refine Bj ?_
  refine Zb3 ?_
  repeat (first | refine Em ?_ | refine Dx ?_)
  have hkl : k = b.length := by omega
  subst hkl
  rw [Aew]
  refine Bf (.inr rfl) (fun B w _ => Afa rfl rfl B w) (fun w hs => ⟨(), ?_, Ai hs⟩)
  rfl
theorem Aar {c : Config} {m : Msg} (hs : St (L) R w) (hcw : c.wf) (hm : m.wf) : Calls Try.prog 64 [.agg c.cells.toArray, .agg m.cells.toArray].toArray w (Bw (fun _ : Unit => vi (Bd c m)) (fun _ => L) (fun _ => R)) := by
 refine Aj Try.func64 rfl Try.ntmps64 rfl hs ?_
 clear hs
 refine Gm ?_
 refine bx ?_; intro b2
 refine bx ?_; intro b3
 refine Ga1 ?_
 rcases (show (m.kind < 1) ∨ (¬ m.kind < 1 ∧ 11 < m.kind) ∨ (1 ≤ m.kind ∧ m.kind ≤ 11) from by omega) with hc | hc | hc
 ·refine ZX ?_
  refine Gd5 ?_
  refine Ga1 ?_
  exact ZfE
 ·refine Zbl ?_
  refine Gd1 ?_
  refine Ga1 ?_
  exact ZfE
 ·refine Za8 ?_
  refine Gd1 ?_
  refine rn4 ?_
  refine ZbI ?_
  refine rn4 ?_
  refine ZbI ?_
  refine rn2 ?_
  refine ZbI ?_
  refine rn2 ?_
  refine ZbI ?_
  refine rn2 ?_
  refine ZbI ?_
  refine li (α := Int × Int) [(m.src, c.cores), (m.dst, c.cores), (m.serial, 65535), (m.turn, 65535), (m.value, 255)] eo_142 rfl (fun j hj => ⟨⟨_, rfl, rfl, hm.2.1, hcw.1⟩, ⟨_, rfl, rfl, hm.2.2.1, hcw.1⟩, ⟨_, rfl, rfl, hm.2.2.2.2.1, by unfold An; simp only; omega⟩, ⟨_, rfl, rfl, hm.2.2.2.2.2.1, by unfold An; simp only; omega⟩, ⟨_, rfl, rfl, hm.2.2.2.2.2.2, by unfold An; simp only; omega⟩, trivial⟩) ?_; intro v34
  have hxl : ([(m.src, c.cores), (m.dst, c.cores), (m.serial, 65535), (m.turn, 65535), (m.value, 255)] : List (Int × Int)).length = 5 := rfl
  generalize hxs : ([(m.src, c.cores), (m.dst, c.cores), (m.serial, 65535), (m.turn, 65535), (m.value, 255)] : List (Int × Int)) = xs at hxl ⊢
  refine Ga2 ?_
  refine Bx (γ := Nat) (fun k => k ≤ 5 ∧ (0 < k → ¬ (m.line < 0 ∨ c.lines ≤ m.line)) ∧ ∀ i, i < k → ¬ ((xs.getD i (0, 0)).1 < 0 ∨ (xs.getD i (0, 0)).2 < (xs.getD i (0, 0)).1)) (fun _ => blk b3 49 m.cells :: blk b2 23 c.cells :: L) (fun _ => sl v34 xs :: R) (fun k => [(2, bp b2 0), (3, bp b3 0), (34, v34), (35, vi (5 : Int)), (36, vi (k : Int))]) (fun k => 5 - k) 0 ⟨by omega, fun h => by omega, fun i hi => by omega⟩ ⟨rfl, rfl, rfl, congrArg (fun z : Nat => some (vi (z : Int))) hxl, rfl, trivial⟩ (fun w hs => Ai hs) ?_
  rintro k ⟨hk, hkl, hkx⟩
  refine Gl ?_
  refine kp [2, 3, 4, 34, 35, 36, 37] ?_
  refine Zas ?_
  refine cdy ?_ ?_
  ·intro ht37
   refine Gl ?_
   refine JC.open0 (xs := xs) (v := v34) k mm (by omega) (fun hpw => ?_)
   refine ZA ?_
   refine al_ (cs := [vi 0, vi 0]) Try.zeroValue141 ?_; intro b6
   refine s_B (cs := [vi (xs.getD k (0, 0)).1, vi (xs.getD k (0, 0)).2]) Try.sizeOf141 ?_
   refine Gl ?_
   refine ZcW ?_
   refine Ee 61 (.bool (decide (((xs.getD k (0, 0)).1 < 0) ∨ ((xs.getD k (0, 0)).2 < (xs.getD k (0, 0)).1) ∨ (m.line < 0) ∨ (c.lines ≤ m.line)))) ?_ ?_
   ·rcases (show (((xs.getD k (0, 0)).1 < 0)) ∨ (¬ ((xs.getD k (0, 0)).1 < 0) ∧ ((xs.getD k (0, 0)).2 < (xs.getD k (0, 0)).1)) ∨ (¬ ((xs.getD k (0, 0)).1 < 0) ∧ ¬ ((xs.getD k (0, 0)).2 < (xs.getD k (0, 0)).1) ∧ (m.line < 0)) ∨ (¬ ((xs.getD k (0, 0)).1 < 0) ∧ ¬ ((xs.getD k (0, 0)).2 < (xs.getD k (0, 0)).1) ∧ ¬ (m.line < 0) ∧ (c.lines ≤ m.line)) ∨ (¬ ((xs.getD k (0, 0)).1 < 0) ∧ ¬ ((xs.getD k (0, 0)).2 < (xs.getD k (0, 0)).1) ∧ ¬ (m.line < 0) ∧ ¬ (c.lines ≤ m.line)) from by omega) with hm | hm | hm | hm | hm
    ·refine Aa ?_
     refine Zc8 ?_
     refine Ei ?_
     refine Ga19 ?_
     exact ZeE
    ·refine Zca ?_
     refine G3 ?_
     refine Ga13 ?_
     exact ZeE
    ·refine ZcW ?_
     refine Zca ?_
     refine Fd ?_
     refine ZaD ?_
     refine Ga8 ?_
     exact ZeE
    ·refine Zca ?_
     refine Fd ?_
     refine ZN ?_
     refine Bc ?_
     refine Zbk ?_
     refine Ga1 ?_
     exact ZeE
    ·refine ZcW ?_
     refine Zca ?_
     refine Fd ?_
     refine ZN ?_
     refine ZbA ?_
     refine Ga1 ?_
     exact ZeF
   ·refine Aw ?_
    first | (refine cdx (p := ?p2) (hd := ?d2) ?e2 ?_ ?_; case e2 => exact rfl) | (refine Bk (b := ?b2) ?e2 ?_ ?_; case e2 => exact rfl)
    ·intro ht61
     refine ZE ?_
     have hr : m.src < 0 ∨ c.cores < m.src ∨ m.dst < 0 ∨ c.cores < m.dst ∨ m.line < 0 ∨ c.lines ≤ m.line ∨ m.serial < 0 ∨ 65535 < m.serial ∨ m.turn < 0 ∨ 65535 < m.turn ∨ m.value < 0 ∨ 255 < m.value := by
      subst hxs
      have hk5 : k = 0 ∨ k = 1 ∨ k = 2 ∨ k = 3 ∨ k = 4 := by omega
      rcases hk5 with rfl | rfl | rfl | rfl | rfl <;> simp only [List.getD_cons_zero, List.getD_cons_succ] at ht61 <;> omega
     have er : Bd c m = 3 := by unfold Bd; rw [if_neg (by omega), if_pos hr]
     exact Zfs
    ·intro ht61
     refine ZD ?_
     refine Bb (k + 1) ⟨by omega, fun _ => by omega, fun i hi => ?_⟩ (by omega) alT (fun w hs => Ai hs)
     by_cases hik : i = k
     ·subst hik; omega
     ·exact hkx i (by omega)
  ·intro ht37
   refine Gl ?_
   refine ZdM ?_
   refine Ee 88 (.bool (decide (m.src = c.cores ↔ m.dst = c.cores))) ?_ ?_
   ·rcases (show (m.src = c.cores ∧ m.dst = c.cores) ∨ (m.src = c.cores ∧ m.dst ≠ c.cores) ∨ (m.src ≠ c.cores ∧ m.dst = c.cores) ∨ (m.src ≠ c.cores ∧ m.dst ≠ c.cores) from by omega) with hm | hm | hm | hm
    ·refine ZC ?_
     refine Cs ?_
     refine ZR ?_
     refine Cs ?_
     refine Ga15 ?_
     exact ZeE
    ·refine ZC ?_
     refine Cs ?_
     refine ZR ?_
     refine As ?_
     refine rn6 ?_
     refine gy ?_
     refine K5 ?_
     refine Ga8 ?_
     exact ZeF
    ·refine ZdM ?_
     refine ZbL ?_
     refine Kk ?_
     refine ZR ?_
     refine K5 ?_
     refine Ga2 ?_
     exact ZeF
    ·refine ZbL ?_
     refine Kk ?_
     refine ZR ?_
     refine Kk ?_
     refine Ga2 ?_
     exact ZeE
   ·refine Aw ?_
    refine Gl ?_
    first | (refine cdx (p := ?p3) (hd := ?d3) ?e3 ?_ ?_; case e3 => exact rfl) | (refine Bk (b := ?b3) ?e3 ?_ ?_; case e3 => exact rfl)
    ·intro ht88
     refine Gl ?_
     refine kp [4] ?_
     refine Zas ?_
     have hk5 : k = 5 := by omega
     subst hk5
     have hl := hkl (by omega)
     subst hxs
     have q0 := hkx 0 (by omega)
     have q1 := hkx 1 (by omega)
     have q2 := hkx 2 (by omega)
     have q3 := hkx 3 (by omega)
     have q4 := hkx 4 (by omega)
     simp only [List.getD_cons_zero, List.getD_cons_succ] at q0 q1 q2 q3 q4
     refine ZdT ?_;intro hr
     have er : Bd c m = 6 := by unfold Bd; rw [if_neg (by omega), if_neg hr, if_pos ht88]
     exact Zfs
    ·intro ht88
     refine Gl ?_
     refine kp [4] ?_
     refine Zas ?_
     have hk5 : k = 5 := by omega
     subst hk5
     have hl := hkl (by omega)
     subst hxs
     have q0 := hkx 0 (by omega)
     have q1 := hkx 1 (by omega)
     have q2 := hkx 2 (by omega)
     have q3 := hkx 3 (by omega)
     have q4 := hkx 4 (by omega)
     simp only [List.getD_cons_zero, List.getD_cons_succ] at q0 q1 q2 q3 q4
     refine ZdT ?_;intro hr
     have er : Bd c m = 0 := by unfold Bd; rw [if_neg (by omega), if_neg hr, if_neg ht88]
     exact Zfs
theorem Abf {m : Msg} (hs : St (L) R w) (hin : MsgIn m) : Calls Try.prog 84 [.agg m.cells.toArray].toArray w (Bw (fun v : Value => v) (fun v => L) (fun v => sl v (msgBytes m) :: R)) := by
 obtain ⟨k0, k1, k2, k3, k4, k5, k6⟩ := hin
 refine Aj Try.func84 rfl Try.ntmps84 rfl hs ?_
 clear hs
 refine Gm ?_
 refine bx ?_; intro b1
 refine Gb1 ?_
 refine ZH ?_
 refine Bk (b := ?b1) ?e1 ?_ ?_; case e1 => exact rfl
 ·intro ht9
  refine Aa ?_
  refine Gb1 ?_
  refine Gb1 ?_
  refine Agk ?_
  refine Zcf ?_
  refine rn2 ?_
  refine Zcf ?_
  refine rn3 ?_
  refine li (α := Int) ([m.kind, 16 * m.src + m.dst, m.line, m.serial / 256, m.serial % 256, m.turn / 256, m.turn % 256, m.value, 1, 0] : List Int) Ff rfl (fun j hj => ⟨⟨_, rfl, rfl, by unfold An; omega⟩, ⟨⟨_, rfl, rfl, by unfold An; omega⟩, ⟨⟨_, rfl, rfl, by unfold An; omega⟩, ⟨⟨_, rfl, rfl, by unfold An; omega⟩, ⟨⟨_, rfl, rfl, by unfold An; omega⟩, ⟨⟨_, rfl, rfl, by unfold An; omega⟩, ⟨⟨_, rfl, rfl, by unfold An; omega⟩, ⟨⟨_, rfl, rfl, by unfold An; omega⟩, ⟨⟨_, rfl, rfl, by unfold An; omega⟩, ⟨⟨_, rfl, rfl, by unfold An; omega⟩, trivial⟩⟩⟩⟩⟩⟩⟩⟩⟩⟩) ?_; intro v35
  have hxl : ([m.kind, 16 * m.src + m.dst, m.line, m.serial / 256, m.serial % 256, m.turn / 256, m.turn % 256, m.value, 1, 0] : List Int).length = 10 := rfl
  have hxb : ([m.kind, 16 * m.src + m.dst, m.line, m.serial / 256, m.serial % 256, m.turn / 256, m.turn % 256, m.value, 1, 0] : List Int).map u8 = Ck m := by
   exact Zfl
  generalize hxs : ([m.kind, 16 * m.src + m.dst, m.line, m.serial / 256, m.serial % 256, m.turn / 256, m.turn % 256, m.value, 1, 0] : List Int) = xs at hxl hxb ⊢
  exact Zez
 ·intro ht9
  refine ZL ?_
  refine Agk ?_
  refine Zcf ?_
  refine rn2 ?_
  refine Zcf ?_
  refine rn3 ?_
  refine li (α := Int) ([m.kind, 16 * m.src + m.dst, m.line, m.serial / 256, m.serial % 256, m.turn / 256, m.turn % 256, m.value, 0, 0] : List Int) Ff rfl (fun j hj => ⟨⟨_, rfl, rfl, by unfold An; omega⟩, ⟨⟨_, rfl, rfl, by unfold An; omega⟩, ⟨⟨_, rfl, rfl, by unfold An; omega⟩, ⟨⟨_, rfl, rfl, by unfold An; omega⟩, ⟨⟨_, rfl, rfl, by unfold An; omega⟩, ⟨⟨_, rfl, rfl, by unfold An; omega⟩, ⟨⟨_, rfl, rfl, by unfold An; omega⟩, ⟨⟨_, rfl, rfl, by unfold An; omega⟩, ⟨⟨_, rfl, rfl, by unfold An; omega⟩, ⟨⟨_, rfl, rfl, by unfold An; omega⟩, trivial⟩⟩⟩⟩⟩⟩⟩⟩⟩⟩) ?_; intro v35
  have hxl : ([m.kind, 16 * m.src + m.dst, m.line, m.serial / 256, m.serial % 256, m.turn / 256, m.turn % 256, m.value, 0, 0] : List Int).length = 10 := rfl
  have hxb : ([m.kind, 16 * m.src + m.dst, m.line, m.serial / 256, m.serial % 256, m.turn / 256, m.turn % 256, m.value, 0, 0] : List Int).map u8 = Ck m := by
   exact Zfl
  generalize hxs : ([m.kind, 16 * m.src + m.dst, m.line, m.serial / 256, m.serial % 256, m.turn / 256, m.turn % 256, m.value, 0, 0] : List Int) = xs at hxl hxb ⊢
  exact Zez
theorem Gn {P : Program} {n : Nat} {Q : Exit → Act → World → Prop} {L : List Chunk} {R : List Fact} {al : List (Nat × Value)} {c : Code} {v : Value} {b : List UInt8} (i : Nat) (hm : sl v b ∈ R) (hi : i < b.length) (k : JC P n c Q L (cF v 1 i [vb (b.getD i 0)] :: R) al) : JC P n c Q L R al := JC.open0 (xs := b) i hm hi (fun _ => k)
theorem T9 {v1 : Value} {b : List UInt8} {c : Config} (hs : St (L) R w) (h1 : sl v1 b ∈ R) (hc : c.wf) : Calls Try.prog 24 [.agg c.cells.toArray, v1].toArray w (Bw (fun _ : Unit => .tuple #[.agg (Af c b).1.cells.toArray, vi (Af c b).2]) (fun _ => L) (fun _ => R)) := by
 have hlen := Bg h1 hs
 have B : ∀ i, (b.getD i 0).toNat < 256 := fun i => (b.getD i 0).toNat_lt
 refine Aj Try.func24 rfl Try.ntmps24 rfl hs ?_
 clear hs
 refine Gm ?_
 refine bx ?_; intro b2
 refine al_ (cs := zMsg.cells) Try.zeroValue49 ?_; intro b4
 refine ZaA ?_
 refine cdy ?_ ?_
 ·intro ht10
  exact Zf4
 ·intro ht10
  refine Gl ?_
  have B0 := B 0; have B1 := B 1; have B2 := B 2; have B3 := B 3; have B4 := B 4; have B5 := B 5; have B6 := B 6; have B7 := B 7; have B8 := B 8; have B9 := B 9; have B10 := B 10; have B11 := B 11
  refine Gn (v := v1) (b := b) 10 mm (by omega) ?_
  refine Gn (v := v1) (b := b) 11 mm (by omega) ?_
  refine Bv ?_
  refine dn1 ?_
  refine ZdW ?_
  refine Ze (γ := Unit) (val := fun _ => vi (Hq (b.take 10))) (F := fun _ => []) (C := fun _ => []) Try.call63 (fun _ => rfl) (fun _ _ _ _ => rfl) (fun ρ L R w hd hs => Ip hs (hd.dep (it := ⟨1, _, _, _, _⟩) (by repeat (first | exact List.Mem.head _ | refine List.Mem.tail _ ?_)) ⟨9, rfl⟩ (List.Mem.head _))) ?_
  refine dn1 ?_
  refine dj ?_
  first | refine dc (fun _ _ => Fx (i := 10) Cz) ?_ | refine dp (fun _ _ => Fx (i := 10) Cz) ?_
  refine dj ?_
  first | refine dc (fun _ _ => C3 Try.isAgg5) ?_ | refine dp (fun _ _ => C3 Try.isAgg5) ?_
  refine dj ?_
  first | refine dc (fun _ _ => Ar Try.underlying5 Try.underlying3 rfl (A6 _)) ?_ | refine dp (fun _ _ => Ar Try.underlying5 Try.underlying3 rfl (A6 _)) ?_
  refine dj ?_
  first | refine dc (fun _ _ => N8) ?_ | refine dp (fun _ _ => N8) ?_
  refine dn1 ?_
  refine dj ?_
  first | refine dc (fun _ _ => Fx (i := 11) Cz) ?_ | refine dp (fun _ _ => Fx (i := 11) Cz) ?_
  refine dj ?_
  first | refine dc (fun _ _ => C3 Try.isAgg5) ?_ | refine dp (fun _ _ => C3 Try.isAgg5) ?_
  refine dj ?_
  first | refine dc (fun _ _ => Ar Try.underlying5 Try.underlying3 rfl (A6 _)) ?_ | refine dp (fun _ _ => Ar Try.underlying5 Try.underlying3 rfl (A6 _)) ?_
  refine dj ?_
  first | refine dc (fun _ _ => Fj) ?_ | refine dc (fun _ _ => Gc) ?_ | refine dp (fun _ _ => Fj) ?_ | refine dp (fun _ _ => Gc) ?_
  refine dj ?_
  first | refine dc (fun _ _ => F1 Sj) ?_ | refine dp (fun _ _ => F1 Sj) ?_
  refine dnl ?_; intro ρ
  refine Gl ?_
  refine cdy ?_ ?_
  ·intro ht25
   exact Zfr
  ·intro ht25
   refine Gl ?_
   refine Zeb ?_
   refine jgx (t := 31) (p := ?p3) (hd := ?d3) ?e3 ?_ ?_; case e3 => exact rfl
   ·intro ht31
    refine Gd5 ?_
    exact ZeC
   ·intro ht31
    refine rn1 ?_
    refine gy ?_
    refine ob (Fx (i := 9) Cz) ?_
    refine Ga3 ?_
    refine cdy ?_ ?_
    ·intro ht36
     refine Gm ?_
     exact ZeC
    ·intro ht36
     refine ZdB ?_
     refine ZdI ?_
     first | refine epc (fun _ _ => Fx (i := 0) Cz) ?_ | refine epp (fun _ _ => Fx (i := 0) Cz) ?_
     first | refine epc (fun _ _ => C3 Try.isAgg5) ?_ | refine epp (fun _ _ => C3 Try.isAgg5) ?_
     first | refine epc (fun _ _ => Ar Try.underlying5 Try.underlying3 rfl (A6 _)) ?_ | refine epp (fun _ _ => Ar Try.underlying5 Try.underlying3 rfl (A6 _)) ?_
     refine dn1 ?_
     first | refine epc (fun _ _ => Fx (i := 1) Cz) ?_ | refine epp (fun _ _ => Fx (i := 1) Cz) ?_
     first | refine epc (fun _ _ => C3 Try.isAgg5) ?_ | refine epp (fun _ _ => C3 Try.isAgg5) ?_
     first | refine epc (fun _ _ => Ar Try.underlying5 Try.underlying3 rfl (A6 _)) ?_ | refine epp (fun _ _ => Ar Try.underlying5 Try.underlying3 rfl (A6 _)) ?_
     refine J9 (fun _ _ => Am rfl rfl (Lt (b := 16) (by omega) (by omega) (by omega))) (fun _ _ _ _ _ => rfl) ?_
     refine dn1 ?_
     first | refine epc (fun _ _ => Fx (i := 1) Cz) ?_ | refine epp (fun _ _ => Fx (i := 1) Cz) ?_
     first | refine epc (fun _ _ => C3 Try.isAgg5) ?_ | refine epp (fun _ _ => C3 Try.isAgg5) ?_
     first | refine epc (fun _ _ => Ar Try.underlying5 Try.underlying3 rfl (A6 _)) ?_ | refine epp (fun _ _ => Ar Try.underlying5 Try.underlying3 rfl (A6 _)) ?_
     refine J9 (fun _ _ => Am rfl rfl (Ls (b := 16) (by omega) (by omega) (by omega))) (fun _ _ _ _ _ => rfl) ?_
     refine dn1 ?_
     first | refine epc (fun _ _ => Fx (i := 2) Cz) ?_ | refine epp (fun _ _ => Fx (i := 2) Cz) ?_
     first | refine epc (fun _ _ => C3 Try.isAgg5) ?_ | refine epp (fun _ _ => C3 Try.isAgg5) ?_
     first | refine epc (fun _ _ => Ar Try.underlying5 Try.underlying3 rfl (A6 _)) ?_ | refine epp (fun _ _ => Ar Try.underlying5 Try.underlying3 rfl (A6 _)) ?_
     refine dn1 ?_
     first | refine epc (fun _ _ => Fx (i := 3) Cz) ?_ | refine epp (fun _ _ => Fx (i := 3) Cz) ?_
     first | refine epc (fun _ _ => C3 Try.isAgg5) ?_ | refine epp (fun _ _ => C3 Try.isAgg5) ?_
     first | refine epc (fun _ _ => Ar Try.underlying5 Try.underlying3 rfl (A6 _)) ?_ | refine epp (fun _ _ => Ar Try.underlying5 Try.underlying3 rfl (A6 _)) ?_
     first | refine epc (fun _ _ => N8) ?_ | refine epp (fun _ _ => N8) ?_
     refine dn1 ?_
     first | refine epc (fun _ _ => Fx (i := 4) Cz) ?_ | refine epp (fun _ _ => Fx (i := 4) Cz) ?_
     first | refine epc (fun _ _ => C3 Try.isAgg5) ?_ | refine epp (fun _ _ => C3 Try.isAgg5) ?_
     first | refine epc (fun _ _ => Ar Try.underlying5 Try.underlying3 rfl (A6 _)) ?_ | refine epp (fun _ _ => Ar Try.underlying5 Try.underlying3 rfl (A6 _)) ?_
     first | refine epc (fun _ _ => Fj) ?_ | refine epc (fun _ _ => Gc) ?_ | refine epp (fun _ _ => Fj) ?_ | refine epp (fun _ _ => Gc) ?_
     refine dn1 ?_
     first | refine epc (fun _ _ => Fx (i := 5) Cz) ?_ | refine epp (fun _ _ => Fx (i := 5) Cz) ?_
     first | refine epc (fun _ _ => C3 Try.isAgg5) ?_ | refine epp (fun _ _ => C3 Try.isAgg5) ?_
     first | refine epc (fun _ _ => Ar Try.underlying5 Try.underlying3 rfl (A6 _)) ?_ | refine epp (fun _ _ => Ar Try.underlying5 Try.underlying3 rfl (A6 _)) ?_
     first | refine epc (fun _ _ => N8) ?_ | refine epp (fun _ _ => N8) ?_
     refine dn1 ?_
     first | refine epc (fun _ _ => Fx (i := 6) Cz) ?_ | refine epp (fun _ _ => Fx (i := 6) Cz) ?_
     first | refine epc (fun _ _ => C3 Try.isAgg5) ?_ | refine epp (fun _ _ => C3 Try.isAgg5) ?_
     first | refine epc (fun _ _ => Ar Try.underlying5 Try.underlying3 rfl (A6 _)) ?_ | refine epp (fun _ _ => Ar Try.underlying5 Try.underlying3 rfl (A6 _)) ?_
     first | refine epc (fun _ _ => Fj) ?_ | refine epc (fun _ _ => Gc) ?_ | refine epp (fun _ _ => Fj) ?_ | refine epp (fun _ _ => Gc) ?_
     refine dn1 ?_
     first | refine epc (fun _ _ => Fx (i := 7) Cz) ?_ | refine epp (fun _ _ => Fx (i := 7) Cz) ?_
     first | refine epc (fun _ _ => C3 Try.isAgg5) ?_ | refine epp (fun _ _ => C3 Try.isAgg5) ?_
     first | refine epc (fun _ _ => Ar Try.underlying5 Try.underlying3 rfl (A6 _)) ?_ | refine epp (fun _ _ => Ar Try.underlying5 Try.underlying3 rfl (A6 _)) ?_
     refine dn1 ?_
     first | refine epc (fun _ _ => Fx (i := 8) Cz) ?_ | refine epp (fun _ _ => Fx (i := 8) Cz) ?_
     first | refine epc (fun _ _ => C3 Try.isAgg5) ?_ | refine epp (fun _ _ => C3 Try.isAgg5) ?_
     first | refine epc (fun _ _ => F1 Sl) ?_ | refine epp (fun _ _ => F1 Sl) ?_
     first | refine epc (fun _ _ => Eo Ec) ?_ | refine epc (fun _ _ => Fn Ec) ?_ | refine epp (fun _ _ => Eo Ec) ?_ | refine epp (fun _ _ => Fn Ec) ?_
     refine J4 (cs := zMsg.cells) Try.zeroValue49 rfl (fun ρ b S hS hA => ?_) ?_
     ·exact Zfc
     refine ZdN ?_;intro ρ
     generalize (Gh.dec (γ := Nat) (ρ 47)) = b6
     refine Gl ?_
     refine kp [2, 4, 5, 6, 7, 85, 86, 87] ?_
     refine ZA ?_
     refine Ao Try.call64 rfl (fun w hs => Aar (c := c) (m := G4 b) hs hc (Pm b)) ?_; intro _
     refine ZH ?_
     refine cdy ?_ ?_
     ·intro ht89
      exact ZeX
     ·intro ht89
      exact Zfg
theorem Pick.perm {L L' : List Chunk} {c : Chunk} (h : Pick L c L') : L.Perm (c :: L') := by
 induction h with
 | hd => exact .refl _
 | tl _ ih => exact (ih.cons _).trans (.swap ..)
theorem b_subE {P : Program} {T : TypeId} {a b r : Int} (h : a - b = r) (h1 : -9223372036854775808 ≤ r) (h2 : r ≤ 9223372036854775807) (w : World) : (binOp .sub T (vi a) (vi b)).run P w = .ok (vi r) w := by subst h; exact Zz h1 h2 w
theorem Dz {L1 : List Chunk} {n : Int} {c : Config} {b2 : Nat} (hs : St (L) R w) (hp : Pick L (blk b2 23 c.cells) L1) : Calls Try.prog 110 [vi n, bp b2 0].toArray w (Bw (fun _ : Unit => .bool (decide (0 ≤ n ∧ n ≤ c.cores))) (fun _ => L) (fun _ => R)) := by
 refine Aj Try.func110 rfl Try.ntmps110 rfl hs ?_
 clear hs
 refine ZE ?_
 refine JC.pick hp ?_
 rcases (show (n < 0) ∨ (0 ≤ n ∧ n ≤ c.cores) ∨ (0 ≤ n ∧ c.cores < n) from by omega) with hc | hc | hc
 ·refine ZB ?_
  refine Dm ?_
  refine Ga7 ?_
  exact Zfb
 ·refine ZB ?_
  refine Hj ?_
  refine ZN ?_
  refine Agw ?_
  refine Ga2 ?_
  exact Zfb
 ·refine ZB ?_
  refine Hj ?_
  refine ZN ?_
  refine S4 ?_
  refine Ga2 ?_
  exact Zfb
theorem Acu {c : Config} {m : Msg} (hs : St (L) R w) : Calls Try.prog 100 [.agg c.cells.toArray, .agg m.cells.toArray].toArray w (Bw (fun _ : Unit => vi (Bd c m)) (fun _ => L) (fun _ => R)) := by
 refine Aj Try.func100 rfl Try.ntmps100 rfl hs ?_
 clear hs
 refine Gm ?_
 refine bx ?_; intro b2
 refine bx ?_; intro b3
 refine Gb1 ?_
 refine Dk (vs := [bp b2 0]) rfl ?_
 refine Ga1 ?_
 refine kp [2, 3, 4, 5, 7, 8, 9, 10, 11, 12, 13, 14, 15] ?_
 refine Ee 7 (.bool (decide ((m.kind < 1) ∨ (11 < m.kind)))) ?_ ?_
 ·rcases (show ((m.kind < 1)) ∨ (¬ (m.kind < 1) ∧ (11 < m.kind)) ∨ (¬ (m.kind < 1) ∧ ¬ (11 < m.kind)) from by omega) with hm | hm | hm
  ·refine ZX ?_
   refine Ga6 ?_
   exact ZeE
  ·refine Zbl ?_
   refine Ga2 ?_
   exact ZeE
  ·refine Za8 ?_
   refine Ga2 ?_
   exact ZeF
 ·refine Aw ?_
  first | (refine cdx (p := ?p1) (hd := ?d1) ?e1 ?_ ?_; case e1 => exact rfl) | (refine Bk (b := ?b1) ?e1 ?_ ?_; case e1 => exact rfl)
  ·intro ht7
   refine ZE ?_
   exact ZfE
  ·intro ht7
   refine Gl ?_
   refine Zds ?_
   refine Ee 16 (.bool (decide (m.src < 0 ∨ c.cores < m.src ∨ m.dst < 0 ∨ c.cores < m.dst ∨ m.line < 0 ∨ c.lines ≤ m.line ∨ m.serial < 0 ∨ 65535 < m.serial ∨ m.turn < 0 ∨ 65535 < m.turn ∨ m.value < 0 ∨ 255 < m.value))) ?_ ?_
   ·rcases (show ((¬ (0 ≤ m.src ∧ m.src ≤ c.cores))) ∨ ((0 ≤ m.src ∧ m.src ≤ c.cores) ∧ (¬ (0 ≤ m.dst ∧ m.dst ≤ c.cores))) ∨ ((0 ≤ m.src ∧ m.src ≤ c.cores) ∧ (0 ≤ m.dst ∧ m.dst ≤ c.cores) ∧ (m.line < 0)) ∨ ((0 ≤ m.src ∧ m.src ≤ c.cores) ∧ (0 ≤ m.dst ∧ m.dst ≤ c.cores) ∧ ¬ (m.line < 0) ∧ (c.lines ≤ m.line)) ∨ ((0 ≤ m.src ∧ m.src ≤ c.cores) ∧ (0 ≤ m.dst ∧ m.dst ≤ c.cores) ∧ ¬ (m.line < 0) ∧ ¬ (c.lines ≤ m.line) ∧ (m.serial < 0)) ∨ ((0 ≤ m.src ∧ m.src ≤ c.cores) ∧ (0 ≤ m.dst ∧ m.dst ≤ c.cores) ∧ ¬ (m.line < 0) ∧ ¬ (c.lines ≤ m.line) ∧ ¬ (m.serial < 0) ∧ (65535 < m.serial)) ∨ ((0 ≤ m.src ∧ m.src ≤ c.cores) ∧ (0 ≤ m.dst ∧ m.dst ≤ c.cores) ∧ ¬ (m.line < 0) ∧ ¬ (c.lines ≤ m.line) ∧ ¬ (m.serial < 0) ∧ ¬ (65535 < m.serial) ∧ (m.turn < 0)) ∨ ((0 ≤ m.src ∧ m.src ≤ c.cores) ∧ (0 ≤ m.dst ∧ m.dst ≤ c.cores) ∧ ¬ (m.line < 0) ∧ ¬ (c.lines ≤ m.line) ∧ ¬ (m.serial < 0) ∧ ¬ (65535 < m.serial) ∧ ¬ (m.turn < 0) ∧ (65535 < m.turn)) ∨ ((0 ≤ m.src ∧ m.src ≤ c.cores) ∧ (0 ≤ m.dst ∧ m.dst ≤ c.cores) ∧ ¬ (m.line < 0) ∧ ¬ (c.lines ≤ m.line) ∧ ¬ (m.serial < 0) ∧ ¬ (65535 < m.serial) ∧ ¬ (m.turn < 0) ∧ ¬ (65535 < m.turn) ∧ (m.value < 0)) ∨ ((0 ≤ m.src ∧ m.src ≤ c.cores) ∧ (0 ≤ m.dst ∧ m.dst ≤ c.cores) ∧ ¬ (m.line < 0) ∧ ¬ (c.lines ≤ m.line) ∧ ¬ (m.serial < 0) ∧ ¬ (65535 < m.serial) ∧ ¬ (m.turn < 0) ∧ ¬ (65535 < m.turn) ∧ ¬ (m.value < 0) ∧ (255 < m.value)) ∨ ((0 ≤ m.src ∧ m.src ≤ c.cores) ∧ (0 ≤ m.dst ∧ m.dst ≤ c.cores) ∧ ¬ (m.line < 0) ∧ ¬ (c.lines ≤ m.line) ∧ ¬ (m.serial < 0) ∧ ¬ (65535 < m.serial) ∧ ¬ (m.turn < 0) ∧ ¬ (65535 < m.turn) ∧ ¬ (m.value < 0) ∧ ¬ (255 < m.value)) from by grind) with hm | hm | hm | hm | hm | hm | hm | hm | hm | hm | hm
    ·refine ZI ?_
     refine Bz (γ := Unit) (val := fun _ => .bool (decide (0 ≤ m.src ∧ m.src ≤ c.cores))) (caps := [bp b2 0]) (vs := [vi m.src]) rfl Try.call110 rfl (fun w hs => Dz hs pkk) ?_; intro _
     refine ob (Afc rfl (decide_eq_false (by omega))) ?_
     refine rn32 ?_
     refine Ga18 ?_
     refine Az ?_ (fun w hs => hs)
     exact meT
    ·refine Zat ?_
     refine Bz (γ := Unit) (val := fun _ => .bool (decide (0 ≤ m.src ∧ m.src ≤ c.cores))) (caps := [bp b2 0]) (vs := [vi m.src]) rfl Try.call110 rfl (fun w hs => Dz hs pkk) ?_; intro _
     refine Zab ?_
     refine Bz (γ := Unit) (val := fun _ => .bool (decide (0 ≤ m.dst ∧ m.dst ≤ c.cores))) (caps := [bp b2 0]) (vs := [vi m.dst]) rfl Try.call110 rfl (fun w hs => Dz hs pkk) ?_; intro _
     refine gy ?_
     refine ob (Afc rfl (decide_eq_false (by omega))) ?_
     refine rn32 ?_
     refine Ga12 ?_
     refine Az ?_ (fun w hs => hs)
     exact meT
    ·refine Zat ?_
     refine Bz (γ := Unit) (val := fun _ => .bool (decide (0 ≤ m.src ∧ m.src ≤ c.cores))) (caps := [bp b2 0]) (vs := [vi m.src]) rfl Try.call110 rfl (fun w hs => Dz hs pkk) ?_; intro _
     refine Zab ?_
     refine Bz (γ := Unit) (val := fun _ => .bool (decide (0 ≤ m.dst ∧ m.dst ≤ c.cores))) (caps := [bp b2 0]) (vs := [vi m.dst]) rfl Try.call110 rfl (fun w hs => Dz hs pkk) ?_; intro _
     refine gy ?_
     refine Zab ?_
     refine Ei ?_
     refine rn32 ?_
     refine Ga7 ?_
     refine Az ?_ (fun w hs => hs)
     exact meT
    ·refine Zat ?_
     refine Bz (γ := Unit) (val := fun _ => .bool (decide (0 ≤ m.src ∧ m.src ≤ c.cores))) (caps := [bp b2 0]) (vs := [vi m.src]) rfl Try.call110 rfl (fun w hs => Dz hs pkk) ?_; intro _
     refine Zab ?_
     refine Bz (γ := Unit) (val := fun _ => .bool (decide (0 ≤ m.dst ∧ m.dst ≤ c.cores))) (caps := [bp b2 0]) (vs := [vi m.dst]) rfl Try.call110 rfl (fun w hs => Dz hs pkk) ?_; intro _
     refine gy ?_
     refine Zab ?_
     refine Bc ?_
     refine Zbk ?_
     refine Ga32 ?_
     refine Az ?_ (fun w hs => hs)
     exact meT
    ·refine Zat ?_
     refine Bz (γ := Unit) (val := fun _ => .bool (decide (0 ≤ m.src ∧ m.src ≤ c.cores))) (caps := [bp b2 0]) (vs := [vi m.src]) rfl Try.call110 rfl (fun w hs => Dz hs pkk) ?_; intro _
     refine Zab ?_
     refine Bz (γ := Unit) (val := fun _ => .bool (decide (0 ≤ m.dst ∧ m.dst ≤ c.cores))) (caps := [bp b2 0]) (vs := [vi m.dst]) rfl Try.call110 rfl (fun w hs => Dz hs pkk) ?_; intro _
     refine gy ?_
     refine Zab ?_
     refine ZbA ?_
     refine ZaD ?_
     refine Ga27 ?_
     refine Az ?_ (fun w hs => hs)
     exact meT
    ·refine Zat ?_
     refine Bz (γ := Unit) (val := fun _ => .bool (decide (0 ≤ m.src ∧ m.src ≤ c.cores))) (caps := [bp b2 0]) (vs := [vi m.src]) rfl Try.call110 rfl (fun w hs => Dz hs pkk) ?_; intro _
     refine Zab ?_
     refine Bz (γ := Unit) (val := fun _ => .bool (decide (0 ≤ m.dst ∧ m.dst ≤ c.cores))) (caps := [bp b2 0]) (vs := [vi m.dst]) rfl Try.call110 rfl (fun w hs => Dz hs pkk) ?_; intro _
     refine gy ?_
     refine Zab ?_
     refine ZbA ?_
     refine Za6 ?_
     refine G3 ?_
     refine Ga22 ?_
     refine Az ?_ (fun w hs => hs)
     exact meT
    ·refine Zat ?_
     refine Bz (γ := Unit) (val := fun _ => .bool (decide (0 ≤ m.src ∧ m.src ≤ c.cores))) (caps := [bp b2 0]) (vs := [vi m.src]) rfl Try.call110 rfl (fun w hs => Dz hs pkk) ?_; intro _
     refine Zab ?_
     refine Bz (γ := Unit) (val := fun _ => .bool (decide (0 ≤ m.dst ∧ m.dst ≤ c.cores))) (caps := [bp b2 0]) (vs := [vi m.dst]) rfl Try.call110 rfl (fun w hs => Dz hs pkk) ?_; intro _
     refine ZbJ ?_
     refine ZaD ?_
     refine Ga17 ?_
     refine Az ?_ (fun w hs => hs)
     exact meT
    ·refine Zat ?_
     refine Bz (γ := Unit) (val := fun _ => .bool (decide (0 ≤ m.src ∧ m.src ≤ c.cores))) (caps := [bp b2 0]) (vs := [vi m.src]) rfl Try.call110 rfl (fun w hs => Dz hs pkk) ?_; intro _
     refine Zab ?_
     refine Bz (γ := Unit) (val := fun _ => .bool (decide (0 ≤ m.dst ∧ m.dst ≤ c.cores))) (caps := [bp b2 0]) (vs := [vi m.dst]) rfl Try.call110 rfl (fun w hs => Dz hs pkk) ?_; intro _
     refine ZbJ ?_
     refine Za6 ?_
     refine G3 ?_
     refine Ga12 ?_
     refine Az ?_ (fun w hs => hs)
     exact meT
    ·refine Zat ?_
     refine Bz (γ := Unit) (val := fun _ => .bool (decide (0 ≤ m.src ∧ m.src ≤ c.cores))) (caps := [bp b2 0]) (vs := [vi m.src]) rfl Try.call110 rfl (fun w hs => Dz hs pkk) ?_; intro _
     refine Zab ?_
     refine Bz (γ := Unit) (val := fun _ => .bool (decide (0 ≤ m.dst ∧ m.dst ≤ c.cores))) (caps := [bp b2 0]) (vs := [vi m.dst]) rfl Try.call110 rfl (fun w hs => Dz hs pkk) ?_; intro _
     refine ZbJ ?_
     refine Zaw ?_
     refine ZaD ?_
     refine Ga7 ?_
     refine Az ?_ (fun w hs => hs)
     exact meT
    ·refine Zat ?_
     refine Bz (γ := Unit) (val := fun _ => .bool (decide (0 ≤ m.src ∧ m.src ≤ c.cores))) (caps := [bp b2 0]) (vs := [vi m.src]) rfl Try.call110 rfl (fun w hs => Dz hs pkk) ?_; intro _
     refine Zab ?_
     refine Bz (γ := Unit) (val := fun _ => .bool (decide (0 ≤ m.dst ∧ m.dst ≤ c.cores))) (caps := [bp b2 0]) (vs := [vi m.dst]) rfl Try.call110 rfl (fun w hs => Dz hs pkk) ?_; intro _
     refine ZbJ ?_
     refine Zaw ?_
     refine Za6 ?_
     refine G3 ?_
     refine Ga2 ?_
     refine Az ?_ (fun w hs => hs)
     exact meT
    ·refine Zat ?_
     refine Bz (γ := Unit) (val := fun _ => .bool (decide (0 ≤ m.src ∧ m.src ≤ c.cores))) (caps := [bp b2 0]) (vs := [vi m.src]) rfl Try.call110 rfl (fun w hs => Dz hs pkk) ?_; intro _
     refine Zab ?_
     refine Bz (γ := Unit) (val := fun _ => .bool (decide (0 ≤ m.dst ∧ m.dst ≤ c.cores))) (caps := [bp b2 0]) (vs := [vi m.dst]) rfl Try.call110 rfl (fun w hs => Dz hs pkk) ?_; intro _
     refine ZbJ ?_
     refine Zaw ?_
     refine Zaw ?_
     refine Ga2 ?_
     refine Az ?_ (fun w hs => hs)
     exact meF
   ·refine Aw ?_
    first | (refine cdx (p := ?p2) (hd := ?d2) ?e2 ?_ ?_; case e2 => exact rfl) | (refine Bk (b := ?b2) ?e2 ?_ ?_; case e2 => exact rfl)
    ·intro ht16
     refine Gl ?_
     refine kp [2, 3, 4] ?_
     refine Zas ?_
     have er : Bd c m = 3 := by unfold Bd; rw [if_neg (by omega), if_pos ht16]
     exact Zfs
    ·intro ht16
     refine Gl ?_
     refine kp [2, 3, 4, 71, 72, 73, 74, 75, 76, 77, 78, 79, 80, 81, 82] ?_
     refine Aa ?_
     refine rn10 ?_
     refine ob (p_bool rfl rfl (Aen Try.underlying4)) ?_
     refine Ga1 ?_
     refine Bk (b := ?b3) ?e3 ?_ ?_; case e3 => exact rfl
     ·intro ht71
      refine ZE ?_
      have er : Bd c m = 6 := by unfold Bd; rw [if_neg (by omega), if_neg ht16, if_pos (decide_eq_decide.1 (beq_iff_eq.1 ht71))]
      exact Zfs
     ·intro ht71
      refine ZE ?_
      have er : Bd c m = 0 := by unfold Bd; rw [if_neg (by omega), if_neg ht16, if_neg (fun h => by rw [beq_iff_eq.2 (decide_eq_decide.2 h)] at ht71; cases ht71)]
      exact Zfs
theorem U0 {v1 : Value} {b : List UInt8} {c : Config} (hs : St (L) R w) (h1 : sl v1 b ∈ R) : Calls Try.prog 74 [.agg c.cells.toArray, v1].toArray w (Bw (fun _ : Unit => .tuple #[.agg (Af c b).1.cells.toArray, vi (Af c b).2]) (fun _ => L) (fun _ => R)) := by
 have hlen := Bg h1 hs
 have B : ∀ i, (b.getD i 0).toNat < 256 := fun i => (b.getD i 0).toNat_lt
 refine Aj Try.func74 rfl Try.ntmps74 rfl hs ?_
 clear hs
 refine Gm ?_
 refine bx ?_; intro b2
 refine al_ (cs := zMsg.cells) Try.zeroValue49 ?_; intro b4
 refine ZaA ?_
 refine cdy ?_ ?_
 ·intro ht11
  exact Zf4
 ·intro ht11
  refine Gl ?_
  have B0 := B 0; have B1 := B 1; have B2 := B 2; have B3 := B 3; have B4 := B 4; have B5 := B 5; have B6 := B 6; have B7 := B 7; have B8 := B 8; have B9 := B 9; have B10 := B 10; have B11 := B 11
  refine ZA ?_
  refine ob (Am rfl rfl (b_subE (r := ((10 : Nat) : Int)) (by omega) (by omega) (by omega))) ?_
  refine Ga1 ?_
  refine Gn (v := v1) (b := b) 10 mm (by omega) ?_
  refine Gn (v := v1) (b := b) 11 mm (by omega) ?_
  refine Zal ?_
  refine ZdW ?_
  refine Ze (γ := Unit) (val := fun _ => vi (Hq (b.take 10))) (F := fun _ => []) (C := fun _ => []) Try.call99 (fun _ => rfl) (fun _ _ _ _ => rfl) (fun ρ L R w hd hs => Ha hs (hd.dep (it := ⟨2, _, _, _, _⟩) (by repeat (first | exact List.Mem.head _ | refine List.Mem.tail _ ?_)) ⟨9, rfl⟩ (List.Mem.head _))) ?_
  refine dn2 ?_
  refine djc (fun _ _ => Fx (i := 10) Cz) ?_
  refine dj ?_
  first | refine dc (fun _ _ => C3 Try.isAgg5) ?_ | refine dp (fun _ _ => C3 Try.isAgg5) ?_
  refine dj ?_
  first | refine dc (fun _ _ => Ar Try.underlying5 Try.underlying3 rfl (A6 _)) ?_ | refine dp (fun _ _ => Ar Try.underlying5 Try.underlying3 rfl (A6 _)) ?_
  refine djc (fun _ _ => Am rfl rfl (Qb (by omega) (by omega))) ?_
  refine dn2 ?_
  refine dj ?_
  refine dc (fun _ _ => Am rfl rfl (v := vi ((11 : Nat) : Int)) (Afx (a := 10) (b := 1) (by omega))) ?_
  refine djc (fun _ _ => Fx (i := 11) Cz) ?_
  refine dj ?_
  first | refine dc (fun _ _ => C3 Try.isAgg5) ?_ | refine dp (fun _ _ => C3 Try.isAgg5) ?_
  refine dj ?_
  first | refine dc (fun _ _ => Ar Try.underlying5 Try.underlying3 rfl (A6 _)) ?_ | refine dp (fun _ _ => Ar Try.underlying5 Try.underlying3 rfl (A6 _)) ?_
  refine djc (fun _ _ => Am rfl rfl (Tr (by omega) (by omega) (by omega) (by omega))) ?_
  refine dj ?_
  first | refine dc (fun _ _ => F1 Sj) ?_ | refine dp (fun _ _ => F1 Sj) ?_
  refine dnl ?_; intro ρ
  refine Gl ?_
  refine cdy ?_ ?_
  ·intro ht33
   exact Zfr
  ·intro ht33
   refine Gl ?_
   refine Zeb ?_
   refine jgx (t := 39) (p := ?p3) (hd := ?d3) ?e3 ?_ ?_; case e3 => exact rfl
   ·intro ht39
    refine Gc5 ?_
    refine kp [1, 2, 4, 5, 45] ?_
    refine Aa ?_
    exact ZeC
   ·intro ht39
    refine rn1 ?_
    refine gy ?_
    refine ob (Fx (i := 9) Cz) ?_
    refine Ga3 ?_
    refine cdy ?_ ?_
    ·intro ht44
     refine Gl ?_
     refine kp [1, 2, 4, 5, 45] ?_
     refine Aa ?_
     exact ZeC
    ·intro ht44
     refine ZdB ?_
     refine kp [1, 2, 4, 5, 7, 46, 47, 48, 49, 50, 51, 52, 53, 54, 55, 56, 57, 58, 59, 60, 61, 62, 63, 64, 65, 66, 67, 68, 69, 70, 71, 72, 73, 74, 75, 76, 77, 78, 79, 80, 81, 82, 83, 84, 85, 86, 87, 88, 89, 90, 91, 92] ?_
     refine ZdI ?_
     first | refine epc (fun _ _ => Fx (i := 0) Cz) ?_ | refine epp (fun _ _ => Fx (i := 0) Cz) ?_
     first | refine epc (fun _ _ => C3 Try.isAgg5) ?_ | refine epp (fun _ _ => C3 Try.isAgg5) ?_
     first | refine epc (fun _ _ => Ar Try.underlying5 Try.underlying3 rfl (A6 _)) ?_ | refine epp (fun _ _ => Ar Try.underlying5 Try.underlying3 rfl (A6 _)) ?_
     refine dn1 ?_
     first | refine epc (fun _ _ => Fx (i := 1) Cz) ?_ | refine epp (fun _ _ => Fx (i := 1) Cz) ?_
     first | refine epc (fun _ _ => C3 Try.isAgg5) ?_ | refine epp (fun _ _ => C3 Try.isAgg5) ?_
     refine epc (fun _ _ => Am rfl rfl Ake) ?_
     refine epc (fun _ _ => Ar Try.underlying5 Try.underlying3 rfl (Wx _)) ?_
     refine dn1 ?_
     first | refine epc (fun _ _ => Fx (i := 1) Cz) ?_ | refine epp (fun _ _ => Fx (i := 1) Cz) ?_
     first | refine epc (fun _ _ => C3 Try.isAgg5) ?_ | refine epp (fun _ _ => C3 Try.isAgg5) ?_
     refine epc (fun _ _ => Am rfl rfl Aep) ?_
     refine epc (fun _ _ => Ar Try.underlying5 Try.underlying3 rfl (Ww _)) ?_
     refine dn1 ?_
     first | refine epc (fun _ _ => Fx (i := 2) Cz) ?_ | refine epp (fun _ _ => Fx (i := 2) Cz) ?_
     first | refine epc (fun _ _ => C3 Try.isAgg5) ?_ | refine epp (fun _ _ => C3 Try.isAgg5) ?_
     first | refine epc (fun _ _ => Ar Try.underlying5 Try.underlying3 rfl (A6 _)) ?_ | refine epp (fun _ _ => Ar Try.underlying5 Try.underlying3 rfl (A6 _)) ?_
     refine dn1 ?_
     first | refine epc (fun _ _ => Fx (i := 3) Cz) ?_ | refine epp (fun _ _ => Fx (i := 3) Cz) ?_
     first | refine epc (fun _ _ => C3 Try.isAgg5) ?_ | refine epp (fun _ _ => C3 Try.isAgg5) ?_
     first | refine epc (fun _ _ => Ar Try.underlying5 Try.underlying3 rfl (A6 _)) ?_ | refine epp (fun _ _ => Ar Try.underlying5 Try.underlying3 rfl (A6 _)) ?_
     refine epc (fun _ _ => Am rfl rfl (Qb (by omega) (by omega))) ?_
     refine dn1 ?_
     first | refine epc (fun _ _ => Fx (i := 4) Cz) ?_ | refine epp (fun _ _ => Fx (i := 4) Cz) ?_
     first | refine epc (fun _ _ => C3 Try.isAgg5) ?_ | refine epp (fun _ _ => C3 Try.isAgg5) ?_
     first | refine epc (fun _ _ => Ar Try.underlying5 Try.underlying3 rfl (A6 _)) ?_ | refine epp (fun _ _ => Ar Try.underlying5 Try.underlying3 rfl (A6 _)) ?_
     refine epc (fun _ _ => Am rfl rfl (Tr (by omega) (by omega) (by omega) (by omega))) ?_
     refine dn1 ?_
     first | refine epc (fun _ _ => Fx (i := 5) Cz) ?_ | refine epp (fun _ _ => Fx (i := 5) Cz) ?_
     first | refine epc (fun _ _ => C3 Try.isAgg5) ?_ | refine epp (fun _ _ => C3 Try.isAgg5) ?_
     first | refine epc (fun _ _ => Ar Try.underlying5 Try.underlying3 rfl (A6 _)) ?_ | refine epp (fun _ _ => Ar Try.underlying5 Try.underlying3 rfl (A6 _)) ?_
     refine epc (fun _ _ => Am rfl rfl (Qb (by omega) (by omega))) ?_
     refine dn1 ?_
     first | refine epc (fun _ _ => Fx (i := 6) Cz) ?_ | refine epp (fun _ _ => Fx (i := 6) Cz) ?_
     first | refine epc (fun _ _ => C3 Try.isAgg5) ?_ | refine epp (fun _ _ => C3 Try.isAgg5) ?_
     first | refine epc (fun _ _ => Ar Try.underlying5 Try.underlying3 rfl (A6 _)) ?_ | refine epp (fun _ _ => Ar Try.underlying5 Try.underlying3 rfl (A6 _)) ?_
     refine epc (fun _ _ => Am rfl rfl (Tr (by omega) (by omega) (by omega) (by omega))) ?_
     refine dn1 ?_
     first | refine epc (fun _ _ => Fx (i := 7) Cz) ?_ | refine epp (fun _ _ => Fx (i := 7) Cz) ?_
     first | refine epc (fun _ _ => C3 Try.isAgg5) ?_ | refine epp (fun _ _ => C3 Try.isAgg5) ?_
     first | refine epc (fun _ _ => Ar Try.underlying5 Try.underlying3 rfl (A6 _)) ?_ | refine epp (fun _ _ => Ar Try.underlying5 Try.underlying3 rfl (A6 _)) ?_
     refine dn1 ?_
     first | refine epc (fun _ _ => Fx (i := 8) Cz) ?_ | refine epp (fun _ _ => Fx (i := 8) Cz) ?_
     first | refine epc (fun _ _ => C3 Try.isAgg5) ?_ | refine epp (fun _ _ => C3 Try.isAgg5) ?_
     first | refine epc (fun _ _ => F1 Sl) ?_ | refine epp (fun _ _ => F1 Sl) ?_
     first | refine epc (fun _ _ => Eo Ec) ?_ | refine epc (fun _ _ => Fn Ec) ?_ | refine epp (fun _ _ => Eo Ec) ?_ | refine epp (fun _ _ => Fn Ec) ?_
     refine J4 (cs := zMsg.cells) Try.zeroValue49 rfl (fun ρ b S hS hA => ?_) ?_
     ·exact Zfc
     refine ZdN ?_;intro ρ
     generalize (Gh.dec (γ := Nat) (ρ 47)) = b7
     refine Gl ?_
     refine kp [2, 4, 5, 7, 8, 93, 94, 95] ?_
     refine ZA ?_
     refine Ao Try.call100 rfl (fun w hs => Acu (c := c) (m := G4 b) hs) ?_; intro _
     refine ZH ?_
     refine cdy ?_ ?_
     ·intro ht97
      exact ZeX
     ·intro ht97
      exact Zfg
theorem Ni {v0 : Value} {b : List UInt8} {bit : Int} (hs : St L R w) (h0 : sl v0 b ∈ R) (hbit : An bit) : Calls Try.prog 107 [v0, vi bit].toArray w (Bw (fun v : Value => v) (fun _ => L) (fun v => sl v (Bp b bit) :: R)) := by
 have hlen := Bg h0 hs
 have hbit' := hbit
 unfold An at hbit'
 refine Aj Try.func107 rfl Try.ntmps107 rfl hs ?_
 clear hs
 repeat refine Bj ?_
 refine ZaC ?_
 repeat refine Bj ?_
 refine ZM ?_
 refine J.rowNil 5 UInt8 ?_
 refine Kh Gy rfl rfl rfl (by decide) .hd h0 (fun w hs => by have : maxN = 16777216 := rfl; simp; omega) ?_; intro v7
 rw [List.nil_append]
 refine Zai ?_
 repeat refine Bj ?_
 refine ZM ?_
 refine Ed rfl rfl Qd ?_
 refine Bm rfl ?_
 refine K8 (t := 10) (b := ?b1) ?e1 ?_ ?_
 case e1 => exact rfl
 ·
  intro ht10
  try simp only [decide_eq_true_eq, decide_eq_false_iff_not, beq_iff_eq, bne_iff_ne, beq_eq_false_iff_ne, bne_eq_false_iff_eq, Int.not_lt, Int.not_le, Bool.not_eq_true, ne_eq, Bool.not_eq_eq_eq_not, Bool.not_true, Bool.not_false] at ht10
  refine J.guardYes ?_ ?_
  ·exact rfl
  refine Bm rfl ?_
  refine J.guardYes ?_ ?_
  ·exact rfl
  refine Bm rfl ?_
  refine J.guardYes ?_ ?_
  ·exact rfl
  refine Abr Try.underlying52 rfl (by first | exact Dn pkk | exact Er mm) ?_
  refine J.guardYes ?_ ?_
  ·exact rfl
  refine ZbN ?_
  refine J.guardYes ?_ ?_
  ·exact rfl
  refine Ed rfl rfl Lh ?_
  refine Xs rfl rfl ?_
  refine Zah ?_
  repeat refine Bj ?_
  refine Bk rfl (fun ht16 => ?_) (fun ht16 => ?_)
  ·
   try simp only [decide_eq_true_eq, decide_eq_false_iff_not, beq_iff_eq, bne_iff_ne, beq_eq_false_iff_ne, bne_eq_false_iff_eq, Int.not_lt, Int.not_le, Bool.not_eq_true, ne_eq, Bool.not_eq_eq_eq_not, Bool.not_true, Bool.not_false] at ht16
   obtain ⟨q, rfl⟩ : ∃ q : Nat, bit = (q : Int) := ⟨bit.toNat, by omega⟩
   have hq : q / 8 < b.length := by omega
   have hq8 : q % 8 < 8 := by omega
   refine Tb Aha (by kernel_rfl) (by kernel_rfl) (fun _ _ => _) (fun _ => rfl) ?_
   refine dj ?_
   refine ZcQ ?_
   refine ZcQ ?_
   refine d_pc (fun _ _ => Am rfl rfl (Afu (b := 8) (by omega) (by decide))) rfl (fun _ _ _ _ => rfl) ?_
   refine dj ?_
   first | refine d_pc (fun _ _ => Iu Cz rfl rfl (by first | exact Dn pkk | exact Er mm) (by first | assumption | omega | (simp only [List.length_nil, List.length_cons, List.length_append, List.length_take, List.length_drop, List.length_set, List.length_replicate]; omega))) rfl (fun _ _ _ _ => rfl) ?_ | refine d_indexAddr Cz (fun _ => rfl) (fun _ => rfl) (fun _ _ => (by first | exact Dn pkk | exact Er mm)) (by first | assumption | omega | (simp only [List.length_nil, List.length_cons, List.length_append, List.length_take, List.length_drop, List.length_set, List.length_replicate]; omega)) (by first | assumption | omega | (simp only [List.length_nil, List.length_cons, List.length_append, List.length_take, List.length_drop, List.length_set, List.length_replicate]; omega)) (fun _ _ _ _ => rfl) ?_
   refine dj ?_
   first | refine Tg Try.isAgg5 (fun _ => rfl) (fun _ _ => A0 pkk (by exact rfl)) (fun _ _ _ _ => rfl) ?_ | refine Tg Try.isAgg5 (fun _ => rfl) (fun _ _ => Jl pkk (by first | assumption | omega | (simp only [List.length_nil, List.length_cons, List.length_append, List.length_take, List.length_drop, List.length_set, List.length_replicate]; omega))) (fun _ _ _ _ => rfl) ?_ | refine Tg Try.isAgg5 (fun _ => rfl) (fun _ _ => Mc mm (by first | assumption | omega | (simp only [List.length_nil, List.length_cons, List.length_append, List.length_take, List.length_drop, List.length_set, List.length_replicate]; omega))) (fun _ _ _ _ => rfl) ?_
   refine dj ?_
   refine ZcQ ?_
   refine d_pc (fun _ _ => Am rfl rfl (Aft (b := 8) (by decide) (by decide))) rfl (fun _ _ _ _ => rfl) ?_
   refine dj ?_
   refine d_pc (fun _ _ => Am rfl rfl (b_shl8 (x := 1) (by omega) (by omega))) rfl (fun _ _ _ _ => rfl) ?_
   refine dj ?_
   first | refine d_pc (fun _ _ => Am rfl rfl Afr) rfl (fun _ _ _ _ => rfl) ?_ | refine d_p (fun _ _ => Am rfl rfl Afr) rfl (by first | exact Ind.const _ | exact fun _ _ _ _ _ => rfl | exact Ind.self | exact Ind.gh _ 3 rfl) (fun _ _ _ _ => rfl) ?_
   refine Za (by kernel_rfl) ?_; intro ρ; simp only [Gk, facts, El, List.append_nil, List.nil_append, List.cons_append]
   first | refine G6 Cz rfl rfl (by first | exact Dn pkk | exact Er mm) (by first | assumption | omega | (simp only [List.length_nil, List.length_cons, List.length_append, List.length_take, List.length_drop, List.length_set, List.length_replicate]; omega)) ?_ | refine Gv Cz rfl rfl (by first | exact Dn pkk | exact Er mm) (by first | assumption | omega | (simp only [List.length_nil, List.length_cons, List.length_append, List.length_take, List.length_drop, List.length_set, List.length_replicate]; omega)) (by first | assumption | omega | (simp only [List.length_nil, List.length_cons, List.length_append, List.length_take, List.length_drop, List.length_set, List.length_replicate]; omega)) ?_
   refine Jc (α := UInt8) (f := 0) (e' := b.getD (q / 8) 0 ^^^ ((1 : UInt8) <<< UInt8.ofNat (q % 8))) Try.sizeOf5 rfl rfl rfl rfl (by intro u hu; cases List.mem_singleton.1 hu; rfl) pkk (getD_some 0 hq) (fun ds m hr => by rw [show ds = [vb _] from hr]; exact Nat.le_refl _) (fun j _ ds hr => by rw [show ds = [vb _] from hr]; show [vb (b.getD (q / 8) 0 ^^^ u8 (((1 : UInt8).toNat : Int) * 2 ^ (((q % 8 : Nat) : Int)).toNat))] = [vb _]; rw [Int.toNat_natCast, Ahc ⟨q % 8, hq8⟩]) ?_
   refine Zah ?_
   repeat refine Bj ?_
   refine Zb3 ?_
   repeat (first | refine Em ?_ | refine Dx ?_)
   have e1 : ((q : Int) / 8).toNat = q / 8 := by omega
   have e2 : ((q : Int) % 8).toNat = q % 8 := by omega
   have ht : Bp b (q : Int) = b.set (q / 8) (b.getD (q / 8) 0 ^^^ ((1 : UInt8) <<< UInt8.ofNat (q % 8))) := by unfold Bp; rw [if_pos (by omega), e1, e2]
   refine Zcz ?_;intro w hs
   refine ⟨v7, rfl, ?_⟩
   rw [ht]
   exact (St.shut (hs.pick pkk)).sub (by repeat (first | exact .refl | exact .nil | refine .cons pkk ?_ | refine .drop ?_)) (by repeat (first | exact FSub.refl | exact FSub.nil | refine FSub.cons (by first | assumption | (repeat (first | assumption | exact List.Mem.head _ | refine .tail _ ?_))) ?_ | refine FSub.drop ?_))
  ·
   try simp only [decide_eq_true_eq, decide_eq_false_iff_not, beq_iff_eq, bne_iff_ne, beq_eq_false_iff_ne, bne_eq_false_iff_eq, Int.not_lt, Int.not_le, Bool.not_eq_true, ne_eq, Bool.not_eq_eq_eq_not, Bool.not_true, Bool.not_false] at ht16
   refine Za9 ?_
   repeat refine Bj ?_
   refine Zb3 ?_
   repeat (first | refine Em ?_ | refine Dx ?_)
   have ht : Bp b bit = b := by unfold Bp; rw [if_neg (by omega)]
   refine Zcz ?_;intro w hs
   refine ⟨v7, rfl, ?_⟩
   rw [ht]
   exact (St.shut (hs.pick pkk)).sub (by repeat (first | exact .refl | exact .nil | refine .cons pkk ?_ | refine .drop ?_)) (by repeat (first | exact FSub.refl | exact FSub.nil | refine FSub.cons (by first | assumption | (repeat (first | assumption | exact List.Mem.head _ | refine .tail _ ?_))) ?_ | refine FSub.drop ?_))
 ·
  intro ht10
  try simp only [decide_eq_true_eq, decide_eq_false_iff_not, beq_iff_eq, bne_iff_ne, beq_eq_false_iff_ne, bne_eq_false_iff_eq, Int.not_lt, Int.not_le, Bool.not_eq_true, ne_eq, Bool.not_eq_eq_eq_not, Bool.not_true, Bool.not_false] at ht10
  refine J.guardNo ?_ ?_
  ·exact rfl
  refine J.guardNo ?_ ?_
  ·exact rfl
  refine J.guardNo ?_ ?_
  ·exact rfl
  refine J.guardNo ?_ ?_
  ·exact rfl
  refine J.guardNo ?_ ?_
  ·exact rfl
  refine Xt rfl rfl ?_
  refine Zah ?_
  repeat refine Bj ?_
  refine L7 rfl ?_
  refine Za9 ?_
  repeat refine Bj ?_
  refine Zb3 ?_
  repeat (first | refine Em ?_ | refine Dx ?_)
  have ht : Bp b bit = b := by unfold Bp; rw [if_neg (by omega)]
  refine Zcz ?_;intro w hs
  refine ⟨v7, rfl, ?_⟩
  rw [ht]
  exact (St.shut (hs.pick pkk)).sub (by repeat (first | exact .refl | exact .nil | refine .cons pkk ?_ | refine .drop ?_)) (by repeat (first | exact FSub.refl | exact FSub.nil | refine FSub.cons (by first | assumption | (repeat (first | assumption | exact List.Mem.head _ | refine .tail _ ?_))) ?_ | refine FSub.drop ?_))
theorem M4 {v0 : Value} {b : List UInt8} {bit : Int} (hs : St L R w) (h0 : sl v0 b ∈ R) (hbit : An bit) : Calls Try.prog 57 [v0, vi bit].toArray w (Bw (fun v : Value => v) (fun _ => L) (fun v => sl v (Bp b bit) :: R)) := by
 have hlen := Bg h0 hs
 have hbit' := hbit
 unfold An at hbit'
 refine Aj Try.func57 rfl Try.ntmps57 rfl hs ?_
 clear hs
 repeat refine Bj ?_
 refine ZaC ?_
 repeat refine Bj ?_
 refine ZaC ?_
 repeat refine Bj ?_
 refine ZcZ ?_
 repeat refine Bj ?_
 refine D5 ?_
 have hbl : (Bp b bit).length = b.length := I9 b bit
 refine JC.rowNil 5 UInt8 ?_
 refine Bx (γ := Nat × Value) (fun g => g.1 ≤ b.length) (fun g => row 5 g.2 ((Bp b bit).take g.1) :: L) (fun _ => R) (fun g => [(1, vi bit), (5, g.2), (9, v0), (10, vi (b.length : Int)), (11, vi (g.1 : Int))]) (fun g => b.length - g.1) (0, .slice none 0 0) (by omega) ⟨rfl, rfl, rfl, rfl, rfl, trivial⟩ (fun w hs => hs) ?_
 rintro ⟨k, v5⟩ hk
 simp only at hk ⊢
 repeat refine Bj ?_
 refine ZbM ?_
 repeat refine Bj ?_
 refine Bk rfl (fun ht12 => ?_) (fun ht12 => ?_)
 ·
  try simp only [decide_eq_true_eq, decide_eq_false_iff_not, beq_iff_eq, bne_iff_ne, beq_eq_false_iff_ne, bne_eq_false_iff_eq, Int.not_lt, Int.not_le, Bool.not_eq_true, ne_eq, Bool.not_eq_eq_eq_not, Bool.not_true, Bool.not_false] at ht12
  refine Za9 ?_
  repeat refine Bj ?_
  refine D5 ?_
  repeat refine Bj ?_
  refine ZM ?_
  first | refine G6 Cz rfl rfl (by first | exact Dn pkk | exact Er mm) (by first | assumption | omega | (simp only [List.length_nil, List.length_cons, List.length_append, List.length_take, List.length_drop, List.length_set, List.length_replicate]; omega)) ?_ | refine Gv Cz rfl rfl (by first | exact Dn pkk | exact Er mm) (by first | assumption | omega | (simp only [List.length_nil, List.length_cons, List.length_append, List.length_take, List.length_drop, List.length_set, List.length_replicate]; omega)) (by first | assumption | omega | (simp only [List.length_nil, List.length_cons, List.length_append, List.length_take, List.length_drop, List.length_set, List.length_replicate]; omega)) ?_
  first | refine Hw Try.isAgg5 rfl (A0 pkk (by exact rfl)) ?_ | refine Hw Try.isAgg5 rfl (Jl pkk (by first | assumption | omega | (simp only [List.length_nil, List.length_cons, List.length_append, List.length_take, List.length_drop, List.length_set, List.length_replicate]; omega))) ?_ | refine Hw Try.isAgg5 rfl (Mc mm (by first | assumption | omega | (simp only [List.length_nil, List.length_cons, List.length_append, List.length_take, List.length_drop, List.length_set, List.length_replicate]; omega))) ?_
  refine Bn rfl ?_
  refine Zai ?_
  repeat refine Bj ?_
  refine ZM ?_
  refine Bm rfl ?_
  refine ZbN ?_
  refine Ed rfl rfl Qd ?_
  refine Bm rfl ?_
  refine K8 (t := 20) (b := ?b1) ?e1 ?_ ?_
  case e1 => exact rfl
  ·
   intro ht20
   try simp only [decide_eq_true_eq, decide_eq_false_iff_not, beq_iff_eq, bne_iff_ne, beq_eq_false_iff_ne, bne_eq_false_iff_eq, Int.not_lt, Int.not_le, Bool.not_eq_true, ne_eq, Bool.not_eq_eq_eq_not, Bool.not_true, Bool.not_false] at ht20
   refine J.guardYes ?_ ?_
   ·exact rfl
   refine Bm rfl ?_
   refine J.guardYes ?_ ?_
   ·exact rfl
   refine Bm rfl ?_
   refine J.guardYes ?_ ?_
   ·exact rfl
   refine ZbN ?_
   refine J.guardYes ?_ ?_
   ·exact rfl
   refine Ed rfl rfl (Ly (by omega) (by omega)) ?_
   refine J.guardYes ?_ ?_
   ·exact rfl
   refine Ed rfl rfl Lh ?_
   refine Xs rfl rfl ?_
   refine Zah ?_
   repeat refine Bj ?_
   refine Bk rfl (fun ht26 => ?_) (fun ht26 => ?_)
   ·
    try simp only [decide_eq_true_eq, decide_eq_false_iff_not, beq_iff_eq, bne_iff_ne, beq_eq_false_iff_ne, bne_eq_false_iff_eq, Int.not_lt, Int.not_le, Bool.not_eq_true, ne_eq, Bool.not_eq_eq_eq_not, Bool.not_true, Bool.not_false] at ht26
    repeat refine Bj ?_
    obtain ⟨r, hr⟩ : ∃ r : Nat, bit = 8 * (k : Int) + r := ⟨(bit - 8 * (k : Int)).toNat, by omega⟩
    have hr8 : r < 8 := by omega
    have hget : (Bp b bit).getD k 0 = b.getD k 0 ^^^ ((1 : UInt8) <<< UInt8.ofNat r) := by
     have e1 : (bit / 8).toNat = k := by omega
     have e2 : (bit % 8).toNat = r := by omega
     unfold Bp
     rw [if_pos (by omega), e1, e2, Ch _ _ _ _ _ (by omega), if_pos rfl]
    refine ZaC ?_
    repeat refine Bj ?_
    refine ZM ?_
    refine Bm rfl ?_
    refine ZbN ?_
    refine Ed rfl rfl (Zz (by omega) (by omega)) ?_
    refine Bm rfl ?_
    refine Zah ?_
    repeat refine Bj ?_
    refine D5 ?_
    rw [show bit - 8 * (k : Int) = (r : Int) by omega]
    refine Bx (γ := Nat) (fun j => j ≤ r) (fun _ => row 5 v5 ((Bp b bit).take k) :: L) (fun _ => R) (fun j => [(1, vi bit), (5, v5), (9, v0), (10, vi (b.length : Int)), (11, vi (k : Int)), (7, vb (b.getD k 0)), (30, vi (r : Int)), (31, vi (j : Int)), (8, vi ((2 ^ j : Nat) : Int))]) (fun j => r - j) 0 (by omega) ⟨rfl, rfl, rfl, rfl, rfl, rfl, rfl, rfl, rfl, trivial⟩ (fun w hs => Ai hs) ?_
    intro j hj
    repeat refine Bj ?_
    refine ZbM ?_
    repeat refine Bj ?_
    refine Bk rfl (fun ht32 => ?_) (fun ht32 => ?_)
    ·
     try simp only [decide_eq_true_eq, decide_eq_false_iff_not, beq_iff_eq, bne_iff_ne, beq_eq_false_iff_ne, bne_eq_false_iff_eq, Int.not_lt, Int.not_le, Bool.not_eq_true, ne_eq, Bool.not_eq_eq_eq_not, Bool.not_true, Bool.not_false] at ht32
     refine Za9 ?_
     repeat refine Bj ?_
     refine D5 ?_
     refine ZM ?_
     have hp := Nat.pow_le_pow_right (show 0 < 2 by decide) (show j ≤ 8 by omega)
     have hp1 : (0 : Int) ≤ ((2 ^ j : Nat) : Int) := Int.natCast_nonneg _
     have hp2 : ((2 ^ j : Nat) : Int) ≤ 256 := Int.ofNat_le.2 hp
     refine ZbN ?_
     refine Zbd ?_
     refine Zbs ?_
     have hp3 : 2 ^ (j + 1) = 2 ^ j * 2 := Nat.pow_succ ..
     refine Bb (j + 1) (by omega) (by omega) ⟨rfl, rfl, rfl, rfl, rfl, rfl, rfl, rfl, ?_, trivial⟩ (fun w hs => hs)
     exact congrArg (fun z => some (vi z)) (show 2 * ((2 ^ j : Nat) : Int) = ((2 ^ (j + 1) : Nat) : Int) by rw [hp3, Int.natCast_mul]; exact Int.mul_comm _ _)
    ·
     try simp only [decide_eq_true_eq, decide_eq_false_iff_not, beq_iff_eq, bne_iff_ne, beq_eq_false_iff_ne, bne_eq_false_iff_eq, Int.not_lt, Int.not_le, Bool.not_eq_true, ne_eq, Bool.not_eq_eq_eq_not, Bool.not_true, Bool.not_false] at ht32
     refine G9 ?_
     repeat (first | refine Dw ?_ | refine Ew rfl ?_)
     refine Dy ?_
     refine Aw ?_
     refine ZM ?_
     refine r_p (Ar Try.underlying5 Try.underlying3 rfl (A6 _)) rfl ?_
     refine Bm rfl ?_
     have hjr : j = r := by omega
     subst hjr
     have hp := Nat.pow_le_pow_right (show 0 < 2 by decide) (show j ≤ 8 by omega)
     refine r_p (Am rfl rfl (Vb (by have := (b.getD k 0).toNat_lt; omega) (by omega))) rfl ?_
     refine r_p (Ar Try.underlying3 Try.underlying5 rfl (Cl _)) rfl ?_
     rw [Aah _ _ hr8]
     refine Zai ?_
     refine ZM ?_
     refine Bm rfl ?_
     refine Xu (α := UInt8) [b.getD k 0 ^^^ ((1 : UInt8) <<< UInt8.ofNat j)] Gy rfl rfl rfl rfl rfl rfl (fun j hj => ⟨⟨_, rfl, rfl⟩, trivial⟩) ?_; intro v43
     refine Zd6 ?_;intro v44 w hs
     have hxk : ((Bp b bit)[k]?).toList = [b.getD k 0 ^^^ ((1 : UInt8) <<< UInt8.ofNat j)] := by
      rw [getD_some 0 (show k < (Bp b bit).length by omega)]
      have hg : (Bp b bit).getD k 0 = b.getD k 0 ^^^ ((1 : UInt8) <<< UInt8.ofNat j) := hget
      rw [hg]; rfl
     show St (row 5 v44 ((Bp b bit).take (k + 1)) :: _) _ w
     rw [List.take_add_one, hxk]; exact Ai hs
   ·
    try simp only [decide_eq_true_eq, decide_eq_false_iff_not, beq_iff_eq, bne_iff_ne, beq_eq_false_iff_ne, bne_eq_false_iff_eq, Int.not_lt, Int.not_le, Bool.not_eq_true, ne_eq, Bool.not_eq_eq_eq_not, Bool.not_true, Bool.not_false] at ht26
    have hget : (Bp b bit).getD k 0 = b.getD k 0 := by
     exact Zgl
    refine Zed ?_;intro v43 v44 w hs
    have hxk : ((Bp b bit)[k]?).toList = [b.getD k 0] := by
     exact ZfI
    show St (row 5 v44 ((Bp b bit).take (k + 1)) :: _) _ w
    rw [List.take_add_one, hxk]; exact Ai hs
  ·
   intro ht20
   try simp only [decide_eq_true_eq, decide_eq_false_iff_not, beq_iff_eq, bne_iff_ne, beq_eq_false_iff_ne, bne_eq_false_iff_eq, Int.not_lt, Int.not_le, Bool.not_eq_true, ne_eq, Bool.not_eq_eq_eq_not, Bool.not_true, Bool.not_false] at ht20
   have hget : (Bp b bit).getD k 0 = b.getD k 0 := by
    exact Zgl
   refine J.guardNo ?_ ?_
   ·exact rfl
   refine J.guardNo ?_ ?_
   ·exact rfl
   refine J.guardNo ?_ ?_
   ·exact rfl
   refine J.guardNo ?_ ?_
   ·exact rfl
   refine J.guardNo ?_ ?_
   ·exact rfl
   refine Xt rfl rfl ?_
   refine Zah ?_
   repeat refine Bj ?_
   refine L7 rfl ?_
   refine Zed ?_;intro v43 v44 w hs
   have hxk : ((Bp b bit)[k]?).toList = [b.getD k 0] := by
    exact ZfI
   show St (row 5 v44 ((Bp b bit).take (k + 1)) :: _) _ w
   rw [List.take_add_one, hxk]; exact Ai hs
 ·
  try simp only [decide_eq_true_eq, decide_eq_false_iff_not, beq_iff_eq, bne_iff_ne, beq_eq_false_iff_ne, bne_eq_false_iff_eq, Int.not_lt, Int.not_le, Bool.not_eq_true, ne_eq, Bool.not_eq_eq_eq_not, Bool.not_true, Bool.not_false] at ht12
  refine G9 ?_
  repeat (first | refine Dw ?_ | refine Ew rfl ?_)
  refine Dy ?_
  refine Aw ?_
  repeat refine Bj ?_
  refine Zb3 ?_
  repeat (first | refine Em ?_ | refine Dx ?_)
  have hkl : k = b.length := by omega
  refine Zcz ?_;intro w hs
  refine ⟨v5, rfl, ?_⟩
  have h := St.shut (hs.pick pkk)
  rw [List.take_of_length_le (by omega)] at h
  exact h.sub (by repeat (first | exact .refl | exact .nil | refine .cons pkk ?_ | refine .drop ?_)) (by repeat (first | exact FSub.refl | exact FSub.nil | refine FSub.cons (by first | assumption | (repeat (first | assumption | exact List.Mem.head _ | refine .tail _ ?_))) ?_ | refine FSub.drop ?_))
theorem Tf {α : Type} {l : List α} {i : Nat} : l.eraseIdx i = l.take i ++ l.drop (i + 1) := List.eraseIdx_eq_take_drop_succ ..
theorem RdL.erase {α : Type} [Enc α] {m : Mem} {xs : List α} {cs : List Value} {i : Nat} (hz : Enc.sz α = 1) (hi : i < xs.length) (h : RdL xs cs m) : RdL (xs.eraseIdx i) (cs.take i ++ cs.drop (i + 1)) m := by
 have h1 : xs = xs.take i ++ xs.drop i := (List.take_append_drop i xs).symm
 rw [h1] at h
 obtain ⟨a, b, e1, e2, e3⟩ := RdL.split h
 have la : a.length = i := by rw [e2.len, hz, List.length_take]; omega
 rw [List.drop_eq_getElem_cons hi] at e3
 obtain ⟨c1, c2, g1, g2, g3⟩ := e3
 have lc : c1.length = 1 := by rw [Enc.len _ _ _ g2, hz]
 rw [Tf]
 have ea : cs.take i = a := by rw [e1, ← la]; simp
 have eb : cs.drop (i + 1) = c2 := by
  rw [e1, g1, ← la, List.drop_append, show a.length + 1 - a.length = 1 by omega, List.drop_append, lc]
  simp [List.drop_of_length_le, lc]
 rw [ea, eb]
 exact RdL.append g3 e2
theorem Ta {L : List Chunk} {R : List Fact} {a : Addr} {k c : Nat} : Ev L R (.slice (some a) k c) k := fun w _ => ⟨some a, c, rfl, fun _ => ⟨a, rfl⟩⟩
theorem Abt {P : Program} {n : Nat} {L : List Chunk} {R : List Fact} {al : List (Nat × Value)} {d : Nat} {x p q r : Operand} {T ty : TypeId} {pos : String} {aft : Array Edge} {e : TypeId} {sz len cap lo hi mx : Nat} {a : Addr} (ht : D2 P T e sz) (hx : ev n al x = some (.slice (some a) len cap)) (h1 : ev n al p = some (vi (lo : Int))) (h2 : ev n al q = some (vi (hi : Int))) (h3 : ev n al r = some (vi (mx : Int))) (l1 : lo ≤ hi) (l2 : hi ≤ mx) (l3 : mx ≤ cap) :
  A4 P n al L R ⟨some d, .slice T x (some p) (some q) (some r), ty, pos, aft, none⟩ (.slice (if mx = lo then some a else some (a.add (lo * sz))) (hi - lo) (mx - lo)) :=
 ⟨rfl, fun ρ w h hs => by
  show (Instr.sliceAt T (ρ x) (some (ρ p)) (some (ρ q)) (some (ρ r)) >>= fun v => Pure.pure (Next.value v)).run P w = _
  rw [h x (by simp [Op.operands]) _ hx, h p (by simp [Op.operands]) _ h1, h q (by simp [Op.operands]) _ h2, h r (by simp [Op.operands]) _ h3, Sem.run_bind]
  have : (Instr.sliceAt T (.slice (some a) len cap) (some (vi (lo : Int))) (some (vi (hi : Int))) (some (vi (mx : Int)))).run P w = .ok (.slice (if mx = lo then some a else some (a.add (lo * sz))) (hi - lo) (mx - lo)) w := by
   have e1 : (0 : Int) ≤ (lo : Int) ∧ (lo : Int) ≤ (hi : Int) := by omega
   have e2 : (0 : Int) ≤ (hi : Int) ∧ (hi : Int) ≤ (mx : Int) := by omega
   have e3 : (0 : Int) ≤ (mx : Int) ∧ (mx : Int) ≤ (cap : Int) := by omega
   simp [Instr.sliceAt, Instr.slice, Instr.sliceBounds, Instr.sliceBound, Dl ht.1, ht.2, asIntOf, e1, e2, e3, l1, l2, l3]
  rw [this]; rfl⟩
theorem X5 {v0 : Value} {l : Frames} {i : Nat} (hs : St (row 52 v0 l :: L) R w) (hi : i < l.length) : Calls Try.prog 73 [v0, vi (i : Int), vi ((i + 1 : Nat) : Int)].toArray w (Bw (fun v : Value => v) (fun v => row 52 v (l.eraseIdx i) :: L) (fun v => R)) := by
 have hlen := Agf (L := row 52 v0 l :: L) .hd hs
 have hne : l ≠ [] := by intro h; rw [h] at hi; simp at hi
 obtain ⟨g, cap, cs, rfl, hcap, hml, hN, hcl, hs, h1⟩ := Agh hne hs
 have hz : Enc.sz (List UInt8) = 1 := rfl
 rw [hz, Nat.mul_one] at hcl hs h1
 have fin : ∀ (w : World), St (blk g 52 ((cs.take i ++ (cs.drop (i + 1)).take (l.length - (i + 1)) ++ cs.drop (i + (l.length - (i + 1)))).take (i + (l.length - (i + 1))) ++ [.slice none 0 0] ++ (cs.take i ++ (cs.drop (i + 1)).take (l.length - (i + 1)) ++ cs.drop (i + (l.length - (i + 1)))).drop (i + (l.length - (i + 1)) + 1)) :: L) (rdL l (cs.take l.length) :: R) w →
    ∃ u, Value.slice (some ⟨g, 0, none⟩) (i + (l.length - (i + 1))) cap = u ∧ St (row 52 u (l.eraseIdx i) :: L) R w := by
   intro w hs
   have he : (l.eraseIdx i).length = i + (l.length - (i + 1)) := by rw [List.length_eraseIdx, if_pos hi]; omega
   have hA : (cs.take i ++ (cs.drop (i + 1)).take (l.length - (i + 1))).length = i + (l.length - (i + 1)) := by simp; omega
   refine ⟨_, rfl, ?_⟩
   have := Akc (T := 52) (g := g) (cap := cap) (xs := l.eraseIdx i) (by omega) (by omega) hml (by rw [hz, Nat.mul_one]; simp only [List.length_append, List.length_take, List.length_drop, List.length_cons, List.length_nil]; omega) (fun j hj => ?_) hs
   ·rw [he] at this; exact Ai this
   ·have hr : RdL l (cs.take l.length) j := hj _ (List.Mem.head _)
    have hr2 := hr.erase hz hi
    rw [he, hz, Nat.mul_one]
    have : ((cs.take i ++ (cs.drop (i + 1)).take (l.length - (i + 1)) ++ cs.drop (i + (l.length - (i + 1)))).take (i + (l.length - (i + 1))) ++ [Value.slice none 0 0] ++ (cs.take i ++ (cs.drop (i + 1)).take (l.length - (i + 1)) ++ cs.drop (i + (l.length - (i + 1)))).drop (i + (l.length - (i + 1)) + 1)).take (i + (l.length - (i + 1))) = (cs.take l.length).take i ++ (cs.take l.length).drop (i + 1) := by
     rw [List.append_assoc, List.take_append_of_le_length (by simp; omega), List.take_take, Nat.min_self, List.take_append_of_le_length (by rw [hA]; exact Nat.le_refl _), List.take_of_length_le (by rw [hA]; exact Nat.le_refl _), List.take_take, Nat.min_eq_left (by omega), List.drop_take]
    rw [this]; exact hr2
 refine Aj Try.func73 rfl Try.ntmps73 rfl hs ?_
 clear hs
 refine ZL ?_
 refine rn4 ?_
 refine ob (Q6 (hl := Ta) Try.underlying31) ?_
 refine ob (Abt (a := ⟨g, 0, none⟩) Pb (lo := i) (hi := i + 1) (mx := l.length) rfl rfl rfl rfl (by omega) (by omega) hcap) ?_
 refine ZK ?_
 refine ZaR ?_
 refine rn1 ?_
 refine ob (Q6 (hl := Ta) Try.underlying31) ?_
 refine Ga1 ?_
 refine Zal ?_
 refine djc (fun _ _ => q_sl0 (hi := i) Pb rfl rfl (by omega)) ?_
 refine dn2 ?_
 refine djc (fun _ _ => q_slN (lo := i + 1) (hi := l.length) Pb rfl rfl rfl (by omega) (by omega)) ?_
 refine dtl ?_; intro ρ
 refine ap_in (j := i + 1) (cs := cs) Kp rfl rfl (fun hm => by rw [if_neg (by omega)]; unfold Addr.add; simp) .hd hcl (by omega) (by omega) (fun u hu => h1 u (by rw [← List.drop_take] at hu; exact List.mem_of_mem_drop hu)) ?_
 refine Gb1 ?_
 refine rn2 ?_
 refine ob (Q6 (hl := Ta) Try.underlying31) ?_
 refine rn1 ?_
 refine ob (q_slN (lo := i + (l.length - (i + 1))) (hi := l.length) Pb rfl rfl rfl (by omega) (by omega)) ?_
 refine clr (o := i + (l.length - (i + 1))) (c2 := cap - (i + (l.length - (i + 1)))) (z := .slice none 0 0) Kp Try.zeroValue52 rfl rfl ?_ .hd ?_ ?_
 ·refine congrArg some ?_; rw [if_neg (by omega), show l.length - (i + (l.length - (i + 1))) = 1 by omega]; rw [Hp]; simp
 ·simp only [List.length_append, List.length_take, List.length_drop]; omega
 intro cs_ hcs_; subst hcs_
 refine ZD ?_
 refine Bf (.inr rfl) (fun B w hs => Afa rfl rfl B w) (fun w hs => fin w hs)
theorem Aex {f : Fact} (hs : St L R w) (h : f ∈ R) : St L (f :: R) w := hs.sub .refl (fun g hg => by
 rcases List.mem_cons.1 hg with e | e
 ·rw [e]; exact h
 ·exact e)
theorem Qv {v0 v1 : Value} {fs : Frames} {ms : List Msg} (hs : St (L) R w) (h0 : sl v0 fs ∈ R) (h1 : sl v1 ms ∈ R) (hm : ∀ m ∈ ms, MsgIn m) : Calls Try.prog 52 [v0, v1].toArray w (Bw (fun v : Value => v) (fun v => L) (fun v => sl v (way fs ms) :: R)) := by
 have hlen := Bg h1 hs
 refine Aj Try.func52 rfl Try.ntmps52 rfl hs ?_
 clear hs
 refine ZL ?_
 refine Ga3 ?_
 refine Bx (γ := Nat × Value) (fun g => g.1 ≤ ms.length) (fun _ => L) (fun g => sl g.2 (way fs (ms.take g.1)) :: R) (fun g => [(0, g.2), (7, v1), (8, vi (ms.length : Int)), (9, vi (g.1 : Int))]) (fun g => ms.length - g.1) (0, v0) (Nat.zero_le _) alT (fun w hs => Aex hs h0) ?_
 rintro ⟨k, vs⟩ hk
 try simp only at hk ⊢
 refine ZE ?_
 refine cdy ?_ ?_
 ·intro ht10
  refine Gl ?_
  refine JC.open0 (xs := ms) (v := v1) k mm (by omega) (fun _ => ?_)
  have hin : MsgIn (ms.getD k zMsg) := hm _ (by rw [List.getD_eq_getElem?_getD, List.getElem?_eq_getElem (by omega)]; exact List.getElem_mem _)
  refine ZA ?_
  refine al_ (cs := zMsg.cells) Try.zeroValue49 ?_; intro b6
  refine s_B (cs := (ms.getD k zMsg).cells) Try.sizeOf49 ?_
  refine ZK ?_
  refine Ao Try.call84 rfl (fun w hs => Abf hs hin) ?_; intro v15
  refine Ao Try.call56 rfl (fun w hs => Xo hs (l := way fs (ms.take k)) (b := msgBytes (ms.getD k zMsg)) mm mm) ?_; intro v16
  refine ZH ?_
  refine Bb (k + 1, v16) (by show k + 1 ≤ ms.length; omega) (by show ms.length - (k + 1) < ms.length - k; omega) alT (fun w hs => ?_)
  try simp only
  rw [G7 zMsg (by omega), I8]; exact Ai hs
 ·intro ht10
  refine ZD ?_
  have hkl : k = ms.length := by omega
  subst hkl
  rw [List.take_length]
  exact Co vs
theorem K1 {e : Int} (hs : St (L) R w) : Calls Try.prog 49 [vi e].toArray w (Bw (fun _ : Unit => .tuple #[.agg #[.slice none 0 0, .slice none 0 0, .slice none 0 0], .slice none 0 0, vi e]) (fun _ => L) (fun _ => R)) := by
 refine Aj Try.func49 rfl Try.ntmps49 rfl hs ?_
 clear hs
 refine Gm ?_
 refine al_ (cs := [.slice none 0 0, .slice none 0 0, .slice none 0 0]) Try.zeroValue33 ?_; intro b2
 refine Gb2 ?_
 refine ob (Eo (cs := [.slice none 0 0, .slice none 0 0, .slice none 0 0]) Jn) ?_
 refine rn1 ?_
 refine s_B Try.sizeOf33 ?_
 refine Ga2 ?_
 exact Cf () Try.isAgg33 Try.sizeOf33
theorem Uf {P : Program} {n : Nat} {Q : Exit → Act → World → Prop} {L : List Chunk} {R : List Fact} {al : List (Nat × Value)} {c : Code} {v : Value} {l : List Entry} (i : Nat) (hm : sl v l ∈ R) (hi : i < l.length) (k : (l.getD i A1).wf → ∀ u, JC P n c Q L (cF v 10 i (Entry.cells u (l.getD i A1)) :: sl u (l.getD i A1).last :: R) al) : JC P n c Q L R al := JC.open1 i hm hi k
def Jq (c : Config) : Entry := { A1 with last := List.replicate c.cores.toNat 0 }
def Lq (c : Config) : Core := ⟨List.replicate c.lines.toNat zLine, zOp⟩
theorem T8 {α : Type} (k : Nat) (a : α) : List.replicate (k + 1) a = List.replicate k a ++ [a] := List.replicate_succ' ..
theorem X3 (c : Config) : (Jq c).wf := by unfold Jq A1 Entry.wf An; simp only; omega
theorem H9 {c : Config} (h : c.cores < 1 ∨ 4 < c.cores ∨ c.lines < 1 ∨ 4 < c.lines) : Cw c = (D3, 3) := by unfold Cw Ku; rw [if_pos h, if_pos (by decide)]
theorem R9 {c : Config} (h : ¬ (c.cores < 1 ∨ 4 < c.cores ∨ c.lines < 1 ∨ 4 < c.lines)) : Cw c = (⟨List.replicate c.cores.toNat (Lq c), List.replicate c.lines.toNat (Jq c), []⟩, 0) := by unfold Cw Ku; rw [if_neg h, if_neg (by decide)]; rfl
theorem refNew {c : Config} (hs : St (L) R w) (hc : c.wf) : Calls Try.prog 16 [.agg c.cells.toArray].toArray w (Bw (fun v : Value × Value => .tuple #[.agg #[v.1, v.2, .slice none 0 0], vi (Cw c).2]) (fun v => L) (fun v => sl v.1 (Cw c).1.cores :: sl v.2 (Cw c).1.home :: sl (.slice none 0 0) (Cw c).1.frames :: R)) := by
 refine Aj Try.func16 rfl Try.ntmps16 rfl hs ?_
 clear hs
 refine ZbE ?_;intro b1 b2
 refine Ga1 ?_
 rcases (show (c.cores < 1) ∨ (¬ c.cores < 1 ∧ 4 < c.cores) ∨ (¬ c.cores < 1 ∧ ¬ 4 < c.cores ∧ c.lines < 1) ∨ (¬ c.cores < 1 ∧ ¬ 4 < c.cores ∧ ¬ c.lines < 1 ∧ 4 < c.lines) ∨ (1 ≤ c.cores ∧ c.cores ≤ 4 ∧ 1 ≤ c.lines ∧ c.lines ≤ 4) from by omega) with hc | hc | hc | hc | hc
 ·refine ZX ?_
  refine Gc15 ?_
  exact Zfh
 ·refine Zbl ?_
  refine Gc11 ?_
  exact Zfh
 ·refine Za8 ?_
  refine ZaD ?_
  refine Gc6 ?_
  exact Zfh
 ·refine Za8 ?_
  refine Za6 ?_
  refine G3 ?_
  refine Gc1 ?_
  exact Zfh
 ·refine Za8 ?_
  refine Zaw ?_
  refine Gd1 ?_
  refine Zc3 ?_;intro b4
  refine Zad ?_
  refine JC.rowNil 80 Entry ?_
  refine Bx (γ := Nat × Value) (fun g => (g.1 : Int) ≤ c.lines) (fun g => row 80 g.2 (List.replicate g.1 (Jq c)) :: blk b4 33 [.slice none 0 0, g.2, .slice none 0 0] :: blk b1 23 c.cells :: blk b2 33 [.slice none 0 0, .slice none 0 0, .slice none 0 0] :: L) (fun _ => R) (fun g => [(1, bp b1 0), (2, bp b2 0), (4, bp b4 0), (25, vi c.lines), (26, vi (g.1 : Int))]) (fun g => c.lines.toNat - g.1) (0, .slice none 0 0) (by show (0 : Int) ≤ c.lines; omega) alT (fun w hs => Ai hs) ?_
  rintro ⟨k, vh⟩ hk
  try simp only at hk ⊢
  refine ZE ?_
  refine cdy ?_ ?_
  ·intro ht27
   refine Gl ?_
   refine cq_ (row 80 vh (List.replicate k (Jq c)) :: blk b4 33 [.slice none 0 0, vh, .slice none 0 0] :: blk b1 23 c.cells :: blk b2 33 [.slice none 0 0, .slice none 0 0, .slice none 0 0] :: L) ?_
   refine jd_ (fun ρ S => row 80 vh (List.replicate k (Jq c)) :: blk b4 33 [.slice none 0 0, vh, .slice none 0 0] :: blk b1 23 c.cells :: blk b2 33 [.slice none 0 0, .slice none 0 0, .slice none 0 0] :: L) ?_
   refine dn4 ?_
   refine Afn (a := c.cores) (x0 := (0 : Int)) (zc := [vi 0]) Ff rfl (by decide) (fun _ => rfl) (fun _ => rfl) rfl (fun j => ⟨rfl, by unfold An; omega⟩) (by omega) (by omega) (fun _ _ _ _ => rfl) ?_
   refine e_pd (v := fun ρ => .agg ([vi 0, vi (-1), vi 0, vi 0, vi 0, vi 0, .bool false, vi 0, vi 0, (Gh.dec (γ := Value) (ρ 4))]).toArray) (fun ρ S R' L' w hd hs => by have h1 : (Gh.dec (γ := Value) (ρ 4)).oneCell' = true := isSlice.one (hs.fact (hd.dep (it := ⟨4, _, _, _, _⟩) (by repeat (first | exact List.Mem.head _ | refine List.Mem.tail _ ?_)) ⟨9, rfl⟩ (List.Mem.head _))); exact Fn st_80) (Ind.gh (h := fun g => Value.agg ([vi 0, vi (-1), vi 0, vi 0, vi 0, vi 0, .bool false, vi 0, vi 0, (Gh.dec (γ := Value) g)]).toArray) 4 3 rfl) (fun _ _ _ _ _ => rfl) ?_
   refine Fz ([Jq c] : List Entry) Wm rfl (fun _ => rfl) rfl (fun _ => rfl) rfl rfl (fun ρ R hd j hj => ⟨⟨_, rfl, ⟨_, rfl, hj _ (hd.dep (it := ⟨4, _, _, _, _⟩) (by repeat (first | exact List.Mem.head _ | refine List.Mem.tail _ ?_)) ⟨9, rfl⟩ (List.Mem.head _)), X3 c⟩⟩, trivial⟩) (fun _ _ _ _ _ => rfl) ?_
   refine dtl ?_; intro ρ
   refine J.conseq (L' := row 80 vh (List.replicate k (Jq c)) :: blk b4 33 [.slice none 0 0, vh, .slice none 0 0] :: blk b1 23 c.cells :: blk b2 33 [.slice none 0 0, .slice none 0 0, .slice none 0 0] :: L) (fun w hs => hs) ?_
   generalize (Gh.dec (γ := Value) (ρ 4)) = v32
   generalize (Gh.dec (γ := Value) (ρ 6)) = v34
   refine ap Wm (hb := fun w hs => by have : maxN = 16777216 := rfl; simp only [List.length_cons, List.length_nil, List.length_replicate]; omega) (k := ?_); intro v35
   refine rn1 ?_
   refine J.know (p := v35.oneCell' = true) (fun w hs => Cn (v := v35) pkk hs) (fun honev35 => ?_)
   refine sc ?_
   refine Gl ?_
   refine kp [1, 2, 3, 4, 25, 26, 27, 28, 29, 30, 31, 32, 33, 34, 35, 36, 37] ?_
   refine ZW ?_
   refine Bb (k + 1, v35) (by show ((k + 1 : Nat) : Int) ≤ c.lines; omega) (by show c.lines.toNat - (k + 1) < c.lines.toNat - k; omega) alT (fun w hs => ?_)
   try simp only
   rw [T8]; exact Ai hs
  ·intro ht27
   refine Zad ?_
   refine JC.shut (v := vh) pkk ?_
   refine JC.know (p := vh.oneCell' = true) (fun w hs => isSlice.one (hs.fact (List.Mem.head _))) (fun honeh => ?_)
   refine JC.rowNil 57 Core ?_
   refine Bx (γ := Nat × Value) (fun g => (g.1 : Int) ≤ c.cores) (fun g => row 57 g.2 (List.replicate g.1 (Lq c)) :: blk b4 33 [g.2, vh, .slice none 0 0] :: blk b1 23 c.cells :: blk b2 33 [.slice none 0 0, .slice none 0 0, .slice none 0 0] :: L) (fun _ => sl vh (List.replicate k (Jq c)) :: R) (fun g => [(1, bp b1 0), (2, bp b2 0), (4, bp b4 0), (39, vi c.cores), (40, vi (g.1 : Int))]) (fun g => c.cores.toNat - g.1) (0, .slice none 0 0) (by show (0 : Int) ≤ c.cores; omega) alT (fun w hs => Ai hs) ?_
   rintro ⟨k2, vc⟩ hk2
   try simp only at hk2 ⊢
   refine ZE ?_
   refine cdy ?_ ?_
   ·intro ht41
    refine Gl ?_
    refine cq_ (row 57 vc (List.replicate k2 (Lq c)) :: blk b4 33 [vc, vh, .slice none 0 0] :: blk b1 23 c.cells :: blk b2 33 [.slice none 0 0, .slice none 0 0, .slice none 0 0] :: L) ?_
    refine jd_ (fun ρ S => row 57 vc (List.replicate k2 (Lq c)) :: blk b4 33 [vc, vh, .slice none 0 0] :: blk b1 23 c.cells :: blk b2 33 [.slice none 0 0, .slice none 0 0, .slice none 0 0] :: L) ?_
    refine dn4 ?_
    refine Afn (a := c.lines) (x0 := zLine) (zc := zLine.cells) Y2 rfl (by decide) (fun _ => rfl) (fun _ => rfl) rfl (fun j => ⟨rfl, by unfold Line.wf An zLine; simp only; omega⟩) (by omega) (by omega) (fun _ _ _ _ => rfl) ?_
    refine e_pd (v := fun ρ => .agg ([(Gh.dec (γ := Value) (ρ 4)), vi 0, vi 0, vi 0]).toArray) (fun ρ S R' L' w hd hs => by have h1 : (Gh.dec (γ := Value) (ρ 4)).oneCell' = true := isSlice.one (hs.fact (hd.dep (it := ⟨4, _, _, _, _⟩) (by repeat (first | exact List.Mem.head _ | refine List.Mem.tail _ ?_)) ⟨9, rfl⟩ (List.Mem.head _))); exact Fn Ht) (Ind.gh (h := fun g => Value.agg ([(Gh.dec (γ := Value) g), vi 0, vi 0, vi 0]).toArray) 4 3 rfl) (fun _ _ _ _ _ => rfl) ?_
    refine Fz ([Lq c] : List Core) Wn rfl (fun _ => rfl) rfl (fun _ => rfl) rfl rfl (fun ρ R hd j hj => ⟨⟨_, rfl, ⟨_, rfl, hj _ (hd.dep (it := ⟨4, _, _, _, _⟩) (by repeat (first | exact List.Mem.head _ | refine List.Mem.tail _ ?_)) ⟨9, rfl⟩ (List.Mem.head _)), by unfold Lq zOp Op.wf An; simp only; omega⟩⟩, trivial⟩) (fun _ _ _ _ _ => rfl) ?_
    refine dtl ?_; intro ρ
    refine J.conseq (L' := row 57 vc (List.replicate k2 (Lq c)) :: blk b4 33 [vc, vh, .slice none 0 0] :: blk b1 23 c.cells :: blk b2 33 [.slice none 0 0, .slice none 0 0, .slice none 0 0] :: L) (fun w hs => hs) ?_
    generalize (Gh.dec (γ := Value) (ρ 4)) = v46
    generalize (Gh.dec (γ := Value) (ρ 6)) = v48
    refine ap Wn (hb := fun w hs => by have : maxN = 16777216 := rfl; simp only [List.length_cons, List.length_nil, List.length_replicate]; omega) (k := ?_); intro v49
    refine rn1 ?_
    refine J.know (p := v49.oneCell' = true) (fun w hs => Cn (v := v49) pkk hs) (fun honev49 => ?_)
    refine sc ?_
    refine Gl ?_
    refine kp [1, 2, 3, 4, 39, 40, 41, 42, 43, 44, 45, 46, 47, 48, 49, 50, 51] ?_
    refine ZW ?_
    refine Bb (k2 + 1, v49) (by show ((k2 + 1 : Nat) : Int) ≤ c.cores; omega) (by show c.cores.toNat - (k2 + 1) < c.cores.toNat - k2; omega) alT (fun w hs => ?_)
    try simp only
    rw [T8]; exact Ai hs
   ·intro ht41
    refine Gl ?_
    refine JC.shut (v := vc) pkk ?_
    refine JC.know (p := vc.oneCell' = true) (fun w hs => isSlice.one (hs.fact (List.Mem.head _))) (fun honec => ?_)
    refine JC.slNil (List UInt8) ?_
    refine ZB ?_
    refine s_B Try.sizeOf33 ?_
    refine Ga1 ?_
    have er : Cw c = (⟨List.replicate k2 (Lq c), List.replicate k (Jq c), []⟩, 0) := by rw [R9 (by omega), show c.lines.toNat = k by omega, show c.cores.toNat = k2 by omega]
    rw [er]
    exact G2 (vc, vh) Try.isAgg33 Try.sizeOf33
theorem Ds {v : Value} {ls : List Line} {i : Nat} (e : Line) (he : e.wf) (hs : St (foc 82 v ls i e.cells :: L) R w) : St (row 82 v (ls.set i e) :: L) R w := hs.unfocus (fun j _ => ⟨rfl, he⟩)
theorem Ya {v : Value} {ls : List Line} {i : Nat} (he : (ls.getD i zLine).wf) (hs : St (foc 82 v ls i (ls.getD i zLine).cells :: L) R w) : St (row 82 v ls :: L) R w := by
 have h := Ds _ he hs
 rwa [Ke] at h
theorem Ep {v : Value} {ls : List Line} {i : Nat} {l : Line} (hl : ls.getD i zLine = l) (he : l.wf) (hs : St (foc 82 v ls i [vi l.state, vi l.value, vi l.want, vi l.serial, vi l.seen, vi l.gave, vi l.given] :: L) R w) : St (row 82 v ls :: L) R w := by
 subst hl
 exact Ya he hs
theorem H2 {P : Program} {n : Nat} {Q : Exit → Act → World → Prop} {L L' : List Chunk} {R : List Fact} {al : List (Nat × Value)} {cd : Code} {vL : Value} {ls : List Line} {l : Line} {i : Int} (hp : Pick L (row 82 vL ls) L') (hl : ls.getD i.toNat zLine = l) (h0 : 0 ≤ i) (hi : i < (ls.length : Int)) (k : l.wf → EpAll vL 7 i.toNat → JC P n cd Q (foc 82 vL ls i.toNat [vi l.state, vi l.value, vi l.want, vi l.serial, vi l.seen, vi l.gave, vi l.given] :: L') R al) : JC P n cd Q L R al := by
 subst hl
 refine JC.focus0 (xs := ls) i.toNat hp (by omega) (fun hw => ?_)
 refine JC.know (p := EpAll vL 7 i.toNat) (fun w hs => Aae (α := Line) (xs := ls) .hd w hs) (fun hA => ?_)
 exact k hw hA
theorem R8 {LX : List Chunk} {R : List Fact} {w : World} {vL vo vd : Value} {bk : Nat} {q : Op} {id home : Int} {ls : List Line} {l : Line} {ms : List Msg} {line : Int} (hs : St (blk bk 120 [vL, vi q.kind, vi q.line, vi q.value, vi id, vi home, vo, vd] :: row 82 vL ls :: row 49 vo ms :: LX) R w) (hl : ls.getD line.toNat zLine = l) (hi : 0 ≤ line ∧ line < (ls.length : Int)) (hll : ls.length ≤ 100) (hn : ms.length ≤ 1000) (hid : An id) (hhome : An home) : Calls Try.prog 96 [bp bk 0, vi line].toArray w (Bw (fun v : Value => .tuple #[]) (fun v => blk bk 120 [vL, vi q.kind, vi q.line, vi q.value, vi id, vi home, v, vd] :: row 82 vL ls :: row 49 v (ms ++ [(By l id home line)]) :: LX) (fun v => R)) := by
 refine ZaZ ?_;intro hid0 hhome0
 refine Aj Try.func96 rfl Try.ntmps96 rfl hs ?_
 clear hs
 refine Gl ?_
 refine H2 (ls := ls) (l := l) (i := line) pkk hl (by omega) (by omega) (fun hlw hA => ?_)
 have hlw0 := hlw
 unfold Line.wf An at hlw0
 have honeL : (ep vL 7 line.toNat 0).oneCell' = true := hA.one
 refine Za0 ?_
 refine ob (It (v := vL) (i := line) Ml (hl := Dq (α := Line) (xs := ls) pkk)) ?_
 refine Gb1 ?_
 refine Gb1 ?_
 refine Ga5 ?_
 refine cdy ?_ ?_
 ·intro ht17
  refine Aa ?_
  refine Ga5 ?_
  refine Bv ?_
  refine dn11 ?_
  refine dtl ?_; intro ρ
  have er : (By l id home line) = ⟨l.want, id, home, line, l.serial, 0, l.value, false⟩ := by unfold By; rw [if_pos ht17]
  refine Ao Try.call104 rfl (fun w hs => Fu (vL := vL) (vd := vd) (q := q) (id := id) (home := home) (ms := ms) (kind := l.want) (line := line) (serial := l.serial) (turn := 0) (value := l.value) (LX := foc 82 vL ls line.toNat [vi l.state, vi l.value, vi l.want, vi l.serial, vi l.seen, vi l.gave, vi l.given] :: LX) (Ai hs) hn (by unfold Msg.wf An; simp only; omega)) ?_; intro v33
  refine Gl ?_
  rw [er]
  refine Bf (.inl rfl) (fun B w hs => Im rfl _ w) (fun w hs => ⟨v33, rfl, Ai (Ep hl hlw (hs.pick pkk))⟩)
 ·intro ht17
  refine Gl ?_
  refine Bv ?_
  refine dn11 ?_
  refine dtl ?_; intro ρ
  have er : (By l id home line) = ⟨l.want, id, home, line, l.serial, 0, 0, false⟩ := by unfold By; rw [if_neg ht17]
  refine Ao Try.call104 rfl (fun w hs => Fu (vL := vL) (vd := vd) (q := q) (id := id) (home := home) (ms := ms) (kind := l.want) (line := line) (serial := l.serial) (turn := 0) (value := 0) (LX := foc 82 vL ls line.toNat [vi l.state, vi l.value, vi l.want, vi l.serial, vi l.seen, vi l.gave, vi l.given] :: LX) (Ai hs) hn (by unfold Msg.wf An; simp only; omega)) ?_; intro v33
  refine Gl ?_
  rw [er]
  refine Bf (.inl rfl) (fun B w hs => Im rfl _ w) (fun w hs => ⟨v33, rfl, Ai (Ep hl hlw (hs.pick pkk))⟩)
theorem Tj {LX : List Chunk} {R : List Fact} {w : World} {vL vo vd : Value} {bk : Nat} {q : Op} {id home : Int} {ls : List Line} {l : Line} {q0 : Op} {ms : List Msg} {want : Int} (hs : St (blk bk 120 [vL, vi q0.kind, vi q0.line, vi q0.value, vi id, vi home, vo, vd] :: row 82 vL ls :: row 49 vo ms :: LX) R w) (hl : ls.getD q.line.toNat zLine = l) (hi : 0 ≤ q.line ∧ q.line < (ls.length : Int)) (hll : ls.length ≤ 100) (hid : An id) (hhome : An home) (hn : ms.length ≤ 1000) (hser : l.serial < 65535) (hw : An want) : Calls Try.prog 69 [bp bk 0, .agg q.cells.toArray, vi want].toArray w (Bw (fun v : Value => .tuple #[]) (fun v => blk bk 120 [vL, vi q.kind, vi q.line, vi q.value, vi id, vi home, v, vd] :: row 82 vL (ls.set q.line.toNat ({ l with want := want, serial := l.serial + 1 })) :: row 49 v (ms ++ [By ({ l with want := want, serial := l.serial + 1 }) id home q.line]) :: LX) (fun v => R)) := by
 refine ZaZ ?_;intro hid0 hhome0
 have hw0 := hw
 unfold An at hw0
 refine Aj Try.func69 rfl Try.ntmps69 rfl hs ?_
 clear hs
 refine Gm ?_
 refine bx ?_; intro b4
 refine Gl ?_
 refine Zdo ?_;intro hlw hA hlw0 honeL
 refine Zdk ?_
 refine ZP ?_;intro ρ
 refine Gm ?_
 refine rn4 ?_
 refine sc ?_
 refine Gm ?_
 refine rn7 ?_
 refine sc ?_
 refine Gm ?_
 refine rn5 ?_
 refine s_N [vL, vi q.kind, vi q.line, vi q.value, vi id, vi home, vo, vd] Try.sizeOf26 ?_
 refine Gl ?_
 refine JC.conseq (L' := row 82 vL (ls.set q.line.toNat ({ l with want := want, serial := l.serial + 1 })) :: blk bk 120 [vL, vi q.kind, vi q.line, vi q.value, vi id, vi home, vo, vd] :: row 49 vo ms :: blk b4 26 q.cells :: LX) (fun w hs => Ai (Ds ({ l with want := want, serial := l.serial + 1 }) (by unfold Line.wf An; simp only; omega) (hs.pick pkk))) ?_
 refine ZI ?_
 refine Ao Try.call96 rfl (fun w hs => R8 (vL := vL) (vd := vd) (q := q) (id := id) (home := home) (ms := ms) (line := q.line) (ls := (ls.set q.line.toNat ({ l with want := want, serial := l.serial + 1 }))) (l := { l with want := want, serial := l.serial + 1 }) (LX := LX) (Ai hs) (by rw [List.getD_eq_getElem?_getD, List.getElem?_set_self (by omega)]; rfl) (by rw [List.length_set]; exact hi) (by rw [List.length_set]; exact hll) hn hid hhome) ?_; intro v34
 refine Gl ?_
 refine Bf (.inl rfl) (fun B w hs => Im rfl _ w) (fun w hs => ⟨v34, rfl, Ai hs⟩)
theorem Le {LX : List Chunk} {R : List Fact} {w : World} {vL vo vd : Value} {bk : Nat} {q : Op} {id home : Int} {ls : List Line} {l : Line} {q0 : Op} {ds : List Done} (hs : St (blk bk 120 [vL, vi q0.kind, vi q0.line, vi q0.value, vi id, vi home, vo, vd] :: row 82 vL ls :: row 66 vd ds :: LX) R w) (hl : ls.getD q.line.toNat zLine = l) (hi : 0 ≤ q.line ∧ q.line < (ls.length : Int)) (hll : ls.length ≤ 100) (hid : An id) (hhome : An home) (hn : ds.length ≤ 1000) (hq : q.wf) (hk : 1 ≤ q.kind ∧ q.kind ≤ 4) (hval : 0 ≤ q.value ∧ q.value ≤ 255) : Calls Try.prog 70 [bp bk 0, .agg q.cells.toArray].toArray w (Bw (fun v : Value => .tuple #[]) (fun v => blk bk 120 [vL, vi 0, vi 0, vi 0, vi id, vi home, vo, v] :: row 82 vL (ls.set q.line.toNat ({ l with value := (Ay l.value q).1 })) :: row 66 v (ds ++ [(⟨id, q, (Ay l.value q).2⟩ : Done)]) :: LX) (fun v => R)) := by
 refine ZaZ ?_;intro hid0 hhome0
 refine Aj Try.func70 rfl Try.ntmps70 rfl hs ?_
 clear hs
 refine Zaz ?_;intro b3
 refine Gl ?_
 refine Zdo ?_;intro hlw hA hlw0 honeL
 refine Zdk ?_
 refine ZP ?_;intro ρ
 refine Gm ?_
 refine rn3 ?_
 refine Ao Try.call97 rfl (fun w hs => Ajg (a := q.line + 1) hs (by omega) (by omega)) ?_; intro v19
 refine Ga1 ?_
 refine Bv ?_
 refine dn7 ?_
 refine djc (fun _ _ => It Xh (h1 := by rw [List.length_replicate]; omega)) ?_
 refine dtl ?_; intro ρ
 refine Ez (xs := List.replicate (q.line + 1).toNat 0) Try.sizeOf3 rfl rfl pkk (getD_some 0 (by rw [List.length_replicate]; omega)) (by unfold An; omega) ?_
 refine Gl ?_
 refine JC.shut (xs := (Jx l.value q)) (v := v19) pkk ?_
 have hml := Mh (v := l.value) hi.1
 refine ZA ?_
 refine Ao Try.call98 rfl (fun w hs => by have h := Ajh (o := q) hs (List.Mem.head _); rw [Aev hk hi.1 hval] at h; exact h) ?_; intro v31
 refine Ga7 ?_
 refine JC.open0 (xs := (dX (Jx l.value q) q)) (v := v31) q.line.toNat mm (by unfold dX; rw [List.length_set, hml]; omega) (fun hw => ?_)
 have e9 : (dX (Jx l.value q) q).getD q.line.toNat 0 = (Ay l.value q).1 := by rw [dX_at (by rw [hml]; omega), L3 hi.1]
 refine kp [0, 3, 4, 5, 6, 35, 36, 37, 38, 39, 40, 41, 42] ?_
 refine ZC ?_
 refine ob (It Xh (len := (dX (Jx l.value q) q).length) (hl := Er (.tail _ (.head _))) (h1 := by unfold dX; rw [List.length_set, hml]; omega)) ?_
 refine rn3 ?_
 refine sc ?_
 refine Gl ?_
 have hvb := Pj (o := q) hlw.2.1 hval.1 hval.2
 have hvb2 := Nb (o := q) hlw.2.1
 unfold An at hvb hvb2
 have e9 : (dX (Jx l.value q) q).getD q.line.toNat El0.df = (Ay l.value q).1 := e9
 rw [e9]
 refine cq_ (blk bk 120 [vL, vi q0.kind, vi q0.line, vi q0.value, vi id, vi home, vo, vd] :: row 66 vd ds :: foc 82 vL ls q.line.toNat [vi l.state, vi (Ay l.value q).1, vi l.want, vi l.serial, vi l.seen, vi l.gave, vi l.given] :: blk b3 26 q.cells :: LX) ?_
 refine jd_ (fun ρ S => blk bk 120 (bif S 16 then [vL, vi q0.kind, vi q0.line, vi q0.value, vi id, vi home, vo, (Gh.dec (γ := Value) (ρ 13))] else [vL, vi q0.kind, vi q0.line, vi q0.value, vi id, vi home, vo, vd]) :: (bif S 13 then row 66 (Gh.dec (γ := Value) (ρ 13)) (ds ++ [(⟨id, q, (Ay l.value q).2⟩ : Done)]) else row 66 vd ds) :: foc 82 vL ls q.line.toNat [vi l.state, vi (Ay l.value q).1, vi l.want, vi l.serial, vi l.seen, vi l.gave, vi l.given] :: blk b3 26 q.cells :: (LX)) ?_
 refine dn4 ?_
 refine Ig (v := vd) (fun ρ S hS hB hA => by have h16 : S 16 = false := hA 16 ⟨0, rfl⟩; simp only [h16, cond_false]; exact C3 (hc := A0 pkk (by repeat (first | exact rfl | refine Dd rfl ?_))) Try.isAgg34) (fun _ _ _ _ _ => rfl) ?_
 refine dn3 ?_
 refine Ig (v := vi id) (fun ρ S hS hB hA => by have h16 : S 16 = false := hA 16 ⟨0, rfl⟩; simp only [h16, cond_false]; exact C3 (hc := A0 pkk (by repeat (first | exact rfl | refine Dd rfl ?_))) Try.isAgg3) (fun _ _ _ _ _ => rfl) ?_
 refine dn2 ?_
 first | refine epc (fun _ _ => Eo Ik) ?_ | refine epc (fun _ _ => Fn Ik) ?_ | refine epp (fun _ _ => Eo Ik) ?_ | refine epp (fun _ _ => Fn Ik) ?_
 refine Fz ([(⟨id, q, (Ay l.value q).2⟩ : Done)] : List Done) F4 rfl (fun _ => rfl) rfl (fun _ => rfl) rfl rfl (fun ρ R hd => Gi ⟨hid, hq.1, hq.2.1, hq.2.2, by unfold An; simp only; omega⟩) (fun _ _ _ _ _ => rfl) ?_
 refine F9 (e := 66) (xs := ds) (ys := [(⟨id, q, (Ay l.value q).2⟩ : Done)]) (v := vd) F4 (fun _ => rfl) (fun _ => rfl) rfl (by decide) (fun ρ R hd => (hd.dep (it := ⟨12, _, _, _, _⟩) (by repeat (first | exact List.Mem.head _ | refine List.Mem.tail _ ?_)) ⟨9, rfl⟩ (List.Mem.head _))) (by have : maxN = 16777216 := rfl; simp only [List.length_cons, List.length_nil]; omega) (fun ρ g S hS hB hA => ?_) ?_
 ·exact Zfe
 refine dn2 ?_
 refine Eu (T0 := 120) (f := 7) (vs := fun ρ => [vL, vi q0.kind, vi q0.line, vi q0.value, vi id, vi home, vo, vd]) (v := fun ρ => (Gh.dec (γ := Value) (ρ 13))) (fun ρ => bk) Try.sizeOf34 (fun _ => rfl) (fun _ => rfl) (fun ρ S R w L9 hB hd hs => by have h13 : S 13 = true := hB 13 ⟨9, rfl⟩; simp only [h13, cond_true] at hs; exact Cn pkk hs) (fun _ => rfl) (fun ρ g S hS hB hA => ?_) ?_
 ·exact Zfw
 refine dnl ?_; intro ρ
 refine xq_ (blk bk 120 [vL, vi q0.kind, vi q0.line, vi q0.value, vi id, vi home, vo, (Gh.dec (γ := Value) (ρ 13))] :: row 66 (Gh.dec (γ := Value) (ρ 13)) (ds ++ [(⟨id, q, (Ay l.value q).2⟩ : Done)]) :: foc 82 vL ls q.line.toNat [vi l.state, vi (Ay l.value q).1, vi l.want, vi l.serial, vi l.seen, vi l.gave, vi l.given] :: blk b3 26 q.cells :: (LX)) ?_
 generalize (Gh.dec (γ := Value) (ρ 12)) = v55
 generalize (Gh.dec (γ := Value) (ρ 13)) = v56
 refine ZJ ?_
 refine Zbq ?_
 refine rn3 ?_
 refine s_N [vL, vi 0, vi 0, vi 0, vi id, vi home, vo, v56] Try.sizeOf26 ?_
 refine Gl ?_
 refine Bf (.inl rfl) (fun B w hs => Im rfl _ w) (fun w hs => ⟨v56, rfl, Ai (Ds ({ l with value := (Ay l.value q).1 }) (by unfold Line.wf An; simp only; omega) (hs.pick pkk))⟩)
section
variable {ls : List Line} {q : Op} {id home : Int} {m : Msg} {l : Line}
theorem Jg (hl : ls.getD m.line.toNat zLine = l) (hi : 0 ≤ m.line ∧ m.line < (ls.length : Int)) (hk : m.kind = 5 ∨ m.kind = 6) : Ae ⟨ls, q⟩ id home m = (if D1 l m.turn then (⟨ls.set m.line.toNat (Cv l m.kind m.turn), if l.want = 3 then zOp else q⟩, [A8 9 id home m.line m.turn l.value], if l.want = 3 then [⟨id, q, 0⟩] else []) else if m.turn = l.gave ∧ 0 < m.turn then (⟨ls, q⟩, [A8 9 id home m.line l.gave l.given], []) else (⟨ls, q⟩, [], [])) := by
 subst hl
 unfold Ae
 rw [if_neg (by simp only; omega), if_neg (by omega), if_pos hk]; rfl
theorem Kn (hl : ls.getD m.line.toNat zLine = l) (hi : 0 ≤ m.line ∧ m.line < (ls.length : Int)) (hk : m.kind = 7) : Ae ⟨ls, q⟩ id home m = (if l.serial < m.serial then (⟨ls, q⟩, [], []) else if Gp l m then (⟨ls.set m.line.toNat (Gw l m q), zOp⟩, [A8 10 id home m.line m.turn 0], [⟨id, q, (Ay m.value q).2⟩]) else (⟨ls, q⟩, [A8 10 id home m.line m.turn 0], [])) := by
 subst hl
 unfold Ae
 rw [if_neg (by simp only; omega), if_neg (by omega), if_neg (by omega), if_pos hk]; rfl
end
theorem R7 {LX : List Chunk} {R : List Fact} {w : World} {vL vo vd : Value} {bk : Nat} {q : Op} {id home : Int} {ls : List Line} {l : Line} {bm : Nat} {ms : List Msg} {ds : List Done} {m : Msg} (hs : St (blk bk 120 [vL, vi q.kind, vi q.line, vi q.value, vi id, vi home, vo, vd] :: row 82 vL ls :: row 49 vo ms :: row 66 vd ds :: blk bm 49 m.cells :: LX) R w) (hl : ls.getD m.line.toNat zLine = l) (hi : 0 ≤ m.line ∧ m.line < (ls.length : Int)) (hll : ls.length ≤ 100) (hm : m.wf) (hid : An id) (hhome : An home) (hn : ms.length ≤ 1000) (hnd : ds.length ≤ 1000) (hq : q.wf) (hk : m.kind = 5 ∨ m.kind = 6) : Calls Try.prog 105 [bp bk 0, bp bm 0].toArray w (Bw (fun g : Value × Value => .tuple #[]) (fun g => blk bk 120 [vL, vi (Ae ⟨ls, q⟩ id home m).1.wait.kind, vi (Ae ⟨ls, q⟩ id home m).1.wait.line, vi (Ae ⟨ls, q⟩ id home m).1.wait.value, vi id, vi home, g.1, g.2] :: row 82 vL (Ae ⟨ls, q⟩ id home m).1.lines :: row 49 g.1 (ms ++ (Ae ⟨ls, q⟩ id home m).2.1) :: row 66 g.2 (ds ++ (Ae ⟨ls, q⟩ id home m).2.2) :: blk bm 49 m.cells :: LX) (fun g => R)) := by
 have hm0 := hm
 unfold Msg.wf An at hm0
 refine ZaZ ?_;intro hid0 hhome0
 refine Aj Try.func105 rfl Try.ntmps105 rfl hs ?_
 clear hs
 refine Gl ?_
 refine Zce ?_;intro hlw hA hlw0 honeL
 refine dn9 ?_
 refine Zcj ?_;intro ρ
 refine kp [0, 1, 4, 15, 16, 17, 18, 19, 20, 21, 22, 23, 24, 25, 26, 27, 28, 29, 30, 31] ?_
 refine Ee 15 (.bool (decide ((m.turn = l.gave) ∧ (0 < m.turn)))) ?_ ?_
 ·rcases (show (¬ (m.turn = l.gave)) ∨ ((m.turn = l.gave) ∧ ¬ (0 < m.turn)) ∨ ((m.turn = l.gave) ∧ (0 < m.turn)) from by omega) with hm | hm | hm
  ·refine Zac ?_
   refine ZaS ?_
   refine djm ?_
   refine dn5 ?_
   refine djf ?_
   exact Zge
  ·refine Zac ?_
   refine Za1 ?_
   refine djm ?_
   refine dn4 ?_
   refine dj (dgy ?_)
   refine dc (fun _ _ => Am rfl rfl (Ts (by omega))) ?_
   refine ZO ?_
   exact Zge
  ·refine kp [0, 1, 4, 15, 16, 17, 18, 19, 20, 21, 22, 23, 24, 25, 26, 27, 28, 29, 30, 31] ?_
   refine Zac ?_
   refine Za1 ?_
   refine djm ?_
   refine dn4 ?_
   refine dj (dgy ?_)
   refine dc (fun _ _ => Am rfl rfl (Li (by omega))) ?_
   exact ZfY
 ·refine Aw ?_
  first | (refine cdx (p := ?p1) (hd := ?d1) ?e1 ?_ ?_; case e1 => exact rfl) | (refine Bk (b := ?b1) ?e1 ?_ ?_; case e1 => exact rfl)
  ·intro ht15
   refine Gl ?_
   refine Bv ?_
   refine dn13 ?_
   refine dtl ?_; intro ρ
   refine Ao Try.call104 rfl (fun w hs => Fu (vL := vL) (vd := vd) (q := q) (id := id) (home := home) (ms := ms) (kind := 9) (line := m.line) (serial := 0) (turn := l.gave) (value := l.given) (LX := foc 82 vL ls m.line.toNat [vi l.state, vi l.value, vi l.want, vi l.serial, vi l.seen, vi l.gave, vi l.given] :: row 66 vd ds :: blk bm 49 m.cells :: LX) (Ai hs) hn (by unfold Msg.wf An; simp only; omega)) ?_; intro v142
   refine Gl ?_
   have er : (Ae ⟨ls, q⟩ id home m) = (⟨ls, q⟩, [A8 9 id home m.line l.gave l.given], []) := by rw [Jg hl hi hk, if_neg (by unfold D1; omega), if_pos ht15]
   rw [er, List.append_nil]
   refine Bf (.inl rfl) (fun B w hs => Im rfl _ w) (fun w hs => ⟨(v142, vd), rfl, Ai (Ep hl hlw (hs.pick pkk))⟩)
  ·intro ht15
   refine Gl ?_
   refine kp [0, 1, 4, 32, 33, 34, 35, 36, 37, 38, 39, 40, 41, 42, 43, 44, 45, 46, 47, 48, 49, 50, 51, 52, 53, 54, 55] ?_
   refine Ee 32 (.bool (decide (l.seen < m.turn ∧ (l.state = 2 ∨ l.state = 3)))) ?_ ?_
   ·rcases (show (m.turn ≤ l.seen) ∨ (l.seen < m.turn ∧ l.state = 2) ∨ (l.seen < m.turn ∧ l.state ≠ 2 ∧ l.state = 3) ∨ (l.seen < m.turn ∧ l.state ≠ 2 ∧ l.state ≠ 3) from by omega) with hm | hm | hm | hm
    ·refine Zac ?_
     refine djc (fun _ _ => Am rfl rfl (Ts (by omega))) ?_
     refine djm ?_
     refine dn12 ?_
     refine djf ?_
     exact Zge
    ·refine Zdd ?_
     refine dj (dgy ?_)
     refine dc (fun _ _ => Am rfl rfl (Bh (by omega))) ?_
     refine dj (dgy ?_)
     refine dc (fun _ _ => S2) ?_
     refine dn5 ?_
     refine dj (dgy ?_)
     refine dc (fun _ _ => Fm) ?_
     exact ZfY
    ·refine kp [0, 1, 4, 32, 33, 34, 35, 36, 37, 38, 39, 40, 41, 42, 43, 44, 45, 46, 47, 48, 49, 50, 51, 52, 53, 54, 55] ?_
     refine Zdd ?_
     refine dj (dgy ?_)
     refine Za7 ?_
     refine dj (dgy ?_)
     refine dc (fun _ _ => S2) ?_
     refine dn4 ?_
     refine dj (dgy ?_)
     refine dc (fun _ _ => Am rfl rfl (Bh (by omega))) ?_
     refine dj (dgy ?_)
     refine dc (fun _ _ => Agq) ?_
     exact ZfY
    ·refine Zdd ?_
     refine dj (dgy ?_)
     refine Za7 ?_
     refine dj (dgy ?_)
     refine dc (fun _ _ => S2) ?_
     refine dn4 ?_
     refine dj (dgy ?_)
     refine Za7 ?_
     refine dj (dgy ?_)
     refine dc (fun _ _ => Agq) ?_
     refine ZO ?_
     exact Zge
   ·refine Aw ?_
    first | (refine cdx (p := ?p2) (hd := ?d2) ?e2 ?_ ?_; case e2 => exact rfl) | (refine Bk (b := ?b2) ?e2 ?_ ?_; case e2 => exact rfl)
    ·intro ht32
     refine Gl ?_
     refine kp [0, 1, 4, 56, 57, 58, 59, 60, 61, 62, 63, 64, 65, 66, 67, 68, 69, 70, 71, 72, 73, 74, 75, 76] ?_
     refine ZdJ ?_
     refine jd_ (fun ρ S => foc 82 vL ls m.line.toNat (bif S 23 then [vi l.state, vi l.value, vi l.want, vi l.serial, vi m.turn, vi m.turn, vi l.value] else (bif S 20 then [vi l.state, vi l.value, vi l.want, vi l.serial, vi l.seen, vi m.turn, vi l.value] else (bif S 17 then [vi l.state, vi l.value, vi l.want, vi l.serial, vi l.seen, vi m.turn, vi l.given] else [vi l.state, vi l.value, vi l.want, vi l.serial, vi l.seen, vi l.gave, vi l.given]))) :: blk bk 120 [vL, vi q.kind, vi q.line, vi q.value, vi id, vi home, vo, vd] :: row 49 vo ms :: row 66 vd ds :: blk bm 49 m.cells :: (LX)) ?_
     refine Afo ?_
     refine J9 (v := vi l.value) (fun ρ S => C3 Try.isAgg3 (hc := at_f1 (α := Line) (xs := ls) pkk rfl (by repeat (first | exact rfl | refine Dd rfl ?_)))) (fun _ _ _ _ _ => rfl) ?_
     refine dn6 ?_
     refine Et (T0 := 82) (f := 5) (k := m.line.toNat) (sz := 7) (hv := vL) (xs := ls) (vs := fun ρ => [vi l.state, vi l.value, vi l.want, vi l.serial, vi l.seen, vi l.gave, vi l.given]) (v := fun ρ => (vi m.turn)) rfl Try.sizeOf3 (fun _ => rfl) (fun _ => rfl) (fun _ _ _ _ _ _ _ _ => rfl) (fun _ => rfl) (fun ρ g S hS hB hA => ?_) ?_
     ·have ui : upS S 17 17 = true := rfl; have u20 : upS S 17 20 = S 20 := rfl; have u23 : upS S 17 23 = S 23 := rfl; have h20 : S 20 = false := hA 20 ⟨0, rfl⟩; have h23 : S 23 = false := hA 23 ⟨0, rfl⟩
      simp only [ui, hS, u20, u23, h20, h23, cond_true, cond_false]
      exact pex
     refine dn2 ?_
     refine Et (T0 := 82) (f := 6) (k := m.line.toNat) (sz := 7) (hv := vL) (xs := ls) (vs := fun ρ => [vi l.state, vi l.value, vi l.want, vi l.serial, vi l.seen, vi m.turn, vi l.given]) (v := fun ρ => (vi l.value)) rfl Try.sizeOf3 (fun _ => rfl) (fun _ => rfl) (fun _ _ _ _ _ _ _ _ => rfl) (fun _ => rfl) (fun ρ g S hS hB hA => ?_) ?_
     ·have ui : upS S 20 20 = true := rfl; have u17 : upS S 20 17 = S 17 := rfl; have u23 : upS S 20 23 = S 23 := rfl; have h17 : S 17 = true := hB 17 ⟨0, rfl⟩; have h23 : S 23 = false := hA 23 ⟨0, rfl⟩
      simp only [ui, hS, u17, u23, h17, h23, cond_true, cond_false]
      exact pex
     refine dn2 ?_
     refine Et (T0 := 82) (f := 4) (k := m.line.toNat) (sz := 7) (hv := vL) (xs := ls) (vs := fun ρ => [vi l.state, vi l.value, vi l.want, vi l.serial, vi l.seen, vi m.turn, vi l.value]) (v := fun ρ => (vi m.turn)) rfl Try.sizeOf3 (fun _ => rfl) (fun _ => rfl) (fun _ _ _ _ _ _ _ _ => rfl) (fun _ => rfl) (fun ρ g S hS hB hA => ?_) ?_
     ·have ui : upS S 23 23 = true := rfl; have u17 : upS S 23 17 = S 17 := rfl; have u20 : upS S 23 20 = S 20 := rfl; have h17 : S 17 = true := hB 17 ⟨0, rfl⟩; have h20 : S 20 = true := hB 20 ⟨0, rfl⟩
      simp only [ui, hS, u17, u20, h17, h20, cond_true, cond_false]
      exact pex
     refine dnl ?_; intro ρ
     refine xq_ (foc 82 vL ls m.line.toNat [vi l.state, vi l.value, vi l.want, vi l.serial, vi m.turn, vi m.turn, vi l.value] :: blk bk 120 [vL, vi q.kind, vi q.line, vi q.value, vi id, vi home, vo, vd] :: row 49 vo ms :: row 66 vd ds :: blk bm 49 m.cells :: (LX)) ?_
     refine Zaj ?_
     refine ZbO ?_
     refine cdy ?_ ?_
     ·intro ht84
      refine kp [0, 1, 4, 85, 86, 87, 88, 89, 90] ?_
      refine ZC ?_
      refine sc ?_
      refine Zak ?_
      refine Gm ?_
      refine Ga5 ?_
      refine cdy ?_ ?_
      ·exact Zev
      ·intro ht95
       refine Gl ?_
       refine Bv ?_
       refine dn13 ?_
       refine dtl ?_; intro ρ
       refine Ao Try.call104 rfl (fun w hs => Fu (vL := vL) (vd := vd) (q := q) (id := id) (home := home) (ms := ms) (kind := 9) (line := m.line) (serial := 0) (turn := m.turn) (value := l.value) (LX := foc 82 vL ls m.line.toNat [vi 0, vi 0, vi l.want, vi l.serial, vi m.turn, vi m.turn, vi l.value] :: row 66 vd ds :: blk bm 49 m.cells :: LX) (Ai hs) hn (by unfold Msg.wf An; simp only; omega)) ?_; intro v142
       refine Gl ?_
       have ef : Cv l m.kind m.turn = { l with seen := m.turn, gave := m.turn, given := l.value, state := 0, value := 0 } := by unfold Cv; rw [if_neg ht95, if_pos ht84]
       have er : (Ae ⟨ls, q⟩ id home m) = (⟨ls.set m.line.toNat ({ l with seen := m.turn, gave := m.turn, given := l.value, state := 0, value := 0 }), q⟩, [A8 9 id home m.line m.turn l.value], []) := by rw [Jg hl hi hk, if_pos (by unfold D1; omega), ef, if_neg ht95, if_neg ht95]
       rw [er, List.append_nil]
       refine Bf (.inl rfl) (fun B w hs => Im rfl _ w) (fun w hs => ⟨(v142, vd), rfl, Ai (Ds ({ l with seen := m.turn, gave := m.turn, given := l.value, state := 0, value := 0 }) (by unfold Line.wf An; simp only; omega) (hs.pick pkk))⟩)
     ·intro ht84
      refine Gl ?_
      refine kp [0, 1, 4, 91, 92, 93, 94, 95] ?_
      refine Aa ?_
      refine Ga5 ?_
      refine cdy ?_ ?_
      ·exact Zev
      ·intro ht95
       refine Gl ?_
       refine Bv ?_
       refine dn13 ?_
       refine dtl ?_; intro ρ
       refine Ao Try.call104 rfl (fun w hs => Fu (vL := vL) (vd := vd) (q := q) (id := id) (home := home) (ms := ms) (kind := 9) (line := m.line) (serial := 0) (turn := m.turn) (value := l.value) (LX := foc 82 vL ls m.line.toNat [vi 1, vi l.value, vi l.want, vi l.serial, vi m.turn, vi m.turn, vi l.value] :: row 66 vd ds :: blk bm 49 m.cells :: LX) (Ai hs) hn (by unfold Msg.wf An; simp only; omega)) ?_; intro v142
       refine Gl ?_
       have ef : Cv l m.kind m.turn = { l with seen := m.turn, gave := m.turn, given := l.value, state := 1 } := by unfold Cv; rw [if_neg ht95, if_neg ht84]
       have er : (Ae ⟨ls, q⟩ id home m) = (⟨ls.set m.line.toNat ({ l with seen := m.turn, gave := m.turn, given := l.value, state := 1 }), q⟩, [A8 9 id home m.line m.turn l.value], []) := by rw [Jg hl hi hk, if_pos (by unfold D1; omega), ef, if_neg ht95, if_neg ht95]
       rw [er, List.append_nil]
       refine Bf (.inl rfl) (fun B w hs => Im rfl _ w) (fun w hs => ⟨(v142, vd), rfl, Ai (Ds ({ l with seen := m.turn, gave := m.turn, given := l.value, state := 1 }) (by unfold Line.wf An; simp only; omega) (hs.pick pkk))⟩)
    ·intro ht32
     refine Gl ?_
     have er : (Ae ⟨ls, q⟩ id home m) = (⟨ls, q⟩, [], []) := by rw [Jg hl hi hk, if_neg (by unfold D1; omega), if_neg ht15]
     exact Zf3
theorem Zs {LX : List Chunk} {R : List Fact} {w : World} {vL vo vd : Value} {bk : Nat} {q : Op} {id home : Int} {ls : List Line} {l : Line} {bm : Nat} {ms : List Msg} {ds : List Done} {m : Msg} (hs : St (blk bk 120 [vL, vi q.kind, vi q.line, vi q.value, vi id, vi home, vo, vd] :: row 82 vL ls :: row 49 vo ms :: row 66 vd ds :: blk bm 49 m.cells :: LX) R w) (hl : ls.getD m.line.toNat zLine = l) (hi : 0 ≤ m.line ∧ m.line < (ls.length : Int)) (hll : ls.length ≤ 100) (hm : m.wf) (hid : An id) (hhome : An home) (hn : ms.length ≤ 1000) (hnd : ds.length ≤ 1000) (hq : q.wf) (hk : m.kind = 7) (hqa : Gp l m → q.line = m.line ∧ (1 ≤ q.kind ∧ q.kind ≤ 4) ∧ 0 ≤ q.value ∧ q.value ≤ 255) : Calls Try.prog 106 [bp bk 0, bp bm 0].toArray w (Bw (fun g : Value × Value => .tuple #[]) (fun g => blk bk 120 [vL, vi (Ae ⟨ls, q⟩ id home m).1.wait.kind, vi (Ae ⟨ls, q⟩ id home m).1.wait.line, vi (Ae ⟨ls, q⟩ id home m).1.wait.value, vi id, vi home, g.1, g.2] :: row 82 vL (Ae ⟨ls, q⟩ id home m).1.lines :: row 49 g.1 (ms ++ (Ae ⟨ls, q⟩ id home m).2.1) :: row 66 g.2 (ds ++ (Ae ⟨ls, q⟩ id home m).2.2) :: blk bm 49 m.cells :: LX) (fun g => R)) := by
 have hm0 := hm
 unfold Msg.wf An at hm0
 refine ZaZ ?_;intro hid0 hhome0
 refine Aj Try.func106 rfl Try.ntmps106 rfl hs ?_
 clear hs
 refine Gl ?_
 refine Zce ?_;intro hlw hA hlw0 honeL
 refine dn9 ?_
 refine Zcj ?_;intro ρ
 refine Bv ?_
 refine dn9 ?_
 refine dnl ?_; intro ρ
 refine Gl ?_
 refine cdy ?_ ?_
 ·intro ht24
  refine Gl ?_
  have er : (Ae ⟨ls, q⟩ id home m) = (⟨ls, q⟩, [], []) := by rw [Kn hl hi hk, if_pos (by omega)]
  exact Zf3
 ·intro ht24
  refine Gl ?_
  refine ZcY ?_
  refine Ee 5 (.bool (decide ((l.want = 1 ∧ m.alone = false) ∨ (l.want = 2 ∧ m.alone = true)))) ?_ ?_
  ·rcases (show (l.want = 1 ∧ m.alone = false) ∨ (l.want = 1 ∧ m.alone = true) ∨ (l.want = 2 ∧ m.alone = true) ∨ (l.want = 2 ∧ m.alone = false) ∨ (l.want ≠ 1 ∧ l.want ≠ 2) from by rcases Bool.eq_false_or_eq_true m.alone with h1 | h1 <;> simp only [h1, and_true, and_false, or_false, false_or, reduceCtorEq] <;> omega) with hm | hm | hm | hm | hm
   ·obtain ⟨hc1, hal⟩ := hm
    refine ZC ?_
    refine Cs ?_
    refine ZN ?_
    refine Zbv ?_
    refine Ga16 ?_
    exact ZeR
   ·obtain ⟨hc1, hal⟩ := hm
    refine ZC ?_
    refine Cs ?_
    refine ZN ?_
    refine ZbG ?_
    refine rn7 ?_
    refine gy ?_
    refine As ?_
    refine Ga8 ?_
    exact Ze8
   ·obtain ⟨hc1, hal⟩ := hm
    refine ZcY ?_
    refine ZbL ?_
    refine Cs ?_
    refine ZN ?_
    refine ZbG ?_
    refine Ga3 ?_
    exact ZeR
   ·obtain ⟨hc1, hal⟩ := hm
    refine ZbL ?_
    refine Cs ?_
    refine ZN ?_
    refine Zbv ?_
    refine Ga3 ?_
    exact Ze8
   ·refine ZcY ?_
    refine ZbL ?_
    refine As ?_
    refine Ga8 ?_
    exact Ze8
  ·refine Aw ?_
   refine Gl ?_
   rcases (show (m.serial = l.serial) ∨ (m.serial ≠ l.serial) from by omega) with hc | hc
   ·refine Zac ?_
    refine ZaY ?_
    refine ZO ?_
    refine dnl ?_; intro ρ
    refine Gl ?_
    first | (refine cdx (p := ?p2) (hd := ?d2) ?e2 ?_ ?_; case e2 => exact rfl) | (refine Bk (b := ?b2) ?e2 ?_ ?_; case e2 => exact rfl)
    ·intro ht61
     have haq : Gp l m := ⟨hc, ht61⟩
     obtain ⟨hq1, hq2, hq3⟩ := hqa haq
     refine Gl ?_
     refine kp [0, 1, 4, 62, 63, 64, 65, 66, 67, 68, 69, 70, 71, 72, 73, 74, 75, 76, 77, 78, 79, 80, 81] ?_
     refine ZdJ ?_
     refine jd_ (fun ρ S => foc 82 vL ls m.line.toNat (bif S 23 then [vi 1, vi m.value, vi 0, vi l.serial, vi m.turn, vi l.gave, vi l.given] else (bif S 20 then [vi 1, vi m.value, vi 0, vi l.serial, vi l.seen, vi l.gave, vi l.given] else (bif S 17 then [vi 1, vi m.value, vi l.want, vi l.serial, vi l.seen, vi l.gave, vi l.given] else (bif S 14 then [vi 1, vi l.value, vi l.want, vi l.serial, vi l.seen, vi l.gave, vi l.given] else [vi l.state, vi l.value, vi l.want, vi l.serial, vi l.seen, vi l.gave, vi l.given])))) :: blk bk 120 [vL, vi q.kind, vi q.line, vi q.value, vi id, vi home, vo, vd] :: row 49 vo ms :: row 66 vd ds :: blk bm 49 m.cells :: (LX)) ?_
     refine dn14 ?_
     refine Et (T0 := 82) (f := 0) (k := m.line.toNat) (sz := 7) (hv := vL) (xs := ls) (vs := fun ρ => [vi l.state, vi l.value, vi l.want, vi l.serial, vi l.seen, vi l.gave, vi l.given]) (v := fun ρ => (vi 1)) rfl Try.sizeOf3 (fun _ => rfl) (fun _ => rfl) (fun _ _ _ _ _ _ _ _ => rfl) (fun _ => rfl) (fun ρ g S hS hB hA => ?_) ?_
     ·have ui : upS S 14 14 = true := rfl; have u17 : upS S 14 17 = S 17 := rfl; have u20 : upS S 14 20 = S 20 := rfl; have u23 : upS S 14 23 = S 23 := rfl; have h17 : S 17 = false := hA 17 ⟨0, rfl⟩; have h20 : S 20 = false := hA 20 ⟨0, rfl⟩; have h23 : S 23 = false := hA 23 ⟨0, rfl⟩
      simp only [ui, hS, u17, u20, u23, h17, h20, h23, cond_true, cond_false]
      exact pex
     refine dn2 ?_
     refine Et (T0 := 82) (f := 1) (k := m.line.toNat) (sz := 7) (hv := vL) (xs := ls) (vs := fun ρ => [vi 1, vi l.value, vi l.want, vi l.serial, vi l.seen, vi l.gave, vi l.given]) (v := fun ρ => (vi m.value)) rfl Try.sizeOf3 (fun _ => rfl) (fun _ => rfl) (fun _ _ _ _ _ _ _ _ => rfl) (fun _ => rfl) (fun ρ g S hS hB hA => ?_) ?_
     ·have ui : upS S 17 17 = true := rfl; have u14 : upS S 17 14 = S 14 := rfl; have u20 : upS S 17 20 = S 20 := rfl; have u23 : upS S 17 23 = S 23 := rfl; have h14 : S 14 = true := hB 14 ⟨0, rfl⟩; have h20 : S 20 = false := hA 20 ⟨0, rfl⟩; have h23 : S 23 = false := hA 23 ⟨0, rfl⟩
      simp only [ui, hS, u14, u20, u23, h14, h20, h23, cond_true, cond_false]
      exact pex
     refine dn2 ?_
     refine Et (T0 := 82) (f := 2) (k := m.line.toNat) (sz := 7) (hv := vL) (xs := ls) (vs := fun ρ => [vi 1, vi m.value, vi l.want, vi l.serial, vi l.seen, vi l.gave, vi l.given]) (v := fun ρ => (vi 0)) rfl Try.sizeOf3 (fun _ => rfl) (fun _ => rfl) (fun _ _ _ _ _ _ _ _ => rfl) (fun _ => rfl) (fun ρ g S hS hB hA => ?_) ?_
     ·have ui : upS S 20 20 = true := rfl; have u14 : upS S 20 14 = S 14 := rfl; have u17 : upS S 20 17 = S 17 := rfl; have u23 : upS S 20 23 = S 23 := rfl; have h14 : S 14 = true := hB 14 ⟨0, rfl⟩; have h17 : S 17 = true := hB 17 ⟨0, rfl⟩; have h23 : S 23 = false := hA 23 ⟨0, rfl⟩
      simp only [ui, hS, u14, u17, u23, h14, h17, h23, cond_true, cond_false]
      exact pex
     refine dn2 ?_
     refine Et (T0 := 82) (f := 4) (k := m.line.toNat) (sz := 7) (hv := vL) (xs := ls) (vs := fun ρ => [vi 1, vi m.value, vi 0, vi l.serial, vi l.seen, vi l.gave, vi l.given]) (v := fun ρ => (vi m.turn)) rfl Try.sizeOf3 (fun _ => rfl) (fun _ => rfl) (fun _ _ _ _ _ _ _ _ => rfl) (fun _ => rfl) (fun ρ g S hS hB hA => ?_) ?_
     ·have ui : upS S 23 23 = true := rfl; have u14 : upS S 23 14 = S 14 := rfl; have u17 : upS S 23 17 = S 17 := rfl; have u20 : upS S 23 20 = S 20 := rfl; have h14 : S 14 = true := hB 14 ⟨0, rfl⟩; have h17 : S 17 = true := hB 17 ⟨0, rfl⟩; have h20 : S 20 = true := hB 20 ⟨0, rfl⟩
      simp only [ui, hS, u14, u17, u20, h14, h17, h20, cond_true, cond_false]
      exact pex
     refine dnl ?_; intro ρ
     refine xq_ (foc 82 vL ls m.line.toNat [vi 1, vi m.value, vi 0, vi l.serial, vi m.turn, vi l.gave, vi l.given] :: blk bk 120 [vL, vi q.kind, vi q.line, vi q.value, vi id, vi home, vo, vd] :: row 49 vo ms :: row 66 vd ds :: blk bm 49 m.cells :: (LX)) ?_
     refine Gm ?_
     refine Ga4 ?_
     refine Bk (b := ?b3) ?e3 ?_ ?_; case e3 => exact rfl
     ·intro ht85
      refine ZI ?_
      refine sc ?_
      refine Gl ?_
      refine JC.conseq (L' := row 82 vL (ls.set m.line.toNat ({ l with state := 2, value := m.value, want := 0, seen := m.turn })) :: blk bk 120 [vL, vi q.kind, vi q.line, vi q.value, vi id, vi home, vo, vd] :: row 49 vo ms :: row 66 vd ds :: blk bm 49 m.cells :: LX) (fun w hs => Ai (Ds ({ l with state := 2, value := m.value, want := 0, seen := m.turn }) (by unfold Line.wf An; simp only; omega) (hs.pick pkk))) ?_
      refine kp [0, 1, 89, 90, 91, 92, 93, 94] ?_
      refine Zax ?_
      refine ob (F3 3 Try.isAgg26 Try.sizeOf26) ?_
      refine Ao Try.call70 rfl (fun w hs => Le (vL := vL) (vd := vd) (q := q) (q0 := q) (id := id) (home := home) (ds := ds) (ls := ls.set m.line.toNat ({ l with state := 2, value := m.value, want := 0, seen := m.turn })) (l := { l with state := 2, value := m.value, want := 0, seen := m.turn }) (LX := row 49 vo ms :: blk bm 49 m.cells :: LX) (Ai hs) (by rw [hq1, List.getD_eq_getElem?_getD, List.getElem?_set_self (by omega)]; rfl) (by rw [hq1, List.length_set]; exact hi) (by rw [List.length_set]; exact hll) hid hhome hnd hq hq2 hq3) ?_; intro v95
      refine J.conseq (L' := blk bk 120 [vL, vi 0, vi 0, vi 0, vi id, vi home, vo, v95] :: row 82 vL (ls.set m.line.toNat ({ l with state := 2, value := (Ay m.value q).1, want := 0, seen := m.turn })) :: row 66 v95 (ds ++ [(⟨id, q, (Ay m.value q).2⟩ : Done)]) :: row 49 vo ms :: blk bm 49 m.cells :: LX) (fun w hs => by rw [hq1, List.set_set] at hs; exact Ai hs) ?_
      refine Gl ?_
      refine Bv ?_
      refine dn9 ?_
      refine dtl ?_; intro ρ
      refine Ao Try.call104 rfl (fun w hs => Fu (vL := vL) (vd := v95) (q := zOp) (id := id) (home := home) (ms := ms) (kind := 10) (line := m.line) (serial := 0) (turn := m.turn) (value := 0) (LX := row 82 vL (ls.set m.line.toNat ({ l with state := 2, value := (Ay m.value q).1, want := 0, seen := m.turn })) :: row 66 v95 (ds ++ [(⟨id, q, (Ay m.value q).2⟩ : Done)]) :: blk bm 49 m.cells :: LX) (Ai hs) hn (by unfold Msg.wf An; simp only; omega)) ?_; intro v105
      refine Gl ?_
      have eg : Gw l m q = { l with state := 2, value := (Ay m.value q).1, want := 0, seen := m.turn } := by unfold Gw; rw [ht85, if_pos rfl]
      have er : (Ae ⟨ls, q⟩ id home m) = (⟨ls.set m.line.toNat ({ l with state := 2, value := (Ay m.value q).1, want := 0, seen := m.turn }), zOp⟩, [A8 10 id home m.line m.turn 0], [⟨id, q, (Ay m.value q).2⟩]) := by rw [Kn hl hi hk, if_neg (by omega), if_pos haq, eg]
      rw [er]
      refine Bf (.inl rfl) (fun B w hs => Im rfl _ w) (fun w hs => ⟨(v105, v95), rfl, Ai hs⟩)
     ·intro ht85
      refine Gl ?_
      refine JC.conseq (L' := row 82 vL (ls.set m.line.toNat ({ l with state := 1, value := m.value, want := 0, seen := m.turn })) :: blk bk 120 [vL, vi q.kind, vi q.line, vi q.value, vi id, vi home, vo, vd] :: row 49 vo ms :: row 66 vd ds :: blk bm 49 m.cells :: LX) (fun w hs => Ai (Ds ({ l with state := 1, value := m.value, want := 0, seen := m.turn }) (by unfold Line.wf An; simp only; omega) (hs.pick pkk))) ?_
      refine Zax ?_
      refine ob (F3 3 Try.isAgg26 Try.sizeOf26) ?_
      refine Ao Try.call70 rfl (fun w hs => Le (vL := vL) (vd := vd) (q := q) (q0 := q) (id := id) (home := home) (ds := ds) (ls := ls.set m.line.toNat ({ l with state := 1, value := m.value, want := 0, seen := m.turn })) (l := { l with state := 1, value := m.value, want := 0, seen := m.turn }) (LX := row 49 vo ms :: blk bm 49 m.cells :: LX) (Ai hs) (by rw [hq1, List.getD_eq_getElem?_getD, List.getElem?_set_self (by omega)]; rfl) (by rw [hq1, List.length_set]; exact hi) (by rw [List.length_set]; exact hll) hid hhome hnd hq hq2 hq3) ?_; intro v95
      refine J.conseq (L' := blk bk 120 [vL, vi 0, vi 0, vi 0, vi id, vi home, vo, v95] :: row 82 vL (ls.set m.line.toNat ({ l with state := 1, value := (Ay m.value q).1, want := 0, seen := m.turn })) :: row 66 v95 (ds ++ [(⟨id, q, (Ay m.value q).2⟩ : Done)]) :: row 49 vo ms :: blk bm 49 m.cells :: LX) (fun w hs => by rw [hq1, List.set_set] at hs; exact Ai hs) ?_
      refine Gl ?_
      refine kp [0, 1, 96, 97, 98, 99, 100, 101, 102, 103, 104] ?_
      refine Bv ?_
      refine dn9 ?_
      refine dtl ?_; intro ρ
      refine Ao Try.call104 rfl (fun w hs => Fu (vL := vL) (vd := v95) (q := zOp) (id := id) (home := home) (ms := ms) (kind := 10) (line := m.line) (serial := 0) (turn := m.turn) (value := 0) (LX := row 82 vL (ls.set m.line.toNat ({ l with state := 1, value := (Ay m.value q).1, want := 0, seen := m.turn })) :: row 66 v95 (ds ++ [(⟨id, q, (Ay m.value q).2⟩ : Done)]) :: blk bm 49 m.cells :: LX) (Ai hs) hn (by unfold Msg.wf An; simp only; omega)) ?_; intro v105
      refine Gl ?_
      have eg : Gw l m q = { l with state := 1, value := (Ay m.value q).1, want := 0, seen := m.turn } := by unfold Gw; rw [ht85, if_neg (by decide)]
      have er : (Ae ⟨ls, q⟩ id home m) = (⟨ls.set m.line.toNat ({ l with state := 1, value := (Ay m.value q).1, want := 0, seen := m.turn }), zOp⟩, [A8 10 id home m.line m.turn 0], [⟨id, q, (Ay m.value q).2⟩]) := by rw [Kn hl hi hk, if_neg (by omega), if_pos haq, eg]
      rw [er]
      refine Bf (.inl rfl) (fun B w hs => Im rfl _ w) (fun w hs => ⟨(v105, v95), rfl, Ai hs⟩)
    ·intro ht61
     refine Gl ?_
     refine Zd8 ?_;intro ρ v105
     have er : (Ae ⟨ls, q⟩ id home m) = (⟨ls, q⟩, [A8 10 id home m.line m.turn 0], []) := by rw [Kn hl hi hk, if_neg (by omega), if_neg (fun h => ht61 h.2)]
     rw [er, List.append_nil]
     refine Bf (.inl rfl) (fun B w hs => Im rfl _ w) (fun w hs => ⟨(v105, vd), rfl, Ai (Ep hl hlw (hs.pick pkk))⟩)
   ·refine Zac ?_
    refine ZaS ?_
    refine djm ?_
    refine dn1 ?_
    refine djf ?_
    refine dnl ?_; intro ρ
    refine Glc ?_
    refine Zd8 ?_;intro ρ v105
    have er : (Ae ⟨ls, q⟩ id home m) = (⟨ls, q⟩, [A8 10 id home m.line m.turn 0], []) := by rw [Kn hl hi hk, if_neg (by omega), if_neg (fun h => hc h.1)]
    rw [er, List.append_nil]
    refine Bf (.inl rfl) (fun B w hs => Im rfl _ w) (fun w hs => ⟨(v105, vd), rfl, Ai (Ep hl hlw (hs.pick pkk))⟩)
section
variable {ls : List Line} {q : Op} {id home : Int} {m : Msg} {l : Line}
theorem Ps (hl : ls.getD m.line.toNat zLine = l) (hi : 0 ≤ m.line ∧ m.line < (ls.length : Int)) (hk : m.kind = 4) : Ae ⟨ls, q⟩ id home m = (⟨ls.set m.line.toNat (C5 l m.turn), q⟩, [A8 8 id home m.line m.turn 0], []) := by
 subst hl
 unfold Ae
 rw [if_neg (by simp only; omega), if_pos hk]; rfl
theorem Rp (hl : ls.getD m.line.toNat zLine = l) (hi : 0 ≤ m.line ∧ m.line < (ls.length : Int)) (hk : m.kind = 11) : Ae ⟨ls, q⟩ id home m = (if l.want = 3 ∧ m.serial = l.serial then (⟨ls.set m.line.toNat { l with state := 0, value := 0, want := 0 }, zOp⟩, [], [⟨id, q, 0⟩]) else (⟨ls, q⟩, [], [])) := by
 subst hl
 unfold Ae
 rw [if_neg (by simp only; omega), if_neg (by omega), if_neg (by omega), if_neg (by omega)]
 by_cases h : (ls.getD m.line.toNat zLine).want = 3 ∧ m.serial = (ls.getD m.line.toNat zLine).serial
 ·rw [if_pos h, if_pos ⟨hk, h⟩]; rfl
 ·rw [if_neg h, if_neg (fun g => h g.2)]
theorem Acq (hi : 0 ≤ m.line ∧ m.line < (ls.length : Int)) (hk : m.kind ≠ 4 ∧ m.kind ≠ 5 ∧ m.kind ≠ 6 ∧ m.kind ≠ 7 ∧ m.kind ≠ 11) : Ae ⟨ls, q⟩ id home m = (⟨ls, q⟩, [], []) := by
 unfold Ae
 rw [if_neg (by simp only; omega), if_neg (by omega), if_neg (by omega), if_neg (by omega), if_neg (by omega)]
end
structure KH (c : Core) : Prop where
 n : c.lines.length ≤ 4
 w : CW c c.lines.length
theorem KB.kh {c : Core} (h : KB c) : KH c := ⟨h.n, h.w⟩
theorem KH.wline {c : Core} (h : KH c) (i : Int) (h0 : 0 ≤ i) (hi : i.toNat < c.lines.length) (hw : (Ac c i).want ≠ 0) : c.wait.line = i ∧ (1 ≤ c.wait.kind ∧ c.wait.kind ≤ 4) ∧ 0 ≤ c.wait.value ∧ c.wait.value ≤ 255 := by
 have hb := h.w.busy (fun h0 => hw ((h.w.free h0).2 i.toNat hi))
 have h1 := hb.2.2.2 i.toNat hi
 by_cases e : (i.toNat : Int) = c.wait.line
 ·exact ⟨by omega, hb.1, hb.2.2.1⟩
 ·rw [if_neg e] at h1; exact absurd h1 hw
theorem KH.wwf {c : Core} (h : KH c) : c.wait.wf := by
 by_cases h0 : c.wait.kind = 0
 ·rw [(h.w.free h0).1]; unfold Op.wf An; decide
 ·have hb := h.w.busy h0
  have := h.n
  unfold Op.wf An; omega
theorem Acp (c : Core) (id home : Int) (m : Msg) : (Ae c id home m).1.lines.length = c.lines.length := by
 unfold Ae
 repeat' split
 all_goals first | rfl | exact List.length_set
theorem KH.hear {c : Core} (h : KH c) (id home : Int) (m : Msg) : KH (Ae c id home m).1 := by
 have n' := Acp c id home m
 refine ⟨by rw [n']; exact h.n, ?_⟩
 rw [n']; clear n'
 by_cases o : m.line < 0 ∨ (c.lines.length : Int) ≤ m.line
 ·unfold Ae; rw [if_pos o]; exact h.w
 obtain ⟨i, hi⟩ := Int.eq_ofNat_of_zero_le (show 0 ≤ m.line by omega)
 have hil : i < c.lines.length := by omega
 have hz : (Ac c m.line).want ≠ 0 → c.wait.line = (i : Int) := fun hw => by rw [(h.wline m.line (by omega) (by omega) hw).1, hi]
 have hla : Ac c m.line = c.lines.getD i zLine := by unfold Ac; rw [hi]; rfl
 unfold Ae; rw [if_neg o]
 generalize Ac c m.line = l at hz hla
 rw [hi]
 split
 ·refine P4 rfl h.w hil ?_
  rw [← hla]; unfold C5; split <;> (try split) <;> rfl
 split
 ·split
  ·by_cases e : l.want = 3
   ·rw [if_pos e]
    refine H6 rfl h.w hil (.inr (hz (by omega))) ?_
    unfold Cv; rw [if_pos e]
   ·rw [if_neg e]
    refine P4 rfl h.w hil ?_
    rw [← hla]; unfold Cv; rw [if_neg e]; split <;> rfl
  split <;> exact h.w
 split
 ·split
  ·exact h.w
  split
  ·rename_i a
   exact H6 rfl h.w hil (.inr (hz (by unfold Gp at a; omega))) rfl
  ·exact h.w
 split
 ·rename_i a
  exact H6 rfl h.w hil (.inr (hz (by omega))) rfl
 ·exact h.w
theorem open_l {P : Program} {n : Nat} {Q : Exit → Act → World → Prop} {L : List Chunk} {R : List Fact} {al : List (Nat × Value)} {cd : Code} {v : Value} {ls : List Line} {l : Line} {i : Int} (hl : ls.getD i.toNat zLine = l) (hm : sl v ls ∈ R) (h0 : 0 ≤ i) (hi : i < (ls.length : Int)) (k : l.wf → JC P n cd Q L (cF v 7 i.toNat l.cells :: R) al) : JC P n cd Q L R al := by
 subst hl
 exact JC.open0 (xs := ls) i.toNat hm (by omega) k
theorem Zr {u : Value} {ls : List Line} {q : Op} {l : Line} {id home : Int} {m : Msg} (hs : St (L) R w) (hu : sl u ls ∈ R) (hk : KH ⟨ls, q⟩) (hid : An id) (hhome : An home) (hm : m.wf) (hl : ls.getD m.line.toNat zLine = l) (hg : m.line < 0 ∨ (ls.length : Int) ≤ m.line) : Calls Try.prog 77 [.agg (Core.cells u ⟨ls, q⟩).toArray, vi id, vi home, .agg m.cells.toArray].toArray w (Bw (fun v : Value × Value × Value => .tuple #[.agg (Core.cells v.1 (Ae ⟨ls, q⟩ id home m).1).toArray, v.2.1, v.2.2]) (fun v => L) (fun v => sl v.1 (Ae ⟨ls, q⟩ id home m).1.lines :: sl v.2.1 (Ae ⟨ls, q⟩ id home m).2.1 :: sl v.2.2 (Ae ⟨ls, q⟩ id home m).2.2 :: R)) := by
 refine Zba ?_;intro hlen hone0 hn4 hm0 hid0 hhome0
 clear hs
 refine ZbT ?_;intro b4 b7 b8 vL honeV b18
 rcases (show (m.line < 0) ∨ (¬ m.line < 0 ∧ (ls.length : Int) ≤ m.line) from by omega) with hc | hc
 ·refine ZX ?_
  refine Gc8 ?_
  refine ZdK ?_;intro er
  exact Zft
 ·refine ZZ ?_
  refine Zbk ?_
  refine Gc1 ?_
  refine ZdK ?_;intro er
  exact Zft
theorem Zq {u : Value} {ls : List Line} {q : Op} {l : Line} {id home : Int} {m : Msg} (hs : St (L) R w) (hu : sl u ls ∈ R) (hk : KH ⟨ls, q⟩) (hid : An id) (hhome : An home) (hm : m.wf) (hl : ls.getD m.line.toNat zLine = l) (hg : 0 ≤ m.line ∧ m.line < (ls.length : Int) ∧ m.kind = 4) : Calls Try.prog 77 [.agg (Core.cells u ⟨ls, q⟩).toArray, vi id, vi home, .agg m.cells.toArray].toArray w (Bw (fun v : Value × Value × Value => .tuple #[.agg (Core.cells v.1 (Ae ⟨ls, q⟩ id home m).1).toArray, v.2.1, v.2.2]) (fun v => L) (fun v => sl v.1 (Ae ⟨ls, q⟩ id home m).1.lines :: sl v.2.1 (Ae ⟨ls, q⟩ id home m).2.1 :: sl v.2.2 (Ae ⟨ls, q⟩ id home m).2.2 :: R)) := by
 refine Zba ?_;intro hlen hone0 hn4 hm0 hid0 hhome0
 clear hs
 refine ZbT ?_;intro b4 b7 b8 vL honeV b18
 refine Zau ?_
 refine Gc1 ?_
 refine Zce ?_;intro hlw hA hlw0 honeL
 refine dn7 ?_
 refine Zcj ?_;intro ρ
 refine ZcG ?_
 refine Zap ?_
 refine Bv ?_
 refine dn7 ?_
 refine dnl ?_; intro ρ
 refine Gl ?_
 refine cdy ?_ ?_
 ·intro ht52
  refine Gm ?_
  refine rn5 ?_
  refine ZbO ?_
  refine cdy ?_ ?_
  ·intro ht62
   refine ZC ?_
   refine sc ?_
   refine Zak ?_
   refine Gl ?_
   refine ZU ?_
   refine Zax ?_
   refine Ao Try.call104 rfl (fun w hs => Fu (vL := vL) (vd := .slice none 0 0) (q := q) (id := id) (home := home) (ms := []) (kind := 8) (line := m.line) (serial := 0) (turn := m.turn) (value := 0) (LX := foc 82 vL ls m.line.toNat [vi 0, vi 0, vi l.want, vi l.serial, vi m.turn, vi l.gave, vi l.given] :: blk b8 57 [.slice none 0 0, vi 0, vi 0, vi 0] :: L) (Ai hs) (by simp) (by unfold Msg.wf An; simp only; omega)) ?_; intro v74
   refine Gl ?_
   refine JC.conseq (L' := row 82 vL (ls.set m.line.toNat ({ l with seen := m.turn, state := 0, value := 0 })) :: blk b18 120 [vL, vi q.kind, vi q.line, vi q.value, vi id, vi home, v74, .slice none 0 0] :: row 49 v74 [A8 8 id home m.line m.turn 0] :: blk b8 57 [.slice none 0 0, vi 0, vi 0, vi 0] :: L) (fun w hs => Ai (Ds ({ l with seen := m.turn, state := 0, value := 0 }) (by unfold Line.wf An; simp only; omega) (hs.pick pkk))) ?_
   refine JC.shut (v := vL) (xs := (ls.set m.line.toNat ({ l with seen := m.turn, state := 0, value := 0 }))) .hd ?_
   refine Zdh ?_
   refine Zdf ?_
   refine Zc2 ?_;intro ρ
   have eh : C5 l m.turn = { l with seen := m.turn, state := 0, value := 0 } := by unfold C5; rw [if_pos (by omega), if_pos (by omega)]
   have er : (Ae ⟨ls, q⟩ id home m) = (⟨ls.set m.line.toNat ({ l with seen := m.turn, state := 0, value := 0 }), q⟩, [A8 8 id home m.line m.turn 0], []) := by rw [Ps hl (by omega) (by omega), eh]
   exact ZfF
  ·intro ht62
   refine Gl ?_
   refine ZU ?_
   refine Zax ?_
   refine Ao Try.call104 rfl (fun w hs => Fu (vL := vL) (vd := .slice none 0 0) (q := q) (id := id) (home := home) (ms := []) (kind := 8) (line := m.line) (serial := 0) (turn := m.turn) (value := 0) (LX := foc 82 vL ls m.line.toNat [vi l.state, vi l.value, vi l.want, vi l.serial, vi m.turn, vi l.gave, vi l.given] :: blk b8 57 [.slice none 0 0, vi 0, vi 0, vi 0] :: L) (Ai hs) (by simp) (by unfold Msg.wf An; simp only; omega)) ?_; intro v74
   refine Gl ?_
   refine JC.conseq (L' := row 82 vL (ls.set m.line.toNat ({ l with seen := m.turn })) :: blk b18 120 [vL, vi q.kind, vi q.line, vi q.value, vi id, vi home, v74, .slice none 0 0] :: row 49 v74 [A8 8 id home m.line m.turn 0] :: blk b8 57 [.slice none 0 0, vi 0, vi 0, vi 0] :: L) (fun w hs => Ai (Ds ({ l with seen := m.turn }) (by unfold Line.wf An; simp only; omega) (hs.pick pkk))) ?_
   refine JC.shut (v := vL) (xs := (ls.set m.line.toNat ({ l with seen := m.turn }))) .hd ?_
   refine Zdh ?_
   refine Zc2 ?_;intro ρ
   have eh : C5 l m.turn = { l with seen := m.turn } := by unfold C5; rw [if_pos (by omega), if_neg (by omega)]
   have er : (Ae ⟨ls, q⟩ id home m) = (⟨ls.set m.line.toNat ({ l with seen := m.turn }), q⟩, [A8 8 id home m.line m.turn 0], []) := by rw [Ps hl (by omega) (by omega), eh]
   exact ZfF
 ·intro ht52
  refine Gl ?_
  refine ZU ?_
  refine Zax ?_
  refine Ao Try.call104 rfl (fun w hs => Fu (vL := vL) (vd := .slice none 0 0) (q := q) (id := id) (home := home) (ms := []) (kind := 8) (line := m.line) (serial := 0) (turn := m.turn) (value := 0) (LX := foc 82 vL ls m.line.toNat [vi l.state, vi l.value, vi l.want, vi l.serial, vi l.seen, vi l.gave, vi l.given] :: blk b8 57 [.slice none 0 0, vi 0, vi 0, vi 0] :: L) (Ai hs) (by simp) (by unfold Msg.wf An; simp only; omega)) ?_; intro v74
  refine Gl ?_
  refine JC.conseq (L' := row 82 vL ls :: blk b18 120 [vL, vi q.kind, vi q.line, vi q.value, vi id, vi home, v74, .slice none 0 0] :: row 49 v74 [A8 8 id home m.line m.turn 0] :: blk b8 57 [.slice none 0 0, vi 0, vi 0, vi 0] :: L) (fun w hs => Ai (Ep hl hlw (hs.pick pkk))) ?_
  refine JC.shut (v := vL) (xs := ls) .hd ?_
  refine Zdh ?_
  refine Zc2 ?_;intro ρ
  have eh : C5 l m.turn = l := by unfold C5; rw [if_neg (by omega)]
  have er : (Ae ⟨ls, q⟩ id home m) = (⟨ls, q⟩, [A8 8 id home m.line m.turn 0], []) := by rw [Ps hl (by omega) (by omega), eh, ← hl, Ke]
  exact ZfF
theorem Zp {u : Value} {ls : List Line} {q : Op} {l : Line} {id home : Int} {m : Msg} (hs : St (L) R w) (hu : sl u ls ∈ R) (hk : KH ⟨ls, q⟩) (hid : An id) (hhome : An home) (hm : m.wf) (hl : ls.getD m.line.toNat zLine = l) (hg : 0 ≤ m.line ∧ m.line < (ls.length : Int) ∧ m.kind = 5) : Calls Try.prog 77 [.agg (Core.cells u ⟨ls, q⟩).toArray, vi id, vi home, .agg m.cells.toArray].toArray w (Bw (fun v : Value × Value × Value => .tuple #[.agg (Core.cells v.1 (Ae ⟨ls, q⟩ id home m).1).toArray, v.2.1, v.2.2]) (fun v => L) (fun v => sl v.1 (Ae ⟨ls, q⟩ id home m).1.lines :: sl v.2.1 (Ae ⟨ls, q⟩ id home m).2.1 :: sl v.2.2 (Ae ⟨ls, q⟩ id home m).2.2 :: R)) := by
 refine Zba ?_;intro hlen hone0 hn4 hm0 hid0 hhome0
 clear hs
 refine Zcc ?_;intro b4 b7 b8 vL honeV b18 ρ
 exact Ze5
theorem Zo {u : Value} {ls : List Line} {q : Op} {l : Line} {id home : Int} {m : Msg} (hs : St (L) R w) (hu : sl u ls ∈ R) (hk : KH ⟨ls, q⟩) (hid : An id) (hhome : An home) (hm : m.wf) (hl : ls.getD m.line.toNat zLine = l) (hg : 0 ≤ m.line ∧ m.line < (ls.length : Int) ∧ m.kind = 6) : Calls Try.prog 77 [.agg (Core.cells u ⟨ls, q⟩).toArray, vi id, vi home, .agg m.cells.toArray].toArray w (Bw (fun v : Value × Value × Value => .tuple #[.agg (Core.cells v.1 (Ae ⟨ls, q⟩ id home m).1).toArray, v.2.1, v.2.2]) (fun v => L) (fun v => sl v.1 (Ae ⟨ls, q⟩ id home m).1.lines :: sl v.2.1 (Ae ⟨ls, q⟩ id home m).2.1 :: sl v.2.2 (Ae ⟨ls, q⟩ id home m).2.2 :: R)) := by
 refine Zba ?_;intro hlen hone0 hn4 hm0 hid0 hhome0
 clear hs
 refine Zcc ?_;intro b4 b7 b8 vL honeV b18 ρ
 refine ZF ?_
 exact Ze5
theorem Zn {u : Value} {ls : List Line} {q : Op} {l : Line} {id home : Int} {m : Msg} (hs : St (L) R w) (hu : sl u ls ∈ R) (hk : KH ⟨ls, q⟩) (hid : An id) (hhome : An home) (hm : m.wf) (hl : ls.getD m.line.toNat zLine = l) (hg : 0 ≤ m.line ∧ m.line < (ls.length : Int) ∧ m.kind = 7) : Calls Try.prog 77 [.agg (Core.cells u ⟨ls, q⟩).toArray, vi id, vi home, .agg m.cells.toArray].toArray w (Bw (fun v : Value × Value × Value => .tuple #[.agg (Core.cells v.1 (Ae ⟨ls, q⟩ id home m).1).toArray, v.2.1, v.2.2]) (fun v => L) (fun v => sl v.1 (Ae ⟨ls, q⟩ id home m).1.lines :: sl v.2.1 (Ae ⟨ls, q⟩ id home m).2.1 :: sl v.2.2 (Ae ⟨ls, q⟩ id home m).2.2 :: R)) := by
 refine Zba ?_;intro hlen hone0 hn4 hm0 hid0 hhome0
 clear hs
 refine Zcc ?_;intro b4 b7 b8 vL honeV b18 ρ
 refine Zan ?_
 refine Gc1 ?_
 refine ZU ?_
 refine ZaB ?_
 have hkd : m.kind = 7 := by omega
 have hqa : Gp l m → q.line = m.line ∧ (1 ≤ q.kind ∧ q.kind ≤ 4) ∧ 0 ≤ q.value ∧ q.value ≤ 255 := fun ha => by
  have hw : (Ac ⟨ls, q⟩ m.line).want ≠ 0 := by
   show (ls.getD m.line.toNat zLine).want ≠ 0
   rw [hl]; unfold Gp at ha; omega
  exact hk.wline m.line (by omega) (show m.line.toNat < ls.length by omega) hw
 refine ZB ?_
 refine Ao Try.call106 rfl (fun w hs => Zs (vL := vL) (vo := .slice none 0 0) (vd := .slice none 0 0) (bk := b18) (bm := b7) (q := q) (id := id) (home := home) (ls := ls) (l := l) (ms := []) (ds := []) (m := m) (LX := blk b8 57 [.slice none 0 0, vi 0, vi 0, vi 0] :: L) (Ai hs) hl (by omega) (by omega) hm hid hhome (by simp) (by simp) hk.wwf hkd hqa) ?_; intro ⟨g1, g2⟩
 refine J.conseq (L' := blk b18 120 [vL, vi (Ae ⟨ls, q⟩ id home m).1.wait.kind, vi (Ae ⟨ls, q⟩ id home m).1.wait.line, vi (Ae ⟨ls, q⟩ id home m).1.wait.value, vi id, vi home, g1, g2] :: row 82 vL (Ae ⟨ls, q⟩ id home m).1.lines :: row 49 g1 (Ae ⟨ls, q⟩ id home m).2.1 :: row 66 g2 (Ae ⟨ls, q⟩ id home m).2.2 :: blk b8 57 [.slice none 0 0, vi 0, vi 0, vi 0] :: L) (fun w hs => by rw [List.nil_append, List.nil_append] at hs; exact Ai hs) ?_
 refine Zc0 ?_;intro ρ
 exact Cf (vL, g1, g2) Try.isAgg57 Try.sizeOf57
theorem Wu {u : Value} {ls : List Line} {q : Op} {l : Line} {id home : Int} {m : Msg} (hs : St (L) R w) (hu : sl u ls ∈ R) (hk : KH ⟨ls, q⟩) (hid : An id) (hhome : An home) (hm : m.wf) (hl : ls.getD m.line.toNat zLine = l) (hg : 0 ≤ m.line ∧ m.line < (ls.length : Int) ∧ m.kind = 11) : Calls Try.prog 77 [.agg (Core.cells u ⟨ls, q⟩).toArray, vi id, vi home, .agg m.cells.toArray].toArray w (Bw (fun v : Value × Value × Value => .tuple #[.agg (Core.cells v.1 (Ae ⟨ls, q⟩ id home m).1).toArray, v.2.1, v.2.2]) (fun v => L) (fun v => sl v.1 (Ae ⟨ls, q⟩ id home m).1.lines :: sl v.2.1 (Ae ⟨ls, q⟩ id home m).2.1 :: sl v.2.2 (Ae ⟨ls, q⟩ id home m).2.2 :: R)) := by
 refine Zba ?_;intro hlen hone0 hn4 hm0 hid0 hhome0
 clear hs
 refine ZbT ?_;intro b4 b7 b8 vL honeV b18
 refine Zau ?_
 refine Gc1 ?_
 refine Zce ?_;intro hlw hA hlw0 honeL
 refine dn7 ?_
 refine Zcj ?_;intro ρ
 refine ZcG ?_
 refine ZaO ?_
 refine Gc1 ?_
 refine kp [1, 7, 8, 9, 10, 11, 12, 86, 87, 88, 89, 90, 91, 92, 93, 94, 95, 96, 97, 98, 99] ?_
 refine Ee 99 (.bool (decide ((l.want = 3) ∧ (m.serial = l.serial)))) ?_ ?_
 ·rcases (show (¬ (l.want = 3)) ∨ ((l.want = 3) ∧ ¬ (m.serial = l.serial)) ∨ ((l.want = 3) ∧ (m.serial = l.serial)) from by omega) with hm | hm | hm
  ·refine Bv ?_
   refine dn4 ?_
   refine ZaS ?_
   refine djm ?_
   refine dn7 ?_
   refine djf ?_
   refine dnl ?_; intro ρ
   refine Az ?_ (fun w hs => hs)
   exact meF
  ·refine Bv ?_
   refine dn4 ?_
   refine Za1 ?_
   refine djm ?_
   refine dn6 ?_
   refine dj (dgy ?_)
   refine Za7 ?_
   refine ZO ?_
   refine dnl ?_; intro ρ
   refine Az ?_ (fun w hs => hs)
   exact meF
  ·refine Bv ?_
   refine dn4 ?_
   refine Za1 ?_
   refine djm ?_
   refine dn6 ?_
   refine dj (dgy ?_)
   refine Zcg ?_
   refine dnl ?_; intro ρ
   refine Az ?_ (fun w hs => hs)
   exact meT
 ·refine Aw ?_
  first | (refine cdx (p := ?p1) (hd := ?d1) ?e1 ?_ ?_; case e1 => exact rfl) | (refine Bk (b := ?b1) ?e1 ?_ ?_; case e1 => exact rfl)
  ·intro ht99
   refine Gl ?_
   refine kp [1, 8, 9, 10, 11, 12, 100, 101, 102, 103, 104, 105, 106, 107, 108] ?_
   refine Zax ?_
   refine sc ?_
   refine Zak ?_
   refine Zak ?_
   refine Gl ?_
   refine ZaB ?_
   have hwq := hk.wwf
   refine cq_ (blk b18 120 [vL, vi q.kind, vi q.line, vi q.value, vi id, vi home, .slice none 0 0, .slice none 0 0] :: row 66 (.slice none 0 0) [] :: foc 82 vL ls m.line.toNat [vi 0, vi 0, vi 0, vi l.serial, vi l.seen, vi l.gave, vi l.given] :: blk b8 57 [.slice none 0 0, vi 0, vi 0, vi 0] :: L) ?_
   refine jd_ (fun ρ S => blk b18 120 (bif S 16 then [vL, vi q.kind, vi q.line, vi q.value, vi id, vi home, .slice none 0 0, (Gh.dec (γ := Value) (ρ 13))] else [vL, vi q.kind, vi q.line, vi q.value, vi id, vi home, .slice none 0 0, .slice none 0 0]) :: (bif S 13 then row 66 (Gh.dec (γ := Value) (ρ 13)) ([] ++ [(⟨id, q, 0⟩ : Done)]) else row 66 (.slice none 0 0) []) :: foc 82 vL ls m.line.toNat [vi 0, vi 0, vi 0, vi l.serial, vi l.seen, vi l.gave, vi l.given] :: blk b8 57 [.slice none 0 0, vi 0, vi 0, vi 0] :: L) ?_
   refine dn4 ?_
   refine Ig (v := .slice none 0 0) (fun ρ S hS hB hA => by have h16 : S 16 = false := hA 16 ⟨0, rfl⟩; simp only [h16, cond_false]; exact C3 (hc := A0 pkk (by repeat (first | exact rfl | refine Dd rfl ?_))) Try.isAgg34) (fun _ _ _ _ _ => rfl) ?_
   refine dn5 ?_
   refine Ig (v := .agg q.cells.toArray) (fun ρ S hS hB hA => by have h16 : S 16 = false := hA 16 ⟨9, rfl⟩; simp only [h16, cond_false]; exact F3 (b := b18) (f := 1) (vs := [vL, vi q.kind, vi q.line, vi q.value, vi id, vi home, .slice none 0 0, .slice none 0 0]) 3 Try.isAgg26 Try.sizeOf26) (fun _ _ _ _ _ => rfl) ?_
   first | refine epc (fun _ _ => Eo Ik) ?_ | refine epc (fun _ _ => Fn Ik) ?_ | refine epp (fun _ _ => Eo Ik) ?_ | refine epp (fun _ _ => Fn Ik) ?_
   refine Fz ([(⟨id, q, 0⟩ : Done)] : List Done) F4 rfl (fun _ => rfl) rfl (fun _ => rfl) rfl rfl (fun ρ R hd => Gi ⟨hid, hwq.1, hwq.2.1, hwq.2.2, by unfold An; simp only; omega⟩) (fun _ _ _ _ _ => rfl) ?_
   refine F9 (e := 66) (xs := []) (ys := [(⟨id, q, 0⟩ : Done)]) (v := (.slice none 0 0)) F4 (fun _ => rfl) (fun _ => rfl) rfl (by decide) (fun ρ R hd => (hd.dep (it := ⟨12, _, _, _, _⟩) (by repeat (first | exact List.Mem.head _ | refine List.Mem.tail _ ?_)) ⟨9, rfl⟩ (List.Mem.head _))) (by have : maxN = 16777216 := rfl; simp only [List.length_cons, List.length_nil]; omega) (fun ρ g S hS hB hA => ?_) ?_
   ·exact Zfe
   refine dn2 ?_
   refine Eu (T0 := 120) (f := 7) (vs := fun ρ => [vL, vi q.kind, vi q.line, vi q.value, vi id, vi home, .slice none 0 0, .slice none 0 0]) (v := fun ρ => (Gh.dec (γ := Value) (ρ 13))) (fun ρ => b18) Try.sizeOf34 (fun _ => rfl) (fun _ => rfl) (fun ρ S R w L9 hB hd hs => by have h13 : S 13 = true := hB 13 ⟨9, rfl⟩; simp only [h13, cond_true] at hs; exact Cn pkk hs) (fun _ => rfl) (fun ρ g S hS hB hA => ?_) ?_
   ·exact Zfw
   refine dnl ?_; intro ρ
   refine xq_ (blk b18 120 [vL, vi q.kind, vi q.line, vi q.value, vi id, vi home, .slice none 0 0, (Gh.dec (γ := Value) (ρ 13))] :: row 66 (Gh.dec (γ := Value) (ρ 13)) [(⟨id, q, 0⟩ : Done)] :: foc 82 vL ls m.line.toNat [vi 0, vi 0, vi 0, vi l.serial, vi l.seen, vi l.gave, vi l.given] :: blk b8 57 [.slice none 0 0, vi 0, vi 0, vi 0] :: L) ?_
   generalize (Gh.dec (γ := Value) (ρ 12)) = v121
   generalize (Gh.dec (γ := Value) (ρ 13)) = v122
   refine ZJ ?_
   refine Zbq ?_
   refine rn3 ?_
   refine s_N [vL, vi 0, vi 0, vi 0, vi id, vi home, .slice none 0 0, v122] Try.sizeOf26 ?_
   refine Gl ?_
   refine JC.conseq (L' := row 82 vL (ls.set m.line.toNat ({ l with state := 0, value := 0, want := 0 })) :: blk b18 120 [vL, vi 0, vi 0, vi 0, vi id, vi home, .slice none 0 0, v122] :: row 66 v122 [(⟨id, q, 0⟩ : Done)] :: blk b8 57 [.slice none 0 0, vi 0, vi 0, vi 0] :: L) (fun w hs => Ai (Ds ({ l with state := 0, value := 0, want := 0 }) (by unfold Line.wf An; simp only; omega) (hs.pick pkk))) ?_
   refine JC.shut (v := vL) (xs := (ls.set m.line.toNat ({ l with state := 0, value := 0, want := 0 }))) .hd ?_
   refine ZT ?_
   refine JC.shut (v := v122) (xs := [(⟨id, q, 0⟩ : Done)]) pkk ?_
   refine Zdf ?_
   refine cq_ (blk b8 57 [.slice none 0 0, vi 0, vi 0, vi 0] :: blk b18 120 [vL, vi 0, vi 0, vi 0, vi id, vi home, .slice none 0 0, v122] :: L) ?_
   refine jd_ (fun ρ S => blk b8 57 (bif S 12 then [vL, vi 0, vi 0, vi 0] else [.slice none 0 0, vi 0, vi 0, vi 0]) :: blk b18 120 [vL, vi 0, vi 0, vi 0, vi id, vi home, .slice none 0 0, v122] :: L) ?_
   refine dn3 ?_
   refine J9 (v := .agg ([vL, vi 0, vi 0, vi 0]).toArray) (fun _ _ => F3 (b := b18) (f := 0) (vs := [vL, vi 0, vi 0, vi 0, vi id, vi home, .slice none 0 0, v122]) 4 Try.isAgg57 Try.sizeOf57) (fun _ _ _ _ _ => rfl) ?_
   refine Zeg ?_
   refine dn2 ?_
   refine dnl ?_; intro ρ
   refine xq_ (blk b8 57 [vL, vi 0, vi 0, vi 0] :: blk b18 120 [vL, vi 0, vi 0, vi 0, vi id, vi home, .slice none 0 0, v122] :: L) ?_
   refine Gl ?_
   have er : (Ae ⟨ls, q⟩ id home m) = (⟨ls.set m.line.toNat ({ l with state := 0, value := 0, want := 0 }), zOp⟩, [], [⟨id, q, 0⟩]) := by rw [Rp hl (by omega) (by omega), if_pos ht99]
   rw [er]
   exact Cf (vL, .slice none 0 0, v122) Try.isAgg57 Try.sizeOf57
  ·intro ht99
   refine Gl ?_
   refine JC.conseq (L' := row 82 vL ls :: blk b18 120 [vL, vi q.kind, vi q.line, vi q.value, vi id, vi home, .slice none 0 0, .slice none 0 0] :: blk b8 57 [.slice none 0 0, vi 0, vi 0, vi 0] :: L) (fun w hs => Ai (Ep hl hlw (hs.pick pkk))) ?_
   refine JC.shut (v := vL) (xs := ls) .hd ?_
   refine ZT ?_
   refine ZS ?_
   refine Zdf ?_
   refine Zd5 ?_;intro ρ
   have er : (Ae ⟨ls, q⟩ id home m) = (⟨ls, q⟩, [], []) := by rw [Rp hl (by omega) (by omega), if_neg ht99]
   rw [er]
   exact Zft
theorem Zm {u : Value} {ls : List Line} {q : Op} {l : Line} {id home : Int} {m : Msg} (hs : St (L) R w) (hu : sl u ls ∈ R) (hk : KH ⟨ls, q⟩) (hid : An id) (hhome : An home) (hm : m.wf) (hl : ls.getD m.line.toNat zLine = l) (hg : 0 ≤ m.line ∧ m.line < (ls.length : Int) ∧ m.kind ≠ 4 ∧ m.kind ≠ 5 ∧ m.kind ≠ 6 ∧ m.kind ≠ 7 ∧ m.kind ≠ 11) : Calls Try.prog 77 [.agg (Core.cells u ⟨ls, q⟩).toArray, vi id, vi home, .agg m.cells.toArray].toArray w (Bw (fun v : Value × Value × Value => .tuple #[.agg (Core.cells v.1 (Ae ⟨ls, q⟩ id home m).1).toArray, v.2.1, v.2.2]) (fun v => L) (fun v => sl v.1 (Ae ⟨ls, q⟩ id home m).1.lines :: sl v.2.1 (Ae ⟨ls, q⟩ id home m).2.1 :: sl v.2.2 (Ae ⟨ls, q⟩ id home m).2.2 :: R)) := by
 refine Zba ?_;intro hlen hone0 hn4 hm0 hid0 hhome0
 clear hs
 refine Zcc ?_;intro b4 b7 b8 vL honeV b18 ρ
 refine Zdn ?_
 refine cq_ (row 82 vL ls :: blk b18 120 [vL, vi q.kind, vi q.line, vi q.value, vi id, vi home, .slice none 0 0, .slice none 0 0] :: blk b8 57 [.slice none 0 0, vi 0, vi 0, vi 0] :: L) ?_
 refine JC.shut (v := vL) (xs := ls) .hd ?_
 refine ZT ?_
 refine ZS ?_
 refine Zd5 ?_;intro ρ
 have er : (Ae ⟨ls, q⟩ id home m) = (⟨ls, q⟩, [], []) := Acq (by omega) (by omega)
 rw [er]
 exact Zft
theorem Zl {u : Value} {c : Core} {id home : Int} {m : Msg} (hs : St (L) R w) (hu : sl u c.lines ∈ R) (hk : KH c) (hid : An id) (hhome : An home) (hm : m.wf) : Calls Try.prog 77 [.agg (c.cells u).toArray, vi id, vi home, .agg m.cells.toArray].toArray w (Bw (fun v : Value × Value × Value => .tuple #[.agg (Core.cells v.1 (Ae c id home m).1).toArray, v.2.1, v.2.2]) (fun v => L) (fun v => sl v.1 (Ae c id home m).1.lines :: sl v.2.1 (Ae c id home m).2.1 :: sl v.2.2 (Ae c id home m).2.2 :: R)) := by
 obtain ⟨ls, q⟩ := c
 by_cases h : 0 ≤ m.line ∧ m.line < (ls.length : Int)
 ·by_cases h4 : m.kind = 4
  ·exact Zq hs hu hk hid hhome hm rfl (by omega)
  by_cases h5 : m.kind = 5
  ·exact Zp hs hu hk hid hhome hm rfl (by omega)
  by_cases h6 : m.kind = 6
  ·exact Zo hs hu hk hid hhome hm rfl (by omega)
  by_cases h7 : m.kind = 7
  ·exact Zn hs hu hk hid hhome hm rfl (by omega)
  by_cases h11 : m.kind = 11
  ·exact Wu hs hu hk hid hhome hm rfl (by omega)
  exact Zm hs hu hk hid hhome hm rfl (by omega)
 ·exact Zr hs hu hk hid hhome hm rfl (by omega)
end Go.Proofs.Ytehpekiedfpnkaa
