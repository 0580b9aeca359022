/- This file proves parts of what its law needs: each part is told ahead of it. No conditions. -/
import Derived.Test.YtehpekiedfpnkaaVM3
import Derived.Test.YtehpekiedfpnkaaVM4
set_option linter.unusedVariables false
set_option linter.unusedSimpArgs false
set_option maxHeartbeats 1000000
set_option maxRecDepth 8000
namespace Go.Proofs.Ytehpekiedfpnkaa
open Go
variable {L : List Chunk} {R : List Fact} {w : World}
section
variable {ls : List Line} {q : Op} {id home : Int} {m : Msg} {l : Line}
theorem Pc (hl : ls.getD m.line.toNat zLine = l) (hi : 0 ≤ m.line ∧ m.line < (ls.length : Int)) (hk : m.kind = 4) : Ae ⟨ls, q⟩ id home m = (⟨ls.set m.line.toNat (Cs l m.turn), q⟩, [Bl 8 id home m.line m.turn 0], []) := by
 subst hl
 unfold Ae
 rw [if_neg (by simp only; omega), if_pos hk]; rfl
theorem Qz (hl : ls.getD m.line.toNat zLine = l) (hi : 0 ≤ m.line ∧ m.line < (ls.length : Int)) (hk : m.kind = 11) : Ae ⟨ls, q⟩ id home m = (if l.want = 3 ∧ m.serial = l.serial then (⟨ls.set m.line.toNat { l with state := 0, value := 0, want := 0 }, zOp⟩, [], [⟨id, q, 0⟩]) else (⟨ls, q⟩, [], [])) := by
 subst hl
 unfold Ae
 rw [if_neg (by simp only; omega), if_neg (by omega), if_neg (by omega), if_neg (by omega)]
 by_cases h : (ls.getD m.line.toNat zLine).want = 3 ∧ m.serial = (ls.getD m.line.toNat zLine).serial
 ·rw [if_pos h, if_pos ⟨hk, h⟩]; rfl
 ·rw [if_neg h, if_neg (fun g => h g.2)]
theorem Z8 (hi : 0 ≤ m.line ∧ m.line < (ls.length : Int)) (hk : m.kind ≠ 4 ∧ m.kind ≠ 5 ∧ m.kind ≠ 6 ∧ m.kind ≠ 7 ∧ m.kind ≠ 11) : Ae ⟨ls, q⟩ id home m = (⟨ls, q⟩, [], []) := by
 unfold Ae
 rw [if_neg (by simp only; omega), if_neg (by omega), if_neg (by omega), if_neg (by omega), if_neg (by omega)]
end
structure KH (c : Core) : Prop where
 n : c.lines.length ≤ 4
 w : CW c c.lines.length
theorem KB.kh {c : Core} (h : KB c) : KH c := ⟨h.n, h.w⟩
theorem KH.wline {c : Core} (h : KH c) (i : Int) (h0 : 0 ≤ i) (hi : i.toNat < c.lines.length) (hw : (Ac c i).want ≠ 0) : c.wait.line = i ∧ (1 ≤ c.wait.kind ∧ c.wait.kind ≤ 4) ∧ 0 ≤ c.wait.value ∧ c.wait.value ≤ 255 := by
 have hb := h.w.busy (fun h0 => hw ((h.w.free h0).2 i.toNat hi))
 have h1 := hb.2.2.2 i.toNat hi
 by_cases e : (i.toNat : Int) = c.wait.line
 ·exact ⟨by omega, hb.1, hb.2.2.1⟩
 ·rw [if_neg e] at h1; exact absurd h1 hw
theorem KH.wwf {c : Core} (h : KH c) : c.wait.wf := by
 by_cases h0 : c.wait.kind = 0
 ·rw [(h.w.free h0).1]; unfold Op.wf Ap; decide
 ·have hb := h.w.busy h0
  have := h.n
  unfold Op.wf Ap; omega
theorem Z7 (c : Core) (id home : Int) (m : Msg) : (Ae c id home m).1.lines.length = c.lines.length := by
 unfold Ae
 repeat' split
 all_goals first | rfl | exact List.length_set
theorem KH.hear {c : Core} (h : KH c) (id home : Int) (m : Msg) : KH (Ae c id home m).1 := by
 have n' := Z7 c id home m
 refine ⟨by rw [n']; exact h.n, ?_⟩
 rw [n']; clear n'
 by_cases o : m.line < 0 ∨ (c.lines.length : Int) ≤ m.line
 ·unfold Ae; rw [if_pos o]; exact h.w
 obtain ⟨i, hi⟩ := Int.eq_ofNat_of_zero_le (show 0 ≤ m.line by omega)
 have hil : i < c.lines.length := by omega
 have hz : (Ac c m.line).want ≠ 0 → c.wait.line = (i : Int) := fun hw => by rw [(h.wline m.line (by omega) (by omega) hw).1, hi]
 have hla : Ac c m.line = c.lines.getD i zLine := by unfold Ac; rw [hi]; rfl
 unfold Ae; rw [if_neg o]
 generalize Ac c m.line = l at hz hla
 rw [hi]
 split
 ·refine Pk rfl h.w hil ?_
  rw [← hla]; unfold Cs; split <;> (try split) <;> rfl
 split
 ·split
  ·by_cases e : l.want = 3
   ·rw [if_pos e]
    refine Ij rfl h.w hil (.inr (hz (by omega))) ?_
    unfold Cv; rw [if_pos e]
   ·rw [if_neg e]
    refine Pk rfl h.w hil ?_
    rw [← hla]; unfold Cv; rw [if_neg e]; split <;> rfl
  split <;> exact h.w
 split
 ·split
  ·exact h.w
  split
  ·rename_i a
   exact Ij rfl h.w hil (.inr (hz (by unfold Gp at a; omega))) rfl
  ·exact h.w
 split
 ·rename_i a
  exact Ij rfl h.w hil (.inr (hz (by omega))) rfl
 ·exact h.w
theorem open_l {P : Program} {n : Nat} {Q : Exit → Act → World → Prop} {L : List Chunk} {R : List Fact} {al : List (Nat × Value)} {cd : Code} {v : Value} {ls : List Line} {l : Line} {i : Int} (hl : ls.getD i.toNat zLine = l) (hm : sl v ls ∈ R) (h0 : 0 ≤ i) (hi : i < (ls.length : Int)) (k : l.wf → JC P n cd Q L (cF v 7 i.toNat l.cells :: R) al) : JC P n cd Q L R al := by
 subst hl
 exact JC.open0 (xs := ls) i.toNat hm (by omega) k
theorem Xt {u : Value} {ls : List Line} {q : Op} {l : Line} {id home : Int} {m : Msg} (hs : St (L) R w) (hu : sl u ls ∈ R) (hk : KH ⟨ls, q⟩) (hid : Ap id) (hhome : Ap home) (hm : m.wf) (hl : ls.getD m.line.toNat zLine = l) (hg : m.line < 0 ∨ (ls.length : Int) ≤ m.line) : Calls Try.prog 77 [.agg (Core.cells u ⟨ls, q⟩).toArray, vi id, vi home, .agg m.cells.toArray].toArray w (Ca (fun v : Value × Value × Value => .tuple #[.agg (Core.cells v.1 (Ae ⟨ls, q⟩ id home m).1).toArray, v.2.1, v.2.2]) (fun v => L) (fun v => sl v.1 (Ae ⟨ls, q⟩ id home m).1.lines :: sl v.2.1 (Ae ⟨ls, q⟩ id home m).2.1 :: sl v.2.2 (Ae ⟨ls, q⟩ id home m).2.2 :: R)) := by
 refine Zbi ?_;intro hlen hone0 hn4 hm0 hid0 hhome0
 clear hs
 refine ZbY ?_;intro b4 b7 b8 vL honeV b18
 rcases (show (m.line < 0) ∨ (¬ m.line < 0 ∧ (ls.length : Int) ≤ m.line) from by omega) with hc | hc
 ·refine ZZ ?_
  refine Gc8 ?_
  refine ZdW ?_;intro er
  exact Zf7
 ·refine Zad ?_
  refine ZaF ?_
  refine Gc1 ?_
  refine ZdW ?_;intro er
  exact Zf7
theorem Xs {u : Value} {ls : List Line} {q : Op} {l : Line} {id home : Int} {m : Msg} (hs : St (L) R w) (hu : sl u ls ∈ R) (hk : KH ⟨ls, q⟩) (hid : Ap id) (hhome : Ap home) (hm : m.wf) (hl : ls.getD m.line.toNat zLine = l) (hg : 0 ≤ m.line ∧ m.line < (ls.length : Int) ∧ m.kind = 4) : Calls Try.prog 77 [.agg (Core.cells u ⟨ls, q⟩).toArray, vi id, vi home, .agg m.cells.toArray].toArray w (Ca (fun v : Value × Value × Value => .tuple #[.agg (Core.cells v.1 (Ae ⟨ls, q⟩ id home m).1).toArray, v.2.1, v.2.2]) (fun v => L) (fun v => sl v.1 (Ae ⟨ls, q⟩ id home m).1.lines :: sl v.2.1 (Ae ⟨ls, q⟩ id home m).2.1 :: sl v.2.2 (Ae ⟨ls, q⟩ id home m).2.2 :: R)) := by
 refine Zbi ?_;intro hlen hone0 hn4 hm0 hid0 hhome0
 clear hs
 refine ZbY ?_;intro b4 b7 b8 vL honeV b18
 refine Za1 ?_
 refine Gc1 ?_
 refine Zcj ?_;intro hlw hA hlw0 honeL
 refine dn7 ?_
 refine Zcn ?_;intro ρ
 refine ZcN ?_
 refine Zax ?_
 refine Cd ?_
 refine dn7 ?_
 refine dnl ?_; intro ρ
 refine Gl ?_
 refine cdy ?_ ?_
 ·intro ht52
  refine Gm ?_
  refine rn5 ?_
  refine ZbS ?_
  refine cdy ?_ ?_
  ·intro ht62
   refine ZH ?_
   refine sc ?_
   refine Zao ?_
   refine Gl ?_
   refine ZW ?_
   refine Za5 ?_
   refine An Try.call104 rfl (fun w hs => F3 (vL := vL) (vd := .slice none 0 0) (q := q) (id := id) (home := home) (ms := []) (kind := 8) (line := m.line) (serial := 0) (turn := m.turn) (value := 0) (LX := foc 82 vL ls m.line.toNat [vi 0, vi 0, vi l.want, vi l.serial, vi m.turn, vi l.gave, vi l.given] :: blk b8 57 [.slice none 0 0, vi 0, vi 0, vi 0] :: L) (Ah hs) (by simp) (by unfold Msg.wf Ap; simp only; omega)) ?_; intro v74
   refine Gl ?_
   refine JC.conseq (L' := row 82 vL (ls.set m.line.toNat ({ l with seen := m.turn, state := 0, value := 0 })) :: blk b18 120 [vL, vi q.kind, vi q.line, vi q.value, vi id, vi home, v74, .slice none 0 0] :: row 49 v74 [Bl 8 id home m.line m.turn 0] :: blk b8 57 [.slice none 0 0, vi 0, vi 0, vi 0] :: L) (fun w hs => Ah (D2 ({ l with seen := m.turn, state := 0, value := 0 }) (by unfold Line.wf Ap; simp only; omega) (hs.pick pkk))) ?_
   refine JC.shut (v := vL) (xs := (ls.set m.line.toNat ({ l with seen := m.turn, state := 0, value := 0 }))) .hd ?_
   refine Zdp ?_
   refine Zdn ?_
   refine ZcB ?_;intro ρ
   have eh : Cs l m.turn = { l with seen := m.turn, state := 0, value := 0 } := by unfold Cs; rw [if_pos (by omega), if_pos (by omega)]
   have er : (Ae ⟨ls, q⟩ id home m) = (⟨ls.set m.line.toNat ({ l with seen := m.turn, state := 0, value := 0 }), q⟩, [Bl 8 id home m.line m.turn 0], []) := by rw [Pc hl (by omega) (by omega), eh]
   exact ZfT
  ·intro ht62
   refine Gl ?_
   refine ZW ?_
   refine Za5 ?_
   refine An Try.call104 rfl (fun w hs => F3 (vL := vL) (vd := .slice none 0 0) (q := q) (id := id) (home := home) (ms := []) (kind := 8) (line := m.line) (serial := 0) (turn := m.turn) (value := 0) (LX := foc 82 vL ls m.line.toNat [vi l.state, vi l.value, vi l.want, vi l.serial, vi m.turn, vi l.gave, vi l.given] :: blk b8 57 [.slice none 0 0, vi 0, vi 0, vi 0] :: L) (Ah hs) (by simp) (by unfold Msg.wf Ap; simp only; omega)) ?_; intro v74
   refine Gl ?_
   refine JC.conseq (L' := row 82 vL (ls.set m.line.toNat ({ l with seen := m.turn })) :: blk b18 120 [vL, vi q.kind, vi q.line, vi q.value, vi id, vi home, v74, .slice none 0 0] :: row 49 v74 [Bl 8 id home m.line m.turn 0] :: blk b8 57 [.slice none 0 0, vi 0, vi 0, vi 0] :: L) (fun w hs => Ah (D2 ({ l with seen := m.turn }) (by unfold Line.wf Ap; simp only; omega) (hs.pick pkk))) ?_
   refine JC.shut (v := vL) (xs := (ls.set m.line.toNat ({ l with seen := m.turn }))) .hd ?_
   refine Zdp ?_
   refine ZcB ?_;intro ρ
   have eh : Cs l m.turn = { l with seen := m.turn } := by unfold Cs; rw [if_pos (by omega), if_neg (by omega)]
   have er : (Ae ⟨ls, q⟩ id home m) = (⟨ls.set m.line.toNat ({ l with seen := m.turn }), q⟩, [Bl 8 id home m.line m.turn 0], []) := by rw [Pc hl (by omega) (by omega), eh]
   exact ZfT
 ·intro ht52
  refine Gl ?_
  refine ZW ?_
  refine Za5 ?_
  refine An Try.call104 rfl (fun w hs => F3 (vL := vL) (vd := .slice none 0 0) (q := q) (id := id) (home := home) (ms := []) (kind := 8) (line := m.line) (serial := 0) (turn := m.turn) (value := 0) (LX := foc 82 vL ls m.line.toNat [vi l.state, vi l.value, vi l.want, vi l.serial, vi l.seen, vi l.gave, vi l.given] :: blk b8 57 [.slice none 0 0, vi 0, vi 0, vi 0] :: L) (Ah hs) (by simp) (by unfold Msg.wf Ap; simp only; omega)) ?_; intro v74
  refine Gl ?_
  refine JC.conseq (L' := row 82 vL ls :: blk b18 120 [vL, vi q.kind, vi q.line, vi q.value, vi id, vi home, v74, .slice none 0 0] :: row 49 v74 [Bl 8 id home m.line m.turn 0] :: blk b8 57 [.slice none 0 0, vi 0, vi 0, vi 0] :: L) (fun w hs => Ah (Ev hl hlw (hs.pick pkk))) ?_
  refine JC.shut (v := vL) (xs := ls) .hd ?_
  refine Zdp ?_
  refine ZcB ?_;intro ρ
  have eh : Cs l m.turn = l := by unfold Cs; rw [if_neg (by omega)]
  have er : (Ae ⟨ls, q⟩ id home m) = (⟨ls, q⟩, [Bl 8 id home m.line m.turn 0], []) := by rw [Pc hl (by omega) (by omega), eh, ← hl, Kb]
  exact ZfT
theorem Xr {u : Value} {ls : List Line} {q : Op} {l : Line} {id home : Int} {m : Msg} (hs : St (L) R w) (hu : sl u ls ∈ R) (hk : KH ⟨ls, q⟩) (hid : Ap id) (hhome : Ap home) (hm : m.wf) (hl : ls.getD m.line.toNat zLine = l) (hg : 0 ≤ m.line ∧ m.line < (ls.length : Int) ∧ m.kind = 5) : Calls Try.prog 77 [.agg (Core.cells u ⟨ls, q⟩).toArray, vi id, vi home, .agg m.cells.toArray].toArray w (Ca (fun v : Value × Value × Value => .tuple #[.agg (Core.cells v.1 (Ae ⟨ls, q⟩ id home m).1).toArray, v.2.1, v.2.2]) (fun v => L) (fun v => sl v.1 (Ae ⟨ls, q⟩ id home m).1.lines :: sl v.2.1 (Ae ⟨ls, q⟩ id home m).2.1 :: sl v.2.2 (Ae ⟨ls, q⟩ id home m).2.2 :: R)) := by
 refine Zbi ?_;intro hlen hone0 hn4 hm0 hid0 hhome0
 clear hs
 refine Zch ?_;intro b4 b7 b8 vL honeV b18 ρ
 exact ZeX
theorem Xq {u : Value} {ls : List Line} {q : Op} {l : Line} {id home : Int} {m : Msg} (hs : St (L) R w) (hu : sl u ls ∈ R) (hk : KH ⟨ls, q⟩) (hid : Ap id) (hhome : Ap home) (hm : m.wf) (hl : ls.getD m.line.toNat zLine = l) (hg : 0 ≤ m.line ∧ m.line < (ls.length : Int) ∧ m.kind = 6) : Calls Try.prog 77 [.agg (Core.cells u ⟨ls, q⟩).toArray, vi id, vi home, .agg m.cells.toArray].toArray w (Ca (fun v : Value × Value × Value => .tuple #[.agg (Core.cells v.1 (Ae ⟨ls, q⟩ id home m).1).toArray, v.2.1, v.2.2]) (fun v => L) (fun v => sl v.1 (Ae ⟨ls, q⟩ id home m).1.lines :: sl v.2.1 (Ae ⟨ls, q⟩ id home m).2.1 :: sl v.2.2 (Ae ⟨ls, q⟩ id home m).2.2 :: R)) := by
 refine Zbi ?_;intro hlen hone0 hn4 hm0 hid0 hhome0
 clear hs
 refine Zch ?_;intro b4 b7 b8 vL honeV b18 ρ
 refine ZF ?_
 exact ZeX
theorem Xp {u : Value} {ls : List Line} {q : Op} {l : Line} {id home : Int} {m : Msg} (hs : St (L) R w) (hu : sl u ls ∈ R) (hk : KH ⟨ls, q⟩) (hid : Ap id) (hhome : Ap home) (hm : m.wf) (hl : ls.getD m.line.toNat zLine = l) (hg : 0 ≤ m.line ∧ m.line < (ls.length : Int) ∧ m.kind = 7) : Calls Try.prog 77 [.agg (Core.cells u ⟨ls, q⟩).toArray, vi id, vi home, .agg m.cells.toArray].toArray w (Ca (fun v : Value × Value × Value => .tuple #[.agg (Core.cells v.1 (Ae ⟨ls, q⟩ id home m).1).toArray, v.2.1, v.2.2]) (fun v => L) (fun v => sl v.1 (Ae ⟨ls, q⟩ id home m).1.lines :: sl v.2.1 (Ae ⟨ls, q⟩ id home m).2.1 :: sl v.2.2 (Ae ⟨ls, q⟩ id home m).2.2 :: R)) := by
 refine Zbi ?_;intro hlen hone0 hn4 hm0 hid0 hhome0
 clear hs
 refine Zch ?_;intro b4 b7 b8 vL honeV b18 ρ
 refine Zau ?_
 refine Gc1 ?_
 refine ZW ?_
 refine Zay ?_
 have hkd : m.kind = 7 := by omega
 have hqa : Gp l m → q.line = m.line ∧ (1 ≤ q.kind ∧ q.kind ≤ 4) ∧ 0 ≤ q.value ∧ q.value ≤ 255 := fun ha => by
  have hw : (Ac ⟨ls, q⟩ m.line).want ≠ 0 := by
   show (ls.getD m.line.toNat zLine).want ≠ 0
   rw [hl]; unfold Gp at ha; omega
  exact hk.wline m.line (by omega) (show m.line.toNat < ls.length by omega) hw
 refine ZC ?_
 refine An Try.call106 rfl (fun w hs => Xu (vL := vL) (vo := .slice none 0 0) (vd := .slice none 0 0) (bk := b18) (bm := b7) (q := q) (id := id) (home := home) (ls := ls) (l := l) (ms := []) (ds := []) (m := m) (LX := blk b8 57 [.slice none 0 0, vi 0, vi 0, vi 0] :: L) (Ah hs) hl (by omega) (by omega) hm hid hhome (by simp) (by simp) hk.wwf hkd hqa) ?_; intro ⟨g1, g2⟩
 refine Zc8 ?_;intro ρ
 exact Ct (vL, g1, g2) Try.isAgg57 Try.sizeOf57
theorem Vh {u : Value} {ls : List Line} {q : Op} {l : Line} {id home : Int} {m : Msg} (hs : St (L) R w) (hu : sl u ls ∈ R) (hk : KH ⟨ls, q⟩) (hid : Ap id) (hhome : Ap home) (hm : m.wf) (hl : ls.getD m.line.toNat zLine = l) (hg : 0 ≤ m.line ∧ m.line < (ls.length : Int) ∧ m.kind = 11) : Calls Try.prog 77 [.agg (Core.cells u ⟨ls, q⟩).toArray, vi id, vi home, .agg m.cells.toArray].toArray w (Ca (fun v : Value × Value × Value => .tuple #[.agg (Core.cells v.1 (Ae ⟨ls, q⟩ id home m).1).toArray, v.2.1, v.2.2]) (fun v => L) (fun v => sl v.1 (Ae ⟨ls, q⟩ id home m).1.lines :: sl v.2.1 (Ae ⟨ls, q⟩ id home m).2.1 :: sl v.2.2 (Ae ⟨ls, q⟩ id home m).2.2 :: R)) := by
 refine Zbi ?_;intro hlen hone0 hn4 hm0 hid0 hhome0
 clear hs
 refine ZbY ?_;intro b4 b7 b8 vL honeV b18
 refine Za1 ?_
 refine Gc1 ?_
 refine Zcj ?_;intro hlw hA hlw0 honeL
 refine dn7 ?_
 refine Zcn ?_;intro ρ
 refine ZcN ?_
 refine ZaX ?_
 refine Gc1 ?_
 refine kp [1, 7, 8, 9, 10, 11, 12, 86, 87, 88, 89, 90, 91, 92, 93, 94, 95, 96, 97, 98, 99] ?_
 refine Dn 99 (.bool (decide ((l.want = 3) ∧ (m.serial = l.serial)))) ?_ ?_
 ·rcases (show (¬ (l.want = 3)) ∨ ((l.want = 3) ∧ ¬ (m.serial = l.serial)) ∨ ((l.want = 3) ∧ (m.serial = l.serial)) from by omega) with hm | hm | hm
  ·refine Cd ?_
   refine dn4 ?_
   refine Zba ?_
   refine djm ?_
   refine dn7 ?_
   refine djf ?_
   refine dnl ?_; intro ρ
   refine Au ?_ (fun w hs => hs)
   exact meF
  ·refine Cd ?_
   refine dn4 ?_
   refine Za7 ?_
   refine djm ?_
   refine dn6 ?_
   refine dj (dgy ?_)
   refine ZaE ?_
   refine ZQ ?_
   refine dnl ?_; intro ρ
   refine Au ?_ (fun w hs => hs)
   exact meF
  ·refine Cd ?_
   refine dn4 ?_
   refine Za7 ?_
   refine djm ?_
   refine dn6 ?_
   refine dj (dgy ?_)
   refine Zcl ?_
   refine dnl ?_; intro ρ
   refine Au ?_ (fun w hs => hs)
   exact meT
 ·refine Ax ?_
  first | (refine cdx (p := ?p1) (hd := ?d1) ?e1 ?_ ?_; case e1 => exact rfl) | (refine Bo (b := ?b1) ?e1 ?_ ?_; case e1 => exact rfl)
  ·intro ht99
   refine Gl ?_
   refine kp [1, 8, 9, 10, 11, 12, 100, 101, 102, 103, 104, 105, 106, 107, 108] ?_
   refine Za5 ?_
   refine sc ?_
   refine Zao ?_
   refine Zao ?_
   refine Gl ?_
   refine Zay ?_
   have hwq := hk.wwf
   refine cq_ (blk b18 120 [vL, vi q.kind, vi q.line, vi q.value, vi id, vi home, .slice none 0 0, .slice none 0 0] :: row 66 (.slice none 0 0) [] :: foc 82 vL ls m.line.toNat [vi 0, vi 0, vi 0, vi l.serial, vi l.seen, vi l.gave, vi l.given] :: blk b8 57 [.slice none 0 0, vi 0, vi 0, vi 0] :: L) ?_
   refine jd_ (fun ρ S => blk b18 120 (bif S 16 then [vL, vi q.kind, vi q.line, vi q.value, vi id, vi home, .slice none 0 0, (Gh.dec (γ := Value) (ρ 13))] else [vL, vi q.kind, vi q.line, vi q.value, vi id, vi home, .slice none 0 0, .slice none 0 0]) :: (bif S 13 then row 66 (Gh.dec (γ := Value) (ρ 13)) ([] ++ [(⟨id, q, 0⟩ : Done)]) else row 66 (.slice none 0 0) []) :: foc 82 vL ls m.line.toNat [vi 0, vi 0, vi 0, vi l.serial, vi l.seen, vi l.gave, vi l.given] :: blk b8 57 [.slice none 0 0, vi 0, vi 0, vi 0] :: L) ?_
   refine dn4 ?_
   refine Iq (v := .slice none 0 0) (fun ρ S hS hB hA => by have h16 : S 16 = false := hA 16 ⟨0, rfl⟩; simp only [h16, cond_false]; exact C6 (hc := A7 pkk (by repeat (first | exact rfl | refine Di rfl ?_))) Try.isAgg34) (fun _ _ _ _ _ => rfl) ?_
   refine dn5 ?_
   refine Iq (v := .agg q.cells.toArray) (fun ρ S hS hB hA => by have h16 : S 16 = false := hA 16 ⟨9, rfl⟩; simp only [h16, cond_false]; exact Fh (b := b18) (f := 1) (vs := [vL, vi q.kind, vi q.line, vi q.value, vi id, vi home, .slice none 0 0, .slice none 0 0]) 3 Try.isAgg26 Try.sizeOf26) (fun _ _ _ _ _ => rfl) ?_
   first | refine epc (fun _ _ => Eh Is) ?_ | refine epc (fun _ _ => Ft Is) ?_ | refine epp (fun _ _ => Eh Is) ?_ | refine epp (fun _ _ => Ft Is) ?_
   refine Fz ([(⟨id, q, 0⟩ : Done)] : List Done) F8 rfl (fun _ => rfl) rfl (fun _ => rfl) rfl rfl (fun ρ R hd => Ga ⟨hid, hwq.1, hwq.2.1, hwq.2.2, by unfold Ap; simp only; omega⟩) (fun _ _ _ _ _ => rfl) ?_
   refine F0 (e := 66) (xs := []) (ys := [(⟨id, q, 0⟩ : Done)]) (v := (.slice none 0 0)) F8 (fun _ => rfl) (fun _ => rfl) rfl (by decide) (fun ρ R hd => (hd.dep (it := ⟨12, _, _, _, _⟩) (by repeat (first | exact List.Mem.head _ | refine List.Mem.tail _ ?_)) ⟨9, rfl⟩ (List.Mem.head _))) (by have : maxN = 16777216 := rfl; simp only [List.length_cons, List.length_nil]; omega) (fun ρ g S hS hB hA => ?_) ?_
   ·exact Zft
   refine dn2 ?_
   refine Em (T0 := 120) (f := 7) (vs := fun ρ => [vL, vi q.kind, vi q.line, vi q.value, vi id, vi home, .slice none 0 0, .slice none 0 0]) (v := fun ρ => (Gh.dec (γ := Value) (ρ 13))) (fun ρ => b18) Try.sizeOf34 (fun _ => rfl) (fun _ => rfl) (fun ρ S R w L9 hB hd hs => by have h13 : S 13 = true := hB 13 ⟨9, rfl⟩; simp only [h13, cond_true] at hs; exact Ci pkk hs) (fun _ => rfl) (fun ρ g S hS hB hA => ?_) ?_
   ·exact ZfC
   refine dnl ?_; intro ρ
   refine xq_ (blk b18 120 [vL, vi q.kind, vi q.line, vi q.value, vi id, vi home, .slice none 0 0, (Gh.dec (γ := Value) (ρ 13))] :: row 66 (Gh.dec (γ := Value) (ρ 13)) [(⟨id, q, 0⟩ : Done)] :: foc 82 vL ls m.line.toNat [vi 0, vi 0, vi 0, vi l.serial, vi l.seen, vi l.gave, vi l.given] :: blk b8 57 [.slice none 0 0, vi 0, vi 0, vi 0] :: L) ?_
   generalize (Gh.dec (γ := Value) (ρ 12)) = v121
   generalize (Gh.dec (γ := Value) (ρ 13)) = v122
   refine ZK ?_
   refine Zbv ?_
   refine rn3 ?_
   refine s_N [vL, vi 0, vi 0, vi 0, vi id, vi home, .slice none 0 0, v122] Try.sizeOf26 ?_
   refine Gl ?_
   refine JC.conseq (L' := row 82 vL (ls.set m.line.toNat ({ l with state := 0, value := 0, want := 0 })) :: blk b18 120 [vL, vi 0, vi 0, vi 0, vi id, vi home, .slice none 0 0, v122] :: row 66 v122 [(⟨id, q, 0⟩ : Done)] :: blk b8 57 [.slice none 0 0, vi 0, vi 0, vi 0] :: L) (fun w hs => Ah (D2 ({ l with state := 0, value := 0, want := 0 }) (by unfold Line.wf Ap; simp only; omega) (hs.pick pkk))) ?_
   refine JC.shut (v := vL) (xs := (ls.set m.line.toNat ({ l with state := 0, value := 0, want := 0 }))) .hd ?_
   refine ZV ?_
   refine JC.shut (v := v122) (xs := [(⟨id, q, 0⟩ : Done)]) pkk ?_
   refine Zdn ?_
   refine cq_ (blk b8 57 [.slice none 0 0, vi 0, vi 0, vi 0] :: blk b18 120 [vL, vi 0, vi 0, vi 0, vi id, vi home, .slice none 0 0, v122] :: L) ?_
   refine jd_ (fun ρ S => blk b8 57 (bif S 12 then [vL, vi 0, vi 0, vi 0] else [.slice none 0 0, vi 0, vi 0, vi 0]) :: blk b18 120 [vL, vi 0, vi 0, vi 0, vi id, vi home, .slice none 0 0, v122] :: L) ?_
   refine dn3 ?_
   refine Jx (v := .agg ([vL, vi 0, vi 0, vi 0]).toArray) (fun _ _ => Fh (b := b18) (f := 0) (vs := [vL, vi 0, vi 0, vi 0, vi id, vi home, .slice none 0 0, v122]) 4 Try.isAgg57 Try.sizeOf57) (fun _ _ _ _ _ => rfl) ?_
   refine Zeu ?_
   refine dn2 ?_
   refine dnl ?_; intro ρ
   refine xq_ (blk b8 57 [vL, vi 0, vi 0, vi 0] :: blk b18 120 [vL, vi 0, vi 0, vi 0, vi id, vi home, .slice none 0 0, v122] :: L) ?_
   refine Gl ?_
   have er : (Ae ⟨ls, q⟩ id home m) = (⟨ls.set m.line.toNat ({ l with state := 0, value := 0, want := 0 }), zOp⟩, [], [⟨id, q, 0⟩]) := by rw [Qz hl (by omega) (by omega), if_pos ht99]
   rw [er]
   exact Ct (vL, .slice none 0 0, v122) Try.isAgg57 Try.sizeOf57
  ·intro ht99
   refine Gl ?_
   refine JC.conseq (L' := row 82 vL ls :: blk b18 120 [vL, vi q.kind, vi q.line, vi q.value, vi id, vi home, .slice none 0 0, .slice none 0 0] :: blk b8 57 [.slice none 0 0, vi 0, vi 0, vi 0] :: L) (fun w hs => Ah (Ev hl hlw (hs.pick pkk))) ?_
   refine JC.shut (v := vL) (xs := ls) .hd ?_
   refine ZV ?_
   refine ZT ?_
   refine Zdn ?_
   refine ZdG ?_;intro ρ
   have er : (Ae ⟨ls, q⟩ id home m) = (⟨ls, q⟩, [], []) := by rw [Qz hl (by omega) (by omega), if_neg ht99]
   rw [er]
   exact Zf7
theorem Xo {u : Value} {ls : List Line} {q : Op} {l : Line} {id home : Int} {m : Msg} (hs : St (L) R w) (hu : sl u ls ∈ R) (hk : KH ⟨ls, q⟩) (hid : Ap id) (hhome : Ap home) (hm : m.wf) (hl : ls.getD m.line.toNat zLine = l) (hg : 0 ≤ m.line ∧ m.line < (ls.length : Int) ∧ m.kind ≠ 4 ∧ m.kind ≠ 5 ∧ m.kind ≠ 6 ∧ m.kind ≠ 7 ∧ m.kind ≠ 11) : Calls Try.prog 77 [.agg (Core.cells u ⟨ls, q⟩).toArray, vi id, vi home, .agg m.cells.toArray].toArray w (Ca (fun v : Value × Value × Value => .tuple #[.agg (Core.cells v.1 (Ae ⟨ls, q⟩ id home m).1).toArray, v.2.1, v.2.2]) (fun v => L) (fun v => sl v.1 (Ae ⟨ls, q⟩ id home m).1.lines :: sl v.2.1 (Ae ⟨ls, q⟩ id home m).2.1 :: sl v.2.2 (Ae ⟨ls, q⟩ id home m).2.2 :: R)) := by
 refine Zbi ?_;intro hlen hone0 hn4 hm0 hid0 hhome0
 clear hs
 refine Zch ?_;intro b4 b7 b8 vL honeV b18 ρ
 refine Zdx ?_
 refine cq_ (row 82 vL ls :: blk b18 120 [vL, vi q.kind, vi q.line, vi q.value, vi id, vi home, .slice none 0 0, .slice none 0 0] :: blk b8 57 [.slice none 0 0, vi 0, vi 0, vi 0] :: L) ?_
 refine JC.shut (v := vL) (xs := ls) .hd ?_
 refine ZV ?_
 refine ZT ?_
 refine ZdG ?_;intro ρ
 have er : (Ae ⟨ls, q⟩ id home m) = (⟨ls, q⟩, [], []) := Z8 (by omega) (by omega)
 rw [er]
 exact Zf7
theorem Xn {u : Value} {c : Core} {id home : Int} {m : Msg} (hs : St (L) R w) (hu : sl u c.lines ∈ R) (hk : KH c) (hid : Ap id) (hhome : Ap home) (hm : m.wf) : Calls Try.prog 77 [.agg (c.cells u).toArray, vi id, vi home, .agg m.cells.toArray].toArray w (Ca (fun v : Value × Value × Value => .tuple #[.agg (Core.cells v.1 (Ae c id home m).1).toArray, v.2.1, v.2.2]) (fun v => L) (fun v => sl v.1 (Ae c id home m).1.lines :: sl v.2.1 (Ae c id home m).2.1 :: sl v.2.2 (Ae c id home m).2.2 :: R)) := by
 obtain ⟨ls, q⟩ := c
 by_cases h : 0 ≤ m.line ∧ m.line < (ls.length : Int)
 ·by_cases h4 : m.kind = 4
  ·exact Xs hs hu hk hid hhome hm rfl (by omega)
  by_cases h5 : m.kind = 5
  ·exact Xr hs hu hk hid hhome hm rfl (by omega)
  by_cases h6 : m.kind = 6
  ·exact Xq hs hu hk hid hhome hm rfl (by omega)
  by_cases h7 : m.kind = 7
  ·exact Xp hs hu hk hid hhome hm rfl (by omega)
  by_cases h11 : m.kind = 11
  ·exact Vh hs hu hk hid hhome hm rfl (by omega)
  exact Xo hs hu hk hid hhome hm rfl (by omega)
 ·exact Xt hs hu hk hid hhome hm rfl (by omega)
section
variable {ls : List Line} {q q0 : Op} {id home : Int} {l : Line}
theorem beg_1 (h : q.kind < 1 ∨ 4 < q.kind) : Ai ⟨ls, q0⟩ id home q = (E9, [], [], 1) := by unfold Ai; rw [if_pos h]
theorem Abo (h1 : 1 ≤ q.kind ∧ q.kind ≤ 4) (h : q.line < 0 ∨ (ls.length : Int) ≤ q.line ∨ q.value < 0 ∨ 255 < q.value) : Ai ⟨ls, q0⟩ id home q = (E9, [], [], 3) := by
 unfold Ai; rw [if_neg (by omega), if_pos h]
theorem beg_8 (hl : ls.getD q.line.toNat zLine = l) (h1 : 1 ≤ q.kind ∧ q.kind ≤ 4) (h2 : 0 ≤ q.line ∧ q.line < (ls.length : Int)) (h3 : 0 ≤ q.value ∧ q.value ≤ 255) (h : q0.kind ≠ 0 ∨ 65535 ≤ l.serial) : Ai ⟨ls, q0⟩ id home q = (E9, [], [], 8) := by
 subst hl
 unfold Ai; rw [if_neg (by omega), if_neg (by simp only; omega), if_pos (show (⟨ls, q0⟩ : Core).wait.kind ≠ 0 ∨ 65535 ≤ (Ac ⟨ls, q0⟩ q.line).serial from h)]
theorem Ro (hl : ls.getD q.line.toNat zLine = l) (h1 : 1 ≤ q.kind ∧ q.kind ≤ 4) (h2 : 0 ≤ q.line ∧ q.line < (ls.length : Int)) (h3 : 0 ≤ q.value ∧ q.value ≤ 255) (h4 : q0.kind = 0) (h5 : l.serial < 65535) : Ai ⟨ls, q0⟩ id home q = (if Bj l q then (⟨ls.set q.line.toNat (A9 l q), zOp⟩, [], [⟨id, q, Cf l q⟩], 0) else (⟨ls.set q.line.toNat (A9 l q), q⟩, [Co (A9 l q) id home q.line], [], 0)) := by
 subst hl
 unfold Ai; rw [if_neg (by omega), if_neg (by simp only; omega), if_neg (fun h => by rcases h with h | h; exact h h4; exact absurd h (by show ¬ 65535 ≤ (ls.getD q.line.toNat zLine).serial; omega))]; rfl
end
theorem Vi {u : Value} {c : Core} {id home : Int} {q : Op} (hs : St (L) R w) (hu : sl u c.lines ∈ R) (hk : KB c) (hid : Ap id) (hhome : Ap home) (hq : q.wf) : Calls Try.prog 42 [.agg (c.cells u).toArray, vi id, vi home, .agg q.cells.toArray].toArray w (Ca (fun v : Value × Value × Value => .tuple #[.agg (Core.cells v.1 (Ai c id home q).1).toArray, v.2.1, v.2.2, vi (Ai c id home q).2.2.2]) (fun v => L) (fun v => sl v.1 (Ai c id home q).1.lines :: sl v.2.1 (Ai c id home q).2.1 :: sl v.2.2 (Ai c id home q).2.2.1 :: R)) := by
 obtain ⟨ls, q0⟩ := c
 have hu : sl u ls ∈ R := hu
 obtain ⟨l, hl⟩ : ∃ l, ls.getD q.line.toNat zLine = l := ⟨_, rfl⟩
 have hlen := Bh hu hs
 refine Za8 ?_;intro hone0
 have hn4 : ls.length ≤ 4 := hk.n
 refine Zbh ?_;intro hid0 hhome0
 refine Aj Try.func42 rfl Try.ntmps42 rfl hs ?_
 clear hs
 refine Gm ?_
 refine bx ?_; intro b4
 refine ZbB ?_;intro b7 b8
 refine Ga3 ?_
 refine cq_ (blk b4 57 [u, vi q0.kind, vi q0.line, vi q0.value] :: blk b7 26 q.cells :: blk b8 57 [.slice none 0 0, vi 0, vi 0, vi 0] :: L) ?_
 rcases (show (q.kind < 1) ∨ (¬ q.kind < 1 ∧ 4 < q.kind) ∨ (1 ≤ q.kind ∧ q.kind ≤ 4) from by omega) with hc | hc | hc
 ·refine ZZ ?_
  refine Gc6 ?_
  exact Zga
 ·refine ZaY ?_
  refine Gc2 ?_
  exact Zga
 ·refine Zas ?_
  refine Gc2 ?_
  rcases (show (q.line < 0) ∨ (0 ≤ q.line ∧ (ls.length : Int) ≤ q.line) ∨ (0 ≤ q.line ∧ q.line < (ls.length : Int) ∧ q.value < 0) ∨ (0 ≤ q.line ∧ q.line < (ls.length : Int) ∧ 255 < q.value) ∨ (0 ≤ q.line ∧ q.line < (ls.length : Int) ∧ 0 ≤ q.value ∧ q.value ≤ 255) from by omega) with hc | hc | hc | hc | hc
  ·refine ZZ ?_
   refine Gc19 ?_
   exact Zgv
  ·refine Zad ?_
   refine ZaF ?_
   refine Gc12 ?_
   exact Zgv
  ·refine Za1 ?_
   refine Za6 ?_
   refine Gc7 ?_
   exact Zgv
  ·refine Za1 ?_
   refine ZaJ ?_
   refine Gc2 ?_
   exact Zgv
  ·refine Za1 ?_
   refine Zav ?_
   refine Gc2 ?_
   refine open_l (v := u) hl mm (by omega) (by omega) (fun hlw1 => ?_)
   rcases (show (q0.kind ≠ 0) ∨ (q0.kind = 0 ∧ 65535 ≤ l.serial) ∨ (q0.kind = 0 ∧ l.serial < 65535) from by omega) with hc | hc | hc
   ·refine Zdj ?_
    refine H0 ?_
    refine Gc11 ?_
    exact ZfM
   ·refine Zdj ?_
    refine H1 ?_
    refine rn8 ?_
    refine gy ?_
    refine G6 ?_
    refine Gc2 ?_
    exact ZfM
   ·have hc5 := hc
    refine Zdj ?_
    refine H1 ?_
    refine rn8 ?_
    refine gy ?_
    refine Dl ?_
    refine Gd2 ?_
    refine rn1 ?_
    refine An Try.call62 rfl (fun w hs => Hs (u := u) (c := ⟨ls, q0⟩) hs mm) ?_; intro vL
    refine J.know (p := vL.oneCell' = true) (fun w hs => Ci .hd hs) (fun honeV => ?_)
    refine rn3 ?_
    refine bx ?_; intro b68
    refine Ga1 ?_
    refine cq_ (row 82 vL ls :: blk b68 120 [vL, vi q0.kind, vi q0.line, vi q0.value, vi id, vi home, .slice none 0 0, .slice none 0 0] :: blk b8 57 [.slice none 0 0, vi 0, vi 0, vi 0] :: blk b7 26 q.cells :: L) ?_
    refine Zdy ?_;intro hlw hA hlw0 honeL
    have hz : q0 = zOp := (hk.w.free hc5.1).1
    refine Zdt ?_
    refine ZR ?_;intro ρ
    refine Gl ?_
    refine kp [1, 7, 8, 9, 10, 11, 12, 13, 80, 81, 82, 83, 84, 85, 86, 87, 88, 89, 90] ?_
    refine Dn 80 (.bool (decide ((q.kind = 4) ∧ (l.state = 2)))) ?_ ?_
    ·rcases (show (¬ (q.kind = 4)) ∨ ((q.kind = 4) ∧ ¬ (l.state = 2)) ∨ ((q.kind = 4) ∧ (l.state = 2)) from by omega) with hm | hm | hm
     ·refine ZA ?_
      refine Av ?_
      refine Ga8 ?_
      exact ZeM
     ·refine ZA ?_
      refine Ck ?_
      refine ZN ?_
      refine Av ?_
      refine Ga2 ?_
      exact ZeM
     ·refine ZA ?_
      refine Ck ?_
      refine ZN ?_
      refine Ck ?_
      refine Ga2 ?_
      exact ZeK
    ·refine Ax ?_
     first | (refine cdx (p := ?p1) (hd := ?d1) ?e1 ?_ ?_; case e1 => exact rfl) | (refine Bo (b := ?b1) ?e1 ?_ ?_; case e1 => exact rfl)
     ·intro ht80
      refine Gl ?_
      refine kp [1, 7, 8, 9, 10, 11, 12, 13, 91, 92, 93] ?_
      refine ZJ ?_
      refine sc ?_
      refine Gl ?_
      refine JC.conseq (L' := row 82 vL (ls.set q.line.toNat ({ l with state := 3 })) :: blk b68 120 [vL, vi q0.kind, vi q0.line, vi q0.value, vi id, vi home, .slice none 0 0, .slice none 0 0] :: blk b8 57 [.slice none 0 0, vi 0, vi 0, vi 0] :: blk b7 26 q.cells :: L) (fun w hs => Ah (D2 ({ l with state := 3 }) (by unfold Line.wf Ap; simp only; omega) (hs.pick pkk))) ?_
      refine ZW ?_
      refine ZA ?_
      refine An Try.call69 rfl (fun w hs => Su (vL := vL) (vo := .slice none 0 0) (vd := .slice none 0 0) (q := q) (q0 := q0) (id := id) (home := home) (ls := (ls.set q.line.toNat ({ l with state := 3 }))) (l := { l with state := 3 }) (ms := []) (want := 3) (bk := b68) (LX := blk b8 57 [.slice none 0 0, vi 0, vi 0, vi 0] :: blk b7 26 q.cells :: L) (Ah hs) (by rw [List.getD_eq_getElem?_getD, List.getElem?_set_self (by omega)]; rfl) (by rw [List.length_set]; omega) (by rw [List.length_set]; omega) hid hhome (by simp) (by first | omega | (simp only; omega)) (by unfold Ap; omega)) ?_; intro v96
      refine J.conseq (L' := row 82 vL (ls.set q.line.toNat ({ l with state := 3, want := 3, serial := l.serial + 1 })) :: blk b68 120 [vL, vi q.kind, vi q.line, vi q.value, vi id, vi home, v96, .slice none 0 0] :: row 49 v96 [Co ({ l with state := 3, want := 3, serial := l.serial + 1 }) id home q.line] :: blk b8 57 [.slice none 0 0, vi 0, vi 0, vi 0] :: L) (fun w hs => by rw [List.nil_append, List.set_set] at hs; exact Ah hs) ?_
      refine Gl ?_
      refine cq_ (row 82 vL (ls.set q.line.toNat ({ l with state := 3, want := 3, serial := l.serial + 1 })) :: blk b68 120 [vL, vi q.kind, vi q.line, vi q.value, vi id, vi home, v96, .slice none 0 0] :: row 49 v96 [Co ({ l with state := 3, want := 3, serial := l.serial + 1 }) id home q.line] :: blk b8 57 [.slice none 0 0, vi 0, vi 0, vi 0] :: L) ?_
      refine JC.shut (v := vL) (xs := (ls.set q.line.toNat ({ l with state := 3, want := 3, serial := l.serial + 1 }))) .hd ?_
      refine JC.shut (v := v96) (xs := [Co ({ l with state := 3, want := 3, serial := l.serial + 1 }) id home q.line]) pkk ?_
      refine ZT ?_
      refine cq_ (blk b8 57 [.slice none 0 0, vi 0, vi 0, vi 0] :: blk b68 120 [vL, vi q.kind, vi q.line, vi q.value, vi id, vi home, v96, .slice none 0 0] :: L) ?_
      refine jd_ (fun ρ S => blk b8 57 (bif S 12 then [vL, vi q.kind, vi q.line, vi q.value] else [.slice none 0 0, vi 0, vi 0, vi 0]) :: blk b68 120 [vL, vi q.kind, vi q.line, vi q.value, vi id, vi home, v96, .slice none 0 0] :: L) ?_
      refine dn3 ?_
      refine Jx (v := .agg ([vL, vi q.kind, vi q.line, vi q.value]).toArray) (fun _ _ => Fh (b := b68) (f := 0) (vs := [vL, vi q.kind, vi q.line, vi q.value, vi id, vi home, v96, .slice none 0 0]) 4 Try.isAgg57 Try.sizeOf57) (fun _ _ _ _ _ => rfl) ?_
      refine ZbE ?_
      refine dn3 ?_
      refine dnl ?_; intro ρ
      refine xq_ (blk b8 57 [vL, vi q.kind, vi q.line, vi q.value] :: blk b68 120 [vL, vi q.kind, vi q.line, vi q.value, vi id, vi home, v96, .slice none 0 0] :: L) ?_
      refine Gl ?_
      have eb : A9 l q = { l with state := 3, want := 3, serial := l.serial + 1 } := by unfold A9; rw [if_pos (by omega), if_pos (by omega)]
      have ed : Bj l q = false := by unfold Bj; split <;> simp <;> omega
      have er : (Ai ⟨ls, q0⟩ id home q) = (⟨ls.set q.line.toNat ({ l with state := 3, want := 3, serial := l.serial + 1 }), q⟩, [Co ({ l with state := 3, want := 3, serial := l.serial + 1 }) id home q.line], [], 0) := by rw [Ro hl (by omega) (by omega) (by omega) (by omega) (by omega), ed, if_neg (by decide), eb]
      rw [er]
      exact E1 (vL, v96, .slice none 0 0) Try.isAgg57 Try.sizeOf57
     ·intro ht80
      refine Gl ?_
      refine kp [1, 7, 8, 9, 10, 11, 12, 13, 97, 98, 99, 100] ?_
      refine Aa ?_
      refine Ga4 ?_
      refine cdy ?_ ?_
      ·intro ht97
       refine Zai ?_
       refine sc ?_
       refine Zao ?_
       refine Gl ?_
       refine Zay ?_
       refine cq_ (blk b68 120 [vL, vi q0.kind, vi q0.line, vi q0.value, vi id, vi home, .slice none 0 0, .slice none 0 0] :: row 66 (.slice none 0 0) [] :: foc 82 vL ls q.line.toNat [vi 0, vi 0, vi l.want, vi l.serial, vi l.seen, vi l.gave, vi l.given] :: blk b8 57 [.slice none 0 0, vi 0, vi 0, vi 0] :: blk b7 26 q.cells :: L) ?_
       refine jd_ (fun ρ S => blk b68 120 (bif S 12 then [vL, vi q0.kind, vi q0.line, vi q0.value, vi id, vi home, .slice none 0 0, (Gh.dec (γ := Value) (ρ 9))] else [vL, vi q0.kind, vi q0.line, vi q0.value, vi id, vi home, .slice none 0 0, .slice none 0 0]) :: (bif S 9 then row 66 (Gh.dec (γ := Value) (ρ 9)) ([] ++ [(⟨id, q, 0⟩ : Done)]) else row 66 (.slice none 0 0) []) :: foc 82 vL ls q.line.toNat [vi 0, vi 0, vi l.want, vi l.serial, vi l.seen, vi l.gave, vi l.given] :: blk b8 57 [.slice none 0 0, vi 0, vi 0, vi 0] :: blk b7 26 q.cells :: L) ?_
       refine dn4 ?_
       refine Iq (v := .slice none 0 0) (fun ρ S hS hB hA => by have h12 : S 12 = false := hA 12 ⟨0, rfl⟩; simp only [h12, cond_false]; exact C6 (hc := A7 pkk (by repeat (first | exact rfl | refine Di rfl ?_))) Try.isAgg34) (fun _ _ _ _ _ => rfl) ?_
       refine dn3 ?_
       refine ZcR ?_
       refine F0 (e := 66) (xs := []) (ys := [(⟨id, q, 0⟩ : Done)]) (v := (.slice none 0 0)) F8 (fun _ => rfl) (fun _ => rfl) rfl (by decide) (fun ρ R hd => (hd.dep (it := ⟨8, _, _, _, _⟩) (by repeat (first | exact List.Mem.head _ | refine List.Mem.tail _ ?_)) ⟨9, rfl⟩ (List.Mem.head _))) (by have : maxN = 16777216 := rfl; simp only [List.length_cons, List.length_nil]; omega) (fun ρ g S hS hB hA => ?_) ?_
       ·have ui : upS S 9 9 = true := rfl; have u12 : upS S 9 12 = S 12 := rfl; have h12 : S 12 = false := hA 12 ⟨0, rfl⟩; have rs : (Gh.dec (γ := Value) (Rho.set ρ 9 (Gh.enc g) 9)) = g := rfl
        simp only [ui, hS, u12, h12, rs, cond_true, cond_false]
        exact pex
       refine dn2 ?_
       refine Em (T0 := 120) (f := 7) (vs := fun ρ => [vL, vi q0.kind, vi q0.line, vi q0.value, vi id, vi home, .slice none 0 0, .slice none 0 0]) (v := fun ρ => (Gh.dec (γ := Value) (ρ 9))) (fun ρ => b68) Try.sizeOf34 (fun _ => rfl) (fun _ => rfl) (fun ρ S R w L9 hB hd hs => by have h9 : S 9 = true := hB 9 ⟨9, rfl⟩; simp only [h9, cond_true] at hs; exact Ci pkk hs) (fun _ => rfl) (fun ρ g S hS hB hA => ?_) ?_
       ·have ui : upS S 12 12 = true := rfl; have u9 : upS S 12 9 = S 9 := rfl; have r9 : Rho.set ρ 12 g 9 = ρ 9 := rfl
        simp only [ui, hS, u9, r9, cond_true, cond_false]
        exact pex
       refine dnl ?_; intro ρ
       refine xq_ (blk b68 120 [vL, vi q0.kind, vi q0.line, vi q0.value, vi id, vi home, .slice none 0 0, (Gh.dec (γ := Value) (ρ 9))] :: row 66 (Gh.dec (γ := Value) (ρ 9)) [(⟨id, q, 0⟩ : Done)] :: foc 82 vL ls q.line.toNat [vi 0, vi 0, vi l.want, vi l.serial, vi l.seen, vi l.gave, vi l.given] :: blk b8 57 [.slice none 0 0, vi 0, vi 0, vi 0] :: blk b7 26 q.cells :: L) ?_
       generalize (Gh.dec (γ := Value) (ρ 8)) = v115
       generalize (Gh.dec (γ := Value) (ρ 9)) = v116
       refine Gl ?_
       refine JC.conseq (L' := row 82 vL (ls.set q.line.toNat ({ l with state := 0, value := 0 })) :: blk b68 120 [vL, vi q0.kind, vi q0.line, vi q0.value, vi id, vi home, .slice none 0 0, v116] :: row 66 v116 [(⟨id, q, 0⟩ : Done)] :: blk b8 57 [.slice none 0 0, vi 0, vi 0, vi 0] :: L) (fun w hs => Ah (D2 ({ l with state := 0, value := 0 }) (by unfold Line.wf Ap; simp only; omega) (hs.pick pkk))) ?_
       refine JC.shut (v := vL) (xs := (ls.set q.line.toNat ({ l with state := 0, value := 0 }))) .hd ?_
       refine ZV ?_
       refine JC.shut (v := v116) (xs := [(⟨id, q, 0⟩ : Done)]) pkk ?_
       refine cq_ (blk b8 57 [.slice none 0 0, vi 0, vi 0, vi 0] :: blk b68 120 [vL, vi q0.kind, vi q0.line, vi q0.value, vi id, vi home, .slice none 0 0, v116] :: L) ?_
       refine jd_ (fun ρ S => blk b8 57 (bif S 12 then [vL, vi q0.kind, vi q0.line, vi q0.value] else [.slice none 0 0, vi 0, vi 0, vi 0]) :: blk b68 120 [vL, vi q0.kind, vi q0.line, vi q0.value, vi id, vi home, .slice none 0 0, v116] :: L) ?_
       refine dn3 ?_
       refine Jx (v := .agg ([vL, vi q0.kind, vi q0.line, vi q0.value]).toArray) (fun _ _ => Fh (b := b68) (f := 0) (vs := [vL, vi q0.kind, vi q0.line, vi q0.value, vi id, vi home, .slice none 0 0, v116]) 4 Try.isAgg57 Try.sizeOf57) (fun _ _ _ _ _ => rfl) ?_
       refine dn8 ?_
       refine es_ 57 0 [] [] (fun ρ => b8) (fun ρ => [.slice none 0 0, vi 0, vi 0, vi 0]) (fun ρ => [vL, vi q0.kind, vi q0.line, vi q0.value]) Try.sizeOf57 ?_
       refine dn3 ?_
       refine dnl ?_; intro ρ
       refine xq_ (blk b8 57 [vL, vi q0.kind, vi q0.line, vi q0.value] :: blk b68 120 [vL, vi q0.kind, vi q0.line, vi q0.value, vi id, vi home, .slice none 0 0, v116] :: L) ?_
       refine Gl ?_
       have eb : A9 l q = { l with state := 0, value := 0 } := by unfold A9; rw [if_pos (by omega), if_neg (by omega)]
       have ed : Bj l q = true := by unfold Bj; split <;> simp <;> omega
       have et : Cf l q = 0 := by unfold Cf; rw [if_pos (by omega)]
       have er : (Ai ⟨ls, q0⟩ id home q) = (⟨ls.set q.line.toNat ({ l with state := 0, value := 0 }), q0⟩, [], [(⟨id, q, 0⟩ : Done)], 0) := by rw [Ro hl (by omega) (by omega) (by omega) (by omega) (by omega), ed, if_pos rfl, eb, et, hz]
       rw [er]
       exact E1 (vL, .slice none 0 0, v116) Try.isAgg57 Try.sizeOf57
      ·intro ht97
       refine Gl ?_
       refine Ze4 ?_
       refine Dn 119 (.bool (decide (l.state = 2 ∨ (l.state = 1 ∧ q.kind = 1)))) ?_ ?_
       ·rcases (show (l.state = 2) ∨ (l.state = 1 ∧ q.kind = 1) ∨ (l.state = 1 ∧ q.kind ≠ 1) ∨ (l.state ≠ 1 ∧ l.state ≠ 2) from by omega) with hm | hm | hm | hm
        ·refine ZH ?_
         refine Ck ?_
         refine Ga13 ?_
         exact ZeK
        ·refine ZH ?_
         refine Av ?_
         refine ZN ?_
         refine Ck ?_
         refine ZM ?_
         refine Ck ?_
         refine Ga3 ?_
         exact ZeK
        ·refine Ze4 ?_
         refine ZH ?_
         refine Av ?_
         refine ZN ?_
         refine Ck ?_
         refine ZM ?_
         refine Av ?_
         refine Ga3 ?_
         exact ZeM
        ·refine ZH ?_
         refine Av ?_
         refine ZN ?_
         refine Av ?_
         refine Ga7 ?_
         exact ZeM
       ·refine Ax ?_
        first | (refine cdx (p := ?p3) (hd := ?d3) ?e3 ?_ ?_; case e3 => exact rfl) | (refine Bo (b := ?b3) ?e3 ?_ ?_; case e3 => exact rfl)
        ·intro ht119
         refine ZcP ?_
         refine Zay ?_
         refine kp [7, 8, 9, 10, 11, 12, 137, 138] ?_
         refine ZA ?_
         refine An Try.call70 rfl (fun w hs => K2 (vL := vL) (vo := .slice none 0 0) (vd := .slice none 0 0) (q := q) (q0 := q0) (id := id) (home := home) (ls := ls) (l := l) (ds := []) (bk := b68) (LX := blk b8 57 [.slice none 0 0, vi 0, vi 0, vi 0] :: blk b7 26 q.cells :: L) (Ah hs) hl (by omega) (by omega) hid hhome (by simp) hq (by omega) (by omega)) ?_; intro v139
         refine J.conseq (L' := row 82 vL (ls.set q.line.toNat ({ l with value := (Az l.value q).1 })) :: blk b68 120 [vL, vi 0, vi 0, vi 0, vi id, vi home, .slice none 0 0, v139] :: row 66 v139 [(⟨id, q, (Az l.value q).2⟩ : Done)] :: blk b8 57 [.slice none 0 0, vi 0, vi 0, vi 0] :: L) (fun w hs => by rw [List.nil_append] at hs; exact Ah hs) ?_
         refine Gl ?_
         refine cq_ (row 82 vL (ls.set q.line.toNat ({ l with value := (Az l.value q).1 })) :: blk b68 120 [vL, vi 0, vi 0, vi 0, vi id, vi home, .slice none 0 0, v139] :: row 66 v139 [(⟨id, q, (Az l.value q).2⟩ : Done)] :: blk b8 57 [.slice none 0 0, vi 0, vi 0, vi 0] :: L) ?_
         refine JC.shut (v := vL) (xs := (ls.set q.line.toNat ({ l with value := (Az l.value q).1 }))) .hd ?_
         refine ZV ?_
         refine JC.shut (v := v139) (xs := [(⟨id, q, (Az l.value q).2⟩ : Done)]) pkk ?_
         refine cq_ (blk b8 57 [.slice none 0 0, vi 0, vi 0, vi 0] :: blk b68 120 [vL, vi 0, vi 0, vi 0, vi id, vi home, .slice none 0 0, v139] :: L) ?_
         refine jd_ (fun ρ S => blk b8 57 (bif S 12 then [vL, vi 0, vi 0, vi 0] else [.slice none 0 0, vi 0, vi 0, vi 0]) :: blk b68 120 [vL, vi 0, vi 0, vi 0, vi id, vi home, .slice none 0 0, v139] :: L) ?_
         refine dn3 ?_
         refine Jx (v := .agg ([vL, vi 0, vi 0, vi 0]).toArray) (fun _ _ => Fh (b := b68) (f := 0) (vs := [vL, vi 0, vi 0, vi 0, vi id, vi home, .slice none 0 0, v139]) 4 Try.isAgg57 Try.sizeOf57) (fun _ _ _ _ _ => rfl) ?_
         refine Zeu ?_
         refine dn3 ?_
         refine dnl ?_; intro ρ
         refine xq_ (blk b8 57 [vL, vi 0, vi 0, vi 0] :: blk b68 120 [vL, vi 0, vi 0, vi 0, vi id, vi home, .slice none 0 0, v139] :: L) ?_
         refine Gl ?_
         have eb : A9 l q = { l with value := (Az l.value q).1 } := by unfold A9; rw [if_neg (by omega), if_pos (by omega)]
         have ed : Bj l q = true := by unfold Bj; split <;> simp <;> omega
         have et : Cf l q = (Az l.value q).2 := by unfold Cf; rw [if_neg (by omega)]
         have er : (Ai ⟨ls, q0⟩ id home q) = (⟨ls.set q.line.toNat ({ l with value := (Az l.value q).1 }), zOp⟩, [], [(⟨id, q, (Az l.value q).2⟩ : Done)], 0) := by rw [Ro hl (by omega) (by omega) (by omega) (by omega) (by omega), ed, if_pos rfl, eb, et]
         rw [er]
         exact E1 (vL, .slice none 0 0, v139) Try.isAgg57 Try.sizeOf57
        ·intro ht119
         refine Gl ?_
         refine kp [7, 8, 9, 10, 11, 12, 140, 141, 142, 143] ?_
         refine Aa ?_
         refine Ga4 ?_
         refine cdy ?_ ?_
         ·intro ht140
          refine ZcP ?_
          refine ZW ?_
          refine ZA ?_
          refine An Try.call69 rfl (fun w hs => Su (vL := vL) (vo := .slice none 0 0) (vd := .slice none 0 0) (q := q) (q0 := q0) (id := id) (home := home) (ls := ls) (l := l) (ms := []) (want := 1) (bk := b68) (LX := blk b8 57 [.slice none 0 0, vi 0, vi 0, vi 0] :: blk b7 26 q.cells :: L) (Ah hs) hl (by omega) (by omega) hid hhome (by simp) (by first | omega | (simp only; omega)) (by unfold Ap; omega)) ?_; intro v146
          refine J.conseq (L' := row 82 vL (ls.set q.line.toNat ({ l with want := 1, serial := l.serial + 1 })) :: blk b68 120 [vL, vi q.kind, vi q.line, vi q.value, vi id, vi home, v146, .slice none 0 0] :: row 49 v146 [Co ({ l with want := 1, serial := l.serial + 1 }) id home q.line] :: blk b8 57 [.slice none 0 0, vi 0, vi 0, vi 0] :: L) (fun w hs => by rw [List.nil_append] at hs; exact Ah hs) ?_
          refine Gl ?_
          refine cq_ (row 82 vL (ls.set q.line.toNat ({ l with want := 1, serial := l.serial + 1 })) :: blk b68 120 [vL, vi q.kind, vi q.line, vi q.value, vi id, vi home, v146, .slice none 0 0] :: row 49 v146 [Co ({ l with want := 1, serial := l.serial + 1 }) id home q.line] :: blk b8 57 [.slice none 0 0, vi 0, vi 0, vi 0] :: L) ?_
          refine JC.shut (v := vL) (xs := (ls.set q.line.toNat ({ l with want := 1, serial := l.serial + 1 }))) .hd ?_
          refine JC.shut (v := v146) (xs := [Co ({ l with want := 1, serial := l.serial + 1 }) id home q.line]) pkk ?_
          refine ZT ?_
          refine cq_ (blk b8 57 [.slice none 0 0, vi 0, vi 0, vi 0] :: blk b68 120 [vL, vi q.kind, vi q.line, vi q.value, vi id, vi home, v146, .slice none 0 0] :: L) ?_
          refine jd_ (fun ρ S => blk b8 57 (bif S 12 then [vL, vi q.kind, vi q.line, vi q.value] else [.slice none 0 0, vi 0, vi 0, vi 0]) :: blk b68 120 [vL, vi q.kind, vi q.line, vi q.value, vi id, vi home, v146, .slice none 0 0] :: L) ?_
          refine dn3 ?_
          refine Jx (v := .agg ([vL, vi q.kind, vi q.line, vi q.value]).toArray) (fun _ _ => Fh (b := b68) (f := 0) (vs := [vL, vi q.kind, vi q.line, vi q.value, vi id, vi home, v146, .slice none 0 0]) 4 Try.isAgg57 Try.sizeOf57) (fun _ _ _ _ _ => rfl) ?_
          refine ZbE ?_
          refine dn3 ?_
          refine dnl ?_; intro ρ
          refine xq_ (blk b8 57 [vL, vi q.kind, vi q.line, vi q.value] :: blk b68 120 [vL, vi q.kind, vi q.line, vi q.value, vi id, vi home, v146, .slice none 0 0] :: L) ?_
          refine Gl ?_
          have eb : A9 l q = { l with want := 1, serial := l.serial + 1 } := by unfold A9; rw [if_neg (by omega), if_neg (by omega), if_pos (by omega)]
          have ed : Bj l q = false := by unfold Bj; split <;> simp <;> omega
          have er : (Ai ⟨ls, q0⟩ id home q) = (⟨ls.set q.line.toNat ({ l with want := 1, serial := l.serial + 1 }), q⟩, [Co ({ l with want := 1, serial := l.serial + 1 }) id home q.line], [], 0) := by rw [Ro hl (by omega) (by omega) (by omega) (by omega) (by omega), ed, if_neg (by decide), eb]
          rw [er]
          exact E1 (vL, v146, .slice none 0 0) Try.isAgg57 Try.sizeOf57
         ·intro ht140
          refine ZcP ?_
          refine ZW ?_
          refine ZA ?_
          refine An Try.call69 rfl (fun w hs => Su (vL := vL) (vo := .slice none 0 0) (vd := .slice none 0 0) (q := q) (q0 := q0) (id := id) (home := home) (ls := ls) (l := l) (ms := []) (want := 2) (bk := b68) (LX := blk b8 57 [.slice none 0 0, vi 0, vi 0, vi 0] :: blk b7 26 q.cells :: L) (Ah hs) hl (by omega) (by omega) hid hhome (by simp) (by first | omega | (simp only; omega)) (by unfold Ap; omega)) ?_; intro v79
          refine J.conseq (L' := row 82 vL (ls.set q.line.toNat ({ l with want := 2, serial := l.serial + 1 })) :: blk b68 120 [vL, vi q.kind, vi q.line, vi q.value, vi id, vi home, v79, .slice none 0 0] :: row 49 v79 [Co ({ l with want := 2, serial := l.serial + 1 }) id home q.line] :: blk b8 57 [.slice none 0 0, vi 0, vi 0, vi 0] :: L) (fun w hs => by rw [List.nil_append] at hs; exact Ah hs) ?_
          refine Gl ?_
          refine cq_ (row 82 vL (ls.set q.line.toNat ({ l with want := 2, serial := l.serial + 1 })) :: blk b68 120 [vL, vi q.kind, vi q.line, vi q.value, vi id, vi home, v79, .slice none 0 0] :: row 49 v79 [Co ({ l with want := 2, serial := l.serial + 1 }) id home q.line] :: blk b8 57 [.slice none 0 0, vi 0, vi 0, vi 0] :: L) ?_
          refine JC.shut (v := vL) (xs := (ls.set q.line.toNat ({ l with want := 2, serial := l.serial + 1 }))) .hd ?_
          refine JC.shut (v := v79) (xs := [Co ({ l with want := 2, serial := l.serial + 1 }) id home q.line]) pkk ?_
          refine ZT ?_
          refine cq_ (blk b8 57 [.slice none 0 0, vi 0, vi 0, vi 0] :: blk b68 120 [vL, vi q.kind, vi q.line, vi q.value, vi id, vi home, v79, .slice none 0 0] :: L) ?_
          refine jd_ (fun ρ S => blk b8 57 (bif S 12 then [vL, vi q.kind, vi q.line, vi q.value] else [.slice none 0 0, vi 0, vi 0, vi 0]) :: blk b68 120 [vL, vi q.kind, vi q.line, vi q.value, vi id, vi home, v79, .slice none 0 0] :: L) ?_
          refine dn3 ?_
          refine Jx (v := .agg ([vL, vi q.kind, vi q.line, vi q.value]).toArray) (fun _ _ => Fh (b := b68) (f := 0) (vs := [vL, vi q.kind, vi q.line, vi q.value, vi id, vi home, v79, .slice none 0 0]) 4 Try.isAgg57 Try.sizeOf57) (fun _ _ _ _ _ => rfl) ?_
          refine ZbE ?_
          refine dn3 ?_
          refine dnl ?_; intro ρ
          refine xq_ (blk b8 57 [vL, vi q.kind, vi q.line, vi q.value] :: blk b68 120 [vL, vi q.kind, vi q.line, vi q.value, vi id, vi home, v79, .slice none 0 0] :: L) ?_
          refine Gl ?_
          have eb : A9 l q = { l with want := 2, serial := l.serial + 1 } := by unfold A9; rw [if_neg (by omega), if_neg (by omega), if_neg (by omega)]
          have ed : Bj l q = false := by unfold Bj; split <;> simp <;> omega
          have er : (Ai ⟨ls, q0⟩ id home q) = (⟨ls.set q.line.toNat ({ l with want := 2, serial := l.serial + 1 }), q⟩, [Co ({ l with want := 2, serial := l.serial + 1 }) id home q.line], [], 0) := by rw [Ro hl (by omega) (by omega) (by omega) (by omega) (by omega), ed, if_neg (by decide), eb]
          rw [er]
          exact E1 (vL, v79, .slice none 0 0) Try.isAgg57 Try.sizeOf57
theorem Vg {u : Value} {c : Core} {id home : Int} (hs : St (L) R w) (hu : sl u c.lines ∈ R) (hn4 : c.lines.length ≤ 100) (hid : Ap id) (hhome : Ap home) : Calls Try.prog 80 [.agg (c.cells u).toArray, vi id, vi home].toArray w (Ca (fun v : Value => v) (fun v => L) (fun v => sl v (D3 c id home) :: R)) := by
 obtain ⟨ls, q⟩ := c
 have hu : sl u ls ∈ R := hu
 have hn4 : ls.length ≤ 100 := hn4
 refine Za8 ?_;intro hone0
 refine Aj Try.func80 rfl Try.ntmps80 rfl hs ?_
 clear hs
 refine Zae ?_;intro b3
 refine Gb1 ?_
 refine Zd0 ?_;intro vL honeV
 refine bx ?_; intro b14
 refine Ga1 ?_
 refine cq_ (row 82 vL ls :: blk b14 120 [vL, vi q.kind, vi q.line, vi q.value, vi id, vi home, .slice none 0 0, .slice none 0 0] :: L) ?_
 refine Aa ?_
 refine Ga7 ?_
 refine ZW ?_
 refine Bt (γ := Nat × Value) (fun g => g.1 ≤ ls.length) (fun g => blk b14 120 [vL, vi q.kind, vi q.line, vi q.value, vi id, vi home, g.2, .slice none 0 0] :: row 82 vL ls :: row 49 g.2 (C3 id home 0 (ls.take g.1)) :: L) (fun _ => R) (fun g => [(7, bp b14 0), (20, vi (ls.length : Int)), (21, vi (g.1 : Int))]) (fun g => ls.length - g.1) (0, .slice none 0 0) (Nat.zero_le _) alT (fun w hs => Ah hs) ?_
 rintro ⟨k, vs⟩ hk9
 try simp only at hk9 ⊢
 have htl := L5 id home (ls.take k) 0
 rw [List.length_take] at htl
 refine ZB ?_
 refine cdy ?_ ?_
 ·intro ht22
  refine ZD ?_
  obtain ⟨l, hl⟩ : ∃ l, ls.getD ((k : Int)).toNat zLine = l := ⟨_, rfl⟩
  refine Ig (ls := ls) (l := l) (i := (k : Int)) pkk hl (by omega) (by omega) (fun hlw hA => ?_)
  have hlw0 := hlw
  unfold Line.wf Ap at hlw0
  have honeL : (ep vL 7 (k : Int).toNat 0).oneCell' = true := hA.one
  refine Zat ?_
  refine ob (I1 (v := vL) (i := (k : Int)) L7 (hl := D1 (α := Line) (xs := ls) pkk)) ?_
  refine Ga3 ?_
  refine cdy ?_ ?_
  ·intro ht33
   refine JC.conseq (L' := row 82 vL ls :: blk b14 120 [vL, vi q.kind, vi q.line, vi q.value, vi id, vi home, vs, .slice none 0 0] :: row 49 vs (C3 id home 0 (ls.take k)) :: L) (fun w hs => Ah (Ev hl hlw (hs.pick pkk))) ?_
   refine ZA ?_
   refine An Try.call96 rfl (fun w hs => Rh (vL := vL) (vd := .slice none 0 0) (q := q) (id := id) (home := home) (ms := C3 id home 0 (ls.take k)) (line := (k : Int)) (ls := ls) (l := l) (LX := L) (Ah hs) hl (by omega) (by omega) (by omega) hid hhome) ?_; intro v36
   refine Gl ?_
   refine kp [6, 7, 8, 20, 21, 22, 23, 24, 25, 26, 27, 28, 29, 30, 31, 32, 33, 34, 35, 37] ?_
   refine ZP ?_
   refine Be (k + 1, v36) (by show k + 1 ≤ ls.length; omega) (by show ls.length - (k + 1) < ls.length - k; omega) alT (fun w hs => ?_)
   try simp only
   rw [Fa zLine (by omega), Hv, show ls.getD k zLine = l from hl, if_pos ht33, List.length_take, Nat.min_eq_left (by omega), Int.zero_add]
   exact Ah hs
  ·intro ht33
   refine ZD ?_
   refine Be (k + 1, vs) (by show k + 1 ≤ ls.length; omega) (by show ls.length - (k + 1) < ls.length - k; omega) alT (fun w hs => ?_)
   try simp only
   rw [Fa zLine (by omega), Hv, show ls.getD k zLine = l from hl, if_neg ht33, List.append_nil]
   exact Ah (Ev hl hlw (hs.pick pkk))
 ·intro ht22
  refine Gl ?_
  refine JC.shut (v := vs) (xs := C3 id home 0 (ls.take k)) pkk ?_
  refine Aa ?_
  refine Ga5 ?_
  have hkl : k = ls.length := by omega
  rw [show D3 ⟨ls, q⟩ id home = C3 id home 0 (ls.take k) from by rw [hkl, List.take_length]; rfl]
  exact Bk vs
theorem Aap {lines : Int} (hs : St (L) R w) (hl : 0 ≤ lines ∧ lines ≤ 4) : Calls Try.prog 40 [vi lines].toArray w (Ca (fun v : Value => .agg (Core.cells v (Eu lines)).toArray) (fun v => L) (fun v => sl v (Eu lines).lines :: R)) := by
 refine Aj Try.func40 rfl Try.ntmps40 rfl hs ?_
 clear hs
 refine Gm ?_
 refine al_ (cs := [.slice none 0 0, vi 0, vi 0, vi 0]) Try.zeroValue57 ?_; intro b2
 refine ZK ?_
 refine ob (q_mx (a := lines) rfl (by omega)) ?_
 refine Te (α := Line) (x0 := zLine) (zc := zLine.cells) Vb rfl (by decide) rfl rfl rfl (fun j => ⟨rfl, by unfold Line.wf Ap; decide⟩) (by omega) (by omega) ?_; intro v5
 refine J.shut .hd ?_
 refine J.know (p := v5.oneCell' = true) (fun w hs => isSlice.one (hs.fact (.head _))) (fun honev5 => ?_)
 refine rn1 ?_
 refine s_B (cs := [v5, vi 0, vi 0, vi 0]) Try.sizeOf57 ?_
 refine Gl ?_
 exact Me v5 Try.isAgg57 Try.sizeOf57
section
variable {P : Program} {T : TypeId} {s k : Int}
theorem Rp (h2 : 0 ≤ k) (h3 : k < 4) (w : World) : (binOp .shl T (vi 1) (vi k)).run P w = .ok (vi ((2 ^ k.toNat : Nat) : Int)) w := by
 rcases (show k = 0 ∨ k = 1 ∨ k = 2 ∨ k = 3 by omega) with g | g | g | g <;> subst g <;> rfl
theorem Nj (h0 : 0 ≤ s) (h1 : s < 16) (h2 : 0 ≤ k) (h3 : k < 4) (w : World) : (binOp .andNot T (vi s) (vi ((2 ^ k.toNat : Nat) : Int))).run P w = .ok (vi (Hg s k)) w := by
 exact ZeE
theorem b_orB (h0 : 0 ≤ s) (h1 : s < 16) (h2 : 0 ≤ k) (h3 : k < 4) (w : World) : (binOp .or T (vi s) (vi ((2 ^ k.toNat : Nat) : Int))).run P w = .ok (vi (Io s k)) w := by
 exact ZeE
theorem X3 (h0 : 0 ≤ s) (h1 : s < 16) (h2 : 0 ≤ k) (h3 : k < 4) (w : World) : (binOp .shr T (vi s) (vi k)).run P w = .ok (vi ((s.toNat / 2 ^ k.toNat : Nat) : Int)) w := by
 exact ZeE
theorem S5 (h0 : 0 ≤ s) (h1 : s < 16) (h2 : 0 ≤ k) (h3 : k < 4) (w : World) : (binOp .and T (vi ((s.toNat / 2 ^ k.toNat : Nat) : Int)) (vi 1)).run P w = .ok (vi (if Ks s k then 1 else 0)) w := by
 exact ZeE
theorem W2 (h0 : 0 ≤ s) (h1 : s < 16) (hk : J8 s ≤ k) (h2 : 0 ≤ k) (h3 : k < 4) : Ks s k = false := by
 revert hk
 rcases (show s = 0 ∨ s = 1 ∨ s = 2 ∨ s = 3 ∨ s = 4 ∨ s = 5 ∨ s = 6 ∨ s = 7 ∨ s = 8 ∨ s = 9 ∨ s = 10 ∨ s = 11 ∨ s = 12 ∨ s = 13 ∨ s = 14 ∨ s = 15 by omega) with h | h | h | h | h | h | h | h | h | h | h | h | h | h | h | h <;> rcases (show k = 0 ∨ k = 1 ∨ k = 2 ∨ k = 3 by omega) with g | g | g | g <;> subst h <;> subst g <;> intro hk <;> first | rfl | (exfalso; revert hk; decide)
end
theorem J0 {e : Entry} {line id : Int} {k : Nat} : E8 e line id (k + 1) = E8 e line id k ++ (if Ks e.need (k : Int) then [⟨4, id, (k : Int), line, 0, e.turn, 0, false⟩] else []) := by
 unfold Ks
 rw [Int.toNat_natCast]
 cases h : e.need.toNat.testBit k with
 | true => rw [N5 h, if_pos rfl]
 | false => rw [P0 h]; simp
theorem N7 {e : Entry} {line id : Int} (he : EB e) : ∀ j : Nat, (J8 e.need).toNat + j ≤ 4 → E8 e line id ((J8 e.need).toNat + j) = E8 e line id (J8 e.need).toNat
 | 0, _ => rfl
 | j + 1, h => by
  have ih := N7 (line := line) (id := id) he j (by omega)
  have hl : 0 ≤ J8 e.need := by unfold J8; split <;> (try split) <;> (try split) <;> (try split) <;> omega
  rw [← Nat.add_assoc, J0, W2 he.2.2.1.1 he.2.2.1.2 (by omega) (by omega) (by omega), ih]; simp
theorem Wu {s : Int} : 0 ≤ J8 s ∧ J8 s ≤ 4 := by unfold J8; split <;> (try split) <;> (try split) <;> (try split) <;> omega
theorem R3 {e : Entry} {line id : Int} (he : EB e) : E8 e line id (J8 e.need).toNat = E8 e line id 4 := by
 have h := Wu (s := e.need)
 have := N7 (line := line) (id := id) he (4 - (J8 e.need).toNat) (by omega)
 rw [← this]; congr 1; omega
theorem Pb {LX : List Chunk} {R : List Fact} {w : World} {vh vo u : Value} {i bk : Nat} {e : Entry} {ms : List Msg} {line id : Int} {kind to serial value : Int} {al : Bool} (hs : St (blk bk 151 [(ep vh 10 i 0), vi line, vi id, vo] :: row 49 vo ms :: LX) R w) (hE : C4 LX R (ep vh 10 i 0) (Entry.cells u e)) (hA : EpAll vh 10 i) (hn : ms.length ≤ 1000) (hwf : (⟨kind, id, to, line, serial, e.turn, value, al⟩ : Msg).wf) : Calls Try.prog 111 [bp bk 0, vi kind, vi to, vi serial, vi value, .bool al].toArray w (Ca (fun v : Value => .tuple #[]) (fun v => blk bk 151 [(ep vh 10 i 0), vi line, vi id, v] :: row 49 v (ms ++ [(⟨kind, id, to, line, serial, e.turn, value, al⟩ : Msg)]) :: LX) (fun v => R)) := by
 refine Aj Try.func111 rfl Try.ntmps111 rfl hs ?_
 clear hs
 refine cq_ (blk bk 151 [(ep vh 10 i 0), vi line, vi id, vo] :: row 49 vo ms :: LX) ?_
 refine jd_ (fun ρ S => blk bk 151 (bif S 30 then [(ep vh 10 i 0), vi line, vi id, (Gh.dec (γ := Value) (ρ 27))] else [(ep vh 10 i 0), vi line, vi id, vo]) :: (bif S 27 then row 49 (Gh.dec (γ := Value) (ρ 27)) (ms ++ [(⟨kind, id, to, line, serial, e.turn, value, al⟩ : Msg)]) else row 49 vo ms) :: (LX)) ?_
 refine dn4 ?_
 refine Iq (v := vo) (fun ρ S hS hB hA => by have h30 : S 30 = false := hA 30 ⟨0, rfl⟩; simp only [h30, cond_false]; exact C6 (hc := A7 pkk (by repeat (first | exact rfl | refine Di rfl ?_))) Try.isAgg86) (fun _ _ _ _ _ => rfl) ?_
 refine dn4 ?_
 refine Iq (v := vi id) (fun ρ S hS hB hA => by have h30 : S 30 = false := hA 30 ⟨0, rfl⟩; simp only [h30, cond_false]; exact C6 (hc := A7 pkk (by repeat (first | exact rfl | refine Di rfl ?_))) Try.isAgg3) (fun _ _ _ _ _ => rfl) ?_
 refine dn4 ?_
 refine Iq (v := vi line) (fun ρ S hS hB hA => by have h30 : S 30 = false := hA 30 ⟨0, rfl⟩; simp only [h30, cond_false]; exact C6 (hc := A7 pkk (by repeat (first | exact rfl | refine Di rfl ?_))) Try.isAgg3) (fun _ _ _ _ _ => rfl) ?_
 refine dn4 ?_
 refine Iq (v := (ep vh 10 i 0)) (fun ρ S hS hB hA => by have h30 : S 30 = false := hA 30 ⟨0, rfl⟩; simp only [h30, cond_false]; exact C6 (hc := A7 pkk (by repeat (first | exact rfl | refine Di rfl ?_))) Try.isAgg148) (fun _ _ _ _ _ => rfl) ?_
 first | refine epc (fun _ _ => q_nb) ?_ | refine epc (fun _ _ => q_ne) ?_ | refine epp (fun _ _ => q_nb) ?_ | refine epp (fun _ _ => q_ne) ?_
 first | refine epc (fun _ _ => Ye Mz) ?_ | refine epc (fun _ _ => Yd Mz) ?_ | refine epp (fun _ _ => Ye Mz) ?_ | refine epp (fun _ _ => Yd Mz) ?_
 first | refine epc (fun _ _ => C6 Try.isAgg3) ?_ | refine epp (fun _ _ => C6 Try.isAgg3) ?_
 refine dn2 ?_
 first | refine epc (fun _ _ => Eh Ek) ?_ | refine epc (fun _ _ => Ft Ek) ?_ | refine epp (fun _ _ => Eh Ek) ?_ | refine epp (fun _ _ => Ft Ek) ?_
 refine Fz ([(⟨kind, id, to, line, serial, e.turn, value, al⟩ : Msg)] : List Msg) F7 rfl (fun _ => rfl) rfl (fun _ => rfl) rfl rfl (fun ρ R hd => I0 hwf) (fun _ _ _ _ _ => rfl) ?_
 refine F0 (e := 49) (xs := ms) (ys := [(⟨kind, id, to, line, serial, e.turn, value, al⟩ : Msg)]) (v := vo) F7 (fun _ => rfl) (fun _ => rfl) rfl (by decide) (fun ρ R hd => (hd.dep (it := ⟨26, _, _, _, _⟩) (by repeat (first | exact List.Mem.head _ | refine List.Mem.tail _ ?_)) ⟨9, rfl⟩ (List.Mem.head _))) (by have : maxN = 16777216 := rfl; simp only [List.length_cons, List.length_nil]; omega) (fun ρ g S hS hB hA => ?_) ?_
 ·have ui : upS S 27 27 = true := rfl; have u30 : upS S 27 30 = S 30 := rfl; have h30 : S 30 = false := hA 30 ⟨0, rfl⟩; have rs : (Gh.dec (γ := Value) (Rho.set ρ 27 (Gh.enc g) 27)) = g := rfl
  simp only [ui, hS, u30, h30, rs, cond_true, cond_false]
  exact pex
 refine dn2 ?_
 refine Em (T0 := 151) (f := 3) (vs := fun ρ => [(ep vh 10 i 0), vi line, vi id, vo]) (v := fun ρ => (Gh.dec (γ := Value) (ρ 27))) (fun ρ => bk) Try.sizeOf86 (fun _ => rfl) (fun _ => rfl) (fun ρ S R w L9 hB hd hs => by have h27 : S 27 = true := hB 27 ⟨9, rfl⟩; simp only [h27, cond_true] at hs; exact Ci pkk hs) (fun _ => rfl) (fun ρ g S hS hB hA => ?_) ?_
 ·have ui : upS S 30 30 = true := rfl; have u27 : upS S 30 27 = S 27 := rfl; have r27 : Rho.set ρ 30 g 27 = ρ 27 := rfl
  simp only [ui, hS, u27, r27, cond_true, cond_false]
  exact pex
 refine dnl ?_; intro ρ
 refine xq_ (blk bk 151 [(ep vh 10 i 0), vi line, vi id, (Gh.dec (γ := Value) (ρ 27))] :: row 49 (Gh.dec (γ := Value) (ρ 27)) (ms ++ [(⟨kind, id, to, line, serial, e.turn, value, al⟩ : Msg)]) :: (LX)) ?_
 generalize (Gh.dec (γ := Value) (ρ 26)) = v38
 generalize (Gh.dec (γ := Value) (ρ 27)) = v39
 refine Bq (.inl rfl) (fun B w hs => Iv rfl _ w) (fun w hs => ⟨v39, rfl, Ah hs⟩)
theorem Vt {s : Int} (h0 : 0 ≤ s) (h1 : s < 16) : IntKind.u64.wrap s = s := by
 rcases (show s = 0 ∨ s = 1 ∨ s = 2 ∨ s = 3 ∨ s = 4 ∨ s = 5 ∨ s = 6 ∨ s = 7 ∨ s = 8 ∨ s = 9 ∨ s = 10 ∨ s = 11 ∨ s = 12 ∨ s = 13 ∨ s = 14 ∨ s = 15 by omega) with h | h | h | h | h | h | h | h | h | h | h | h | h | h | h | h <;> subst h <;> rfl
theorem I8 {LX : List Chunk} {R : List Fact} {w : World} {vh vo u : Value} {i bk : Nat} {e : Entry} {ms : List Msg} {line id : Int} (hs : St (blk bk 151 [(ep vh 10 i 0), vi line, vi id, vo] :: row 49 vo ms :: LX) R w) (hE : C4 LX R (ep vh 10 i 0) (Entry.cells u e)) (hA : EpAll vh 10 i) (hn : ms.length ≤ 500) (hb : EB e) (hl : Ap line) (hid : Ap id) : Calls Try.prog 108 [bp bk 0].toArray w (Ca (fun v : Value => .tuple #[]) (fun v => blk bk 151 [(ep vh 10 i 0), vi line, vi id, v] :: row 49 v (ms ++ F5 e line id) :: LX) (fun v => R)) := by
 have hb0 := hb
 unfold EB Entry.wf Ap at hb0
 unfold Ap at hl hid
 refine Aj Try.func108 rfl Try.ntmps108 rfl hs ?_
 clear hs
 refine Gm ?_
 refine Gb7 ?_
 refine Ga2 ?_
 refine cdy ?_ ?_
 ·intro ht11
  refine ZS ?_
  refine Ga7 ?_
  refine Bo (b := ?b2) ?e2 ?_ ?_; case e2 => exact rfl
  ·intro ht19
   refine Aa ?_
   refine Gb1 ?_
   refine rn9 ?_
   refine An Try.call111 rfl (fun w hs => Pb (e := e) (ms := ms) (kind := 6) (to := e.owner) (serial := 0) (value := 0) (al := false) hs hE hA (by omega) (by unfold Msg.wf Ap; simp only; omega)) ?_; intro v29
   refine Gl ?_
   have er : F5 e line id = [⟨6, id, e.owner, line, 0, e.turn, 0, false⟩] := by unfold F5; rw [if_pos ht11, ht19]; rfl
   exact Zgn
  ·intro ht19
   refine Gm ?_
   refine rn9 ?_
   refine An Try.call111 rfl (fun w hs => Pb (e := e) (ms := ms) (kind := 5) (to := e.owner) (serial := 0) (value := 0) (al := false) hs hE hA (by omega) (by unfold Msg.wf Ap; simp only; omega)) ?_; intro v29
   refine Gl ?_
   have er : F5 e line id = [⟨5, id, e.owner, line, 0, e.turn, 0, false⟩] := by unfold F5; rw [if_pos ht11, ht19]; rfl
   exact Zgn
 ·intro ht11
  refine ZD ?_
  refine cdy ?_ ?_
  ·intro ht30
   refine Gm ?_
   refine rn7 ?_
   refine ob (As (v := .int .u64 e.need) Try.underlying3 Try.underlying147 rfl (by rw [show IntKind.u64.wrap e.need = e.need from Vt hb0.2.2.1.1 hb0.2.2.1.2])) ?_
   refine An Try.call112 rfl (fun w hs => Ahb hs hb0.2.2.1.1 hb0.2.2.1.2) ?_; intro _
   refine Ga1 ?_
   have hlb := Wu (s := e.need)
   refine Bt (γ := Nat × Value) (fun g => (g.1 : Int) ≤ J8 e.need) (fun g => blk bk 151 [(ep vh 10 i 0), vi line, vi id, g.2] :: row 49 g.2 (ms ++ E8 e line id g.1) :: LX) (fun _ => R) (fun g => [(0, bp bk 0), (40, vi (J8 e.need)), (41, vi (g.1 : Int))]) (fun g => (J8 e.need).toNat - g.1) (0, vo) (by show (0 : Int) ≤ J8 e.need; omega) alT (fun w hs => by have e0 : E8 e line id 0 = [] := rfl; rw [e0, List.append_nil]; exact hs) ?_
   rintro ⟨k, vs⟩ hk
   try simp only at hk ⊢
   have hsl := N6 e line id k
   refine ZB ?_
   refine cdy ?_ ?_
   ·intro ht42
    refine Gm ?_
    refine Gb2 ?_
    refine rn8 ?_
    refine ob (Gb (a := e.need) (b := (k : Int)) (X3 hb0.2.2.1.1 hb0.2.2.1.2 (by omega) (by omega))) ?_
    refine ob (Gb (a := ((e.need.toNat / 2 ^ (k : Int).toNat : Nat) : Int)) (b := 1) (S5 hb0.2.2.1.1 hb0.2.2.1.2 (by omega) (by omega))) ?_
    refine Ga1 ?_
    refine cdy ?_ ?_
    ·intro ht54
     refine kp [0, 3, 10, 40, 41, 42, 43, 44, 45, 46, 47, 48, 49, 50, 51, 52, 53, 54, 55, 56] ?_
     refine ZA ?_
     refine An Try.call111 rfl (fun w hs => Pb (e := e) (ms := (ms ++ E8 e line id k)) (kind := 4) (to := (k : Int)) (serial := 0) (value := 0) (al := false) hs hE hA (by simp only [List.length_append]; omega) (by unfold Msg.wf Ap; simp only; omega)) ?_; intro v57
     refine ZD ?_
     refine Be (k + 1, v57) (by show ((k + 1 : Nat) : Int) ≤ J8 e.need; omega) (by show (J8 e.need).toNat - (k + 1) < (J8 e.need).toNat - k; omega) alT (fun w hs => ?_)
     try simp only
     have hb9 : Ks e.need (k : Int) = true := by revert ht54; cases Ks e.need (k : Int) <;> simp
     rw [J0, hb9, if_pos rfl, ← List.append_assoc]; exact Ah hs
    ·intro ht54
     refine Gl ?_
     refine kp [0, 3, 10, 40, 41, 42, 43, 44, 45, 46, 47, 48, 49, 50, 51, 52, 53, 54, 55, 56, 58] ?_
     refine ZP ?_
     refine Be (k + 1, vs) (by show ((k + 1 : Nat) : Int) ≤ J8 e.need; omega) (by show (J8 e.need).toNat - (k + 1) < (J8 e.need).toNat - k; omega) alT (fun w hs => ?_)
     try simp only
     have hb9 : Ks e.need (k : Int) = false := by revert ht54; cases Ks e.need (k : Int) <;> simp
     rw [J0, hb9, if_neg (by decide), List.append_nil]; exact Ah hs
   ·intro ht42
    refine Gl ?_
    have hk4 : k = (J8 e.need).toNat := by omega
    subst hk4
    have er : F5 e line id = E8 e line id (J8 e.need).toNat := by rw [R3 hb, N8 ht30]
    rw [er]
    refine Bq (.inl rfl) (fun B w hs => Iv rfl _ w) (fun w hs => ⟨vs, rfl, Ah hs⟩)
  ·intro ht30
   refine ZD ?_
   refine cdy ?_ ?_
   ·intro ht59
    refine Cd ?_
    refine dn29 ?_
    refine dtl ?_; intro ρ
    refine An Try.call111 rfl (fun w hs => Pb (e := e) (ms := ms) (kind := 7) (to := e.who) (serial := e.serial) (value := e.value) (al := e.alone) hs hE hA (by omega) (by unfold Msg.wf Ap; simp only; omega)) ?_; intro v90
    refine Gl ?_
    have er : F5 e line id = [⟨7, id, e.who, line, e.serial, e.turn, e.value, e.alone⟩] := by unfold F5; rw [if_neg ht11, if_neg ht30, if_pos ht59]
    rw [er]
    refine Bq (.inl rfl) (fun B w hs => Iv rfl _ w) (fun w hs => ⟨v90, rfl, Ah hs⟩)
   ·intro ht59
    refine Gl ?_
    have er : F5 e line id = [] := by unfold F5; rw [if_neg ht11, if_neg ht30, if_neg ht59]
    rw [er, List.append_nil]
    refine Bq (.inl rfl) (fun B w hs => Iv rfl _ w) (fun w hs => ⟨vo, rfl, Ah hs⟩)
theorem Lx {LX : List Chunk} {R : List Fact} {w : World} {vh vo u : Value} {i bk : Nat} {e : Entry} {ms : List Msg} {line id : Int} {xs : List Entry} (hs : St (blk bk 151 [(ep vh 10 i 0), vi line, vi id, vo] :: row 49 vo ms :: foc 80 vh xs i (Entry.cells u e) :: LX) R w) (hA : EpAll vh 10 i) (hone : u.oneCell' = true) (hn : ms.length ≤ 500) (hb : EB e) (hl : Ap line) (hid : Ap id) : Calls Try.prog 103 [bp bk 0].toArray w (Ca (fun v : Value => .tuple #[]) (fun v => blk bk 151 [(ep vh 10 i 0), vi line, vi id, v] :: row 49 v (ms ++ F5 (Bg e) line id) :: foc 80 vh xs i (Entry.cells u (Bg e)) :: LX) (fun v => R)) := by
 have hb0 := hb
 unfold EB Entry.wf Ap at hb0
 have hl0 := hl
 have hid0 := hid
 unfold Ap at hl0 hid0
 refine Aj Try.func103 rfl Try.ntmps103 rfl hs ?_
 clear hs
 refine Gm ?_
 refine rn6 ?_
 refine sc ?_
 refine Gl ?_
 refine Cd ?_
 refine dn14 ?_
 refine djc (fun _ _ => Gb (a := 1) (b := e.who) (Rp (by omega) (by omega))) ?_
 refine djc (fun _ _ => Gb (a := e.sharers) (b := ((2 ^ e.who.toNat : Nat) : Int)) (Nj (by omega) (by omega) (by omega) (by omega))) ?_
 refine ZR ?_;intro ρ
 refine Gm ?_
 refine Ga9 ?_
 refine cdy ?_ ?_
 ·intro ht31
  refine kp [0, 2, 40, 41, 42, 43, 44, 45] ?_
  refine Zat ?_
  refine sc ?_
  refine ZK ?_
  have en : Bg e = { e with need := 0, phase := 1 } := by unfold Bg; rw [if_pos ht31]
  have hbn : EB ({ e with need := 0, phase := 1 }) := en ▸ Ds hb
  refine An Try.call108 rfl (fun w hs => I8 (e := { e with need := 0, phase := 1 }) (u := u) (ms := ms) (line := line) (id := id) (LX := foc 80 vh xs i [vi e.value, vi e.owner, vi e.sharers, vi 1, vi e.who, vi e.serial, .bool e.alone, vi e.turn, vi 0, u] :: LX) (Ah hs) (Nk .hd rfl) hA hn hbn hl hid) ?_; intro v72
  refine Gl ?_
  rw [en]
  refine Bq (.inl rfl) (fun B w hs => Iv rfl _ w) (fun w hs => ⟨v72, rfl, Ah hs⟩)
 ·intro ht31
  refine Gl ?_
  refine kp [0, 2, 46, 47, 48, 49, 50, 51, 52, 53, 54, 55, 56, 57] ?_
  refine Aa ?_
  refine rn8 ?_
  refine J2 (t := 54) (b := ?b2) ?e2 ?_ ?_; case e2 => exact rfl
  ·intro ht54
   refine Ga4 ?_
   refine cdy ?_ ?_
   ·intro ht46
    refine cq_ (foc 80 vh xs i [vi e.value, vi e.owner, vi e.sharers, vi e.phase, vi e.who, vi e.serial, .bool e.alone, vi e.turn, vi 0, u] :: blk bk 151 [(ep vh 10 i 0), vi line, vi id, vo] :: row 49 vo ms :: LX) ?_
    refine jd_ (fun ρ S => foc 80 vh xs i (bif S 14 then [vi e.value, vi e.owner, vi e.sharers, vi 2, vi e.who, vi e.serial, .bool e.alone, vi e.turn, vi (Hg e.sharers e.who), u] else (bif S 11 then [vi e.value, vi e.owner, vi e.sharers, vi 2, vi e.who, vi e.serial, .bool e.alone, vi e.turn, vi 0, u] else [vi e.value, vi e.owner, vi e.sharers, vi e.phase, vi e.who, vi e.serial, .bool e.alone, vi e.turn, vi 0, u])) :: blk bk 151 [(ep vh 10 i 0), vi line, vi id, vo] :: row 49 vo ms :: (LX)) ?_
    refine dn11 ?_
    refine Ey (T0 := 80) (f := 3) (k := i) (sz := 10) (hv := vh) (xs := xs) (vs := fun ρ => [vi e.value, vi e.owner, vi e.sharers, vi e.phase, vi e.who, vi e.serial, .bool e.alone, vi e.turn, vi 0, u]) (v := fun ρ => (vi 2)) rfl Try.sizeOf3 (fun _ => rfl) (fun _ => rfl) (fun _ _ _ _ _ _ _ _ => rfl) (fun _ => rfl) (fun ρ g S hS hB hA => ?_) ?_
    ·have ui : upS S 11 11 = true := rfl; have u14 : upS S 11 14 = S 14 := rfl; have h14 : S 14 = false := hA 14 ⟨0, rfl⟩
     simp only [ui, hS, u14, h14, cond_true, cond_false]
     exact pex
    refine dn2 ?_
    refine Ey (T0 := 80) (f := 8) (k := i) (sz := 10) (hv := vh) (xs := xs) (vs := fun ρ => [vi e.value, vi e.owner, vi e.sharers, vi 2, vi e.who, vi e.serial, .bool e.alone, vi e.turn, vi 0, u]) (v := fun ρ => (vi (Hg e.sharers e.who))) rfl Try.sizeOf3 (fun _ => rfl) (fun _ => rfl) (fun _ _ _ _ _ _ _ _ => rfl) (fun _ => rfl) (fun ρ g S hS hB hA => ?_) ?_
    ·have ui : upS S 14 14 = true := rfl; have u11 : upS S 14 11 = S 11 := rfl; have h11 : S 11 = true := hB 11 ⟨0, rfl⟩
     simp only [ui, hS, u11, h11, cond_true, cond_false]
     exact pex
    refine dnl ?_; intro ρ
    refine xq_ (foc 80 vh xs i [vi e.value, vi e.owner, vi e.sharers, vi 2, vi e.who, vi e.serial, .bool e.alone, vi e.turn, vi (Hg e.sharers e.who), u] :: blk bk 151 [(ep vh 10 i 0), vi line, vi id, vo] :: row 49 vo ms :: (LX)) ?_
    refine ZK ?_
    have en : Bg e = { e with need := (Hg e.sharers e.who), phase := 2 } := by unfold Bg; rw [if_neg ht31, if_pos ⟨ht54, ht46⟩]
    have hbn : EB ({ e with need := (Hg e.sharers e.who), phase := 2 }) := en ▸ Ds hb
    refine An Try.call108 rfl (fun w hs => I8 (e := { e with need := (Hg e.sharers e.who), phase := 2 }) (u := u) (ms := ms) (line := line) (id := id) (LX := foc 80 vh xs i [vi e.value, vi e.owner, vi e.sharers, vi 2, vi e.who, vi e.serial, .bool e.alone, vi e.turn, vi (Hg e.sharers e.who), u] :: LX) (Ah hs) (Nk .hd rfl) hA hn hbn hl hid) ?_; intro v72
    refine Gl ?_
    rw [en]
    refine Bq (.inl rfl) (fun B w hs => Iv rfl _ w) (fun w hs => ⟨v72, rfl, Ah hs⟩)
   ·intro ht46
    refine Zat ?_
    refine sc ?_
    refine ZK ?_
    have en : Bg e = { e with need := 0, phase := 3 } := by unfold Bg; rw [if_neg ht31, if_neg (fun h => h.2 (by omega))]
    exact Zgb
  ·intro ht54
   refine Gd4 ?_
   refine rn6 ?_
   refine sc ?_
   refine ZK ?_
   have en : Bg e = { e with need := 0, phase := 3 } := by unfold Bg; rw [if_neg ht31, if_neg (fun h => by rw [h.1] at ht54; cases ht54)]
   exact Zgb
theorem Wz {LX : List Chunk} {R : List Fact} {w : World} {vh vo u : Value} {i bk : Nat} {e : Entry} {ms : List Msg} {line id : Int} {xs : List Entry} {bm : Nat} {m : Msg} (hs : St (blk bk 151 [(ep vh 10 i 0), vi line, vi id, vo] :: row 49 vo ms :: foc 80 vh xs i (Entry.cells u e) :: row 3 u e.last :: blk bm 49 m.cells :: LX) R w) (hA : EpAll vh 10 i) (hone : u.oneCell' = true) (hn : ms.length ≤ 500) (hb : EB e) (hl : Ap line) (hid : Ap id) (hm : m.wf) (hline : m.line = line) (hsrc : 0 ≤ m.src ∧ m.src < (e.last.length : Int)) (hla : e.last.length ≤ 4) (hk : m.kind = 1 ∨ m.kind = 2) : Calls Try.prog 101 [bp bk 0, bp bm 0].toArray w (Ca (fun v : Value => .tuple #[]) (fun v => blk bk 151 [(ep vh 10 i 0), vi line, vi id, v] :: row 49 v (ms ++ (Ag e id m).2) :: foc 80 vh xs i (Entry.cells u (Ag e id m).1) :: row 3 u (Ag e id m).1.last :: blk bm 49 m.cells :: LX) (fun v => R)) := by
 have hb0 := hb
 unfold EB Entry.wf Ap at hb0
 have hl0 := hl
 have hid0 := hid
 unfold Ap at hl0 hid0
 have hm0 := hm
 unfold Msg.wf Ap at hm0
 refine Aj Try.func101 rfl Try.ntmps101 rfl hs ?_
 clear hs
 refine Gl ?_
 rcases (show (e.phase ≠ 0) ∨ (e.phase = 0 ∧ m.serial ≤ e.last.getD m.src.toNat 0) ∨ (e.phase = 0 ∧ e.last.getD m.src.toNat 0 < m.serial ∧ 65535 ≤ e.turn) ∨ (e.phase = 0 ∧ e.last.getD m.src.toNat 0 < m.serial ∧ e.turn < 65535) from by omega) with hc | hc | hc | hc
 ·refine Cd ?_
  refine dn7 ?_
  refine djc (fun _ _ => Ao rfl rfl (Gd (by omega))) ?_
  refine djm ?_
  refine dn18 ?_
  refine Zah ?_
  refine dn8 ?_
  refine ZQ ?_
  refine Zdc ?_;intro ρ er
  exact Zf3
 ·refine Zdi ?_
  refine dj (dgy ?_)
  refine Zdr ?_
  refine dj (dgy ?_)
  refine dc (fun _ _ => Ao rfl rfl (K6 (by omega))) ?_
  refine Zaf ?_
  refine dn8 ?_
  refine ZQ ?_
  refine Zdc ?_;intro ρ er
  exact Zf3
 ·refine Zdi ?_
  refine dj (dgy ?_)
  refine Zdr ?_
  refine dj (dgy ?_)
  refine Zb1 ?_
  refine dn7 ?_
  refine dj (dgy ?_)
  refine ZbP ?_
  refine djf ?_
  refine Zdc ?_;intro ρ er
  exact Zf3
 ·refine Zdi ?_
  refine dj (dgy ?_)
  refine Zdr ?_
  refine dj (dgy ?_)
  refine Zb1 ?_
  refine dn7 ?_
  refine dj (dgy ?_)
  refine dc (fun _ _ => Ao rfl rfl (Cm (by omega))) ?_
  refine djf ?_
  refine dnl ?_; intro ρ
  refine Glc ?_
  refine kp [0, 1, 42, 43, 44, 45, 46, 47, 48, 49, 50, 51, 52, 53, 54, 55, 56, 57] ?_
  refine Cd ?_
  refine dn16 ?_
  refine dtl ?_; intro ρ
  refine E5 (xs := e.last) Try.sizeOf3 rfl rfl pkk (getD_some 0 (by omega)) hm.2.2.2.2.1 ?_
  refine Gl ?_
  refine ZdS ?_
  refine jd_ (fun ρ S => foc 80 vh xs i (bif S 33 then [vi e.value, vi e.owner, vi e.sharers, vi e.phase, vi m.src, vi m.serial, .bool (decide (m.kind = 2)), vi e.turn, vi e.need, u] else (bif S 30 then [vi e.value, vi e.owner, vi e.sharers, vi e.phase, vi m.src, vi m.serial, .bool e.alone, vi e.turn, vi e.need, u] else (bif S 27 then [vi e.value, vi e.owner, vi e.sharers, vi e.phase, vi m.src, vi e.serial, .bool e.alone, vi e.turn, vi e.need, u] else [vi e.value, vi e.owner, vi e.sharers, vi e.phase, vi e.who, vi e.serial, .bool e.alone, vi e.turn, vi e.need, u]))) :: blk bk 151 [(ep vh 10 i 0), vi line, vi id, vo] :: row 49 vo ms :: row 3 u (e.last.set m.src.toNat m.serial) :: blk bm 49 m.cells :: (LX)) ?_
  refine dn27 ?_
  refine Ey (T0 := 80) (f := 4) (k := i) (sz := 10) (hv := vh) (xs := xs) (vs := fun ρ => [vi e.value, vi e.owner, vi e.sharers, vi e.phase, vi e.who, vi e.serial, .bool e.alone, vi e.turn, vi e.need, u]) (v := fun ρ => (vi m.src)) rfl Try.sizeOf3 (fun _ => rfl) (fun _ => rfl) (fun _ _ _ _ _ _ _ _ => rfl) (fun _ => rfl) (fun ρ g S hS hB hA => ?_) ?_
  ·have ui : upS S 27 27 = true := rfl; have u30 : upS S 27 30 = S 30 := rfl; have u33 : upS S 27 33 = S 33 := rfl; have h30 : S 30 = false := hA 30 ⟨0, rfl⟩; have h33 : S 33 = false := hA 33 ⟨0, rfl⟩
   simp only [ui, hS, u30, u33, h30, h33, cond_true, cond_false]
   exact pex
  refine dn2 ?_
  refine Ey (T0 := 80) (f := 5) (k := i) (sz := 10) (hv := vh) (xs := xs) (vs := fun ρ => [vi e.value, vi e.owner, vi e.sharers, vi e.phase, vi m.src, vi e.serial, .bool e.alone, vi e.turn, vi e.need, u]) (v := fun ρ => (vi m.serial)) rfl Try.sizeOf3 (fun _ => rfl) (fun _ => rfl) (fun _ _ _ _ _ _ _ _ => rfl) (fun _ => rfl) (fun ρ g S hS hB hA => ?_) ?_
  ·have ui : upS S 30 30 = true := rfl; have u27 : upS S 30 27 = S 27 := rfl; have u33 : upS S 30 33 = S 33 := rfl; have h27 : S 27 = true := hB 27 ⟨0, rfl⟩; have h33 : S 33 = false := hA 33 ⟨0, rfl⟩
   simp only [ui, hS, u27, u33, h27, h33, cond_true, cond_false]
   exact pex
  refine dn2 ?_
  refine Ey (T0 := 80) (f := 6) (k := i) (sz := 10) (hv := vh) (xs := xs) (vs := fun ρ => [vi e.value, vi e.owner, vi e.sharers, vi e.phase, vi m.src, vi m.serial, .bool e.alone, vi e.turn, vi e.need, u]) (v := fun ρ => (.bool (decide (m.kind = 2)))) rfl Try.sizeOf4 (fun _ => rfl) (fun _ => rfl) (fun _ _ _ _ _ _ _ _ => rfl) (fun _ => rfl) (fun ρ g S hS hB hA => ?_) ?_
  ·have ui : upS S 33 33 = true := rfl; have u27 : upS S 33 27 = S 27 := rfl; have u30 : upS S 33 30 = S 30 := rfl; have h27 : S 27 = true := hB 27 ⟨0, rfl⟩; have h30 : S 30 = true := hB 30 ⟨0, rfl⟩
   simp only [ui, hS, u27, u30, h27, h30, cond_true, cond_false]
   exact pex
  refine dnl ?_; intro ρ
  refine xq_ (foc 80 vh xs i [vi e.value, vi e.owner, vi e.sharers, vi e.phase, vi m.src, vi m.serial, .bool (decide (m.kind = 2)), vi e.turn, vi e.need, u] :: blk bk 151 [(ep vh 10 i 0), vi line, vi id, vo] :: row 49 vo ms :: row 3 u (e.last.set m.src.toNat m.serial) :: blk bm 49 m.cells :: (LX)) ?_
  refine Gl ?_
  refine kp [0, 89, 90, 91, 92, 93, 94, 95, 96, 97, 98] ?_
  refine Aa ?_
  refine rn10 ?_
  refine sc ?_
  refine ZK ?_
  have hX : EB ({ e with last := (e.last.set m.src.toNat m.serial), who := m.src, serial := m.serial, alone := m.kind == 2, turn := e.turn + 1 }) := by unfold EB Entry.wf Ap; simp only; omega
  refine An Try.call103 rfl (fun w hs => Lx (e := { e with last := (e.last.set m.src.toNat m.serial), who := m.src, serial := m.serial, alone := m.kind == 2, turn := e.turn + 1 }) (u := u) (ms := ms) (line := line) (id := id) (xs := xs) (LX := row 3 u (e.last.set m.src.toNat m.serial) :: blk bm 49 m.cells :: LX) (Ah hs) hA hone hn hX hl hid) ?_; intro v100
  refine Gl ?_
  have er : Ag e id m = (Bg ({ e with last := (e.last.set m.src.toNat m.serial), who := m.src, serial := m.serial, alone := m.kind == 2, turn := e.turn + 1 }), F5 (Bg ({ e with last := (e.last.set m.src.toNat m.serial), who := m.src, serial := m.serial, alone := m.kind == 2, turn := e.turn + 1 })) m.line id) := by unfold Ag; rw [if_pos (by omega), if_neg (by unfold Dy; omega)]; rfl
  rw [er, hline, Dj]
  refine Bq (.inl rfl) (fun B w hs => Iv rfl _ w) (fun w hs => ⟨v100, rfl, Ah hs⟩)
theorem Aed {LX : List Chunk} {R : List Fact} {w : World} {vh vo u : Value} {i bk : Nat} {e : Entry} {ms : List Msg} {line id : Int} {xs : List Entry} {bm : Nat} {m : Msg} (hs : St (blk bk 151 [(ep vh 10 i 0), vi line, vi id, vo] :: row 49 vo ms :: foc 80 vh xs i (Entry.cells u e) :: row 3 u e.last :: blk bm 49 m.cells :: LX) R w) (hA : EpAll vh 10 i) (hone : u.oneCell' = true) (hn : ms.length ≤ 500) (hb : EB e) (hl : Ap line) (hid : Ap id) (hm : m.wf) (hline : m.line = line) (hsrc : 0 ≤ m.src ∧ m.src < (e.last.length : Int)) (hla : e.last.length ≤ 4) (hk : m.kind = 3) : Calls Try.prog 102 [bp bk 0, bp bm 0].toArray w (Ca (fun v : Value => .tuple #[]) (fun v => blk bk 151 [(ep vh 10 i 0), vi line, vi id, v] :: row 49 v (ms ++ (Ag e id m).2) :: foc 80 vh xs i (Entry.cells u (Ag e id m).1) :: row 3 u (Ag e id m).1.last :: blk bm 49 m.cells :: LX) (fun v => R)) := by
 have hb0 := hb
 unfold EB Entry.wf Ap at hb0
 have hl0 := hl
 have hid0 := hid
 unfold Ap at hl0 hid0
 have hm0 := hm
 unfold Msg.wf Ap at hm0
 refine Aj Try.func102 rfl Try.ntmps102 rfl hs ?_
 clear hs
 refine Gm ?_
 refine Ga8 ?_
 refine cdy ?_ ?_
 ·intro ht11
  refine Gl ?_
  have er : Ag e id m = (e, []) := by unfold Ag; rw [if_neg (by omega), if_pos (by omega), if_pos ht11]
  rw [er, List.append_nil]
  exact Zf3
 ·intro ht11
  refine Gl ?_
  refine Cd ?_
  refine dn16 ?_
  refine djc (fun _ _ => C6 (hc := Ef (xs := e.last) pkk (by omega)) Try.isAgg3) ?_
  refine djc (fun _ _ => Gb Rr) ?_
  refine dnl ?_; intro ρ
  refine Gl ?_
  refine cdy ?_ ?_
  ·intro ht29
   refine Gl ?_
   refine Cd ?_
   refine dn16 ?_
   refine dtl ?_; intro ρ
   refine E5 (xs := e.last) Try.sizeOf3 rfl rfl pkk (getD_some 0 (by omega)) hm.2.2.2.2.1 ?_
   refine Gl ?_
   refine kp [0, 1, 46, 47, 48, 49, 50, 51, 52, 53, 54, 55, 56, 57] ?_
   refine Cd ?_
   refine dn12 ?_
   refine dnl ?_; intro ρ
   refine Gl ?_
   refine cdy ?_ ?_
   ·intro ht57
    refine ZdS ?_
    refine jd_ (fun ρ S => foc 80 vh xs i (bif S 17 then [vi m.value, vi (-1), vi e.sharers, vi e.phase, vi e.who, vi e.serial, .bool e.alone, vi e.turn, vi e.need, u] else (bif S 14 then [vi m.value, vi e.owner, vi e.sharers, vi e.phase, vi e.who, vi e.serial, .bool e.alone, vi e.turn, vi e.need, u] else [vi e.value, vi e.owner, vi e.sharers, vi e.phase, vi e.who, vi e.serial, .bool e.alone, vi e.turn, vi e.need, u])) :: blk bk 151 [(ep vh 10 i 0), vi line, vi id, vo] :: row 49 vo ms :: row 3 u (e.last.set m.src.toNat m.serial) :: blk bm 49 m.cells :: (LX)) ?_
    refine dn14 ?_
    refine Ey (T0 := 80) (f := 0) (k := i) (sz := 10) (hv := vh) (xs := xs) (vs := fun ρ => [vi e.value, vi e.owner, vi e.sharers, vi e.phase, vi e.who, vi e.serial, .bool e.alone, vi e.turn, vi e.need, u]) (v := fun ρ => (vi m.value)) rfl Try.sizeOf3 (fun _ => rfl) (fun _ => rfl) (fun _ _ _ _ _ _ _ _ => rfl) (fun _ => rfl) (fun ρ g S hS hB hA => ?_) ?_
    ·have ui : upS S 14 14 = true := rfl; have u17 : upS S 14 17 = S 17 := rfl; have h17 : S 17 = false := hA 17 ⟨0, rfl⟩
     simp only [ui, hS, u17, h17, cond_true, cond_false]
     exact pex
    refine dn2 ?_
    refine Ey (T0 := 80) (f := 1) (k := i) (sz := 10) (hv := vh) (xs := xs) (vs := fun ρ => [vi m.value, vi e.owner, vi e.sharers, vi e.phase, vi e.who, vi e.serial, .bool e.alone, vi e.turn, vi e.need, u]) (v := fun ρ => (vi (-1))) rfl Try.sizeOf3 (fun _ => rfl) (fun _ => rfl) (fun _ _ _ _ _ _ _ _ => rfl) (fun _ => rfl) (fun ρ g S hS hB hA => ?_) ?_
    ·have ui : upS S 17 17 = true := rfl; have u14 : upS S 17 14 = S 14 := rfl; have h14 : S 14 = true := hB 14 ⟨0, rfl⟩
     simp only [ui, hS, u14, h14, cond_true, cond_false]
     exact pex
    refine dnl ?_; intro ρ
    refine xq_ (foc 80 vh xs i [vi m.value, vi (-1), vi e.sharers, vi e.phase, vi e.who, vi e.serial, .bool e.alone, vi e.turn, vi e.need, u] :: blk bk 151 [(ep vh 10 i 0), vi line, vi id, vo] :: row 49 vo ms :: row 3 u (e.last.set m.src.toNat m.serial) :: blk bm 49 m.cells :: (LX)) ?_
    refine Gl ?_
    refine Zdm ?_;intro hwf
    refine cq_ (blk bk 151 [(ep vh 10 i 0), vi line, vi id, vo] :: row 49 vo ms :: foc 80 vh xs i [vi m.value, vi (-1), vi e.sharers, vi e.phase, vi e.who, vi e.serial, .bool e.alone, vi e.turn, vi e.need, u] :: row 3 u (e.last.set m.src.toNat m.serial) :: blk bm 49 m.cells :: LX) ?_
    refine jd_ (fun ρ S => blk bk 151 (bif S 26 then [(ep vh 10 i 0), vi line, vi id, (Gh.dec (γ := Value) (ρ 23))] else [(ep vh 10 i 0), vi line, vi id, vo]) :: (bif S 23 then row 49 (Gh.dec (γ := Value) (ρ 23)) (ms ++ [(⟨11, id, m.src, line, m.serial, 0, 0, false⟩ : Msg)]) else row 49 vo ms) :: foc 80 vh xs i [vi m.value, vi (-1), vi e.sharers, vi e.phase, vi e.who, vi e.serial, .bool e.alone, vi e.turn, vi e.need, u] :: row 3 u (e.last.set m.src.toNat m.serial) :: blk bm 49 m.cells :: (LX)) ?_
    refine dn4 ?_
    refine Iq (v := vo) (fun ρ S hS hB hA => by have h26 : S 26 = false := hA 26 ⟨0, rfl⟩; simp only [h26, cond_false]; exact C6 (hc := A7 pkk (by repeat (first | exact rfl | refine Di rfl ?_))) Try.isAgg86) (fun _ _ _ _ _ => rfl) ?_
    refine dn3 ?_
    refine Iq (v := vi id) (fun ρ S hS hB hA => by have h26 : S 26 = false := hA 26 ⟨0, rfl⟩; simp only [h26, cond_false]; exact C6 (hc := A7 pkk (by repeat (first | exact rfl | refine Di rfl ?_))) Try.isAgg3) (fun _ _ _ _ _ => rfl) ?_
    refine dn7 ?_
    refine Iq (v := vi line) (fun ρ S hS hB hA => by have h26 : S 26 = false := hA 26 ⟨0, rfl⟩; simp only [h26, cond_false]; exact C6 (hc := A7 pkk (by repeat (first | exact rfl | refine Di rfl ?_))) Try.isAgg3) (fun _ _ _ _ _ => rfl) ?_
    refine dn4 ?_
    first | refine epc (fun _ _ => Eh Ek) ?_ | refine epc (fun _ _ => Ft Ek) ?_ | refine epp (fun _ _ => Eh Ek) ?_ | refine epp (fun _ _ => Ft Ek) ?_
    refine ZcU ?_
    refine F0 (e := 49) (xs := ms) (ys := [(⟨11, id, m.src, line, m.serial, 0, 0, false⟩ : Msg)]) (v := vo) F7 (fun _ => rfl) (fun _ => rfl) rfl (by decide) (fun ρ R hd => (hd.dep (it := ⟨22, _, _, _, _⟩) (by repeat (first | exact List.Mem.head _ | refine List.Mem.tail _ ?_)) ⟨9, rfl⟩ (List.Mem.head _))) (by have : maxN = 16777216 := rfl; simp only [List.length_cons, List.length_nil]; omega) (fun ρ g S hS hB hA => ?_) ?_
    ·exact ZeZ
    refine dn2 ?_
    refine Em (T0 := 151) (f := 3) (vs := fun ρ => [(ep vh 10 i 0), vi line, vi id, vo]) (v := fun ρ => (Gh.dec (γ := Value) (ρ 23))) (fun ρ => bk) Try.sizeOf86 (fun _ => rfl) (fun _ => rfl) (fun ρ S R w L9 hB hd hs => by have h23 : S 23 = true := hB 23 ⟨9, rfl⟩; simp only [h23, cond_true] at hs; exact Ci pkk hs) (fun _ => rfl) (fun ρ g S hS hB hA => ?_) ?_
    ·exact Zfj
    refine dnl ?_; intro ρ
    refine xq_ (blk bk 151 [(ep vh 10 i 0), vi line, vi id, (Gh.dec (γ := Value) (ρ 23))] :: row 49 (Gh.dec (γ := Value) (ρ 23)) (ms ++ [(⟨11, id, m.src, line, m.serial, 0, 0, false⟩ : Msg)]) :: foc 80 vh xs i [vi m.value, vi (-1), vi e.sharers, vi e.phase, vi e.who, vi e.serial, .bool e.alone, vi e.turn, vi e.need, u] :: row 3 u (e.last.set m.src.toNat m.serial) :: blk bm 49 m.cells :: (LX)) ?_
    generalize (Gh.dec (γ := Value) (ρ 22)) = v96
    generalize (Gh.dec (γ := Value) (ρ 23)) = v97
    have er : Ag e id m = ({ e with last := (e.last.set m.src.toNat m.serial), value := m.value, owner := -1 }, [(⟨11, id, m.src, line, m.serial, 0, 0, false⟩ : Msg)]) := by unfold Ag; rw [if_neg (by omega), if_pos (by omega), if_neg ht11]; rw [hline]; unfold E4; rw [if_pos (by unfold Dy; omega), if_pos ht57]
    rw [er]
    refine Bq (.inl rfl) (fun B w hs => Iv rfl _ w) (fun w hs => ⟨v97, rfl, Ah hs⟩)
   ·intro ht57
    refine Gl ?_
    refine Zdm ?_;intro hwf
    refine cq_ (blk bk 151 [(ep vh 10 i 0), vi line, vi id, vo] :: row 49 vo ms :: foc 80 vh xs i [vi e.value, vi e.owner, vi e.sharers, vi e.phase, vi e.who, vi e.serial, .bool e.alone, vi e.turn, vi e.need, u] :: row 3 u (e.last.set m.src.toNat m.serial) :: blk bm 49 m.cells :: LX) ?_
    refine jd_ (fun ρ S => blk bk 151 (bif S 26 then [(ep vh 10 i 0), vi line, vi id, (Gh.dec (γ := Value) (ρ 23))] else [(ep vh 10 i 0), vi line, vi id, vo]) :: (bif S 23 then row 49 (Gh.dec (γ := Value) (ρ 23)) (ms ++ [(⟨11, id, m.src, line, m.serial, 0, 0, false⟩ : Msg)]) else row 49 vo ms) :: foc 80 vh xs i [vi e.value, vi e.owner, vi e.sharers, vi e.phase, vi e.who, vi e.serial, .bool e.alone, vi e.turn, vi e.need, u] :: row 3 u (e.last.set m.src.toNat m.serial) :: blk bm 49 m.cells :: (LX)) ?_
    refine dn4 ?_
    refine Iq (v := vo) (fun ρ S hS hB hA => by have h26 : S 26 = false := hA 26 ⟨0, rfl⟩; simp only [h26, cond_false]; exact C6 (hc := A7 pkk (by repeat (first | exact rfl | refine Di rfl ?_))) Try.isAgg86) (fun _ _ _ _ _ => rfl) ?_
    refine dn3 ?_
    refine Iq (v := vi id) (fun ρ S hS hB hA => by have h26 : S 26 = false := hA 26 ⟨0, rfl⟩; simp only [h26, cond_false]; exact C6 (hc := A7 pkk (by repeat (first | exact rfl | refine Di rfl ?_))) Try.isAgg3) (fun _ _ _ _ _ => rfl) ?_
    refine dn7 ?_
    refine Iq (v := vi line) (fun ρ S hS hB hA => by have h26 : S 26 = false := hA 26 ⟨0, rfl⟩; simp only [h26, cond_false]; exact C6 (hc := A7 pkk (by repeat (first | exact rfl | refine Di rfl ?_))) Try.isAgg3) (fun _ _ _ _ _ => rfl) ?_
    refine dn4 ?_
    first | refine epc (fun _ _ => Eh Ek) ?_ | refine epc (fun _ _ => Ft Ek) ?_ | refine epp (fun _ _ => Eh Ek) ?_ | refine epp (fun _ _ => Ft Ek) ?_
    refine ZcU ?_
    refine F0 (e := 49) (xs := ms) (ys := [(⟨11, id, m.src, line, m.serial, 0, 0, false⟩ : Msg)]) (v := vo) F7 (fun _ => rfl) (fun _ => rfl) rfl (by decide) (fun ρ R hd => (hd.dep (it := ⟨22, _, _, _, _⟩) (by repeat (first | exact List.Mem.head _ | refine List.Mem.tail _ ?_)) ⟨9, rfl⟩ (List.Mem.head _))) (by have : maxN = 16777216 := rfl; simp only [List.length_cons, List.length_nil]; omega) (fun ρ g S hS hB hA => ?_) ?_
    ·exact ZeZ
    refine dn2 ?_
    refine Em (T0 := 151) (f := 3) (vs := fun ρ => [(ep vh 10 i 0), vi line, vi id, vo]) (v := fun ρ => (Gh.dec (γ := Value) (ρ 23))) (fun ρ => bk) Try.sizeOf86 (fun _ => rfl) (fun _ => rfl) (fun ρ S R w L9 hB hd hs => by have h23 : S 23 = true := hB 23 ⟨9, rfl⟩; simp only [h23, cond_true] at hs; exact Ci pkk hs) (fun _ => rfl) (fun ρ g S hS hB hA => ?_) ?_
    ·exact Zfj
    refine dnl ?_; intro ρ
    refine xq_ (blk bk 151 [(ep vh 10 i 0), vi line, vi id, (Gh.dec (γ := Value) (ρ 23))] :: row 49 (Gh.dec (γ := Value) (ρ 23)) (ms ++ [(⟨11, id, m.src, line, m.serial, 0, 0, false⟩ : Msg)]) :: foc 80 vh xs i [vi e.value, vi e.owner, vi e.sharers, vi e.phase, vi e.who, vi e.serial, .bool e.alone, vi e.turn, vi e.need, u] :: row 3 u (e.last.set m.src.toNat m.serial) :: blk bm 49 m.cells :: (LX)) ?_
    generalize (Gh.dec (γ := Value) (ρ 22)) = v96
    generalize (Gh.dec (γ := Value) (ρ 23)) = v97
    have er : Ag e id m = ({ e with last := (e.last.set m.src.toNat m.serial) }, [(⟨11, id, m.src, line, m.serial, 0, 0, false⟩ : Msg)]) := by unfold Ag; rw [if_neg (by omega), if_pos (by omega), if_neg ht11]; rw [hline]; unfold E4; rw [if_pos (by unfold Dy; omega), if_neg ht57]
    rw [er]
    refine Bq (.inl rfl) (fun B w hs => Iv rfl _ w) (fun w hs => ⟨v97, rfl, Ah hs⟩)
  ·intro ht29
   refine Gl ?_
   refine Zdm ?_;intro hwf
   refine cq_ (blk bk 151 [(ep vh 10 i 0), vi line, vi id, vo] :: row 49 vo ms :: foc 80 vh xs i [vi e.value, vi e.owner, vi e.sharers, vi e.phase, vi e.who, vi e.serial, .bool e.alone, vi e.turn, vi e.need, u] :: row 3 u e.last :: blk bm 49 m.cells :: LX) ?_
   refine jd_ (fun ρ S => blk bk 151 (bif S 26 then [(ep vh 10 i 0), vi line, vi id, (Gh.dec (γ := Value) (ρ 23))] else [(ep vh 10 i 0), vi line, vi id, vo]) :: (bif S 23 then row 49 (Gh.dec (γ := Value) (ρ 23)) (ms ++ [(⟨11, id, m.src, line, m.serial, 0, 0, false⟩ : Msg)]) else row 49 vo ms) :: foc 80 vh xs i [vi e.value, vi e.owner, vi e.sharers, vi e.phase, vi e.who, vi e.serial, .bool e.alone, vi e.turn, vi e.need, u] :: row 3 u e.last :: blk bm 49 m.cells :: (LX)) ?_
   refine dn4 ?_
   refine Iq (v := vo) (fun ρ S hS hB hA => by have h26 : S 26 = false := hA 26 ⟨0, rfl⟩; simp only [h26, cond_false]; exact C6 (hc := A7 pkk (by repeat (first | exact rfl | refine Di rfl ?_))) Try.isAgg86) (fun _ _ _ _ _ => rfl) ?_
   refine dn3 ?_
   refine Iq (v := vi id) (fun ρ S hS hB hA => by have h26 : S 26 = false := hA 26 ⟨0, rfl⟩; simp only [h26, cond_false]; exact C6 (hc := A7 pkk (by repeat (first | exact rfl | refine Di rfl ?_))) Try.isAgg3) (fun _ _ _ _ _ => rfl) ?_
   refine dn7 ?_
   refine Iq (v := vi line) (fun ρ S hS hB hA => by have h26 : S 26 = false := hA 26 ⟨0, rfl⟩; simp only [h26, cond_false]; exact C6 (hc := A7 pkk (by repeat (first | exact rfl | refine Di rfl ?_))) Try.isAgg3) (fun _ _ _ _ _ => rfl) ?_
   refine dn4 ?_
   first | refine epc (fun _ _ => Eh Ek) ?_ | refine epc (fun _ _ => Ft Ek) ?_ | refine epp (fun _ _ => Eh Ek) ?_ | refine epp (fun _ _ => Ft Ek) ?_
   refine ZcU ?_
   refine F0 (e := 49) (xs := ms) (ys := [(⟨11, id, m.src, line, m.serial, 0, 0, false⟩ : Msg)]) (v := vo) F7 (fun _ => rfl) (fun _ => rfl) rfl (by decide) (fun ρ R hd => (hd.dep (it := ⟨22, _, _, _, _⟩) (by repeat (first | exact List.Mem.head _ | refine List.Mem.tail _ ?_)) ⟨9, rfl⟩ (List.Mem.head _))) (by have : maxN = 16777216 := rfl; simp only [List.length_cons, List.length_nil]; omega) (fun ρ g S hS hB hA => ?_) ?_
   ·exact ZeZ
   refine dn2 ?_
   refine Em (T0 := 151) (f := 3) (vs := fun ρ => [(ep vh 10 i 0), vi line, vi id, vo]) (v := fun ρ => (Gh.dec (γ := Value) (ρ 23))) (fun ρ => bk) Try.sizeOf86 (fun _ => rfl) (fun _ => rfl) (fun ρ S R w L9 hB hd hs => by have h23 : S 23 = true := hB 23 ⟨9, rfl⟩; simp only [h23, cond_true] at hs; exact Ci pkk hs) (fun _ => rfl) (fun ρ g S hS hB hA => ?_) ?_
   ·exact Zfj
   refine dnl ?_; intro ρ
   refine xq_ (blk bk 151 [(ep vh 10 i 0), vi line, vi id, (Gh.dec (γ := Value) (ρ 23))] :: row 49 (Gh.dec (γ := Value) (ρ 23)) (ms ++ [(⟨11, id, m.src, line, m.serial, 0, 0, false⟩ : Msg)]) :: foc 80 vh xs i [vi e.value, vi e.owner, vi e.sharers, vi e.phase, vi e.who, vi e.serial, .bool e.alone, vi e.turn, vi e.need, u] :: row 3 u e.last :: blk bm 49 m.cells :: (LX)) ?_
   generalize (Gh.dec (γ := Value) (ρ 22)) = v96
   generalize (Gh.dec (γ := Value) (ρ 23)) = v97
   have er : Ag e id m = (e, [(⟨11, id, m.src, line, m.serial, 0, 0, false⟩ : Msg)]) := by unfold Ag; rw [if_neg (by omega), if_pos (by omega), if_neg ht11]; rw [hline]; unfold E4; rw [if_neg (by unfold Dy; omega)]
   rw [er]
   refine Bq (.inl rfl) (fun B w hs => Iv rfl _ w) (fun w hs => ⟨v97, rfl, Ah hs⟩)
theorem En {e : Entry} {id : Int} {m : Msg} (he : EB e) (hm : m.wf) (hs : 0 ≤ m.src ∧ m.src < 4) : EB (Ag e id m).1 := by
 have h0 := he
 unfold EB Entry.wf Ap at h0
 have hm0 := hm
 unfold Msg.wf Ap at hm0
 have b1 := Cw h0.2.1.1 h0.2.1.2 hs.1 hs.2
 have b2 := Cw h0.2.2.1.1 h0.2.2.1.2 hs.1 hs.2
 unfold Ag
 split
 ·split
  ·exact he
  ·refine Ds ?_
   exact ZfF
 split
 ·split
  ·exact he
  ·show EB (E4 e m)
   unfold E4
   split
   ·split
    ·exact ZfF
    ·exact he
   ·exact he
 split
 ·rename_i k3
  have hs4 : 0 ≤ (if e.alone = true then e.sharers else Io e.sharers e.owner) ∧ (if e.alone = true then e.sharers else Io e.sharers e.owner) < 16 := by
   split
   ·omega
   ·obtain ⟨_, _, r, _⟩ := Cw h0.2.1.1 h0.2.1.2 (show 0 ≤ e.owner by omega) h0.2.2.2.2.1.2; exact r
  refine Ds ?_
  exact Zgh
 have hg : EB (Cl e m) := by
  have c1 := b1.2.2.2; have c2 := b2.2.2.2
  unfold Cl EB Entry.wf Ap; simp only; omega
 split
 ·split
  ·exact Ds hg
  ·exact hg
 split
 ·show EB (Dg e)
  unfold Dg
  split
  ·exact ZfF
  ·obtain ⟨_, _, r, _⟩ := Cw h0.2.1.1 h0.2.1.2 h0.2.2.2.1.1 h0.2.2.2.1.2
   exact ZfF
 ·exact he
theorem Tc (e : Entry) (i id : Int) : (F5 e i id).length ≤ 4 := by
 unfold F5; split
 ·simp
 split
 ·rw [List.length_map]; exact Nat.le_trans (List.length_filter_le ..) (by simp)
 split <;> simp
theorem Lc (id : Int) : ∀ (l : List Entry) (i : Int), (Db id i l).length ≤ 4 * l.length
 | [], _ => by simp [Db]
 | e :: l, i => by
  have := Lc id l (i + 1)
  have := Tc e i id
  simp only [Db, List.length_append, List.length_cons]; omega
theorem q_max {P : Program} {n : Nat} {L : List Chunk} {R : List Fact} {al : List (Nat × Value)} {d : Nat} {x : Operand} {T ty : TypeId} {pos : String} {aft : Array Edge} {a : Int} (hx : ev n al x = some (vi a)) (h0 : 0 ≤ a) : Ba P n al L R ⟨some d, .call { callee := .builtin .max, args := #[x, .const (.int .i64 0)], argTypes := #[T, T] }, ty, pos, aft, none⟩ (vi a) :=
 ⟨rfl, fun ρ w h _ => by
  have hx' := h x (by simp [Op.operands, Call.operands]) _ hx
  have hc' := h (.const (.int .i64 0)) (by simp [Op.operands, Call.operands]) _ rfl
  simp [execOp, resolve, invoke, builtin, hx', hc', Builtin.max_, Builtin.max2, show ¬ (a < 0) from by omega]⟩
theorem U3 {v0 : Value} {l : List Entry} {id : Int} {m : Msg} (hs : St (L) R w) (h0 : sl v0 l ∈ R) (hb : ∀ i, i < l.length → EB (l.getD i A6)) (hla : ∀ i, i < l.length → (l.getD i A6).last.length ≤ 4) (hm : m.wf) (hid : Ap id) (hk : ¬ (0 ≤ m.line ∧ m.line < (l.length : Int) ∧ 0 ≤ m.src ∧ m.src < ((Ad l m.line).last.length : Int))) : Calls Try.prog 76 [v0, vi id, .agg m.cells.toArray].toArray w (Ca (fun v : Value × Value => .tuple #[v.1, v.2]) (fun v => L) (fun v => sl v.1 (Ak l id m).1 :: sl v.2 (Ak l id m).2 :: R)) := by
 refine ZaS ?_;intro hlen hm0 hid0
 clear hs
 refine ZaO ?_;intro b5 g13
 rcases (show (m.line < 0) ∨ (¬ m.line < 0 ∧ (l.length : Int) ≤ m.line) ∨ (¬ m.line < 0 ∧ m.line < (l.length : Int) ∧ m.src < 0) ∨ (¬ m.line < 0 ∧ m.line < (l.length : Int) ∧ 0 ≤ m.src ∧ ((Ad l m.line).last.length : Int) ≤ m.src) from by omega) with hc | hc | hc | hc
 ·refine JC.conseq (L' := blk b5 49 m.cells :: L) (R' := sl g13.1 l :: R) (fun w hs => by
   have h1 : g13.2.map EV.e = l := Hy (.head _) hs
   have h2 := M7 hs
   rw [h1] at h2
   exact h2.sub .refl (fun f hf => by
    rcases List.mem_cons.1 hf with e | e
    ·
     exact List.mem_cons.2 (.inl e)
    ·
     exact List.mem_cons.2 (.inr (.tail _ e)))) ?_
  refine Zen ?_
  refine Zcv ?_;intro ρ er
  exact Cj (g13.1, .slice none 0 0) (hs := fun w hs => Ah (St.shut (hs.rowNil 49 Msg)))
 ·refine JC.conseq (L' := blk b5 49 m.cells :: L) (R' := sl g13.1 l :: R) (fun w hs => by
   have h1 : g13.2.map EV.e = l := Hy (.head _) hs
   have h2 := M7 hs
   rw [h1] at h2
   exact h2.sub .refl (fun f hf => by
    rcases List.mem_cons.1 hf with e | e
    ·
     exact List.mem_cons.2 (.inl e)
    ·
     exact List.mem_cons.2 (.inr (.tail _ e)))) ?_
  refine ZbA ?_
  refine dj (dgy ?_)
  refine ZbP ?_
  refine Zaf ?_
  refine dn3 ?_
  refine Zah ?_
  refine Xe ?_
  refine ZQ ?_
  refine Zcv ?_;intro ρ er
  exact Cj (g13.1, .slice none 0 0) (hs := fun w hs => Ah (St.shut (hs.rowNil 49 Msg)))
 ·refine JC.conseq (L' := blk b5 49 m.cells :: L) (R' := sl g13.1 l :: R) (fun w hs => by
   have h1 : g13.2.map EV.e = l := Hy (.head _) hs
   have h2 := M7 hs
   rw [h1] at h2
   exact h2.sub .refl (fun f hf => by
    rcases List.mem_cons.1 hf with e | e
    ·
     exact List.mem_cons.2 (.inl e)
    ·
     exact List.mem_cons.2 (.inr (.tail _ e)))) ?_
  refine ZbA ?_
  refine dj (dgy ?_)
  refine ZY ?_
  refine dj (dgy ?_)
  refine dc (fun _ _ => Ao rfl rfl (Nh (by omega))) ?_
  refine Zaf ?_
  refine Xe ?_
  refine ZQ ?_
  refine Zcv ?_;intro ρ er
  exact Cj (g13.1, .slice none 0 0) (hs := fun w hs => Ah (St.shut (hs.rowNil 49 Msg)))
 ·refine JC.conseq (L' := blk b5 49 m.cells :: L) (R' := sl g13.1 l :: R) (fun w hs => by
   have h1 : g13.2.map EV.e = l := Hy (.head _) hs
   have h2 := M7 hs
   rw [h1] at h2
   exact h2.sub .refl (fun f hf => by
    rcases List.mem_cons.1 hf with e | e
    ·
     exact List.mem_cons.2 (.inl e)
    ·
     exact List.mem_cons.2 (.inr (.tail _ e)))) ?_
  refine ZbU ?_;intro hEw u hE hE0 hL hone hlin
  refine dj (dgy ?_)
  refine ZY ?_
  refine dj (dgy ?_)
  refine Zac ?_
  refine dj (dgy ?_)
  refine dc (fun _ _ => Ao rfl rfl (Jc (show ((Ad l m.line).last.length : Int) ≤ m.src by omega))) ?_
  refine djf ?_
  refine Zcv ?_;intro ρ er
  exact Cj (g13.1, .slice none 0 0) (hs := fun w hs => Ah (St.shut (hs.rowNil 49 Msg)))
theorem U2 {v0 : Value} {l : List Entry} {id : Int} {m : Msg} (hs : St (L) R w) (h0 : sl v0 l ∈ R) (hb : ∀ i, i < l.length → EB (l.getD i A6)) (hla : ∀ i, i < l.length → (l.getD i A6).last.length ≤ 4) (hm : m.wf) (hid : Ap id) (hk : 0 ≤ m.line ∧ m.line < (l.length : Int) ∧ 0 ≤ m.src ∧ m.src < ((Ad l m.line).last.length : Int) ∧ m.kind = 1) : Calls Try.prog 76 [v0, vi id, .agg m.cells.toArray].toArray w (Ca (fun v : Value × Value => .tuple #[v.1, v.2]) (fun v => L) (fun v => sl v.1 (Ak l id m).1 :: sl v.2 (Ak l id m).2 :: R)) := by
 refine ZaS ?_;intro hlen hm0 hid0
 clear hs
 refine ZaO ?_;intro b5 g13
 refine JC.conseqEx (γ := Value) (L' := fun u => foc 80 g13.1 l m.line.toNat (Entry.cells u (Ad l m.line)) :: row 3 u (Ad l m.line).last :: blk b5 49 m.cells :: L) (R' := fun u => pr (u.oneCell' = true) :: R) (fun w hs => by
  have h1 : g13.2.map EV.e = l := Hy (.head _) hs
  obtain ⟨u, h2, h3, h4⟩ := J3 m.line.toNat h1 (by omega) hs
  exact ⟨u, St.pr h3 (h4.sub .refl (fun f hf => .tail _ hf))⟩) (fun uo => ?_)
 refine Zbp ?_;intro honeo hEw u hE hE0 hL hone hlin
 refine dj (dgy ?_)
 refine ZY ?_
 refine dj (dgy ?_)
 refine Zac ?_
 refine dj (dgy ?_)
 refine Zbd ?_;intro ρ hA honeE b51
 refine Zab ?_
 refine dnl ?_; intro ρ
 refine ZL ?_
 refine Ck ?_
 refine Gd6 ?_
 refine ZdF ?_;intro v69 hEB ρ er
 exact Cj (g13.1, v69) (hs := fun w hs => Ah (St.shut (hs.pick pkk)))
theorem U1 {v0 : Value} {l : List Entry} {id : Int} {m : Msg} (hs : St (L) R w) (h0 : sl v0 l ∈ R) (hb : ∀ i, i < l.length → EB (l.getD i A6)) (hla : ∀ i, i < l.length → (l.getD i A6).last.length ≤ 4) (hm : m.wf) (hid : Ap id) (hk : 0 ≤ m.line ∧ m.line < (l.length : Int) ∧ 0 ≤ m.src ∧ m.src < ((Ad l m.line).last.length : Int) ∧ m.kind = 2) : Calls Try.prog 76 [v0, vi id, .agg m.cells.toArray].toArray w (Ca (fun v : Value × Value => .tuple #[v.1, v.2]) (fun v => L) (fun v => sl v.1 (Ak l id m).1 :: sl v.2 (Ak l id m).2 :: R)) := by
 refine ZaS ?_;intro hlen hm0 hid0
 clear hs
 refine ZaO ?_;intro b5 g13
 refine JC.conseqEx (γ := Value) (L' := fun u => foc 80 g13.1 l m.line.toNat (Entry.cells u (Ad l m.line)) :: row 3 u (Ad l m.line).last :: blk b5 49 m.cells :: L) (R' := fun u => pr (u.oneCell' = true) :: R) (fun w hs => by
  have h1 : g13.2.map EV.e = l := Hy (.head _) hs
  obtain ⟨u, h2, h3, h4⟩ := J3 m.line.toNat h1 (by omega) hs
  exact ⟨u, St.pr h3 (h4.sub .refl (fun f hf => .tail _ hf))⟩) (fun uo => ?_)
 refine Zbp ?_;intro honeo hEw u hE hE0 hL hone hlin
 refine dj (dgy ?_)
 refine ZY ?_
 refine dj (dgy ?_)
 refine Zac ?_
 refine dj (dgy ?_)
 refine Zbd ?_;intro ρ hA honeE b51
 refine Zab ?_
 refine dnl ?_; intro ρ
 refine ZL ?_
 refine Av ?_
 refine ZM ?_
 refine Ck ?_
 refine Gd2 ?_
 refine ZdF ?_;intro v69 hEB ρ er
 exact Cj (g13.1, v69) (hs := fun w hs => Ah (St.shut (hs.pick pkk)))
theorem U0 {v0 : Value} {l : List Entry} {id : Int} {m : Msg} (hs : St (L) R w) (h0 : sl v0 l ∈ R) (hb : ∀ i, i < l.length → EB (l.getD i A6)) (hla : ∀ i, i < l.length → (l.getD i A6).last.length ≤ 4) (hm : m.wf) (hid : Ap id) (hk : 0 ≤ m.line ∧ m.line < (l.length : Int) ∧ 0 ≤ m.src ∧ m.src < ((Ad l m.line).last.length : Int) ∧ m.kind = 3) : Calls Try.prog 76 [v0, vi id, .agg m.cells.toArray].toArray w (Ca (fun v : Value × Value => .tuple #[v.1, v.2]) (fun v => L) (fun v => sl v.1 (Ak l id m).1 :: sl v.2 (Ak l id m).2 :: R)) := by
 refine ZaS ?_;intro hlen hm0 hid0
 clear hs
 refine ZaO ?_;intro b5 g13
 refine JC.conseqEx (γ := Value) (L' := fun u => foc 80 g13.1 l m.line.toNat (Entry.cells u (Ad l m.line)) :: row 3 u (Ad l m.line).last :: blk b5 49 m.cells :: L) (R' := fun u => pr (u.oneCell' = true) :: R) (fun w hs => by
  have h1 : g13.2.map EV.e = l := Hy (.head _) hs
  obtain ⟨u, h2, h3, h4⟩ := J3 m.line.toNat h1 (by omega) hs
  exact ⟨u, St.pr h3 (h4.sub .refl (fun f hf => .tail _ hf))⟩) (fun uo => ?_)
 refine Zbp ?_;intro honeo hEw u hE hE0 hL hone hlin
 refine dj (dgy ?_)
 refine ZY ?_
 refine dj (dgy ?_)
 refine Zac ?_
 refine dj (dgy ?_)
 refine Zbd ?_;intro ρ hA honeE b51
 refine Zab ?_
 refine dnl ?_; intro ρ
 refine ZL ?_
 refine Av ?_
 refine ZM ?_
 refine Av ?_
 refine Gd2 ?_
 refine rn2 ?_
 refine Zax ?_
 refine kp [5, 6, 7, 8, 9, 10, 11, 74] ?_
 refine ZC ?_
 refine An Try.call102 rfl (fun w hs => Aed (vh := g13.1) (vo := .slice none 0 0) (u := uo) (i := m.line.toNat) (e := (Ad l m.line)) (ms := []) (line := m.line) (id := id) (xs := l) (m := m) (bm := b5) (LX := L) (Ah hs) hA honeo (by simp) hE hm.2.2.2.1 hid hm rfl (by omega) hL (by omega)) ?_; intro v75
 refine J.conseq (L' := foc 80 g13.1 l m.line.toNat (Entry.cells uo (Ag (Ad l m.line) id m).1) :: row 3 uo (Ag (Ad l m.line) id m).1.last :: blk b51 151 [ep g13.1 10 m.line.toNat 0, vi m.line, vi id, v75] :: row 49 v75 (Ag (Ad l m.line) id m).2 :: L) (fun w hs => by rw [List.nil_append] at hs; exact Ah hs) ?_
 refine Gl ?_
 refine ZbG ?_;intro hEB
 refine ZaB ?_;intro ρ er
 exact Cj (g13.1, v75) (hs := fun w hs => Ah (St.shut (hs.pick pkk)))
theorem Ux {v0 : Value} {l : List Entry} {id : Int} {m : Msg} (hs : St (L) R w) (h0 : sl v0 l ∈ R) (hb : ∀ i, i < l.length → EB (l.getD i A6)) (hla : ∀ i, i < l.length → (l.getD i A6).last.length ≤ 4) (hm : m.wf) (hid : Ap id) (hk : 0 ≤ m.line ∧ m.line < (l.length : Int) ∧ 0 ≤ m.src ∧ m.src < ((Ad l m.line).last.length : Int) ∧ m.kind ≠ 1 ∧ m.kind ≠ 2 ∧ m.kind ≠ 3 ∧ m.kind ≠ 9 ∧ m.kind ≠ 8 ∧ m.kind ≠ 10) : Calls Try.prog 76 [v0, vi id, .agg m.cells.toArray].toArray w (Ca (fun v : Value × Value => .tuple #[v.1, v.2]) (fun v => L) (fun v => sl v.1 (Ak l id m).1 :: sl v.2 (Ak l id m).2 :: R)) := by
 refine ZaS ?_;intro hlen hm0 hid0
 clear hs
 refine ZaO ?_;intro b5 g13
 refine JC.conseqEx (γ := Value) (L' := fun u => foc 80 g13.1 l m.line.toNat (Entry.cells u (Ad l m.line)) :: row 3 u (Ad l m.line).last :: blk b5 49 m.cells :: L) (R' := fun u => pr (u.oneCell' = true) :: R) (fun w hs => by
  have h1 : g13.2.map EV.e = l := Hy (.head _) hs
  obtain ⟨u, h2, h3, h4⟩ := J3 m.line.toNat h1 (by omega) hs
  exact ⟨u, St.pr h3 (h4.sub .refl (fun f hf => .tail _ hf))⟩) (fun uo => ?_)
 refine Zbp ?_;intro honeo hEw u hE hE0 hL hone hlin
 refine dj (dgy ?_)
 refine ZY ?_
 refine dj (dgy ?_)
 refine Zac ?_
 refine dj (dgy ?_)
 refine Zbd ?_;intro ρ hA honeE b51
 refine Zab ?_
 refine ZbX ?_;intro ρ
 refine ZaL ?_
 refine Zb3 ?_;intro eh hEB ρ er
 exact Cj (g13.1, .slice none 0 0) (hs := fun w hs => Ah (St.shut (hs.pick pkk)))
theorem Uy {v0 : Value} {l : List Entry} {id : Int} {m : Msg} (hs : St (L) R w) (h0 : sl v0 l ∈ R) (hb : ∀ i, i < l.length → EB (l.getD i A6)) (hla : ∀ i, i < l.length → (l.getD i A6).last.length ≤ 4) (hm : m.wf) (hid : Ap id) (hk : 0 ≤ m.line ∧ m.line < (l.length : Int) ∧ 0 ≤ m.src ∧ m.src < ((Ad l m.line).last.length : Int) ∧ m.kind = 9) : Calls Try.prog 76 [v0, vi id, .agg m.cells.toArray].toArray w (Ca (fun v : Value × Value => .tuple #[v.1, v.2]) (fun v => L) (fun v => sl v.1 (Ak l id m).1 :: sl v.2 (Ak l id m).2 :: R)) := by
 refine ZaS ?_;intro hlen hm0 hid0
 clear hs
 refine ZaO ?_;intro b5 g13
 refine JC.conseqEx (γ := Value) (L' := fun u => foc 80 g13.1 l m.line.toNat (Entry.cells u (Ad l m.line)) :: row 3 u (Ad l m.line).last :: blk b5 49 m.cells :: L) (R' := fun u => pr (u.oneCell' = true) :: R) (fun w hs => by
  have h1 : g13.2.map EV.e = l := Hy (.head _) hs
  obtain ⟨u, h2, h3, h4⟩ := J3 m.line.toNat h1 (by omega) hs
  exact ⟨u, St.pr h3 (h4.sub .refl (fun f hf => .tail _ hf))⟩) (fun uo => ?_)
 refine Zbp ?_;intro honeo hEw u hE hE0 hL hone hlin
 refine dj (dgy ?_)
 refine ZY ?_
 refine dj (dgy ?_)
 refine Zac ?_
 refine dj (dgy ?_)
 refine Zbd ?_;intro ρ hA honeE b51
 rcases (show (m.turn ≠ (Ad l m.line).turn) ∨ (m.turn = (Ad l m.line).turn ∧ (Ad l m.line).phase ≠ 1) ∨ (m.turn = (Ad l m.line).turn ∧ (Ad l m.line).phase = 1 ∧ m.src ≠ (Ad l m.line).owner) ∨ (m.turn = (Ad l m.line).turn ∧ (Ad l m.line).phase = 1 ∧ m.src = (Ad l m.line).owner) from by omega) with hc | hc | hc | hc
 ·refine Zar ?_
  refine Zba ?_
  refine Zce ?_;intro ρ
  refine dn5 ?_
  refine Zaf ?_
  refine Zbb ?_;intro ρ
  exact Zg9
 ·refine Zar ?_
  refine Za7 ?_
  refine Zce ?_;intro ρ
  refine dn4 ?_
  refine dj (dgy ?_)
  refine ZaE ?_
  refine Zah ?_
  refine Zbb ?_;intro ρ
  exact Zg9
 ·refine Zar ?_
  refine Za7 ?_
  refine Zce ?_;intro ρ
  refine dn4 ?_
  refine dj (dgy ?_)
  refine Zb7 ?_
  refine dj (dgy ?_)
  refine ZaE ?_
  refine ZQ ?_
  refine ZR ?_;intro ρ
  refine Glc ?_
  exact Zg9
 ·refine Zar ?_
  refine Za7 ?_
  refine Zce ?_;intro ρ
  refine dn4 ?_
  refine dj (dgy ?_)
  refine Zb7 ?_
  refine dj (dgy ?_)
  refine Zcl ?_
  refine ZR ?_;intro ρ
  refine Gmc ?_
  refine rn5 ?_
  refine ZbS ?_
  refine Bo (b := ?b1) ?e1 ?_ ?_; case e1 => exact rfl
  ·intro ht108
   refine kp [5, 6, 7, 8, 9, 10, 11, 109, 110, 111, 112, 113, 114, 115, 116, 117, 118, 119, 120] ?_
   refine Zab ?_
   refine djc (fun _ _ => Gb (a := 1) (b := (Ad l m.line).owner) (Rp (by omega) (by omega))) ?_
   refine djc (fun _ _ => Gb (a := (Ad l m.line).sharers) (b := ((2 ^ (Ad l m.line).owner.toNat : Nat) : Int)) (b_orB (by omega) (by omega) (by omega) (by omega))) ?_
   refine dn2 ?_
   refine dtl ?_; intro ρ
   refine sc ?_
   refine Zaj ?_
   refine sc ?_
   refine ZK ?_
   have hX : EB ({ (Ad l m.line) with value := m.value, sharers := (Io (Ad l m.line).sharers (Ad l m.line).owner), owner := -1 }) := by obtain ⟨_, _, r9, _⟩ := Cw hE0.2.1.1 hE0.2.1.2 (show 0 ≤ (Ad l m.line).owner by omega) hE0.2.2.2.2.1.2; unfold EB Entry.wf Ap; simp only; omega
   have eh : (Ag (Ad l m.line) id m) = (Bg ({ (Ad l m.line) with value := m.value, sharers := (Io (Ad l m.line).sharers (Ad l m.line).owner), owner := -1 }), F5 (Bg ({ (Ad l m.line) with value := m.value, sharers := (Io (Ad l m.line).sharers (Ad l m.line).owner), owner := -1 })) m.line id) := by
    have hal : (Ad l m.line).alone = false := by simpa using ht108
    unfold Ag
    rw [if_neg (by omega), if_neg (by omega), if_pos (by omega)]
    unfold Fy
    rw [if_neg (by rw [hal]; decide)]
   refine An Try.call103 rfl (fun w hs => Lx (vh := g13.1) (vo := .slice none 0 0) (u := uo) (i := m.line.toNat) (e := { (Ad l m.line) with value := m.value, sharers := (Io (Ad l m.line).sharers (Ad l m.line).owner), owner := -1 }) (ms := []) (line := m.line) (id := id) (xs := l) (LX := row 3 uo (Ad l m.line).last :: blk b5 49 m.cells :: L) (Ah hs) hA honeo (by simp) hX hm.2.2.2.1 hid) ?_; intro v125
   refine ZdQ ?_;intro hEB ρ er
   exact Cj (g13.1, v125) (hs := fun w hs => Ah (St.shut (hs.pick pkk)))
  ·intro ht108
   refine Gl ?_
   refine kp [5, 6, 7, 8, 9, 10, 11, 121, 122, 123] ?_
   refine ZJ ?_
   refine sc ?_
   refine ZK ?_
   refine Zdf ?_;intro hX
   have eh : (Ag (Ad l m.line) id m) = (Bg ({ (Ad l m.line) with value := m.value, sharers := (Ad l m.line).sharers, owner := -1 }), F5 (Bg ({ (Ad l m.line) with value := m.value, sharers := (Ad l m.line).sharers, owner := -1 })) m.line id) := by
    have hal : (Ad l m.line).alone = true := by simpa using ht108
    unfold Ag
    rw [if_neg (by omega), if_neg (by omega), if_pos (by omega)]
    unfold Fy
    rw [if_pos hal]
   refine An Try.call103 rfl (fun w hs => Lx (vh := g13.1) (vo := .slice none 0 0) (u := uo) (i := m.line.toNat) (e := { (Ad l m.line) with value := m.value, sharers := (Ad l m.line).sharers, owner := -1 }) (ms := []) (line := m.line) (id := id) (xs := l) (LX := row 3 uo (Ad l m.line).last :: blk b5 49 m.cells :: L) (Ah hs) hA honeo (by simp) hX hm.2.2.2.1 hid) ?_; intro v125
   refine ZdQ ?_;intro hEB ρ er
   exact Cj (g13.1, v125) (hs := fun w hs => Ah (St.shut (hs.pick pkk)))
theorem Uz {v0 : Value} {l : List Entry} {id : Int} {m : Msg} (hs : St (L) R w) (h0 : sl v0 l ∈ R) (hb : ∀ i, i < l.length → EB (l.getD i A6)) (hla : ∀ i, i < l.length → (l.getD i A6).last.length ≤ 4) (hm : m.wf) (hid : Ap id) (hk : 0 ≤ m.line ∧ m.line < (l.length : Int) ∧ 0 ≤ m.src ∧ m.src < ((Ad l m.line).last.length : Int) ∧ m.kind = 8) : Calls Try.prog 76 [v0, vi id, .agg m.cells.toArray].toArray w (Ca (fun v : Value × Value => .tuple #[v.1, v.2]) (fun v => L) (fun v => sl v.1 (Ak l id m).1 :: sl v.2 (Ak l id m).2 :: R)) := by
 refine ZaS ?_;intro hlen hm0 hid0
 clear hs
 refine ZaO ?_;intro b5 g13
 refine JC.conseqEx (γ := Value) (L' := fun u => foc 80 g13.1 l m.line.toNat (Entry.cells u (Ad l m.line)) :: row 3 u (Ad l m.line).last :: blk b5 49 m.cells :: L) (R' := fun u => pr (u.oneCell' = true) :: R) (fun w hs => by
  have h1 : g13.2.map EV.e = l := Hy (.head _) hs
  obtain ⟨u, h2, h3, h4⟩ := J3 m.line.toNat h1 (by omega) hs
  exact ⟨u, St.pr h3 (h4.sub .refl (fun f hf => .tail _ hf))⟩) (fun uo => ?_)
 refine Zbp ?_;intro honeo hEw u hE hE0 hL hone hlin
 refine dj (dgy ?_)
 refine ZY ?_
 refine dj (dgy ?_)
 refine Zac ?_
 refine dj (dgy ?_)
 refine Zbd ?_;intro ρ hA honeE b51
 rcases (show (m.turn ≠ (Ad l m.line).turn) ∨ (m.turn = (Ad l m.line).turn ∧ (Ad l m.line).phase ≠ 2) ∨ (m.turn = (Ad l m.line).turn ∧ (Ad l m.line).phase = 2 ∧ Ks (Ad l m.line).need m.src = false) ∨ (m.turn = (Ad l m.line).turn ∧ (Ad l m.line).phase = 2 ∧ Ks (Ad l m.line).need m.src = true) from by rcases Bool.eq_false_or_eq_true (Ks (Ad l m.line).need m.src) with h1 | h1 <;> simp only [h1, and_true, and_false, or_false, false_or, reduceCtorEq] <;> omega) with hc | hc | hc | hc
 ·refine Zar ?_
  refine Zba ?_
  refine djc (fun _ _ => Dx) ?_
  refine ZbX ?_;intro ρ
  refine Zbg ?_
  refine Zah ?_
  refine dn5 ?_
  refine Zaf ?_
  exact ZfL
 ·refine Zb2 ?_;intro ρ
  refine Zbg ?_
  refine Zah ?_
  refine dn4 ?_
  refine dj (dgy ?_)
  refine ZaE ?_
  refine Zah ?_
  exact ZfL
 ·refine Zb2 ?_;intro ρ
  refine Zbg ?_
  refine Zah ?_
  refine dn4 ?_
  refine dj (dgy ?_)
  refine Zb7 ?_
  refine dj (dgy ?_)
  refine dc (fun _ _ => Gb (a := (Ad l m.line).need) (b := m.src) (X3 (by omega) (by omega) (by omega) (by omega))) ?_
  refine dj (dgy ?_)
  refine Zet ?_
  refine dj (dgy ?_)
  refine dc (fun _ _ => Ao rfl rfl (Cb (by rw [if_neg (by rw [hc.2.2]; decide)]; decide))) ?_
  refine ZQ ?_
  refine ZR ?_;intro ρ
  refine ZcD ?_
  refine ZaL ?_
  refine Zbb ?_;intro ρ
  have eh : (Ag (Ad l m.line) id m) = ((Ad l m.line), []) := by unfold Ag; rw [if_neg (by omega), if_neg (by omega), if_neg (by omega), if_neg (fun h => by have h4 := h.2.2.2; rw [hc.2.2] at h4; cases h4), if_neg (by omega)]
  exact ZfZ
 ·have hhas := hc.2.2
  refine Zb2 ?_;intro ρ
  refine Zbg ?_
  refine Zah ?_
  refine dn4 ?_
  refine dj (dgy ?_)
  refine Zb7 ?_
  refine dj (dgy ?_)
  refine dc (fun _ _ => Gb (a := (Ad l m.line).need) (b := m.src) (X3 (by omega) (by omega) (by omega) (by omega))) ?_
  refine dj (dgy ?_)
  refine Zet ?_
  refine dj (dgy ?_)
  refine dc (fun _ _ => Ao rfl rfl (Bf (by rw [if_pos hc.2.2]))) ?_
  refine ZQ ?_
  refine ZR ?_;intro ρ
  refine Glc ?_
  refine kp [5, 6, 7, 8, 9, 10, 11, 151, 152, 153, 154, 155, 156, 157, 158, 159, 160] ?_
  refine Zar ?_
  refine djc (fun _ _ => Gb (a := 1) (b := m.src) (Rp (by omega) (by omega))) ?_
  refine djc (fun _ _ => Gb (a := (Ad l m.line).need) (b := ((2 ^ m.src.toNat : Nat) : Int)) (Nj (by omega) (by omega) (by omega) (by omega))) ?_
  refine dn2 ?_
  refine dtl ?_; intro ρ
  refine sc ?_
  refine Gl ?_
  refine Zar ?_
  refine djc (fun _ _ => Gb (a := 1) (b := m.src) (Rp (by omega) (by omega))) ?_
  refine djc (fun _ _ => Gb (a := (Ad l m.line).sharers) (b := ((2 ^ m.src.toNat : Nat) : Int)) (Nj (by omega) (by omega) (by omega) (by omega))) ?_
  refine dn2 ?_
  refine dtl ?_; intro ρ
  refine ZbS ?_
  refine cdy ?_ ?_
  ·intro ht175
   refine ZC ?_
   have hX : EB ((Cl (Ad l m.line) m)) := by have c1 := (Cw hE0.2.1.1 hE0.2.1.2 (show 0 ≤ m.src by omega) (show m.src < 4 by omega)).2.2.2; have c2 := (Cw hE0.2.2.1.1 hE0.2.2.1.2 (show 0 ≤ m.src by omega) (show m.src < 4 by omega)).2.2.2; unfold Cl EB Entry.wf Ap; simp only; omega
   have eh : (Ag (Ad l m.line) id m) = (Bg ((Cl (Ad l m.line) m)), F5 (Bg ((Cl (Ad l m.line) m))) m.line id) := by
    unfold Ag
    rw [if_neg (by omega), if_neg (by omega), if_neg (by omega), if_pos ⟨by omega, by omega, by omega, hhas⟩, if_pos (by unfold Cl; simp only; omega)]
   refine An Try.call103 rfl (fun w hs => Lx (vh := g13.1) (vo := .slice none 0 0) (u := uo) (i := m.line.toNat) (e := (Cl (Ad l m.line) m)) (ms := []) (line := m.line) (id := id) (xs := l) (LX := row 3 uo (Ad l m.line).last :: blk b5 49 m.cells :: L) (Ah hs) hA honeo (by simp) hX hm.2.2.2.1 hid) ?_; intro v177
   refine J.conseq (L' := foc 80 g13.1 l m.line.toNat (Entry.cells uo (Ag (Ad l m.line) id m).1) :: row 3 uo (Ag (Ad l m.line) id m).1.last :: blk b51 151 [ep g13.1 10 m.line.toNat 0, vi m.line, vi id, v177] :: row 49 v177 (Ag (Ad l m.line) id m).2 :: L) (fun w hs => by rw [List.nil_append] at hs; rw [eh, Dj]; exact Ah hs) ?_
   refine Gl ?_
   refine ZbG ?_;intro hEB
   refine ZaB ?_;intro ρ er
   exact Cj (g13.1, v177) (hs := fun w hs => Ah (St.shut (hs.pick pkk)))
  ·intro ht175
   refine Gl ?_
   have eh : (Ag (Ad l m.line) id m) = ((Cl (Ad l m.line) m), []) := by
    unfold Ag
    rw [if_neg (by omega), if_neg (by omega), if_neg (by omega), if_pos ⟨by omega, by omega, by omega, hhas⟩, if_neg (by unfold Cl; simp only; omega)]
   exact ZfZ
theorem So {v0 : Value} {l : List Entry} {id : Int} {m : Msg} (hs : St (L) R w) (h0 : sl v0 l ∈ R) (hb : ∀ i, i < l.length → EB (l.getD i A6)) (hla : ∀ i, i < l.length → (l.getD i A6).last.length ≤ 4) (hm : m.wf) (hid : Ap id) (hk : 0 ≤ m.line ∧ m.line < (l.length : Int) ∧ 0 ≤ m.src ∧ m.src < ((Ad l m.line).last.length : Int) ∧ m.kind = 10) : Calls Try.prog 76 [v0, vi id, .agg m.cells.toArray].toArray w (Ca (fun v : Value × Value => .tuple #[v.1, v.2]) (fun v => L) (fun v => sl v.1 (Ak l id m).1 :: sl v.2 (Ak l id m).2 :: R)) := by
 refine ZaS ?_;intro hlen hm0 hid0
 clear hs
 refine ZaO ?_;intro b5 g13
 refine JC.conseqEx (γ := Value) (L' := fun u => foc 80 g13.1 l m.line.toNat (Entry.cells u (Ad l m.line)) :: row 3 u (Ad l m.line).last :: blk b5 49 m.cells :: L) (R' := fun u => pr (u.oneCell' = true) :: R) (fun w hs => by
  have h1 : g13.2.map EV.e = l := Hy (.head _) hs
  obtain ⟨u, h2, h3, h4⟩ := J3 m.line.toNat h1 (by omega) hs
  exact ⟨u, St.pr h3 (h4.sub .refl (fun f hf => .tail _ hf))⟩) (fun uo => ?_)
 refine Zbp ?_;intro honeo hEw u hE hE0 hL hone hlin
 refine dj (dgy ?_)
 refine ZY ?_
 refine dj (dgy ?_)
 refine Zac ?_
 refine dj (dgy ?_)
 refine Zbd ?_;intro ρ hA honeE b51
 rcases (show (m.turn ≠ (Ad l m.line).turn) ∨ (m.turn = (Ad l m.line).turn ∧ (Ad l m.line).phase ≠ 3) ∨ (m.turn = (Ad l m.line).turn ∧ (Ad l m.line).phase = 3 ∧ m.src ≠ (Ad l m.line).who) ∨ (m.turn = (Ad l m.line).turn ∧ (Ad l m.line).phase = 3 ∧ m.src = (Ad l m.line).who) from by omega) with hc | hc | hc | hc
 ·refine Zar ?_
  refine Zba ?_
  refine djc (fun _ _ => Dx) ?_
  refine ZbX ?_;intro ρ
  refine Zcd ?_;intro ρ
  refine dn5 ?_
  refine Zaf ?_
  refine Zbb ?_;intro ρ
  exact Zg2
 ·refine Zb2 ?_;intro ρ
  refine Zcd ?_;intro ρ
  refine dn4 ?_
  refine dj (dgy ?_)
  refine ZaE ?_
  refine Zah ?_
  refine Zbb ?_;intro ρ
  exact Zg2
 ·refine Zb2 ?_;intro ρ
  refine Zcd ?_;intro ρ
  refine dn4 ?_
  refine dj (dgy ?_)
  refine Zb7 ?_
  refine dj (dgy ?_)
  refine ZaE ?_
  refine ZQ ?_
  refine ZR ?_;intro ρ
  refine Glc ?_
  exact Zg2
 ·refine Zb2 ?_;intro ρ
  refine Zcd ?_;intro ρ
  refine dn4 ?_
  refine dj (dgy ?_)
  refine Zb7 ?_
  refine dj (dgy ?_)
  refine Zcl ?_
  refine ZR ?_;intro ρ
  refine Glc ?_
  refine Zab ?_
  refine djc (fun _ _ => Gb (a := 1) (b := (Ad l m.line).who) (Rp (by omega) (by omega))) ?_
  refine djc (fun _ _ => Gb (a := (Ad l m.line).sharers) (b := ((2 ^ (Ad l m.line).who.toNat : Nat) : Int)) (b_orB (by omega) (by omega) (by omega) (by omega))) ?_
  refine dn2 ?_
  refine dtl ?_; intro ρ
  refine sc ?_
  refine Gl ?_
  refine kp [6, 7, 8, 9, 10, 213, 214, 215, 216] ?_
  refine Aa ?_
  refine Ga4 ?_
  refine Bo (b := ?b1) ?e1 ?_ ?_; case e1 => exact rfl
  ·intro ht216
   refine Aa ?_
   refine rn8 ?_
   refine sc ?_
   refine Zao ?_
   refine Gm ?_
   refine rn6 ?_
   refine sc ?_
   refine Zao ?_
   refine Zao ?_
   refine Zao ?_
   refine Gl ?_
   have eh : (Ag (Ad l m.line) id m) = ({ (Ad l m.line) with owner := (Ad l m.line).who, sharers := 0, phase := 0, who := 0, serial := 0, alone := false }, []) := by
    unfold Ag
    rw [if_neg (by omega), if_neg (by omega), if_neg (by omega), if_neg (by omega), if_pos (by omega)]
    unfold Dg
    rw [if_pos ht216]
   refine ZbH ?_;intro hEB
   refine kp [6, 7, 8, 10, 239, 240, 241, 242, 243] ?_
   refine ZaB ?_;intro ρ er
   exact ZeN
  ·intro ht216
   refine Gm ?_
   refine rn6 ?_
   refine sc ?_
   refine Zao ?_
   refine Zao ?_
   refine Zao ?_
   refine Gl ?_
   have eh : (Ag (Ad l m.line) id m) = ({ (Ad l m.line) with sharers := Io (Ad l m.line).sharers (Ad l m.line).who, phase := 0, who := 0, serial := 0, alone := false }, []) := by
    unfold Ag
    rw [if_neg (by omega), if_neg (by omega), if_neg (by omega), if_neg (by omega), if_pos (by omega)]
    unfold Dg
    rw [if_neg (by rw [ht216]; decide)]
   exact ZfZ
theorem Qx {v0 : Value} {l : List Entry} {id : Int} {m : Msg} (hs : St (L) R w) (h0 : sl v0 l ∈ R) (hb : ∀ i, i < l.length → EB (l.getD i A6)) (hla : ∀ i, i < l.length → (l.getD i A6).last.length ≤ 4) (hm : m.wf) (hid : Ap id) : Calls Try.prog 76 [v0, vi id, .agg m.cells.toArray].toArray w (Ca (fun v : Value × Value => .tuple #[v.1, v.2]) (fun v => L) (fun v => sl v.1 (Ak l id m).1 :: sl v.2 (Ak l id m).2 :: R)) := by
 by_cases h : 0 ≤ m.line ∧ m.line < (l.length : Int) ∧ 0 ≤ m.src ∧ m.src < ((Ad l m.line).last.length : Int)
 ·by_cases h1 : m.kind = 1
  ·exact U2 hs h0 hb hla hm hid (by omega)
  by_cases h2 : m.kind = 2
  ·exact U1 hs h0 hb hla hm hid (by omega)
  by_cases h3 : m.kind = 3
  ·exact U0 hs h0 hb hla hm hid (by omega)
  by_cases h9 : m.kind = 9
  ·exact Uy hs h0 hb hla hm hid (by omega)
  by_cases h8 : m.kind = 8
  ·exact Uz hs h0 hb hla hm hid (by omega)
  by_cases h10 : m.kind = 10
  ·exact So hs h0 hb hla hm hid (by omega)
  exact Ux hs h0 hb hla hm hid (by omega)
 ·exact U3 hs h0 hb hla hm hid h
theorem Uw {v0 : Value} {l : List Entry} {id : Int} (hs : St (L) R w) (h0 : sl v0 l ∈ R) (hb : ∀ i, i < l.length → EB (l.getD i A6)) (hln : l.length ≤ 100) (hid : Ap id) : Calls Try.prog 79 [v0, vi id].toArray w (Ca (fun v : Value => v) (fun v => L) (fun v => sl v (G7 l id) :: R)) := by
 have hlen := Bh h0 hs
 refine Aj Try.func79 rfl Try.ntmps79 rfl hs ?_
 clear hs
 refine ZS ?_
 refine ZaZ ?_
 refine An Try.call60 rfl (fun w hs => Tq (l := l) hs mm) ?_; intro v10
 refine Zaw ?_
 refine ZW ?_
 refine Bt (γ := Nat × Value) (fun g => g.1 ≤ l.length) (fun g => row 49 g.2 (Db id 0 (l.take g.1)) :: L) (fun _ => sl v10 l :: R) (fun g => [(1, vi id), (5, g.2), (6, v10), (12, vi (l.length : Int)), (13, vi (g.1 : Int))]) (fun g => l.length - g.1) (0, .slice none 0 0) (Nat.zero_le _) alT (fun w hs => hs) ?_
 rintro ⟨k, vs⟩ hk
 try simp only at hk ⊢
 have hsl := Lc id (l.take k) 0
 rw [List.length_take] at hsl
 refine ZB ?_
 refine cdy ?_ ?_
 ·intro ht14
  refine ZD ?_
  refine Lu (l := l) (v := v10) k mm (by omega) (fun _ u => ?_)
  refine JC.know (p := EpAll v10 10 k) (fun w hs => ok_c (v := v10) (i := k) (.head _) w hs) (fun hA => ?_)
  have honeE : (ep v10 10 k 0).oneCell' = true := hA.one
  refine Zat ?_
  refine bx ?_; intro b22
  refine Ga1 ?_
  refine ZW ?_
  refine ZC ?_
  refine An Try.call108 rfl (fun w hs => I8 (vh := v10) (vo := .slice none 0 0) (u := u) (i := k) (e := (l.getD k A6)) (ms := []) (line := (k : Int)) (id := id) (LX := row 49 vs (Db id 0 (l.take k)) :: L) (Ah hs) (X9 (cs := Entry.cells u (l.getD k A6)) mm) hA (by simp) (hb k (by omega)) (by unfold Ap; omega) hid) ?_; intro vq
  refine Gl ?_
  refine JC.shut (v := vq) pkk ?_
  have hs4 := Tc (l.getD k A6) (k : Int) id
  refine Za5 ?_
  refine ap F7 (hb := fun w hs => by have : maxN = 16777216 := rfl; simp only [List.length_append, List.length_nil]; omega) (k := ?_); intro v30
  refine ZE ?_
  refine Be (k + 1, v30) (by show k + 1 ≤ l.length; omega) (by show l.length - (k + 1) < l.length - k; omega) alT (fun w hs => ?_)
  try simp only
  rw [Fa A6 (by omega), H9, List.length_take, Nat.min_eq_left (by omega), Int.zero_add]; exact Ah hs
 ·intro ht14
  refine ZD ?_
  have hkl : k = l.length := by omega
  rw [show Db id 0 (l.take k) = G7 l id from by rw [hkl, List.take_length]; rfl]
  exact Zgd
theorem Z4 {cores lines : Int} (hs : St (L) R w) (hc : 0 ≤ cores ∧ cores ≤ 4) (hl : 0 ≤ lines ∧ lines ≤ 4) : Calls Try.prog 39 [vi cores, vi lines].toArray w (Ca (fun v : Value => v) (fun v => L) (fun v => sl v (Mv cores lines) :: R)) := by
 refine Aj Try.func39 rfl Try.ntmps39 rfl hs ?_
 clear hs
 refine ZS ?_
 refine ZE ?_
 refine JC.rowNil 80 Entry ?_
 refine Bt (γ := Nat × Value) (fun g => (g.1 : Int) ≤ lines) (fun g => row 80 g.2 (List.replicate g.1 (H3 ⟨cores, lines⟩)) :: L) (fun _ => R) (fun g => [(0, vi cores), (5, g.2), (6, vi lines), (7, vi (g.1 : Int))]) (fun g => lines.toNat - g.1) (0, .slice none 0 0) (by show (0 : Int) ≤ lines; omega) alT (fun w hs => hs) ?_
 rintro ⟨k, vs⟩ hk
 try simp only at hk ⊢
 refine ZB ?_
 refine cdy ?_ ?_
 ·intro ht8
  refine ZL ?_
  refine ob (q_max (a := cores) rfl (by omega)) ?_
  refine Te (α := Int) (x0 := 0) (zc := [vi 0]) E3 rfl (by decide) rfl rfl rfl (fun j => ⟨rfl, by unfold Ap; omega⟩) (by omega) (by omega) ?_; intro v12
  refine J.shut .hd ?_
  refine J.know (p := v12.oneCell' = true) (fun w hs => isSlice.one (hs.fact (.head _))) (fun honev12 => ?_)
  refine rn1 ?_
  refine li (α := Entry) [H3 ⟨cores, lines⟩] Q8 rfl (fun j hj => ⟨⟨_, rfl, ⟨_, rfl, hj _ (.head _), Qo ⟨cores, lines⟩⟩⟩, trivial⟩) ?_; intro v14
  refine ap Q8 (hb := fun w hs => by have : maxN = 16777216 := rfl; simp only [List.length_replicate, List.length_cons, List.length_nil]; omega) (k := ?_); intro v15
  refine ZE ?_
  refine Be (k + 1, v15) (by show ((k + 1 : Nat) : Int) ≤ lines; omega) (by show lines.toNat - (k + 1) < lines.toNat - k; omega) alT (fun w hs => ?_)
  try simp only
  rw [Ls]; exact Ah hs
 ·intro ht8
  refine ZD ?_
  have hkl : k = lines.toNat := by omega
  rw [show List.replicate k (H3 ⟨cores, lines⟩) = Mv cores lines from by rw [hkl]; rfl]
  exact Zgd
theorem Qb {v0 : Value} {l : List Entry} {id : Int} {m : Msg} (hs : St (L) R w) (h0 : sl v0 l ∈ R) (hb : ∀ i, i < l.length → EB (l.getD i A6)) (hla : ∀ i, i < l.length → (l.getD i A6).last.length ≤ 4) (hm : m.wf) (hid : Ap id) (hk : ¬ (0 ≤ m.line ∧ m.line < (l.length : Int) ∧ 0 ≤ m.src ∧ m.src < ((Ad l m.line).last.length : Int))) : Calls Try.prog 58 [v0, vi id, .agg m.cells.toArray].toArray w (Ca (fun v : Value × Value => .tuple #[v.1, v.2]) (fun v => L) (fun v => sl v.1 (Ak l id m).1 :: sl v.2 (Ak l id m).2 :: R)) := by
 refine ZaT ?_;intro hlen hm0 hid0
 clear hs
 refine Gm ?_
 refine bx ?_; intro b5
 refine Ga2 ?_
 rcases (show (m.line < 0) ∨ (¬ m.line < 0 ∧ (l.length : Int) ≤ m.line) ∨ (¬ m.line < 0 ∧ m.line < (l.length : Int) ∧ m.src < 0) ∨ (¬ m.line < 0 ∧ m.line < (l.length : Int) ∧ 0 ≤ m.src ∧ ((Ad l m.line).last.length : Int) ≤ m.src) from by omega) with hc | hc | hc | hc
 ·refine Zen ?_
  exact Zfd
 ·refine ZbA ?_
  refine dj (dgy ?_)
  refine ZbP ?_
  refine Zaf ?_
  refine dn3 ?_
  refine Zah ?_
  refine Xe ?_
  refine ZQ ?_
  exact Zfd
 ·refine ZbA ?_
  refine dj (dgy ?_)
  refine ZY ?_
  refine dj (dgy ?_)
  refine dc (fun _ _ => Ao rfl rfl (Nh (by omega))) ?_
  refine Zaf ?_
  refine Xe ?_
  refine ZQ ?_
  exact Zfd
 ·refine ZbU ?_;intro hEw u hE hE0 hL hone hlin
  refine dj (dgy ?_)
  refine ZY ?_
  refine dj (dgy ?_)
  refine Zac ?_
  refine dj (dgy ?_)
  refine dc (fun _ _ => Ao rfl rfl (Jc (show ((Ad l m.line).last.length : Int) ≤ m.src by omega))) ?_
  refine djf ?_
  exact Zfd
theorem P8 {v0 : Value} {l : List Entry} {id : Int} {m : Msg} (hs : St (L) R w) (h0 : sl v0 l ∈ R) (hb : ∀ i, i < l.length → EB (l.getD i A6)) (hla : ∀ i, i < l.length → (l.getD i A6).last.length ≤ 4) (hm : m.wf) (hid : Ap id) (hk : 0 ≤ m.line ∧ m.line < (l.length : Int) ∧ 0 ≤ m.src ∧ m.src < ((Ad l m.line).last.length : Int) ∧ m.kind = 3) : Calls Try.prog 58 [v0, vi id, .agg m.cells.toArray].toArray w (Ca (fun v : Value × Value => .tuple #[v.1, v.2]) (fun v => L) (fun v => sl v.1 (Ak l id m).1 :: sl v.2 (Ak l id m).2 :: R)) := by
 refine ZaT ?_;intro hlen hm0 hid0
 clear hs
 refine Zbs ?_;intro b5 hEw u hE hE0 hL hone hlin
 refine dj (dgy ?_)
 refine ZY ?_
 refine dj (dgy ?_)
 refine Zac ?_
 refine dj (dgy ?_)
 refine Zbe ?_;intro ρ b8 v43
 refine ap E3 (hb := fun w hs => by have : maxN = 16777216 := rfl; simp only [List.length_nil]; omega) (k := ?_); intro v46
 refine ZaA ?_
 refine Zau ?_
 refine Gd1 ?_
 refine Ga3 ?_
 refine cdy ?_ ?_
 ·intro ht100
  refine ZU ?_
  have er : Ak l id m = (l, []) := Df (by omega) (by unfold Ag; rw [if_neg (by omega), if_pos (by omega), if_pos ht100])
  rw [er]
  exact ZeF
 ·intro ht100
  refine Gl ?_
  refine Zar ?_
  refine djc (fun _ _ => C6 (hc := Ef (xs := (Ad l m.line).last) pkk (by omega)) Try.isAgg3) ?_
  refine djc (fun _ _ => Gb Rr) ?_
  refine dnl ?_; intro ρ
  refine Gl ?_
  refine cdy ?_ ?_
  ·intro ht109
   refine Gm ?_
   refine rn6 ?_
   refine E5 (xs := (Ad l m.line).last) Try.sizeOf3 rfl rfl pkk (getD_some 0 (by omega)) hm.2.2.2.2.1 ?_
   refine Gl ?_
   refine JC.shut (v := v46) pkk ?_
   refine JC.know (p := v46.oneCell' = true) (fun w hs => isSlice.one (hs.fact (List.Mem.head _))) (fun hone9 => ?_)
   refine kp [0, 1, 5, 6, 7, 8, 9, 48, 116, 117] ?_
   refine ZA ?_
   refine ZbS ?_
   refine cdy ?_ ?_
   ·intro ht122
    refine ZJ ?_
    refine sc ?_
    refine ZI ?_
    refine Gl ?_
    have er : Ak l id m = (l.set m.line.toNat ({ (Ad l m.line) with last := ((Ad l m.line).last.set m.src.toNat m.serial), value := m.value, owner := -1 }), [⟨11, id, m.src, m.line, m.serial, 0, 0, false⟩]) := Fe (by omega) (by unfold Ag; rw [if_neg (by omega), if_pos (by omega), if_neg ht100]; unfold E4; rw [if_pos (by unfold Dy; omega), if_pos ht122])
    refine cq_ (blk b8 80 (Entry.cells v46 ({ (Ad l m.line) with last := ((Ad l m.line).last.set m.src.toNat m.serial), value := m.value, owner := -1 })) :: blk b5 49 m.cells :: L) ?_
    refine jd_ (fun ρ S => blk b8 80 (Entry.cells v46 ({ (Ad l m.line) with last := ((Ad l m.line).last.set m.src.toNat m.serial), value := m.value, owner := -1 })) :: blk b5 49 m.cells :: L) ?_
    refine dn4 ?_
    refine Cc (γ := Value) (val := fun v => v) (F := fun v => [sl v (l.set m.line.toNat ({ (Ad l m.line) with last := ((Ad l m.line).last.set m.src.toNat m.serial), value := m.value, owner := -1 }))]) Try.call87 (fun _ => rfl) (fun ρ L R w hd hs => Cq (e := { (Ad l m.line) with last := ((Ad l m.line).last.set m.src.toNat m.serial), value := m.value, owner := -1 }) (u := v46) hs (hd.base mm) (hd.base mm) (by first | exact hE.1 | (unfold Entry.wf Ap; simp only; omega)) (by omega)) (fun _ _ _ _ _ => rfl) ?_
    refine ZcO ?_;intro ρ
    refine xq_ (blk b8 80 (Entry.cells v46 ({ (Ad l m.line) with last := ((Ad l m.line).last.set m.src.toNat m.serial), value := m.value, owner := -1 })) :: blk b5 49 m.cells :: L) ?_
    exact Zfo
   ·intro ht122
    refine Gl ?_
    have er : Ak l id m = (l.set m.line.toNat ({ (Ad l m.line) with last := ((Ad l m.line).last.set m.src.toNat m.serial) }), [⟨11, id, m.src, m.line, m.serial, 0, 0, false⟩]) := Fe (by omega) (by unfold Ag; rw [if_neg (by omega), if_pos (by omega), if_neg ht100]; unfold E4; rw [if_pos (by unfold Dy; omega), if_neg ht122])
    refine cq_ (blk b8 80 (Entry.cells v46 ({ (Ad l m.line) with last := ((Ad l m.line).last.set m.src.toNat m.serial) })) :: blk b5 49 m.cells :: L) ?_
    refine jd_ (fun ρ S => blk b8 80 (Entry.cells v46 ({ (Ad l m.line) with last := ((Ad l m.line).last.set m.src.toNat m.serial) })) :: blk b5 49 m.cells :: L) ?_
    refine dn4 ?_
    refine Cc (γ := Value) (val := fun v => v) (F := fun v => [sl v (l.set m.line.toNat ({ (Ad l m.line) with last := ((Ad l m.line).last.set m.src.toNat m.serial) }))]) Try.call87 (fun _ => rfl) (fun ρ L R w hd hs => Cq (e := { (Ad l m.line) with last := ((Ad l m.line).last.set m.src.toNat m.serial) }) (u := v46) hs (hd.base mm) (hd.base mm) (by first | exact hE.1 | (unfold Entry.wf Ap; simp only; omega)) (by omega)) (fun _ _ _ _ _ => rfl) ?_
    refine ZcO ?_;intro ρ
    refine xq_ (blk b8 80 (Entry.cells v46 ({ (Ad l m.line) with last := ((Ad l m.line).last.set m.src.toNat m.serial) })) :: blk b5 49 m.cells :: L) ?_
    exact Zfo
  ·intro ht109
   refine Gl ?_
   have er : Ak l id m = (l.set m.line.toNat ((Ad l m.line)), [⟨11, id, m.src, m.line, m.serial, 0, 0, false⟩]) := Fe (by omega) (by unfold Ag; rw [if_neg (by omega), if_pos (by omega), if_neg ht100]; unfold E4; rw [if_neg (by unfold Dy; omega)])
   refine cq_ (blk b8 80 (Entry.cells u ((Ad l m.line))) :: blk b5 49 m.cells :: L) ?_
   refine jd_ (fun ρ S => blk b8 80 (Entry.cells u ((Ad l m.line))) :: blk b5 49 m.cells :: L) ?_
   refine dn4 ?_
   refine Cc (γ := Value) (val := fun v => v) (F := fun v => [sl v (l.set m.line.toNat ((Ad l m.line)))]) Try.call87 (fun _ => rfl) (fun ρ L R w hd hs => Cq (e := (Ad l m.line)) (u := u) hs (hd.base mm) (hd.base mm) (by first | exact hE.1 | (unfold Entry.wf Ap; simp only; omega)) (by omega)) (fun _ _ _ _ _ => rfl) ?_
   refine ZcO ?_;intro ρ
   refine xq_ (blk b8 80 (Entry.cells u ((Ad l m.line))) :: blk b5 49 m.cells :: L) ?_
   exact Zfo
theorem P5 {v0 : Value} {l : List Entry} {id : Int} {m : Msg} (hs : St (L) R w) (h0 : sl v0 l ∈ R) (hb : ∀ i, i < l.length → EB (l.getD i A6)) (hla : ∀ i, i < l.length → (l.getD i A6).last.length ≤ 4) (hm : m.wf) (hid : Ap id) (hk : 0 ≤ m.line ∧ m.line < (l.length : Int) ∧ 0 ≤ m.src ∧ m.src < ((Ad l m.line).last.length : Int) ∧ m.kind ≠ 1 ∧ m.kind ≠ 2 ∧ m.kind ≠ 3 ∧ m.kind ≠ 9 ∧ m.kind ≠ 8 ∧ m.kind ≠ 10) : Calls Try.prog 58 [v0, vi id, .agg m.cells.toArray].toArray w (Ca (fun v : Value × Value => .tuple #[v.1, v.2]) (fun v => L) (fun v => sl v.1 (Ak l id m).1 :: sl v.2 (Ak l id m).2 :: R)) := by
 refine ZaT ?_;intro hlen hm0 hid0
 clear hs
 refine Zbs ?_;intro b5 hEw u hE hE0 hL hone hlin
 refine dj (dgy ?_)
 refine ZY ?_
 refine dj (dgy ?_)
 refine Zac ?_
 refine dj (dgy ?_)
 refine Zbe ?_;intro ρ b8 v43
 refine ap E3 (hb := fun w hs => by have : maxN = 16777216 := rfl; simp only [List.length_nil]; omega) (k := ?_); intro v46
 refine ZaA ?_
 refine ZF ?_
 refine ZF ?_
 refine ZF ?_
 refine ZF ?_
 refine ZF ?_
 refine ZF ?_
 refine Zbn ?_;intro er
 exact ZeF
theorem Qa {v0 : Value} {l : List Entry} {id : Int} {m : Msg} (hs : St (L) R w) (h0 : sl v0 l ∈ R) (hb : ∀ i, i < l.length → EB (l.getD i A6)) (hla : ∀ i, i < l.length → (l.getD i A6).last.length ≤ 4) (hm : m.wf) (hid : Ap id) (hk : 0 ≤ m.line ∧ m.line < (l.length : Int) ∧ 0 ≤ m.src ∧ m.src < ((Ad l m.line).last.length : Int) ∧ m.kind = 1) : Calls Try.prog 58 [v0, vi id, .agg m.cells.toArray].toArray w (Ca (fun v : Value × Value => .tuple #[v.1, v.2]) (fun v => L) (fun v => sl v.1 (Ak l id m).1 :: sl v.2 (Ak l id m).2 :: R)) := by
 refine ZaT ?_;intro hlen hm0 hid0
 clear hs
 refine Zbs ?_;intro b5 hEw u hE hE0 hL hone hlin
 refine dj (dgy ?_)
 refine ZY ?_
 refine dj (dgy ?_)
 refine Zac ?_
 refine dj (dgy ?_)
 refine Zbe ?_;intro ρ b8 v43
 refine ap E3 (hb := fun w hs => by have : maxN = 16777216 := rfl; simp only [List.length_nil]; omega) (k := ?_); intro v46
 refine ZaA ?_
 exact Ze9
theorem P9 {v0 : Value} {l : List Entry} {id : Int} {m : Msg} (hs : St (L) R w) (h0 : sl v0 l ∈ R) (hb : ∀ i, i < l.length → EB (l.getD i A6)) (hla : ∀ i, i < l.length → (l.getD i A6).last.length ≤ 4) (hm : m.wf) (hid : Ap id) (hk : 0 ≤ m.line ∧ m.line < (l.length : Int) ∧ 0 ≤ m.src ∧ m.src < ((Ad l m.line).last.length : Int) ∧ m.kind = 2) : Calls Try.prog 58 [v0, vi id, .agg m.cells.toArray].toArray w (Ca (fun v : Value × Value => .tuple #[v.1, v.2]) (fun v => L) (fun v => sl v.1 (Ak l id m).1 :: sl v.2 (Ak l id m).2 :: R)) := by
 refine ZaT ?_;intro hlen hm0 hid0
 clear hs
 refine Zbs ?_;intro b5 hEw u hE hE0 hL hone hlin
 refine dj (dgy ?_)
 refine ZY ?_
 refine dj (dgy ?_)
 refine Zac ?_
 refine dj (dgy ?_)
 refine Zbe ?_;intro ρ b8 v43
 refine ap E3 (hb := fun w hs => by have : maxN = 16777216 := rfl; simp only [List.length_nil]; omega) (k := ?_); intro v46
 refine ZaA ?_
 refine ZF ?_
 exact Ze9
theorem P6 {v0 : Value} {l : List Entry} {id : Int} {m : Msg} (hs : St (L) R w) (h0 : sl v0 l ∈ R) (hb : ∀ i, i < l.length → EB (l.getD i A6)) (hla : ∀ i, i < l.length → (l.getD i A6).last.length ≤ 4) (hm : m.wf) (hid : Ap id) (hk : 0 ≤ m.line ∧ m.line < (l.length : Int) ∧ 0 ≤ m.src ∧ m.src < ((Ad l m.line).last.length : Int) ∧ m.kind = 9) : Calls Try.prog 58 [v0, vi id, .agg m.cells.toArray].toArray w (Ca (fun v : Value × Value => .tuple #[v.1, v.2]) (fun v => L) (fun v => sl v.1 (Ak l id m).1 :: sl v.2 (Ak l id m).2 :: R)) := by
 refine ZaT ?_;intro hlen hm0 hid0
 clear hs
 refine Zbs ?_;intro b5 hEw u hE hE0 hL hone hlin
 refine dj (dgy ?_)
 refine ZY ?_
 refine dj (dgy ?_)
 refine Zac ?_
 refine dj (dgy ?_)
 refine Zbe ?_;intro ρ b8 v43
 refine ap E3 (hb := fun w hs => by have : maxN = 16777216 := rfl; simp only [List.length_nil]; omega) (k := ?_); intro v46
 refine ZaA ?_
 refine ZF ?_
 refine Zau ?_
 refine Gd1 ?_
 refine rn4 ?_
 refine jgx (t := 146) (p := ?p1) (hd := ?d1) ?e1 ?_ ?_; case e1 => exact rfl
 ·intro ht146
  refine Gc13 ?_
  exact Zgk
 ·intro ht146
  refine rn7 ?_
  refine jgx (t := 153) (p := ?p2) (hd := ?d2) ?e2 ?_ ?_; case e2 => exact rfl
  ·intro ht153
   refine Gc6 ?_
   exact Zgk
  ·intro ht153
   refine Ga6 ?_
   refine cdy ?_ ?_
   ·intro ht159
    refine Gl ?_
    exact Zgk
   ·intro ht159
    refine Gl ?_
    refine kp [0, 1, 5, 6, 7, 8, 48, 161, 162, 163, 164, 165, 166, 167, 168, 169, 170, 171] ?_
    refine ZH ?_
    refine J2 (t := 164) (b := ?b4) ?e4 ?_ ?_; case e4 => exact rfl
    ·intro ht164
     refine ZG ?_
     generalize hhas : (Ad l m.line).sharers.toNat.testBit (Ad l m.line).owner.toNat = bh
     refine An (val := fun _ => .bool bh) Try.call85 rfl (fun w hs => by have h := Oa (z := (Ad l m.line).sharers.toNat) (k := (Ad l m.line).owner.toNat) hs (by omega) (by omega); rw [Int.toNat_of_nonneg (by omega), Int.toNat_of_nonneg (by omega), hhas] at h; exact h) ?_; intro _
     refine Ga2 ?_
     refine Bo (b := ?b5) ?e5 ?_ ?_; case e5 => exact rfl
     ·intro ht171
      have hp2 : ((2 ^ (Ad l m.line).owner.toNat : Nat) : Int) ≤ 8 := Int.ofNat_le.2 (Nat.pow_le_pow_right (n := 2) (by decide) (show (Ad l m.line).owner.toNat ≤ 3 by omega))
      have hp0 : (0 : Int) ≤ ((2 ^ (Ad l m.line).owner.toNat : Nat) : Int) := Int.natCast_nonneg _
      refine ZcE ?_
      refine Cc (γ := Unit) (val := fun _ => vi ((2 ^ (Ad l m.line).owner.toNat : Nat) : Int)) (F := fun _ => []) Try.call88 (fun _ => rfl) (fun ρ L R w hd hs => by have h := Mi (k := (Ad l m.line).owner.toNat) hs (by omega); rw [Int.toNat_of_nonneg (by omega)] at h; exact h) (fun _ _ _ _ _ => rfl) ?_
      first | refine epc (fun _ _ => Fn) ?_ | refine epc (fun _ _ => Gr) ?_ | refine epp (fun _ _ => Fn) ?_ | refine epp (fun _ _ => Gr) ?_
      refine ZcS ?_;intro ρ
      refine rn3 ?_
      refine sc ?_
      refine ZI ?_
      refine ZK ?_
      have hp3 := Abm hE0.2.1.1 hE0.2.1.2 (show 0 ≤ (Ad l m.line).owner by omega) hE0.2.2.2.2.1.2 (by rw [hhas]; simpa using ht171)
      have hX : EB ({ (Ad l m.line) with value := m.value, sharers := ((Ad l m.line).sharers + ((2 ^ (Ad l m.line).owner.toNat : Nat) : Int)), owner := -1 }) := by unfold EB Entry.wf Ap; simp only; omega
      refine An Try.call86 rfl (fun w hs => J1 (e := { (Ad l m.line) with value := m.value, sharers := ((Ad l m.line).sharers + ((2 ^ (Ad l m.line).owner.toNat : Nat) : Int)), owner := -1 }) (u := u) hs hX (by assumption)) ?_; intro _
      refine s_B (cs := (Bg ({ (Ad l m.line) with value := m.value, sharers := ((Ad l m.line).sharers + ((2 ^ (Ad l m.line).owner.toNat : Nat) : Int)), owner := -1 })).cells u) Try.sizeOf80 ?_
      refine Gl ?_
      have ed : (if (Ad l m.line).alone then (Ad l m.line).sharers else Io (Ad l m.line).sharers (Ad l m.line).owner) = ((Ad l m.line).sharers + ((2 ^ (Ad l m.line).owner.toNat : Nat) : Int)) := by
       obtain ⟨b1, b2, _⟩ := Cw hE0.2.1.1 hE0.2.1.2 (show 0 ≤ (Ad l m.line).owner by omega) hE0.2.2.2.2.1.2
       rw [if_neg (by simpa using ht164), (b2 (by simpa [hhas] using ht171)).1]
      have er : Ak l id m = (l.set m.line.toNat (Bg ({ (Ad l m.line) with value := m.value, sharers := ((Ad l m.line).sharers + ((2 ^ (Ad l m.line).owner.toNat : Nat) : Int)), owner := -1 })), F5 (Bg ({ (Ad l m.line) with value := m.value, sharers := ((Ad l m.line).sharers + ((2 ^ (Ad l m.line).owner.toNat : Nat) : Int)), owner := -1 })) m.line id) := Fe (by omega) (by unfold Ag; rw [if_neg (by omega), if_neg (by omega), if_pos (by omega)]; unfold Fy; rw [ed])
      refine cq_ (blk b8 80 ((Bg ({ (Ad l m.line) with value := m.value, sharers := ((Ad l m.line).sharers + ((2 ^ (Ad l m.line).owner.toNat : Nat) : Int)), owner := -1 })).cells u) :: blk b5 49 m.cells :: L) ?_
      refine jd_ (fun ρ S => blk b8 80 ((Bg ({ (Ad l m.line) with value := m.value, sharers := ((Ad l m.line).sharers + ((2 ^ (Ad l m.line).owner.toNat : Nat) : Int)), owner := -1 })).cells u) :: blk b5 49 m.cells :: L) ?_
      refine dn4 ?_
      refine Cc (γ := Value) (val := fun v => v) (F := fun v => [sl v (l.set m.line.toNat (Bg ({ (Ad l m.line) with value := m.value, sharers := ((Ad l m.line).sharers + ((2 ^ (Ad l m.line).owner.toNat : Nat) : Int)), owner := -1 })))]) Try.call87 (fun _ => rfl) (fun ρ L R w hd hs => Cq (e := Bg ({ (Ad l m.line) with value := m.value, sharers := ((Ad l m.line).sharers + ((2 ^ (Ad l m.line).owner.toNat : Nat) : Int)), owner := -1 })) (u := u) hs (hd.base mm) (by rw [Dj]; exact hd.base mm) (Ds hX).1 (by omega)) (fun _ _ _ _ _ => rfl) ?_
      refine dn4 ?_
      refine Cc (γ := Value) (val := fun v => v) (F := fun v => [sl v (F5 (Bg ({ (Ad l m.line) with value := m.value, sharers := ((Ad l m.line).sharers + ((2 ^ (Ad l m.line).owner.toNat : Nat) : Int)), owner := -1 })) m.line id)]) Try.call54 (fun _ => rfl) (fun ρ L R w hd hs => Iy (e := Bg ({ (Ad l m.line) with value := m.value, sharers := ((Ad l m.line).sharers + ((2 ^ (Ad l m.line).owner.toNat : Nat) : Int)), owner := -1 })) (u := u) hs (Ds hX) (by assumption) hm.2.2.2.1 hid) (fun _ _ _ _ _ => rfl) ?_
      refine ZbC ?_;intro ρ
      refine xq_ (blk b8 80 ((Bg ({ (Ad l m.line) with value := m.value, sharers := ((Ad l m.line).sharers + ((2 ^ (Ad l m.line).owner.toNat : Nat) : Int)), owner := -1 })).cells u) :: blk b5 49 m.cells :: L) ?_
      refine ZbD ?_;intro v287 v292
      exact Cj (v287, v292)
     ·intro ht171
      refine Zaj ?_
      refine sc ?_
      refine ZI ?_
      refine ZK ?_
      skip
      refine Zdf ?_;intro hX
      refine An Try.call86 rfl (fun w hs => J1 (e := { (Ad l m.line) with value := m.value, sharers := (Ad l m.line).sharers, owner := -1 }) (u := u) hs hX (by assumption)) ?_; intro _
      refine s_B (cs := (Bg ({ (Ad l m.line) with value := m.value, sharers := (Ad l m.line).sharers, owner := -1 })).cells u) Try.sizeOf80 ?_
      refine Gl ?_
      have ed : (if (Ad l m.line).alone then (Ad l m.line).sharers else Io (Ad l m.line).sharers (Ad l m.line).owner) = (Ad l m.line).sharers := by
       obtain ⟨b1, b2, _⟩ := Cw hE0.2.1.1 hE0.2.1.2 (show 0 ≤ (Ad l m.line).owner by omega) hE0.2.2.2.2.1.2
       rw [if_neg (by simpa using ht164), (b1 (by simpa [hhas] using ht171)).1]
      refine Zd8 ?_;intro er ρ v287 v292
      exact Cj (v287, v292)
    ·intro ht164
     refine Gd7 ?_
     refine rn3 ?_
     refine sc ?_
     refine ZI ?_
     refine ZK ?_
     skip
     refine Zdf ?_;intro hX
     refine An Try.call86 rfl (fun w hs => J1 (e := { (Ad l m.line) with value := m.value, sharers := (Ad l m.line).sharers, owner := -1 }) (u := u) hs hX (by assumption)) ?_; intro _
     refine s_B (cs := (Bg ({ (Ad l m.line) with value := m.value, sharers := (Ad l m.line).sharers, owner := -1 })).cells u) Try.sizeOf80 ?_
     refine Gl ?_
     have ed : (if (Ad l m.line).alone then (Ad l m.line).sharers else Io (Ad l m.line).sharers (Ad l m.line).owner) = (Ad l m.line).sharers := by
      obtain ⟨b1, b2, _⟩ := Cw hE0.2.1.1 hE0.2.1.2 (show 0 ≤ (Ad l m.line).owner by omega) hE0.2.2.2.2.1.2
      rw [if_pos (by simpa using ht164)]
     refine Zd8 ?_;intro er ρ v287 v292
     exact Cj (v287, v292)
theorem P7 {v0 : Value} {l : List Entry} {id : Int} {m : Msg} (hs : St (L) R w) (h0 : sl v0 l ∈ R) (hb : ∀ i, i < l.length → EB (l.getD i A6)) (hla : ∀ i, i < l.length → (l.getD i A6).last.length ≤ 4) (hm : m.wf) (hid : Ap id) (hk : 0 ≤ m.line ∧ m.line < (l.length : Int) ∧ 0 ≤ m.src ∧ m.src < ((Ad l m.line).last.length : Int) ∧ m.kind = 8) : Calls Try.prog 58 [v0, vi id, .agg m.cells.toArray].toArray w (Ca (fun v : Value × Value => .tuple #[v.1, v.2]) (fun v => L) (fun v => sl v.1 (Ak l id m).1 :: sl v.2 (Ak l id m).2 :: R)) := by
 refine ZaT ?_;intro hlen hm0 hid0
 clear hs
 refine Zbs ?_;intro b5 hEw u hE hE0 hL hone hlin
 refine dj (dgy ?_)
 refine ZY ?_
 refine dj (dgy ?_)
 refine Zac ?_
 refine dj (dgy ?_)
 refine Zbe ?_;intro ρ b8 v43
 refine ap E3 (hb := fun w hs => by have : maxN = 16777216 := rfl; simp only [List.length_nil]; omega) (k := ?_); intro v46
 refine ZaA ?_
 refine ZaX ?_
 refine Gd1 ?_
 refine rn4 ?_
 refine jgx (t := 190) (p := ?p1) (hd := ?d1) ?e1 ?_ ?_; case e1 => exact rfl
 ·intro ht190
  refine Gc14 ?_
  refine ZcL ?_;intro er
  exact ZeF
 ·intro ht190
  refine rn7 ?_
  refine jgx (t := 197) (p := ?p2) (hd := ?d2) ?e2 ?_ ?_; case e2 => exact rfl
  ·intro ht197
   refine Gc7 ?_
   refine ZcL ?_;intro er
   exact ZeF
  ·intro ht197
   refine ZG ?_
   generalize hhas : (Ad l m.line).need.toNat.testBit m.src.toNat = bh
   refine An (val := fun _ => .bool bh) Try.call85 rfl (fun w hs => by have h := Oa (z := (Ad l m.line).need.toNat) (k := m.src.toNat) hs (by omega) (by omega); rw [Int.toNat_of_nonneg (by omega), Int.toNat_of_nonneg (by omega), hhas] at h; exact h) ?_; intro _
   refine Ga2 ?_
   refine Bo (b := ?b3) ?e3 ?_ ?_; case e3 => exact rfl
   ·intro ht204
    refine Gl ?_
    refine ZcL ?_;intro er
    exact ZeF
   ·intro ht204
    refine Gl ?_
    have hp2 : ((2 ^ m.src.toNat : Nat) : Int) ≤ 8 := Int.ofNat_le.2 (Nat.pow_le_pow_right (n := 2) (by decide) (show m.src.toNat ≤ 3 by omega))
    have hp0 : (0 : Int) ≤ ((2 ^ m.src.toNat : Nat) : Int) := Int.natCast_nonneg _
    refine kp [0, 1, 5, 6, 7, 8, 48, 206, 207, 208, 209, 210, 211, 212] ?_
    refine ZcE ?_
    refine ZdT ?_
    first | refine epc (fun _ _ => Qe) ?_ | refine epp (fun _ _ => Qe) ?_
    refine ZcS ?_;intro ρ
    refine rn4 ?_
    generalize hhasS : (Ad l m.line).sharers.toNat.testBit m.src.toNat = bhS
    refine An (val := fun _ => .bool bhS) Try.call85 rfl (fun w hs => by have h := Oa (z := (Ad l m.line).sharers.toNat) (k := m.src.toNat) hs (by omega) (by omega); rw [Int.toNat_of_nonneg (by omega), Int.toNat_of_nonneg (by omega), hhasS] at h; exact h) ?_; intro _
    refine Gl ?_
    refine Bo (b := ?b4) ?e4 ?_ ?_; case e4 => exact rfl
    ·intro ht217
     refine cq_ (blk b8 80 [vi (Ad l m.line).value, vi (Ad l m.line).owner, vi (Ad l m.line).sharers, vi (Ad l m.line).phase, vi (Ad l m.line).who, vi (Ad l m.line).serial, .bool (Ad l m.line).alone, vi (Ad l m.line).turn, vi ((Ad l m.line).need - ((2 ^ m.src.toNat : Nat) : Int)), u] :: blk b5 49 m.cells :: L) ?_
     refine jd_ (fun ρ S => blk b8 80 [vi (Ad l m.line).value, vi (Ad l m.line).owner, vi (Ad l m.line).sharers, vi (Ad l m.line).phase, vi (Ad l m.line).who, vi (Ad l m.line).serial, .bool (Ad l m.line).alone, vi (Ad l m.line).turn, vi ((Ad l m.line).need - ((2 ^ m.src.toNat : Nat) : Int)), u] :: blk b5 49 m.cells :: L) ?_
     refine dn4 ?_
     refine ZdT ?_
     first | refine epc (fun _ _ => Qe) ?_ | refine epp (fun _ _ => Qe) ?_
     refine dtl ?_; intro ρ
     refine J.conseq (L' := blk b8 80 [vi (Ad l m.line).value, vi (Ad l m.line).owner, vi (Ad l m.line).sharers, vi (Ad l m.line).phase, vi (Ad l m.line).who, vi (Ad l m.line).serial, .bool (Ad l m.line).alone, vi (Ad l m.line).turn, vi ((Ad l m.line).need - ((2 ^ m.src.toNat : Nat) : Int)), u] :: blk b5 49 m.cells :: L) (fun w hs => hs) ?_
     refine ZI ?_
     refine ZU ?_
     refine cdy ?_ ?_
     ·intro ht227
      refine Gl ?_
      refine Zcy ?_;intro hh
      have hhS : (Ad l m.line).sharers.toNat.testBit m.src.toNat = true := by rw [hhasS]; exact ht217
      have eg : Cl (Ad l m.line) m = { (Ad l m.line) with need := ((Ad l m.line).need - ((2 ^ m.src.toNat : Nat) : Int)), sharers := ((Ad l m.line).sharers - ((2 ^ m.src.toNat : Nat) : Int)) } := by
       exact Zfy
      refine ZV ?_
      have er : Ak l id m = (l.set m.line.toNat ({ (Ad l m.line) with need := ((Ad l m.line).need - ((2 ^ m.src.toNat : Nat) : Int)), sharers := ((Ad l m.line).sharers - ((2 ^ m.src.toNat : Nat) : Int)) }), []) := Fe (by omega) (by unfold Ag; rw [if_neg (by omega), if_neg (by omega), if_neg (by omega), if_pos ⟨by omega, by omega, by omega, hh⟩, eg, if_neg (by simp only; omega)])
      refine ZH ?_
      refine An Try.call87 rfl (fun w hs => Cq (e := { (Ad l m.line) with need := ((Ad l m.line).need - ((2 ^ m.src.toNat : Nat) : Int)), sharers := ((Ad l m.line).sharers - ((2 ^ m.src.toNat : Nat) : Int)) }) (u := u) hs mm mm (by unfold Entry.wf Ap; simp only; omega) (by omega)) ?_; intro v232
      refine Ga2 ?_
      rw [er]
      exact Cj (v232, .slice none 0 0)
     ·intro ht227
      refine ZK ?_
      have hp3 := Pp hE0.2.2.1.1 hE0.2.2.1.2 (show 0 ≤ m.src by omega) (show m.src < 4 by omega) (by rw [hhas]; simpa using ht204)
      have hp4 := Pp hE0.2.1.1 hE0.2.1.2 (show 0 ≤ m.src by omega) (show m.src < 4 by omega) (by rw [hhasS]; exact ht217)
      have hX : EB ({ (Ad l m.line) with need := ((Ad l m.line).need - ((2 ^ m.src.toNat : Nat) : Int)), sharers := ((Ad l m.line).sharers - ((2 ^ m.src.toNat : Nat) : Int)) }) := by unfold EB Entry.wf Ap; simp only; omega
      refine An Try.call86 rfl (fun w hs => J1 (e := { (Ad l m.line) with need := ((Ad l m.line).need - ((2 ^ m.src.toNat : Nat) : Int)), sharers := ((Ad l m.line).sharers - ((2 ^ m.src.toNat : Nat) : Int)) }) (u := u) hs hX (by assumption)) ?_; intro _
      refine s_B (cs := (Bg ({ (Ad l m.line) with need := ((Ad l m.line).need - ((2 ^ m.src.toNat : Nat) : Int)), sharers := ((Ad l m.line).sharers - ((2 ^ m.src.toNat : Nat) : Int)) })).cells u) Try.sizeOf80 ?_
      refine Gl ?_
      refine Zcy ?_;intro hh
      have hhS : (Ad l m.line).sharers.toNat.testBit m.src.toNat = true := by rw [hhasS]; exact ht217
      have eg : Cl (Ad l m.line) m = { (Ad l m.line) with need := ((Ad l m.line).need - ((2 ^ m.src.toNat : Nat) : Int)), sharers := ((Ad l m.line).sharers - ((2 ^ m.src.toNat : Nat) : Int)) } := by
       exact Zfy
      have er : Ak l id m = (l.set m.line.toNat (Bg ({ (Ad l m.line) with need := ((Ad l m.line).need - ((2 ^ m.src.toNat : Nat) : Int)), sharers := ((Ad l m.line).sharers - ((2 ^ m.src.toNat : Nat) : Int)) })), F5 (Bg ({ (Ad l m.line) with need := ((Ad l m.line).need - ((2 ^ m.src.toNat : Nat) : Int)), sharers := ((Ad l m.line).sharers - ((2 ^ m.src.toNat : Nat) : Int)) })) m.line id) := Fe (by omega) (by unfold Ag; rw [if_neg (by omega), if_neg (by omega), if_neg (by omega), if_pos ⟨by omega, by omega, by omega, hh⟩, eg, if_pos (by simp only; omega)])
      refine cq_ (blk b8 80 ((Bg ({ (Ad l m.line) with need := ((Ad l m.line).need - ((2 ^ m.src.toNat : Nat) : Int)), sharers := ((Ad l m.line).sharers - ((2 ^ m.src.toNat : Nat) : Int)) })).cells u) :: blk b5 49 m.cells :: L) ?_
      refine jd_ (fun ρ S => blk b8 80 ((Bg ({ (Ad l m.line) with need := ((Ad l m.line).need - ((2 ^ m.src.toNat : Nat) : Int)), sharers := ((Ad l m.line).sharers - ((2 ^ m.src.toNat : Nat) : Int)) })).cells u) :: blk b5 49 m.cells :: L) ?_
      refine dn4 ?_
      refine Cc (γ := Value) (val := fun v => v) (F := fun v => [sl v (l.set m.line.toNat (Bg ({ (Ad l m.line) with need := ((Ad l m.line).need - ((2 ^ m.src.toNat : Nat) : Int)), sharers := ((Ad l m.line).sharers - ((2 ^ m.src.toNat : Nat) : Int)) })))]) Try.call87 (fun _ => rfl) (fun ρ L R w hd hs => Cq (e := Bg ({ (Ad l m.line) with need := ((Ad l m.line).need - ((2 ^ m.src.toNat : Nat) : Int)), sharers := ((Ad l m.line).sharers - ((2 ^ m.src.toNat : Nat) : Int)) })) (u := u) hs (hd.base mm) (by rw [Dj]; exact hd.base mm) (Ds hX).1 (by omega)) (fun _ _ _ _ _ => rfl) ?_
      refine dn4 ?_
      refine Cc (γ := Value) (val := fun v => v) (F := fun v => [sl v (F5 (Bg ({ (Ad l m.line) with need := ((Ad l m.line).need - ((2 ^ m.src.toNat : Nat) : Int)), sharers := ((Ad l m.line).sharers - ((2 ^ m.src.toNat : Nat) : Int)) })) m.line id)]) Try.call54 (fun _ => rfl) (fun ρ L R w hd hs => Iy (e := Bg ({ (Ad l m.line) with need := ((Ad l m.line).need - ((2 ^ m.src.toNat : Nat) : Int)), sharers := ((Ad l m.line).sharers - ((2 ^ m.src.toNat : Nat) : Int)) })) (u := u) hs (Ds hX) (by assumption) hm.2.2.2.1 hid) (fun _ _ _ _ _ => rfl) ?_
      refine ZbC ?_;intro ρ
      refine xq_ (blk b8 80 ((Bg ({ (Ad l m.line) with need := ((Ad l m.line).need - ((2 ^ m.src.toNat : Nat) : Int)), sharers := ((Ad l m.line).sharers - ((2 ^ m.src.toNat : Nat) : Int)) })).cells u) :: blk b5 49 m.cells :: L) ?_
      refine ZbD ?_;intro v287 v292
      exact Cj (v287, v292)
    ·intro ht217
     refine ZU ?_
     refine cdy ?_ ?_
     ·intro ht227
      refine Gl ?_
      refine Zcy ?_;intro hh
      have hhS : (Ad l m.line).sharers.toNat.testBit m.src.toNat = false := by rw [hhasS]; simpa using ht217
      have eg : Cl (Ad l m.line) m = { (Ad l m.line) with need := ((Ad l m.line).need - ((2 ^ m.src.toNat : Nat) : Int)), sharers := (Ad l m.line).sharers } := by
       exact Zfz
      refine ZV ?_
      have er : Ak l id m = (l.set m.line.toNat ({ (Ad l m.line) with need := ((Ad l m.line).need - ((2 ^ m.src.toNat : Nat) : Int)), sharers := (Ad l m.line).sharers }), []) := Fe (by omega) (by unfold Ag; rw [if_neg (by omega), if_neg (by omega), if_neg (by omega), if_pos ⟨by omega, by omega, by omega, hh⟩, eg, if_neg (by simp only; omega)])
      refine ZH ?_
      refine An Try.call87 rfl (fun w hs => Cq (e := { (Ad l m.line) with need := ((Ad l m.line).need - ((2 ^ m.src.toNat : Nat) : Int)), sharers := (Ad l m.line).sharers }) (u := u) hs mm mm (by unfold Entry.wf Ap; simp only; omega) (by omega)) ?_; intro v232
      refine Ga2 ?_
      rw [er]
      exact Cj (v232, .slice none 0 0)
     ·intro ht227
      refine ZK ?_
      have hp3 := Pp hE0.2.2.1.1 hE0.2.2.1.2 (show 0 ≤ m.src by omega) (show m.src < 4 by omega) (by rw [hhas]; simpa using ht204)
      have hX : EB ({ (Ad l m.line) with need := ((Ad l m.line).need - ((2 ^ m.src.toNat : Nat) : Int)), sharers := (Ad l m.line).sharers }) := by unfold EB Entry.wf Ap; simp only; omega
      refine An Try.call86 rfl (fun w hs => J1 (e := { (Ad l m.line) with need := ((Ad l m.line).need - ((2 ^ m.src.toNat : Nat) : Int)), sharers := (Ad l m.line).sharers }) (u := u) hs hX (by assumption)) ?_; intro _
      refine s_B (cs := (Bg ({ (Ad l m.line) with need := ((Ad l m.line).need - ((2 ^ m.src.toNat : Nat) : Int)), sharers := (Ad l m.line).sharers })).cells u) Try.sizeOf80 ?_
      refine Gl ?_
      refine Zcy ?_;intro hh
      have hhS : (Ad l m.line).sharers.toNat.testBit m.src.toNat = false := by rw [hhasS]; simpa using ht217
      have eg : Cl (Ad l m.line) m = { (Ad l m.line) with need := ((Ad l m.line).need - ((2 ^ m.src.toNat : Nat) : Int)), sharers := (Ad l m.line).sharers } := by
       exact Zfz
      have er : Ak l id m = (l.set m.line.toNat (Bg ({ (Ad l m.line) with need := ((Ad l m.line).need - ((2 ^ m.src.toNat : Nat) : Int)), sharers := (Ad l m.line).sharers })), F5 (Bg ({ (Ad l m.line) with need := ((Ad l m.line).need - ((2 ^ m.src.toNat : Nat) : Int)), sharers := (Ad l m.line).sharers })) m.line id) := Fe (by omega) (by unfold Ag; rw [if_neg (by omega), if_neg (by omega), if_neg (by omega), if_pos ⟨by omega, by omega, by omega, hh⟩, eg, if_pos (by simp only; omega)])
      refine cq_ (blk b8 80 ((Bg ({ (Ad l m.line) with need := ((Ad l m.line).need - ((2 ^ m.src.toNat : Nat) : Int)), sharers := (Ad l m.line).sharers })).cells u) :: blk b5 49 m.cells :: L) ?_
      refine jd_ (fun ρ S => blk b8 80 ((Bg ({ (Ad l m.line) with need := ((Ad l m.line).need - ((2 ^ m.src.toNat : Nat) : Int)), sharers := (Ad l m.line).sharers })).cells u) :: blk b5 49 m.cells :: L) ?_
      refine dn4 ?_
      refine Cc (γ := Value) (val := fun v => v) (F := fun v => [sl v (l.set m.line.toNat (Bg ({ (Ad l m.line) with need := ((Ad l m.line).need - ((2 ^ m.src.toNat : Nat) : Int)), sharers := (Ad l m.line).sharers })))]) Try.call87 (fun _ => rfl) (fun ρ L R w hd hs => Cq (e := Bg ({ (Ad l m.line) with need := ((Ad l m.line).need - ((2 ^ m.src.toNat : Nat) : Int)), sharers := (Ad l m.line).sharers })) (u := u) hs (hd.base mm) (by rw [Dj]; exact hd.base mm) (Ds hX).1 (by omega)) (fun _ _ _ _ _ => rfl) ?_
      refine dn4 ?_
      refine Cc (γ := Value) (val := fun v => v) (F := fun v => [sl v (F5 (Bg ({ (Ad l m.line) with need := ((Ad l m.line).need - ((2 ^ m.src.toNat : Nat) : Int)), sharers := (Ad l m.line).sharers })) m.line id)]) Try.call54 (fun _ => rfl) (fun ρ L R w hd hs => Iy (e := Bg ({ (Ad l m.line) with need := ((Ad l m.line).need - ((2 ^ m.src.toNat : Nat) : Int)), sharers := (Ad l m.line).sharers })) (u := u) hs (Ds hX) (by assumption) hm.2.2.2.1 hid) (fun _ _ _ _ _ => rfl) ?_
      refine ZbC ?_;intro ρ
      refine xq_ (blk b8 80 ((Bg ({ (Ad l m.line) with need := ((Ad l m.line).need - ((2 ^ m.src.toNat : Nat) : Int)), sharers := (Ad l m.line).sharers })).cells u) :: blk b5 49 m.cells :: L) ?_
      refine ZbD ?_;intro v287 v292
      exact Cj (v287, v292)
theorem Ox {v0 : Value} {l : List Entry} {id : Int} {m : Msg} (hs : St (L) R w) (h0 : sl v0 l ∈ R) (hb : ∀ i, i < l.length → EB (l.getD i A6)) (hla : ∀ i, i < l.length → (l.getD i A6).last.length ≤ 4) (hm : m.wf) (hid : Ap id) (hk : 0 ≤ m.line ∧ m.line < (l.length : Int) ∧ 0 ≤ m.src ∧ m.src < ((Ad l m.line).last.length : Int) ∧ m.kind = 10) : Calls Try.prog 58 [v0, vi id, .agg m.cells.toArray].toArray w (Ca (fun v : Value × Value => .tuple #[v.1, v.2]) (fun v => L) (fun v => sl v.1 (Ak l id m).1 :: sl v.2 (Ak l id m).2 :: R)) := by
 refine ZaT ?_;intro hlen hm0 hid0
 clear hs
 refine Zbs ?_;intro b5 hEw u hE hE0 hL hone hlin
 refine dj (dgy ?_)
 refine ZY ?_
 refine dj (dgy ?_)
 refine Zac ?_
 refine dj (dgy ?_)
 refine Zbe ?_;intro ρ b8 v43
 refine ap E3 (hb := fun w hs => by have : maxN = 16777216 := rfl; simp only [List.length_nil]; omega) (k := ?_); intro v46
 refine ZaA ?_
 refine ZF ?_
 refine ZaX ?_
 refine Gd1 ?_
 refine rn4 ?_
 refine jgx (t := 240) (p := ?p1) (hd := ?d1) ?e1 ?_ ?_; case e1 => exact rfl
 ·intro ht240
  refine Gc13 ?_
  exact Zgs
 ·intro ht240
  refine rn7 ?_
  refine jgx (t := 247) (p := ?p2) (hd := ?d2) ?e2 ?_ ?_; case e2 => exact rfl
  ·intro ht247
   refine Gc6 ?_
   exact Zgs
  ·intro ht247
   refine Ga6 ?_
   refine cdy ?_ ?_
   ·intro ht253
    refine Gl ?_
    exact Zgs
   ·intro ht253
    refine Gl ?_
    refine kp [0, 1, 5, 6, 7, 8, 255, 256] ?_
    refine ZP ?_
    refine Bo (b := ?b4) ?e4 ?_ ?_; case e4 => exact rfl
    ·intro ht256
     refine ZJ ?_
     refine sc ?_
     refine ZI ?_
     refine Gm ?_
     refine ZI ?_
     refine ZI ?_
     refine ZI ?_
     refine ZI ?_
     refine Gl ?_
     have et : Dg (Ad l m.line) = { (Ad l m.line) with owner := (Ad l m.line).who, sharers := 0, phase := 0, who := 0, serial := 0, alone := false } := by unfold Dg; rw [if_pos ht256]
     refine ZV ?_
     have er : Ak l id m = (l.set m.line.toNat ({ (Ad l m.line) with owner := (Ad l m.line).who, sharers := 0, phase := 0, who := 0, serial := 0, alone := false }), []) := Fe (by omega) (by unfold Ag; rw [if_neg (by omega), if_neg (by omega), if_neg (by omega), if_neg (by omega), if_pos (by omega), et])
     refine ZH ?_
     refine An Try.call87 rfl (fun w hs => Cq (e := { (Ad l m.line) with owner := (Ad l m.line).who, sharers := 0, phase := 0, who := 0, serial := 0, alone := false }) (u := u) hs mm mm (by unfold Entry.wf Ap; simp only; omega) (by omega)) ?_; intro v282
     refine Ga2 ?_
     rw [er]
     exact Cj (v282, .slice none 0 0)
    ·intro ht256
     refine Zai ?_
     generalize hhasT : (Ad l m.line).sharers.toNat.testBit (Ad l m.line).who.toNat = bhT
     refine An (val := fun _ => .bool bhT) Try.call85 rfl (fun w hs => by have h := Oa (z := (Ad l m.line).sharers.toNat) (k := (Ad l m.line).who.toNat) hs (by omega) (by omega); rw [Int.toNat_of_nonneg (by omega), Int.toNat_of_nonneg (by omega), hhasT] at h; exact h) ?_; intro _
     refine Ga1 ?_
     refine Bo (b := ?b5) ?e5 ?_ ?_; case e5 => exact rfl
     ·intro ht266
      have hp2 : ((2 ^ (Ad l m.line).who.toNat : Nat) : Int) ≤ 8 := Int.ofNat_le.2 (Nat.pow_le_pow_right (n := 2) (by decide) (show (Ad l m.line).who.toNat ≤ 3 by omega))
      have hp0 : (0 : Int) ≤ ((2 ^ (Ad l m.line).who.toNat : Nat) : Int) := Int.natCast_nonneg _
      refine ZcE ?_
      refine Cc (γ := Unit) (val := fun _ => vi ((2 ^ (Ad l m.line).who.toNat : Nat) : Int)) (F := fun _ => []) Try.call88 (fun _ => rfl) (fun ρ L R w hd hs => by have h := Mi (k := (Ad l m.line).who.toNat) hs (by omega); rw [Int.toNat_of_nonneg (by omega)] at h; exact h) (fun _ _ _ _ _ => rfl) ?_
      first | refine epc (fun _ _ => Fn) ?_ | refine epc (fun _ _ => Gr) ?_ | refine epp (fun _ _ => Fn) ?_ | refine epp (fun _ _ => Gr) ?_
      refine ZcS ?_;intro ρ
      refine ZI ?_
      refine ZI ?_
      refine ZI ?_
      refine ZI ?_
      refine Gl ?_
      have et : Dg (Ad l m.line) = { (Ad l m.line) with sharers := ((Ad l m.line).sharers + ((2 ^ (Ad l m.line).who.toNat : Nat) : Int)), phase := 0, who := 0, serial := 0, alone := false } := by
       obtain ⟨b1, b2, _⟩ := Cw hE0.2.1.1 hE0.2.1.2 hE0.2.2.2.1.1 hE0.2.2.2.1.2
       unfold Dg
       rw [if_neg (by rw [ht256]; decide), (b2 (by simpa [hhasT] using ht266)).1]
      refine ZV ?_
      have er : Ak l id m = (l.set m.line.toNat ({ (Ad l m.line) with sharers := ((Ad l m.line).sharers + ((2 ^ (Ad l m.line).who.toNat : Nat) : Int)), phase := 0, who := 0, serial := 0, alone := false }), []) := Fe (by omega) (by unfold Ag; rw [if_neg (by omega), if_neg (by omega), if_neg (by omega), if_neg (by omega), if_pos (by omega), et])
      refine ZH ?_
      refine An Try.call87 rfl (fun w hs => Cq (e := { (Ad l m.line) with sharers := ((Ad l m.line).sharers + ((2 ^ (Ad l m.line).who.toNat : Nat) : Int)), phase := 0, who := 0, serial := 0, alone := false }) (u := u) hs mm mm (by unfold Entry.wf Ap; simp only; omega) (by omega)) ?_; intro v282
      refine Ga2 ?_
      rw [er]
      exact Cj (v282, .slice none 0 0)
     ·intro ht266
      refine Gm ?_
      refine ZI ?_
      refine ZI ?_
      refine ZI ?_
      refine ZI ?_
      refine Gl ?_
      have et : Dg (Ad l m.line) = { (Ad l m.line) with sharers := (Ad l m.line).sharers, phase := 0, who := 0, serial := 0, alone := false } := by
       obtain ⟨b1, b2, _⟩ := Cw hE0.2.1.1 hE0.2.1.2 hE0.2.2.2.1.1 hE0.2.2.2.1.2
       unfold Dg
       rw [if_neg (by rw [ht256]; decide), (b1 (by simpa [hhasT] using ht266)).1]
      refine ZV ?_
      have er : Ak l id m = (l.set m.line.toNat ({ (Ad l m.line) with sharers := (Ad l m.line).sharers, phase := 0, who := 0, serial := 0, alone := false }), []) := Fe (by omega) (by unfold Ag; rw [if_neg (by omega), if_neg (by omega), if_neg (by omega), if_neg (by omega), if_pos (by omega), et])
      refine ZH ?_
      refine An Try.call87 rfl (fun w hs => Cq (e := { (Ad l m.line) with sharers := (Ad l m.line).sharers, phase := 0, who := 0, serial := 0, alone := false }) (u := u) hs mm mm (by unfold Entry.wf Ap; simp only; omega) (by omega)) ?_; intro v282
      refine Ga2 ?_
      rw [er]
      exact Cj (v282, .slice none 0 0)
theorem R8 {v0 : Value} {l : List Entry} {id : Int} {m : Msg} (hs : St (L) R w) (h0 : sl v0 l ∈ R) (hb : ∀ i, i < l.length → EB (l.getD i A6)) (hla : ∀ i, i < l.length → (l.getD i A6).last.length ≤ 4) (hm : m.wf) (hid : Ap id) : Calls Try.prog 58 [v0, vi id, .agg m.cells.toArray].toArray w (Ca (fun v : Value × Value => .tuple #[v.1, v.2]) (fun v => L) (fun v => sl v.1 (Ak l id m).1 :: sl v.2 (Ak l id m).2 :: R)) := by
 by_cases h : 0 ≤ m.line ∧ m.line < (l.length : Int) ∧ 0 ≤ m.src ∧ m.src < ((Ad l m.line).last.length : Int)
 ·by_cases h1 : m.kind = 1
  ·exact Qa hs h0 hb hla hm hid (by omega)
  by_cases h2 : m.kind = 2
  ·exact P9 hs h0 hb hla hm hid (by omega)
  by_cases h3 : m.kind = 3
  ·exact P8 hs h0 hb hla hm hid (by omega)
  by_cases h9 : m.kind = 9
  ·exact P6 hs h0 hb hla hm hid (by omega)
  by_cases h8 : m.kind = 8
  ·exact P7 hs h0 hb hla hm hid (by omega)
  by_cases h10 : m.kind = 10
  ·exact Ox hs h0 hb hla hm hid (by omega)
  exact P5 hs h0 hb hla hm hid (by omega)
 ·exact Qb hs h0 hb hla hm hid h
theorem Y1 {u : Value} {c : Core} {id home : Int} {m : Msg} (hs : St (L) R w) (hu : sl u c.lines ∈ R) (hk : KB c) (hid : Ap id) (hhome : Ap home) (hm : m.wf) (hg : ¬ (0 ≤ m.line ∧ m.line < (c.lines.length : Int))) : Calls Try.prog 59 [.agg (c.cells u).toArray, vi id, vi home, .agg m.cells.toArray].toArray w (Ca (fun v : Value × Value × Value => .tuple #[.agg (Core.cells v.1 (Ae c id home m).1).toArray, v.2.1, v.2.2]) (fun v => L) (fun v => sl v.1 (Ae c id home m).1.lines :: sl v.2.1 (Ae c id home m).2.1 :: sl v.2.2 (Ae c id home m).2.2 :: R)) := by
 refine Zbo ?_;intro hlen hone0 hn4 hm0
 clear hs
 refine Gm ?_
 refine bx ?_; intro b4
 refine bx ?_; intro b5
 refine bx ?_; intro b6
 refine ZbB ?_;intro b7 b8
 refine Ga2 ?_
 rcases (show (m.line < 0) ∨ (¬ m.line < 0 ∧ (c.lines.length : Int) ≤ m.line) from by omega) with hc | hc
 ·refine ZZ ?_
  refine Gc8 ?_
  exact Zgo
 ·refine Zad ?_
  refine ZaF ?_
  refine Gc1 ?_
  exact Zgo
theorem Y0 {u : Value} {c : Core} {id home : Int} {m : Msg} (hs : St (L) R w) (hu : sl u c.lines ∈ R) (hk : KB c) (hid : Ap id) (hhome : Ap home) (hm : m.wf) (hg : 0 ≤ m.line ∧ m.line < (c.lines.length : Int) ∧ m.kind = 4) : Calls Try.prog 59 [.agg (c.cells u).toArray, vi id, vi home, .agg m.cells.toArray].toArray w (Ca (fun v : Value × Value × Value => .tuple #[.agg (Core.cells v.1 (Ae c id home m).1).toArray, v.2.1, v.2.2]) (fun v => L) (fun v => sl v.1 (Ae c id home m).1.lines :: sl v.2.1 (Ae c id home m).2.1 :: sl v.2.2 (Ae c id home m).2.2 :: R)) := by
 refine Zbo ?_;intro hlen hone0 hn4 hm0
 clear hs
 refine Zbu ?_;intro b4 b5 b6 b7 b8 hlw b11
 refine Ck ?_
 refine Gd1 ?_
 refine Ga5 ?_
 refine cdy ?_ ?_
 ·intro ht50
  refine Zaj ?_
  refine sc ?_
  refine ZU ?_
  refine cdy ?_ ?_
  ·intro ht56
   refine ZC ?_
   refine sc ?_
   refine ZI ?_
   refine Zak ?_
   have hXw : ({ (Ac c m.line) with seen := m.turn, state := 0, value := 0 } : Line).wf := by first | exact hlw | (unfold Line.wf Ap at hlw ⊢; simp only; omega)
   refine cq_ (blk b8 57 [.slice none 0 0, vi 0, vi 0, vi 0] :: blk b4 57 (c.cells u) :: blk b11 82 [vi 0, vi 0, vi (Ac c m.line).want, vi (Ac c m.line).serial, vi m.turn, vi (Ac c m.line).gave, vi (Ac c m.line).given] :: blk b5 3 [vi id] :: blk b6 3 [vi home] :: blk b7 49 m.cells :: L) ?_
   refine jd_ (fun ρ S => blk b8 57 (bif S 9 then [Gh.dec (γ := Value) (ρ 4), vi c.wait.kind, vi c.wait.line, vi c.wait.value] else [.slice none 0 0, vi 0, vi 0, vi 0]) :: blk b4 57 (c.cells u) :: blk b11 82 [vi 0, vi 0, vi (Ac c m.line).want, vi (Ac c m.line).serial, vi m.turn, vi (Ac c m.line).gave, vi (Ac c m.line).given] :: blk b5 3 [vi id] :: blk b6 3 [vi home] :: blk b7 49 m.cells :: L) ?_
   refine dn4 ?_
   refine Cc (γ := Value) (val := fun v => .agg (Core.cells v (Ay c m.line ({ (Ac c m.line) with seen := m.turn, state := 0, value := 0 }) c.wait)).toArray) (F := fun v => [sl v (c.lines.set m.line.toNat ({ (Ac c m.line) with seen := m.turn, state := 0, value := 0 }))]) Try.call81 (fun _ => rfl) (fun ρ L R w hd hs => By (l := { (Ac c m.line) with seen := m.turn, state := 0, value := 0 }) hs (hd.base mm) hXw (by omega)) (fun ρ g S hS hA => by have u9 : upS S 4 9 = S 9 := rfl; have h9 : S 9 = false := hA 9 ⟨0, rfl⟩; simp only [u9, h9, cond_false]) ?_
   refine ZcG ?_
   refine es_ 57 0 [] [] (fun ρ => b8) (fun ρ => [.slice none 0 0, vi 0, vi 0, vi 0]) (fun ρ => [Gh.dec (γ := Value) (ρ 4), vi c.wait.kind, vi c.wait.line, vi c.wait.value]) Try.sizeOf57 (h1 := (fun ρ R w L' hd hs => Bm (isSlice.one (hs.fact (hd.dep (it := ⟨4, _, _, _, _⟩) (by repeat (first | exact List.Mem.head _ | refine List.Mem.tail _ ?_)) ⟨9, rfl⟩ (List.Mem.head _)))) (by repeat (first | exact D5 | refine Bm rfl ?_)))) ?_
   refine epg 8 0 ?_
   refine dn1 ?_
   refine dnl ?_; intro ρ
   refine xq_ (blk b8 57 [Gh.dec (γ := Value) (ρ 4), vi c.wait.kind, vi c.wait.line, vi c.wait.value] :: blk b4 57 (c.cells u) :: blk b11 82 [vi 0, vi 0, vi (Ac c m.line).want, vi (Ac c m.line).serial, vi m.turn, vi (Ac c m.line).gave, vi (Ac c m.line).given] :: blk b5 3 [vi id] :: blk b6 3 [vi home] :: blk b7 49 m.cells :: L) ?_
   generalize (Gh.dec (γ := Value) (ρ 4)) = v63
   generalize (Gh.dec (γ := Value) (ρ 8)) = v67
   refine Gl ?_
   have eh : Cs (Ac c m.line) m.turn = { (Ac c m.line) with seen := m.turn, state := 0, value := 0 } := by unfold Cs; rw [if_pos (by omega), if_pos (by omega)]
   have er : Ae c id home m = (Ay c m.line ({ (Ac c m.line) with seen := m.turn, state := 0, value := 0 }) c.wait, [Bl 8 id home m.line m.turn 0], []) := by unfold Ae; rw [if_neg (by omega)]; rw [if_pos (by omega), eh]
   rw [er]
   exact Ct (v63, v67, .slice none 0 0) Try.isAgg57 Try.sizeOf57
  ·intro ht56
   refine Zak ?_
   have hXw : ({ (Ac c m.line) with seen := m.turn } : Line).wf := by first | exact hlw | (unfold Line.wf Ap at hlw ⊢; simp only; omega)
   refine cq_ (blk b8 57 [.slice none 0 0, vi 0, vi 0, vi 0] :: blk b4 57 (c.cells u) :: blk b11 82 [vi (Ac c m.line).state, vi (Ac c m.line).value, vi (Ac c m.line).want, vi (Ac c m.line).serial, vi m.turn, vi (Ac c m.line).gave, vi (Ac c m.line).given] :: blk b5 3 [vi id] :: blk b6 3 [vi home] :: blk b7 49 m.cells :: L) ?_
   refine jd_ (fun ρ S => blk b8 57 (bif S 9 then [Gh.dec (γ := Value) (ρ 4), vi c.wait.kind, vi c.wait.line, vi c.wait.value] else [.slice none 0 0, vi 0, vi 0, vi 0]) :: blk b4 57 (c.cells u) :: blk b11 82 [vi (Ac c m.line).state, vi (Ac c m.line).value, vi (Ac c m.line).want, vi (Ac c m.line).serial, vi m.turn, vi (Ac c m.line).gave, vi (Ac c m.line).given] :: blk b5 3 [vi id] :: blk b6 3 [vi home] :: blk b7 49 m.cells :: L) ?_
   refine dn4 ?_
   refine Cc (γ := Value) (val := fun v => .agg (Core.cells v (Ay c m.line ({ (Ac c m.line) with seen := m.turn }) c.wait)).toArray) (F := fun v => [sl v (c.lines.set m.line.toNat ({ (Ac c m.line) with seen := m.turn }))]) Try.call81 (fun _ => rfl) (fun ρ L R w hd hs => By (l := { (Ac c m.line) with seen := m.turn }) hs (hd.base mm) hXw (by omega)) (fun ρ g S hS hA => by have u9 : upS S 4 9 = S 9 := rfl; have h9 : S 9 = false := hA 9 ⟨0, rfl⟩; simp only [u9, h9, cond_false]) ?_
   refine ZcG ?_
   refine es_ 57 0 [] [] (fun ρ => b8) (fun ρ => [.slice none 0 0, vi 0, vi 0, vi 0]) (fun ρ => [Gh.dec (γ := Value) (ρ 4), vi c.wait.kind, vi c.wait.line, vi c.wait.value]) Try.sizeOf57 (h1 := (fun ρ R w L' hd hs => Bm (isSlice.one (hs.fact (hd.dep (it := ⟨4, _, _, _, _⟩) (by repeat (first | exact List.Mem.head _ | refine List.Mem.tail _ ?_)) ⟨9, rfl⟩ (List.Mem.head _)))) (by repeat (first | exact D5 | refine Bm rfl ?_)))) ?_
   refine epg 8 0 ?_
   refine dn1 ?_
   refine dnl ?_; intro ρ
   refine xq_ (blk b8 57 [Gh.dec (γ := Value) (ρ 4), vi c.wait.kind, vi c.wait.line, vi c.wait.value] :: blk b4 57 (c.cells u) :: blk b11 82 [vi (Ac c m.line).state, vi (Ac c m.line).value, vi (Ac c m.line).want, vi (Ac c m.line).serial, vi m.turn, vi (Ac c m.line).gave, vi (Ac c m.line).given] :: blk b5 3 [vi id] :: blk b6 3 [vi home] :: blk b7 49 m.cells :: L) ?_
   generalize (Gh.dec (γ := Value) (ρ 4)) = v63
   generalize (Gh.dec (γ := Value) (ρ 8)) = v67
   refine Gl ?_
   have eh : Cs (Ac c m.line) m.turn = { (Ac c m.line) with seen := m.turn } := by unfold Cs; rw [if_pos (by omega), if_neg (by omega)]
   have er : Ae c id home m = (Ay c m.line ({ (Ac c m.line) with seen := m.turn }) c.wait, [Bl 8 id home m.line m.turn 0], []) := by unfold Ae; rw [if_neg (by omega)]; rw [if_pos (by omega), eh]
   rw [er]
   exact Ct (v63, v67, .slice none 0 0) Try.isAgg57 Try.sizeOf57
 ·intro ht50
  refine Zak ?_
  have hXw : ((Ac c m.line) : Line).wf := by first | exact hlw | (unfold Line.wf Ap at hlw ⊢; simp only; omega)
  refine ZdA ?_
  refine jd_ (fun ρ S => blk b8 57 (bif S 9 then [Gh.dec (γ := Value) (ρ 4), vi c.wait.kind, vi c.wait.line, vi c.wait.value] else [.slice none 0 0, vi 0, vi 0, vi 0]) :: blk b4 57 (c.cells u) :: blk b11 82 (Ac c m.line).cells :: blk b5 3 [vi id] :: blk b6 3 [vi home] :: blk b7 49 m.cells :: L) ?_
  refine dn4 ?_
  refine Cc (γ := Value) (val := fun v => .agg (Core.cells v (Ay c m.line ((Ac c m.line)) c.wait)).toArray) (F := fun v => [sl v (c.lines.set m.line.toNat ((Ac c m.line)))]) Try.call81 (fun _ => rfl) (fun ρ L R w hd hs => By (l := (Ac c m.line)) hs (hd.base mm) hXw (by omega)) (fun ρ g S hS hA => by have u9 : upS S 4 9 = S 9 := rfl; have h9 : S 9 = false := hA 9 ⟨0, rfl⟩; simp only [u9, h9, cond_false]) ?_
  refine ZcG ?_
  refine es_ 57 0 [] [] (fun ρ => b8) (fun ρ => [.slice none 0 0, vi 0, vi 0, vi 0]) (fun ρ => [Gh.dec (γ := Value) (ρ 4), vi c.wait.kind, vi c.wait.line, vi c.wait.value]) Try.sizeOf57 (h1 := (fun ρ R w L' hd hs => Bm (isSlice.one (hs.fact (hd.dep (it := ⟨4, _, _, _, _⟩) (by repeat (first | exact List.Mem.head _ | refine List.Mem.tail _ ?_)) ⟨9, rfl⟩ (List.Mem.head _)))) (by repeat (first | exact D5 | refine Bm rfl ?_)))) ?_
  refine epg 8 0 ?_
  refine dn1 ?_
  refine dnl ?_; intro ρ
  refine xq_ (blk b8 57 [Gh.dec (γ := Value) (ρ 4), vi c.wait.kind, vi c.wait.line, vi c.wait.value] :: blk b4 57 (c.cells u) :: blk b11 82 (Ac c m.line).cells :: blk b5 3 [vi id] :: blk b6 3 [vi home] :: blk b7 49 m.cells :: L) ?_
  generalize (Gh.dec (γ := Value) (ρ 4)) = v63
  generalize (Gh.dec (γ := Value) (ρ 8)) = v67
  refine Gl ?_
  have eh : Cs (Ac c m.line) m.turn = (Ac c m.line) := by unfold Cs; rw [if_neg (by omega)]
  have er : Ae c id home m = (Ay c m.line ((Ac c m.line)) c.wait, [Bl 8 id home m.line m.turn 0], []) := by unfold Ae; rw [if_neg (by omega)]; rw [if_pos (by omega), eh]
  rw [er]
  exact Ct (v63, v67, .slice none 0 0) Try.isAgg57 Try.sizeOf57
theorem Wa {u : Value} {c : Core} {id home : Int} {m : Msg} (hs : St (L) R w) (hu : sl u c.lines ∈ R) (hk : KB c) (hid : Ap id) (hhome : Ap home) (hm : m.wf) (hg : 0 ≤ m.line ∧ m.line < (c.lines.length : Int) ∧ m.kind = 11) : Calls Try.prog 59 [.agg (c.cells u).toArray, vi id, vi home, .agg m.cells.toArray].toArray w (Ca (fun v : Value × Value × Value => .tuple #[.agg (Core.cells v.1 (Ae c id home m).1).toArray, v.2.1, v.2.2]) (fun v => L) (fun v => sl v.1 (Ae c id home m).1.lines :: sl v.2.1 (Ae c id home m).2.1 :: sl v.2.2 (Ae c id home m).2.2 :: R)) := by
 refine Zbo ?_;intro hlen hone0 hn4 hm0
 clear hs
 refine Zbu ?_;intro b4 b5 b6 b7 b8 hlw b11
 refine ZaX ?_
 refine Gd1 ?_
 refine rn4 ?_
 refine jgx (t := 227) (p := ?p1) (hd := ?d1) ?e1 ?_ ?_; case e1 => exact rfl
 ·intro ht227
  refine Ga6 ?_
  refine cdy ?_ ?_
  ·intro ht233
   refine Gm ?_
   refine ZI ?_
   refine ZI ?_
   refine ZI ?_
   refine Zai ?_
   have hXw : ({ (Ac c m.line) with state := 0, value := 0, want := 0 } : Line).wf := by first | exact hlw | (unfold Line.wf Ap at hlw ⊢; simp only; omega)
   refine An Try.call81 rfl (fun w hs => By (l := { (Ac c m.line) with state := 0, value := 0, want := 0 }) hs mm hXw (by omega)) ?_; intro v241
   refine J.know (p := v241.oneCell' = true) (fun w hs => isSlice.one (hs.fact (List.Mem.head _))) (fun hone241 => ?_)
   refine al_ (cs := [.slice none 0 0, vi 0, vi 0, vi 0]) Try.zeroValue57 ?_; intro b21
   refine s_B (cs := [v241, vi c.wait.kind, vi c.wait.line, vi c.wait.value]) Try.sizeOf57 ?_
   refine Gl ?_
   refine kp [4, 8, 9, 10, 13, 21, 242, 243] ?_
   refine Aa ?_
   refine Zbv ?_
   refine rn1 ?_
   refine s_N [v241, vi 0, vi 0, vi 0] Try.sizeOf26 ?_
   refine Gl ?_
   refine ZV ?_
   refine cq_ (blk b8 57 [.slice none 0 0, vi 0, vi 0, vi 0] :: blk b21 57 [v241, vi 0, vi 0, vi 0] :: blk b4 57 (c.cells u) :: blk b5 3 [vi id] :: L) ?_
   refine jd_ (fun ρ S => blk b8 57 (bif S 3 then [v241, vi 0, vi 0, vi 0] else [.slice none 0 0, vi 0, vi 0, vi 0]) :: blk b21 57 [v241, vi 0, vi 0, vi 0] :: blk b4 57 (c.cells u) :: blk b5 3 [vi id] :: L) ?_
   refine dn2 ?_
   refine Zd2 ?_
   refine es_ 57 0 [] [] (fun ρ => b8) (fun ρ => [.slice none 0 0, vi 0, vi 0, vi 0]) (fun ρ => [v241, vi 0, vi 0, vi 0]) Try.sizeOf57 ?_
   refine dn1 ?_
   refine epg 2 0 ?_
   refine dnl ?_; intro ρ
   refine xq_ (blk b8 57 [v241, vi 0, vi 0, vi 0] :: blk b21 57 [v241, vi 0, vi 0, vi 0] :: blk b4 57 (c.cells u) :: blk b5 3 [vi id] :: L) ?_
   generalize (Gh.dec (γ := Value) (ρ 2)) = v246
   refine Gl ?_
   have er : Ae c id home m = (Ay c m.line ({ (Ac c m.line) with state := 0, value := 0, want := 0 }) zOp, [], [⟨id, c.wait, 0⟩]) := by unfold Ae; rw [if_neg (by omega)]; rw [if_neg (by omega), if_neg (by omega), if_neg (by omega)]; rw [if_pos (by omega)]
   rw [er]
   exact Ct (v241, .slice none 0 0, v246) Try.isAgg57 Try.sizeOf57
  ·intro ht233
   refine Gl ?_
   refine ZcQ ?_;intro er
   exact Zfc
 ·intro ht227
  refine Gc6 ?_
  refine ZcQ ?_;intro er
  exact Zfc
theorem Yw {u : Value} {c : Core} {id home : Int} {m : Msg} (hs : St (L) R w) (hu : sl u c.lines ∈ R) (hk : KB c) (hid : Ap id) (hhome : Ap home) (hm : m.wf) (hg : 0 ≤ m.line ∧ m.line < (c.lines.length : Int) ∧ m.kind ≠ 4 ∧ m.kind ≠ 5 ∧ m.kind ≠ 6 ∧ m.kind ≠ 7 ∧ m.kind ≠ 11) : Calls Try.prog 59 [.agg (c.cells u).toArray, vi id, vi home, .agg m.cells.toArray].toArray w (Ca (fun v : Value × Value × Value => .tuple #[.agg (Core.cells v.1 (Ae c id home m).1).toArray, v.2.1, v.2.2]) (fun v => L) (fun v => sl v.1 (Ae c id home m).1.lines :: sl v.2.1 (Ae c id home m).2.1 :: sl v.2.2 (Ae c id home m).2.2 :: R)) := by
 refine Zbo ?_;intro hlen hone0 hn4 hm0
 clear hs
 refine Zbu ?_;intro b4 b5 b6 b7 b8 hlw b11
 refine ZF ?_
 refine Zdx ?_
 refine ZcQ ?_;intro er
 exact Zfc
theorem Yz {u : Value} {c : Core} {id home : Int} {m : Msg} (hs : St (L) R w) (hu : sl u c.lines ∈ R) (hk : KB c) (hid : Ap id) (hhome : Ap home) (hm : m.wf) (hg : 0 ≤ m.line ∧ m.line < (c.lines.length : Int) ∧ m.kind = 5) : Calls Try.prog 59 [.agg (c.cells u).toArray, vi id, vi home, .agg m.cells.toArray].toArray w (Ca (fun v : Value × Value × Value => .tuple #[.agg (Core.cells v.1 (Ae c id home m).1).toArray, v.2.1, v.2.2]) (fun v => L) (fun v => sl v.1 (Ae c id home m).1.lines :: sl v.2.1 (Ae c id home m).2.1 :: sl v.2.2 (Ae c id home m).2.2 :: R)) := by
 refine Zbo ?_;intro hlen hone0 hn4 hm0
 clear hs
 refine Zbu ?_;intro b4 b5 b6 b7 b8 hlw b11
 refine ZF ?_
 refine Zax ?_
 refine kp [4, 5, 7, 8, 9, 10, 11, 12, 13, 43, 71, 72, 73, 74, 75, 76, 77, 78, 79, 80] ?_
 refine Dn 80 (.bool (decide (0 < m.turn ∧ m.turn = (Ac c m.line).gave))) ?_ ?_
 ·exact Zfa
 ·refine Ax ?_
  refine Gl ?_
  first | (refine cdx (p := ?p1) (hd := ?d1) ?e1 ?_ ?_; case e1 => exact rfl) | (refine Bo (b := ?b1) ?e1 ?_ ?_; case e1 => exact rfl)
  ·exact Zge
  ·intro ht80
   refine Gl ?_
   refine Zco ?_
   refine Dn 102 (.bool (decide (m.turn ≤ (Ac c m.line).seen ∨ ((Ac c m.line).state ≠ 2 ∧ (Ac c m.line).state ≠ 3)))) ?_ ?_
   ·exact ZeS
   ·refine Ax ?_
    refine Gl ?_
    first | (refine cdx (p := ?p2) (hd := ?d2) ?e2 ?_ ?_; case e2 => exact rfl) | (refine Bo (b := ?b2) ?e2 ?_ ?_; case e2 => exact rfl)
    ·intro ht102
     refine Gl ?_
     refine Zeo ?_;intro er
     exact Zfc
    ·intro ht102
     refine ZdE ?_
     refine Iq (v := vi (Ac c m.line).value) (fun ρ S hS hB hA => by have h11 : S 11 = false := hA 11 ⟨0, rfl⟩; simp only [h11, cond_false]; exact C6 (hc := A7 pkk (by repeat (first | exact rfl | refine Di rfl ?_))) Try.isAgg3) (fun _ _ _ _ _ => rfl) ?_
     refine ZdC ?_;intro ρ v118
     rcases (show ((Ac c m.line).want = 3) ∨ ((Ac c m.line).want ≠ 3) from by omega) with hc | hc
     ·exact Zgc
     ·refine Zc9 ?_
      refine ZA ?_
      refine Av ?_
      refine ZM ?_
      refine ZF ?_
      refine ZI ?_
      refine ZL ?_
      refine Av ?_
      refine Glc ?_
      refine ZT ?_
      refine ZH ?_
      have hXw : ({ (Ac c m.line) with seen := m.turn, gave := m.turn, given := (Ac c m.line).value, state := 1 } : Line).wf := by first | exact hlw | (unfold Line.wf Ap at hlw ⊢; simp only; omega)
      refine An Try.call81 rfl (fun w hs => By (l := { (Ac c m.line) with seen := m.turn, gave := m.turn, given := (Ac c m.line).value, state := 1 }) hs mm hXw (by omega)) ?_; intro v149
      refine Zej ?_;intro hone149
      have ef : Cv (Ac c m.line) m.kind m.turn = { (Ac c m.line) with seen := m.turn, gave := m.turn, given := (Ac c m.line).value, state := 1 } := by unfold Cv; rw [if_neg (by omega), if_neg (by omega)]
      have er : Ae c id home m = (Ay c m.line ({ (Ac c m.line) with seen := m.turn, gave := m.turn, given := (Ac c m.line).value, state := 1 }) c.wait, [Bl 9 id home m.line m.turn (Ac c m.line).value], []) := by unfold Ae; rw [if_neg (by omega)]; rw [if_neg (by omega), if_pos (by omega)]; rw [if_pos (by unfold Dv; omega), ef, if_neg (by omega), if_neg (by omega)]
      exact ZgA
theorem Yy {u : Value} {c : Core} {id home : Int} {m : Msg} (hs : St (L) R w) (hu : sl u c.lines ∈ R) (hk : KB c) (hid : Ap id) (hhome : Ap home) (hm : m.wf) (hg : 0 ≤ m.line ∧ m.line < (c.lines.length : Int) ∧ m.kind = 6) : Calls Try.prog 59 [.agg (c.cells u).toArray, vi id, vi home, .agg m.cells.toArray].toArray w (Ca (fun v : Value × Value × Value => .tuple #[.agg (Core.cells v.1 (Ae c id home m).1).toArray, v.2.1, v.2.2]) (fun v => L) (fun v => sl v.1 (Ae c id home m).1.lines :: sl v.2.1 (Ae c id home m).2.1 :: sl v.2.2 (Ae c id home m).2.2 :: R)) := by
 refine Zbo ?_;intro hlen hone0 hn4 hm0
 clear hs
 refine Zbu ?_;intro b4 b5 b6 b7 b8 hlw b11
 refine Zau ?_
 refine Gc1 ?_
 refine kp [4, 5, 7, 8, 9, 10, 11, 12, 13, 43, 71, 72, 73, 74, 75, 76, 77, 78, 79, 80] ?_
 refine Dn 80 (.bool (decide (0 < m.turn ∧ m.turn = (Ac c m.line).gave))) ?_ ?_
 ·exact Zfa
 ·refine Ax ?_
  refine Gl ?_
  first | (refine cdx (p := ?p1) (hd := ?d1) ?e1 ?_ ?_; case e1 => exact rfl) | (refine Bo (b := ?b1) ?e1 ?_ ?_; case e1 => exact rfl)
  ·exact Zge
  ·intro ht80
   refine Gl ?_
   refine Zco ?_
   refine Dn 102 (.bool (decide (m.turn ≤ (Ac c m.line).seen ∨ ((Ac c m.line).state ≠ 2 ∧ (Ac c m.line).state ≠ 3)))) ?_ ?_
   ·exact ZeS
   ·refine Ax ?_
    refine Gl ?_
    first | (refine cdx (p := ?p2) (hd := ?d2) ?e2 ?_ ?_; case e2 => exact rfl) | (refine Bo (b := ?b2) ?e2 ?_ ?_; case e2 => exact rfl)
    ·intro ht102
     refine Gl ?_
     refine Zeo ?_;intro er
     exact Zfc
    ·intro ht102
     refine ZdE ?_
     refine Iq (v := vi (Ac c m.line).value) (fun ρ S hS hB hA => by have h11 : S 11 = false := hA 11 ⟨0, rfl⟩; simp only [h11, cond_false]; exact C6 (hc := A7 pkk (by repeat (first | exact rfl | refine Di rfl ?_))) Try.isAgg3) (fun _ _ _ _ _ => rfl) ?_
     refine ZdC ?_;intro ρ v118
     rcases (show ((Ac c m.line).want = 3) ∨ ((Ac c m.line).want ≠ 3) from by omega) with hc | hc
     ·exact Zgc
     ·refine Zc9 ?_
      refine ZA ?_
      refine Av ?_
      refine ZM ?_
      refine Ck ?_
      refine Gd1 ?_
      refine ZI ?_
      refine ZI ?_
      refine ZL ?_
      refine Av ?_
      refine Glc ?_
      refine ZT ?_
      refine ZH ?_
      have hXw : ({ (Ac c m.line) with seen := m.turn, gave := m.turn, given := (Ac c m.line).value, state := 0, value := 0 } : Line).wf := by first | exact hlw | (unfold Line.wf Ap at hlw ⊢; simp only; omega)
      refine An Try.call81 rfl (fun w hs => By (l := { (Ac c m.line) with seen := m.turn, gave := m.turn, given := (Ac c m.line).value, state := 0, value := 0 }) hs mm hXw (by omega)) ?_; intro v149
      refine Zej ?_;intro hone149
      have ef : Cv (Ac c m.line) m.kind m.turn = { (Ac c m.line) with seen := m.turn, gave := m.turn, given := (Ac c m.line).value, state := 0, value := 0 } := by unfold Cv; rw [if_neg (by omega), if_pos (by omega)]
      have er : Ae c id home m = (Ay c m.line ({ (Ac c m.line) with seen := m.turn, gave := m.turn, given := (Ac c m.line).value, state := 0, value := 0 }) c.wait, [Bl 9 id home m.line m.turn (Ac c m.line).value], []) := by unfold Ae; rw [if_neg (by omega)]; rw [if_neg (by omega), if_pos (by omega)]; rw [if_pos (by unfold Dv; omega), ef, if_neg (by omega), if_neg (by omega)]
      exact ZgA
theorem Yx {u : Value} {c : Core} {id home : Int} {m : Msg} (hs : St (L) R w) (hu : sl u c.lines ∈ R) (hk : KB c) (hid : Ap id) (hhome : Ap home) (hm : m.wf) (hg : 0 ≤ m.line ∧ m.line < (c.lines.length : Int) ∧ m.kind = 7) : Calls Try.prog 59 [.agg (c.cells u).toArray, vi id, vi home, .agg m.cells.toArray].toArray w (Ca (fun v : Value × Value × Value => .tuple #[.agg (Core.cells v.1 (Ae c id home m).1).toArray, v.2.1, v.2.2]) (fun v => L) (fun v => sl v.1 (Ae c id home m).1.lines :: sl v.2.1 (Ae c id home m).2.1 :: sl v.2.2 (Ae c id home m).2.2 :: R)) := by
 refine Zbo ?_;intro hlen hone0 hn4 hm0
 clear hs
 refine Zbu ?_;intro b4 b5 b6 b7 b8 hlw b11
 refine ZF ?_
 refine Zau ?_
 refine Gd1 ?_
 refine Ga5 ?_
 refine cdy ?_ ?_
 ·intro ht157
  refine Gl ?_
  refine ZbK ?_
  have er : Ae c id home m = (c, [], []) := by unfold Ae; rw [if_neg (by omega)]; rw [if_neg (by omega), if_neg (by omega), if_pos (by omega)]; rw [if_pos (by omega)]
  rw [er]
  exact Zfc
 ·intro ht157
  refine Zaj ?_
  refine Cg (caps := [bp b5 0, bp b6 0, bp b7 0]) (vs := [vi 10, vi m.turn, vi 0]) rfl Try.call89 rfl (fun w hs => Q0 hs (A7 pkk rfl) (A7 pkk rfl) (A7 pkk rfl) (by unfold Ap; omega) hm.2.2.2.2.2.1 (by unfold Ap; omega) hid hhome hm.2.2.2.1) ?_; intro v162
  refine Ga1 ?_
  refine ZcW ?_
  refine Dn 186 (.bool (decide (¬ Gp (Ac c m.line) m))) ?_ ?_
  ·rcases (show (m.serial < (Ac c m.line).serial) ∨ (m.serial = (Ac c m.line).serial ∧ m.alone = true ∧ (Ac c m.line).want ≠ 2) ∨ (m.serial = (Ac c m.line).serial ∧ m.alone = true ∧ (Ac c m.line).want = 2) ∨ (m.serial = (Ac c m.line).serial ∧ m.alone = false ∧ (Ac c m.line).want ≠ 1) ∨ (m.serial = (Ac c m.line).serial ∧ m.alone = false ∧ (Ac c m.line).want = 1) from by rcases Bool.eq_false_or_eq_true m.alone with h1 | h1 <;> simp only [h1, true_and, false_and, and_false, or_false, false_or, reduceCtorEq] <;> omega) with hm | hm | hm | hm | hm
   ·have hna : ¬ Gp (Ac c m.line) m := by unfold Gp; omega
    refine ZH ?_
    refine Ea ?_
    refine Ga19 ?_
    exact Zfb
   ·obtain ⟨hc1, hal, hc2⟩ := hm
    have hna : ¬ Gp (Ac c m.line) m := by unfold Gp; rw [hal]; simp; omega
    refine ZH ?_
    refine Bi ?_
    refine Zap ?_
    refine ZbL ?_
    refine ZM ?_
    refine H0 ?_
    refine Ga12 ?_
    exact Zfb
   ·obtain ⟨hc1, hal, hc2⟩ := hm
    have hna : Gp (Ac c m.line) m := by unfold Gp; rw [hal]; simp; omega
    refine ZcW ?_
    refine ZH ?_
    refine Bi ?_
    refine Zap ?_
    refine ZbL ?_
    refine ZM ?_
    refine H1 ?_
    refine ZG ?_
    refine ZbL ?_
    refine Ga7 ?_
    exact Zf1
   ·obtain ⟨hc1, hal, hc2⟩ := hm
    have hna : ¬ Gp (Ac c m.line) m := by unfold Gp; rw [hal]; simp; omega
    refine ZH ?_
    refine Bi ?_
    refine Zap ?_
    refine Zbz ?_
    refine rn8 ?_
    refine gy ?_
    refine Zbz ?_
    refine ZG ?_
    refine H0 ?_
    refine Ga2 ?_
    exact Zfb
   ·obtain ⟨hc1, hal, hc2⟩ := hm
    have hna : Gp (Ac c m.line) m := by unfold Gp; rw [hal]; simp; omega
    refine ZcW ?_
    refine ZH ?_
    refine Bi ?_
    refine Zap ?_
    refine Zbz ?_
    refine rn8 ?_
    refine gy ?_
    refine Zbz ?_
    refine ZG ?_
    refine H1 ?_
    refine Ga2 ?_
    exact Zf1
  ·refine Ax ?_
   refine Gl ?_
   first | (refine cdx (p := ?p2) (hd := ?d2) ?e2 ?_ ?_; case e2 => exact rfl) | (refine Bo (b := ?b2) ?e2 ?_ ?_; case e2 => exact rfl)
   ·intro ht186
    refine Zak ?_
    refine ZA ?_
    refine s_B Try.sizeOf57 ?_
    refine Ga2 ?_
    have er : Ae c id home m = (c, [Bl 10 id home m.line m.turn 0], []) := by unfold Ae; rw [if_neg (by omega)]; rw [if_neg (by omega), if_neg (by omega), if_pos (by omega)]; rw [if_neg (by omega), if_neg ht186]
    rw [er]
    exact Ct (u, v162, .slice none 0 0) Try.isAgg57 Try.sizeOf57
   ·intro ht186
    refine ZL ?_
    refine al_ (cs := zOp.cells) Try.zeroValue26 ?_; intro b17
    refine s_B Try.sizeOf26 ?_
    refine Zaj ?_
    obtain ⟨hwk, hwl, hwv⟩ := hk.wait m.line (by omega) (by have h9 := Decidable.not_not.1 ht186; unfold Gp at h9; omega)
    refine An Try.call83 rfl (fun w hs => Mh (v := m.value) (o := c.wait) hs hm.2.2.2.2.2.2 hwk (by omega) hwv) ?_; intro _
    refine Ga5 ?_
    refine kp [4, 5, 7, 8, 9, 10, 11, 13, 16, 17, 18, 19, 43, 198, 199, 200, 201, 202, 203, 204] ?_
    refine cq_ (blk b11 82 [vi (Ac c m.line).state, vi (Ac c m.line).value, vi (Ac c m.line).want, vi (Ac c m.line).serial, vi (Ac c m.line).seen, vi (Ac c m.line).gave, vi (Ac c m.line).given] :: blk b17 26 c.wait.cells :: blk b8 57 [.slice none 0 0, vi 0, vi 0, vi 0] :: blk b4 57 (c.cells u) :: blk b5 3 [vi id] :: blk b6 3 [vi home] :: blk b7 49 m.cells :: L) ?_
    refine jd_ (fun ρ S => blk b11 82 (bif S 10 then [vi 1, vi (Az m.value c.wait).1, vi 0, vi (Ac c m.line).serial, vi m.turn, vi (Ac c m.line).gave, vi (Ac c m.line).given] else (bif S 8 then [vi (Ac c m.line).state, vi (Az m.value c.wait).1, vi 0, vi (Ac c m.line).serial, vi m.turn, vi (Ac c m.line).gave, vi (Ac c m.line).given] else (bif S 6 then [vi (Ac c m.line).state, vi (Az m.value c.wait).1, vi 0, vi (Ac c m.line).serial, vi (Ac c m.line).seen, vi (Ac c m.line).gave, vi (Ac c m.line).given] else (bif S 4 then [vi (Ac c m.line).state, vi (Az m.value c.wait).1, vi (Ac c m.line).want, vi (Ac c m.line).serial, vi (Ac c m.line).seen, vi (Ac c m.line).gave, vi (Ac c m.line).given] else [vi (Ac c m.line).state, vi (Ac c m.line).value, vi (Ac c m.line).want, vi (Ac c m.line).serial, vi (Ac c m.line).seen, vi (Ac c m.line).gave, vi (Ac c m.line).given])))) :: blk b17 26 c.wait.cells :: blk b8 57 [.slice none 0 0, vi 0, vi 0, vi 0] :: blk b4 57 (c.cells u) :: blk b5 3 [vi id] :: blk b6 3 [vi home] :: blk b7 49 m.cells :: L) ?_
    refine dn4 ?_
    refine es_ 82 1 [] [6, 8, 10] (fun ρ => b11) (fun ρ => [vi (Ac c m.line).state, vi (Ac c m.line).value, vi (Ac c m.line).want, vi (Ac c m.line).serial, vi (Ac c m.line).seen, vi (Ac c m.line).gave, vi (Ac c m.line).given]) (fun ρ => [vi (Az m.value c.wait).1]) Try.sizeOf3 ?_
    refine dn1 ?_
    refine es_ 82 2 [4] [8, 10] (fun ρ => b11) (fun ρ => [vi (Ac c m.line).state, vi (Az m.value c.wait).1, vi (Ac c m.line).want, vi (Ac c m.line).serial, vi (Ac c m.line).seen, vi (Ac c m.line).gave, vi (Ac c m.line).given]) (fun ρ => [vi 0]) Try.sizeOf3 ?_
    refine dn1 ?_
    refine es_ 82 4 [4, 6] [10] (fun ρ => b11) (fun ρ => [vi (Ac c m.line).state, vi (Az m.value c.wait).1, vi 0, vi (Ac c m.line).serial, vi (Ac c m.line).seen, vi (Ac c m.line).gave, vi (Ac c m.line).given]) (fun ρ => [vi m.turn]) Try.sizeOf3 ?_
    refine dn1 ?_
    refine es_ 82 0 [4, 6, 8] [] (fun ρ => b11) (fun ρ => [vi (Ac c m.line).state, vi (Az m.value c.wait).1, vi 0, vi (Ac c m.line).serial, vi m.turn, vi (Ac c m.line).gave, vi (Ac c m.line).given]) (fun ρ => [vi 1]) Try.sizeOf3 ?_
    refine dnl ?_; intro ρ
    refine xq_ (blk b11 82 [vi 1, vi (Az m.value c.wait).1, vi 0, vi (Ac c m.line).serial, vi m.turn, vi (Ac c m.line).gave, vi (Ac c m.line).given] :: blk b17 26 c.wait.cells :: blk b8 57 [.slice none 0 0, vi 0, vi 0, vi 0] :: blk b4 57 (c.cells u) :: blk b5 3 [vi id] :: blk b6 3 [vi home] :: blk b7 49 m.cells :: L) ?_
    refine ZD ?_
    refine Bo (b := ?b3) ?e3 ?_ ?_; case e3 => exact rfl
    ·intro ht206
     refine ZC ?_
     refine sc ?_
     refine Gl ?_
     have hvo : Ap (Az m.value c.wait).1 := O5 hm.2.2.2.2.2.2 hwv.1 hwv.2
     refine ZH ?_
     have hXw : ({ (Ac c m.line) with value := (Az m.value c.wait).1, want := 0, seen := m.turn, state := 2 } : Line).wf := by unfold Line.wf at hlw ⊢; exact ⟨by unfold Ap; simp only; omega, hvo, by unfold Ap; simp only; omega, hlw.2.2.2.1, hm.2.2.2.2.2.1, hlw.2.2.2.2.2.1, hlw.2.2.2.2.2.2⟩
     refine An Try.call81 rfl (fun w hs => By (l := { (Ac c m.line) with value := (Az m.value c.wait).1, want := 0, seen := m.turn, state := 2 }) hs mm hXw (by omega)) ?_; intro v212
     refine ZdD ?_;intro hone212 b20 hto ρ v221
     have eg : Fx (Ac c m.line) m c.wait = { (Ac c m.line) with value := (Az m.value c.wait).1, want := 0, seen := m.turn, state := 2 } := by unfold Fx; rw [ht206, if_pos rfl]
     have er : Ae c id home m = (Ay c m.line ({ (Ac c m.line) with value := (Az m.value c.wait).1, want := 0, seen := m.turn, state := 2 }) zOp, [Bl 10 id home m.line m.turn 0], [⟨id, c.wait, (Az m.value c.wait).2⟩]) := by unfold Ae; rw [if_neg (by omega)]; rw [if_neg (by omega), if_neg (by omega), if_pos (by omega)]; rw [if_neg (by omega), if_pos (Decidable.not_not.1 ht186), eg]
     rw [er]
     exact Ct (v212, v162, v221) Try.isAgg57 Try.sizeOf57
    ·intro ht206
     refine Gl ?_
     have hvo : Ap (Az m.value c.wait).1 := O5 hm.2.2.2.2.2.2 hwv.1 hwv.2
     refine ZH ?_
     have hXw : ({ (Ac c m.line) with value := (Az m.value c.wait).1, want := 0, seen := m.turn, state := 1 } : Line).wf := by unfold Line.wf at hlw ⊢; exact ⟨by unfold Ap; simp only; omega, hvo, by unfold Ap; simp only; omega, hlw.2.2.2.1, hm.2.2.2.2.2.1, hlw.2.2.2.2.2.1, hlw.2.2.2.2.2.2⟩
     refine An Try.call81 rfl (fun w hs => By (l := { (Ac c m.line) with value := (Az m.value c.wait).1, want := 0, seen := m.turn, state := 1 }) hs mm hXw (by omega)) ?_; intro v212
     refine ZdD ?_;intro hone212 b20 hto ρ v221
     have eg : Fx (Ac c m.line) m c.wait = { (Ac c m.line) with value := (Az m.value c.wait).1, want := 0, seen := m.turn, state := 1 } := by unfold Fx; rw [ht206, if_neg (by decide)]
     have er : Ae c id home m = (Ay c m.line ({ (Ac c m.line) with value := (Az m.value c.wait).1, want := 0, seen := m.turn, state := 1 }) zOp, [Bl 10 id home m.line m.turn 0], [⟨id, c.wait, (Az m.value c.wait).2⟩]) := by unfold Ae; rw [if_neg (by omega)]; rw [if_neg (by omega), if_neg (by omega), if_pos (by omega)]; rw [if_neg (by omega), if_pos (Decidable.not_not.1 ht186), eg]
     rw [er]
     exact Ct (v212, v162, v221) Try.isAgg57 Try.sizeOf57
theorem Adl {u : Value} {c : Core} {id home : Int} {m : Msg} (hs : St (L) R w) (hu : sl u c.lines ∈ R) (hk : KB c) (hid : Ap id) (hhome : Ap home) (hm : m.wf) : Calls Try.prog 59 [.agg (c.cells u).toArray, vi id, vi home, .agg m.cells.toArray].toArray w (Ca (fun v : Value × Value × Value => .tuple #[.agg (Core.cells v.1 (Ae c id home m).1).toArray, v.2.1, v.2.2]) (fun v => L) (fun v => sl v.1 (Ae c id home m).1.lines :: sl v.2.1 (Ae c id home m).2.1 :: sl v.2.2 (Ae c id home m).2.2 :: R)) := by
 by_cases h : 0 ≤ m.line ∧ m.line < (c.lines.length : Int)
 ·by_cases h4 : m.kind = 4
  ·exact Y0 hs hu hk hid hhome hm (by omega)
  by_cases h5 : m.kind = 5
  ·exact Yz hs hu hk hid hhome hm (by omega)
  by_cases h6 : m.kind = 6
  ·exact Yy hs hu hk hid hhome hm (by omega)
  by_cases h7 : m.kind = 7
  ·exact Yx hs hu hk hid hhome hm (by omega)
  by_cases h11 : m.kind = 11
  ·exact Wa hs hu hk hid hhome hm (by omega)
  exact Yw hs hu hk hid hhome hm (by omega)
 ·exact Y1 hs hu hk hid hhome hm h
theorem Ji {v0 : Value} {l : Frames} {n : Int} (hs : St (L) R w) (h0 : sl v0 l ∈ R) (hn : Ap n) : Calls Try.prog 44 [v0, vi n].toArray w (Ca (fun v : Value × Value => .tuple #[v.1, v.2, vi (Bs l n).2.2]) (fun v => row 52 v.1 (Bs l n).1 :: L) (fun v => sl v.2 (Bs l n).2.1 :: R)) := by
 have hlen := Bh h0 hs
 unfold Ap at hn
 refine Aj Try.func44 rfl Try.ntmps44 rfl hs ?_
 clear hs
 refine ZU ?_
 rcases (show (n < 0) ∨ (¬ n < 0 ∧ (l.length : Int) ≤ n) ∨ (0 ≤ n ∧ n < (l.length : Int)) from by omega) with hc | hc | hc
 ·refine ZbT ?_
  exact ZfN
 ·refine Za3 ?_
  refine G6 ?_
  refine Gd1 ?_
  exact ZfN
 ·refine Za3 ?_
  refine Dl ?_
  refine Gd1 ?_
  refine rn1 ?_
  refine An Try.call61 rfl (fun w hs => Tl hs mm) ?_; intro v18
  refine ZaD ?_
  refine ob (I1 Ot) ?_
  refine l_Sr Try.isAgg52 rfl .hd (by omega) ?_; intro v22
  refine Gb1 ?_
  refine rn3 ?_
  refine ob Gr ?_
  rw [show n + 1 = ((n.toNat + 1 : Nat) : Int) by omega]
  refine An Try.call73 rfl (fun w hs => by have h := Wq (i := n.toNat) (Adb hs) (by omega); rw [Int.toNat_of_nonneg (by omega)] at h; exact h) ?_; intro v27
  refine Ga4 ?_
  have er : Bs l n = (l.eraseIdx n.toNat, Aw l n, 0) := by unfold Bs; rw [if_neg (by omega)]
  rw [er]
  exact G3 (v27, v22)
def Wm (l : Frames) (n : Nat) (k : Nat) : Frames := (l.take k).eraseIdx n
theorem Zn {l : Frames} {n k : Nat} (h : k = l.length) : Wm l n k = l.eraseIdx n := by unfold Wm; rw [h, List.take_length]
theorem Adq {l : Frames} {n k : Nat} (h : k < l.length) (hn : k ≠ n) : Wm l n (k + 1) = Wm l n k ++ [l.getD k []] := by
 unfold Wm
 rw [Fa [] h]
 by_cases h' : n < k
 ·rw [List.eraseIdx_append_of_lt_length (by rw [List.length_take]; omega)]
 ·rw [List.eraseIdx_of_length_le (by simp; omega), List.eraseIdx_of_length_le (by simp; omega)]
theorem Zm (l : Frames) (n k : Nat) : (Wm l n k).length ≤ k := by
 unfold Wm; rw [List.length_eraseIdx]
 split <;> rw [List.length_take] <;> omega
theorem Adr {l : Frames} {n k : Nat} (h : k < l.length) (hn : k = n) : Wm l n (k + 1) = Wm l n k := by
 unfold Wm
 subst hn
 rw [Fa [] h, List.eraseIdx_append_of_length_le (by rw [List.length_take]; omega), List.length_take, Nat.min_eq_left (by omega), Nat.sub_self, List.eraseIdx_of_length_le (l := l.take k) (by rw [List.length_take]; omega)]
 simp
theorem Iw {v0 : Value} {l : Frames} {n : Int} (hs : St (L) R w) (h0 : sl v0 l ∈ R) (hn : Ap n) : Calls Try.prog 55 [v0, vi n].toArray w (Ca (fun v : Value × Value => .tuple #[v.1, v.2, vi (Bs l n).2.2]) (fun v => L) (fun v => sl v.1 (Bs l n).1 :: sl v.2 (Bs l n).2.1 :: R)) := by
 have hlen := Bh h0 hs
 unfold Ap at hn
 refine Aj Try.func55 rfl Try.ntmps55 rfl hs ?_
 clear hs
 refine ZU ?_
 rcases (show (n < 0) ∨ (¬ n < 0 ∧ (l.length : Int) ≤ n) ∨ (0 ≤ n ∧ n < (l.length : Int)) from by omega) with hc | hc | hc
 ·refine ZbT ?_
  exact ZfH
 ·refine Za3 ?_
  refine G6 ?_
  refine Gd1 ?_
  exact ZfH
 ·refine Za3 ?_
  refine Dl ?_
  refine Gd1 ?_
  refine Zaw ?_
  refine JC.rowNil 52 (List UInt8) ?_
  refine Bt (γ := Nat × Value) (fun g => g.1 ≤ l.length) (fun g => row 52 g.2 (Wm l n.toNat g.1) :: L) (fun _ => R) (fun g => [(0, v0), (1, vi n), (7, g.2), (18, v0), (19, vi (l.length : Int)), (20, vi (g.1 : Int))]) (fun g => l.length - g.1) (0, .slice none 0 0) (Nat.zero_le _) alT (fun w hs => hs) ?_
  rintro ⟨k, vs⟩ hk
  try simp only at hk ⊢
  refine ZB ?_
  refine cdy ?_ ?_
  ·intro ht21
   refine Gl ?_
   refine JC.open1 (xs := l) k mm (by omega) (fun _ u => ?_)
   refine Aa ?_
   refine Gb5 ?_
   refine Ga3 ?_
   refine cdy ?_ ?_
   ·intro ht27
    refine ZA ?_
    refine li [_] Kk rfl Zd ?_; intro v30
    refine ap Kk (hb := fun w hs => by have : maxN = 16777216 := rfl; have h9 := Zm l n.toNat k; simp only [List.length_cons, List.length_nil]; omega) (k := ?_); intro v31
    refine ZE ?_
    refine Be (k + 1, v31) (by show k + 1 ≤ l.length; omega) (by show l.length - (k + 1) < l.length - k; omega) alT (fun w hs => ?_)
    try simp only
    rw [Adq (by omega) (by omega)]; exact Ah hs
   ·intro ht27
    refine ZD ?_
    refine Be (k + 1, vs) (by show k + 1 ≤ l.length; omega) (by show l.length - (k + 1) < l.length - k; omega) alT (fun w hs => ?_)
    try simp only
    rw [Adr (by omega) (by omega)]; exact Ah hs
  ·intro ht21
   refine Gl ?_
   refine JC.open1 (xs := l) n.toNat mm (by omega) (fun _ u => ?_)
   refine Zab ?_
   refine dnl ?_; intro ρ
   refine Gl ?_
   have er : Bs l n = (l.eraseIdx n.toNat, Aw l n, 0) := by unfold Bs; rw [if_neg (by omega)]
   rw [er]
   exact G3 (vs, u) (hs := fun w hs => by rw [Zn (show k = l.length by omega)] at hs; exact Ah (St.shut hs))
theorem Qp {v0 : Value} {l : Frames} {n : Int} (hs : St (L) R w) (h0 : sl v0 l ∈ R) (hn : Ap n) : Calls Try.prog 46 [v0, vi n].toArray w (Ca (fun v : Value => .tuple #[v, vi (Fk l n).2]) (fun v => row 52 v (Fk l n).1 :: L) (fun v => R)) := by
 have hlen := Bh h0 hs
 unfold Ap at hn
 refine Aj Try.func46 rfl Try.ntmps46 rfl hs ?_
 clear hs
 refine ZD ?_
 rcases (show (n < 0) ∨ (¬ n < 0 ∧ (l.length : Int) ≤ n) ∨ (0 ≤ n ∧ n < (l.length : Int)) from by omega) with hc | hc | hc
 ·refine ZbT ?_
  exact Zgm
 ·refine Za3 ?_
  refine G6 ?_
  refine Gd1 ?_
  exact Zgm
 ·refine Za3 ?_
  refine Dl ?_
  refine Gc1 ?_
  refine JC.open1 (xs := l) n.toNat mm (by omega) (fun _ u => ?_)
  refine Za5 ?_
  refine An Try.call71 rfl (fun w hs => Tk hs mm mm) ?_; intro v19
  refine Ga2 ?_
  have er : Fk l n = (Dd l (Aw l n), 0) := by unfold Fk; rw [if_neg (by omega)]
  rw [er]
  exact Cj v19
theorem Wp {v0 : Value} {l : Frames} {n bit : Int} (hs : St (L) R w) (h0 : sl v0 l ∈ R) (hn : Ap n) (hbit : Ap bit) : Calls Try.prog 78 [v0, vi n, vi bit].toArray w (Ca (fun v : Value => .tuple #[v, vi (Bp l n bit).2]) (fun v => row 52 v (Bp l n bit).1 :: L) (fun v => R)) := by
 have hlen := Bh h0 hs
 unfold Ap at hn
 refine Aj Try.func78 rfl Try.ntmps78 rfl hs ?_
 clear hs
 refine ZD ?_
 rcases (show (n < 0) ∨ (¬ n < 0 ∧ (l.length : Int) ≤ n) ∨ (0 ≤ n ∧ n < (l.length : Int)) from by omega) with hc | hc | hc
 ·refine ZbT ?_
  exact Zgi
 ·refine Za3 ?_
  refine G6 ?_
  refine Gd1 ?_
  exact Zgi
 ·refine Za3 ?_
  refine Dl ?_
  refine Gc1 ?_
  refine JC.open1 (xs := l) n.toNat mm (by omega) (fun _ u => ?_)
  refine JC.know (p := (l.getD n.toNat []).length ≤ 16777216) (fun w hs => Bh (α := UInt8) (v := u) (.tail _ (.head _)) hs) (fun hlb => ?_)
  rcases (show (bit < 0) ∨ (¬ bit < 0 ∧ 8 * ((l.getD n.toNat []).length : Int) ≤ bit) ∨ (0 ≤ bit ∧ bit < 8 * ((l.getD n.toNat []).length : Int)) from by omega) with hc | hc | hc
  ·refine ZC ?_
   refine Ea ?_
   refine Gd10 ?_
   exact ZfX
  ·refine Zel ?_
   refine G6 ?_
   refine Gd1 ?_
   exact ZfX
  ·refine Zel ?_
   refine Dl ?_
   refine Gd1 ?_
   refine rn1 ?_
   refine An Try.call61 rfl (fun w hs => Tl hs mm) ?_; intro v30
   refine Gb1 ?_
   refine rn4 ?_
   refine ob (I1 Ot) ?_
   refine l_Sr Try.isAgg52 rfl .hd (by omega) ?_; intro v36
   refine rn1 ?_
   refine An Try.call107 rfl (fun w hs => Mx (bit := bit) hs mm hbit) ?_; intro v38
   refine ob (I1 Ot) ?_
   refine s_Sr Try.sizeOf52 rfl rfl mm .hd (by omega) ?_
   refine Gl ?_
   refine kp [6, 7, 8, 40] ?_
   refine Aa ?_
   refine Ga3 ?_
   have er : Bp l n bit = (l.set n.toNat (Bw (Aw l n) bit), 0) := by unfold Bp Aw; rw [if_neg (by omega), if_neg (by omega)]
   rw [er]
   exact Cj v30
theorem Lv {P : Program} {n : Nat} {Q : Exit → Act → World → Prop} {L : List Chunk} {R : List Fact} {al : List (Nat × Value)} {c : Code} {v : Value} {x : Chip} (i : Int) (hm : sl v x.cores ∈ R) (h0 : 0 ≤ i) (hi : i < x.cores.length) (k : (Ar x i).wait.wf → ∀ u, JC P n c Q L (cF v 4 i.toNat (Core.cells u (Ar x i)) :: sl u (Ar x i).lines :: R) al) : JC P n c Q L R al := JC.open1 i.toNat hm (by omega) k
theorem Oj {c : Core} {id home : Int} {o : Op} (ho : o.wf) : (Ai c id home o).1.wait.wf := by
 have hz : zOp.wf := by unfold zOp Op.wf Ap; simp only; omega
 unfold Ai
 split
 ·exact hz
 split
 ·exact hz
 split
 ·exact hz
 split
 ·exact hz
 ·exact ho
theorem Qy {c : Core} {id home : Int} {m : Msg} (ho : c.wait.wf) : (Ae c id home m).1.wait.wf := by
 have hz : zOp.wf := by unfold zOp Op.wf Ap; simp only; omega
 unfold Ae
 split
 ·exact ho
 split
 ·exact ho
 split
 ·split
  ·show (if _ then zOp else c.wait).wf
   split
   ·exact hz
   ·exact ho
  split
  ·exact ho
  ·exact ho
 split
 ·split
  ·exact ho
  split
  ·exact hz
  ·exact ho
 split
 ·exact hz
 ·exact ho
theorem Aao {x : Chip} {s : Step} (hk : s.kind = 2 ∨ s.kind = 3 ∨ s.kind = 4 ∨ s.kind = 5) (h : Bx x s.n) : Al x s = (Dk, [], 5) := by
 unfold Al
 rw [if_neg (by omega)]
 by_cases h2 : s.kind = 2
 ·rw [if_pos h2, if_pos h]
 rw [if_neg h2]
 by_cases h3 : s.kind = 3
 ·rw [if_pos h3, if_pos h]
 rw [if_neg h3]
 by_cases h4 : s.kind = 4
 ·rw [if_pos h4, if_pos h]
 ·rw [if_neg h4, if_pos (by omega), if_pos h]
section
variable {n nl : Nat} {x : Chip} {M : List Int}
theorem Inv.lbs (h : Inv n nl x M) {p : Int} (hp : 0 ≤ p ∧ p < x.cores.length) : ∀ i, i < (Ar x p).lines.length → LB ((Ar x p).lines.getD i zLine) := fun i hi => by
 have hnc := h.nc
 have h1 : (Ar x p).lines.length = nl := h.ncl p.toNat (by omega)
 exact h.lb (i := i) (p := p.toNat) (by omega) (by omega)
theorem Inv.ebs (h : Inv n nl x M) : ∀ i, i < x.home.length → EB (x.home.getD i A6) ∧ (x.home.getD i A6).turn ≤ 65535 ∧ (0 ≤ (x.home.getD i A6).serial ∧ (x.home.getD i A6).serial ≤ 65535) ∧ (0 ≤ (x.home.getD i A6).value ∧ (x.home.getD i A6).value ≤ 255) ∧ (x.home.getD i A6).last.length ≤ 4 := fun i hi => by
 have hnh := h.nh
 have hn := h.n1
 have := h.nla i (by omega)
 exact ⟨h.eb (i := i) (by omega), (h.ebd (i := i) (by omega)).1, (h.ebd (i := i) (by omega)).2.1, (h.ebd (i := i) (by omega)).2.2, by show (ent x i).last.length ≤ 4; omega⟩
theorem Inv.says_in (h : Inv n nl x M) (i : Nat) (hi : i < x.home.length) : ∀ a ∈ F5 (x.home.getD i A6) i n, MsgIn a := fun a ha => by
 have hnh := h.nh; have hn := h.n1; have hl := h.l1
 exact Zq (Rz h (i := i) (by omega) a ha).1 (by simp only [Hu]; omega) (by simp only [Hu]; omega)
end
theorem Y7 {n nl : Nat} {M : List Int} {cv hv fv : Value} {x : Chip} {s : Step} (hs : St (L) R w) (hc : sl cv x.cores ∈ R) (hh : sl hv x.home ∈ R) (hf : sl fv x.frames ∈ R) (h : Inv n nl x M) (hsw : s.wf) (hk : s.kind = 1) : Calls Try.prog 20 [.agg #[cv, hv, fv], .agg s.cells.toArray].toArray w (Ca (fun v : Value × Value × Value × Value => .tuple #[.agg #[v.1, v.2.1, v.2.2.1], v.2.2.2, vi (Al x s).2.2]) (fun v => L) (fun v => sl v.1 (Al x s).1.cores :: sl v.2.1 (Al x s).1.home :: sl v.2.2.1 (Al x s).1.frames :: sl v.2.2.2 (Al x s).2.1 :: R)) := by
 refine Zbc ?_;intro hn hnl hnc hnh hfr honec honeh honef hsw0 hop hsn hsN hsb hn64 hcw
 clear hs
 refine Zbr ?_;intro b2 b3 b4
 refine Zax ?_
 rcases (show (s.node < 0) ∨ (0 ≤ s.node ∧ (x.cores.length : Int) ≤ s.node) ∨ (0 ≤ s.node ∧ s.node < (x.cores.length : Int)) from by omega) with hc | hc | hc
 ·refine ZZ ?_
  refine Gc6 ?_
  exact Zfu
 ·refine Zad ?_
  refine ZG ?_
  refine G6 ?_
  refine Gc1 ?_
  exact Zfu
 ·refine Zad ?_
  refine ZG ?_
  refine Dl ?_
  refine Gc1 ?_
  refine ZcZ ?_;intro hwt u hkb hlb hk4
  refine Ze3 ?_
  refine jd_ (fun ρ S => blk b2 33 [cv, hv, fv] :: blk b3 28 s.cells :: blk b4 33 [.slice none 0 0, .slice none 0 0, .slice none 0 0] :: ((bif S 17 then [blk (Gh.dec (γ := Nat) (ρ 17)) 57 (bif S 18 then [(Gh.dec (γ := Value × Value × Value) (ρ 11)).1, vi (Ai (Ar x s.node) s.node (x.cores.length : Int) s.op).1.wait.kind, vi (Ai (Ar x s.node) s.node (x.cores.length : Int) s.op).1.wait.line, vi (Ai (Ar x s.node) s.node (x.cores.length : Int) s.op).1.wait.value] else [.slice none 0 0, vi 0, vi 0, vi 0])] else []) ++ (L))) ?_
  refine dn11 ?_
  refine Cc (γ := Value × Value × Value) (val := fun v => .tuple #[.agg (Core.cells v.1 (Ai (Ar x s.node) s.node (x.cores.length : Int) s.op).1).toArray, v.2.1, v.2.2, vi (Ai (Ar x s.node) s.node (x.cores.length : Int) s.op).2.2.2]) (F := fun v => [sl v.1 (Ai (Ar x s.node) s.node (x.cores.length : Int) s.op).1.lines, sl v.2.1 (Ai (Ar x s.node) s.node (x.cores.length : Int) s.op).2.1, sl v.2.2 (Ai (Ar x s.node) s.node (x.cores.length : Int) s.op).2.2.1]) Try.call50 (fun _ => rfl) (fun ρ L R w hd hs => Za (c := (Ar x s.node)) (id := s.node) (home := (x.cores.length : Int)) (q := s.op) (u := u) hs (hd.base mm) hkb hsn hn64 hop) (fun ρ g S hS hA => by have u17 : upS S 11 17 = S 17 := rfl; have u18 : upS S 11 18 = S 18 := rfl; have r17 : Rho.set ρ 11 g 17 = ρ 17 := rfl; have h18 : S 18 = false := hA 18 ⟨0, rfl⟩; simp only [u17, u18, r17, h18, cond_false]) ?_
  refine e_p (v := fun ρ => .tuple #[.agg (Core.cells (Gh.dec (γ := Value × Value × Value) (ρ 11)).1 (Ai (Ar x s.node) s.node (x.cores.length : Int) s.op).1).toArray, (Gh.dec (γ := Value × Value × Value) (ρ 11)).2.1, (Gh.dec (γ := Value × Value × Value) (ρ 11)).2.2, vi (Ai (Ar x s.node) s.node (x.cores.length : Int) s.op).2.2.2]) (fun _ _ => Pw) (Ind.gh (h := fun g => (.tuple #[.agg (Core.cells (Gh.dec (γ := Value × Value × Value) g).1 (Ai (Ar x s.node) s.node (x.cores.length : Int) s.op).1).toArray, (Gh.dec (γ := Value × Value × Value) g).2.1, (Gh.dec (γ := Value × Value × Value) g).2.2, vi (Ai (Ar x s.node) s.node (x.cores.length : Int) s.op).2.2.2] : Value)) 11 0 rfl) (fun _ _ _ _ _ => rfl) ?_
  refine e_p (v := fun ρ => .agg (Core.cells (Gh.dec (γ := Value × Value × Value) (ρ 11)).1 (Ai (Ar x s.node) s.node (x.cores.length : Int) s.op).1).toArray) (fun _ _ => q_x) (Ind.gh (h := fun g => (.agg (Core.cells (Gh.dec (γ := Value × Value × Value) g).1 (Ai (Ar x s.node) s.node (x.cores.length : Int) s.op).1).toArray : Value)) 11 1 rfl) (fun _ _ _ _ _ => rfl) ?_
  refine e_p (v := fun ρ => (Gh.dec (γ := Value × Value × Value) (ρ 11)).2.1) (fun _ _ => q_x) (Ind.gh (h := fun g => ((Gh.dec (γ := Value × Value × Value) g).2.1 : Value)) 11 1 rfl) (fun _ _ _ _ _ => rfl) ?_
  refine e_p (v := fun ρ => (Gh.dec (γ := Value × Value × Value) (ρ 11)).2.2) (fun _ _ => q_x) (Ind.gh (h := fun g => ((Gh.dec (γ := Value × Value × Value) g).2.2 : Value)) 11 1 rfl) (fun _ _ _ _ _ => rfl) ?_
  refine Ze5 ?_
  refine Ha (cs := [.slice none 0 0, vi 0, vi 0, vi 0]) Try.zeroValue57 rfl (fun ρ b S hS hA => ?_) ?_
  ·have ui : upS S 17 17 = true := rfl; have u18 : upS S 17 18 = S 18 := rfl; have r11 : Rho.set ρ 17 (Gh.enc b) 11 = ρ 11 := rfl; have h18 : S 18 = false := hA 18 ⟨0, rfl⟩; have rs : (Gh.dec (γ := Nat) (Rho.set ρ 17 (Gh.enc b) 17)) = b := rfl
   simp only [ui, hS, u18, r11, h18, rs, cond_true, cond_false, List.nil_append]
   exact ZeL
  refine es_ 57 0 [17] [] (fun ρ => (Gh.dec (γ := Nat) (ρ 17))) (fun ρ => [.slice none 0 0, vi 0, vi 0, vi 0]) (fun ρ => [(Gh.dec (γ := Value × Value × Value) (ρ 11)).1, vi (Ai (Ar x s.node) s.node (x.cores.length : Int) s.op).1.wait.kind, vi (Ai (Ar x s.node) s.node (x.cores.length : Int) s.op).1.wait.line, vi (Ai (Ar x s.node) s.node (x.cores.length : Int) s.op).1.wait.value]) Try.sizeOf57 (h1 := (fun ρ R w L' hd hs => Bm (isSlice.one (hs.fact (hd.dep (it := ⟨11, _, _, _, _⟩) (by repeat (first | exact List.Mem.head _ | refine List.Mem.tail _ ?_)) ⟨9, rfl⟩ (List.Mem.head _)))) (by repeat (first | exact D5 | refine Bm rfl ?_)))) ?_
  refine e_p (v := fun ρ => (Gh.dec (γ := Value × Value × Value) (ρ 11)).2.1) (fun _ _ => Dx) (Ind.gh (h := fun g => ((Gh.dec (γ := Value × Value × Value) g).2.1 : Value)) 11 0 rfl) (fun _ _ _ _ _ => rfl) ?_
  refine e_p (v := fun ρ => (Gh.dec (γ := Value × Value × Value) (ρ 11)).2.2) (fun _ _ => Dx) (Ind.gh (h := fun g => ((Gh.dec (γ := Value × Value × Value) g).2.2 : Value)) 11 0 rfl) (fun _ _ _ _ _ => rfl) ?_
  refine Jx (v := vi (Ai (Ar x s.node) s.node (x.cores.length : Int) s.op).2.2.2) (fun _ _ => Dx) (fun _ _ _ _ _ => rfl) ?_
  refine dnl ?_; intro ρ
  refine xq_ (blk b2 33 [cv, hv, fv] :: blk b3 28 s.cells :: blk b4 33 [.slice none 0 0, .slice none 0 0, .slice none 0 0] :: (blk (Gh.dec (γ := Nat) (ρ 17)) 57 [(Gh.dec (γ := Value × Value × Value) (ρ 11)).1, vi (Ai (Ar x s.node) s.node (x.cores.length : Int) s.op).1.wait.kind, vi (Ai (Ar x s.node) s.node (x.cores.length : Int) s.op).1.wait.line, vi (Ai (Ar x s.node) s.node (x.cores.length : Int) s.op).1.wait.value] :: L)) ?_
  generalize (Gh.dec (γ := Value × Value × Value) (ρ 11)) = v65
  generalize (Gh.dec (γ := Nat) (ρ 17)) = b9
  refine Gl ?_
  refine kp [2, 3, 4, 5, 6, 7, 8, 9, 10, 11, 12, 31, 70, 71] ?_
  refine ZP ?_
  refine cdy ?_ ?_
  ·intro ht71
   refine Gl ?_
   refine Zaa ?_
   refine ZA ?_
   refine Cg (caps := []) (vs := [vi (Ai (Ar x s.node) s.node (x.cores.length : Int) s.op).2.2.2]) rfl Try.call49 rfl (fun w hs => Kw hs) ?_; intro _
   refine rn3 ?_
   refine Za2 ?_
   refine Ga2 ?_
   have er : Al x s = (Dk, [], (Ai (Ar x s.node) s.node (x.cores.length : Int) s.op).2.2.2) := by unfold Al Bc; rw [if_pos (by omega), if_neg (by omega), if_pos ht71]
   rw [er]
   exact Ct (.slice none 0 0, .slice none 0 0, .slice none 0 0, .slice none 0 0) Try.isAgg33 Try.sizeOf33
  ·intro ht71
   refine Zai ?_
   refine An Try.call51 rfl (fun w hs => Mf (x := x) (i := s.node) (k := (Ai (Ar x s.node) s.node (x.cores.length : Int) s.op).1) (u := v65.1) hs mm honeh honef mm (Oj hop) (by omega)) ?_; intro v82
   refine J.know (p := v82.oneCell' = true) (fun w hs => isSlice.one (hs.fact (List.Mem.head _))) (fun honev82 => ?_)
   refine s_B (cs := [v82, hv, fv]) Try.sizeOf33 ?_
   refine Zaj ?_
   refine An Try.call52 rfl (fun w hs => P4 (fs := x.frames) (ms := (Ai (Ar x s.node) s.node (x.cores.length : Int) s.op).2.1) hs mm mm (T4 (by omega) (by omega) hk4 hlb)) ?_; intro v86
   refine J.know (p := v86.oneCell' = true) (fun w hs => isSlice.one (hs.fact (List.Mem.head _))) (fun honev86 => ?_)
   refine ZI ?_
   refine ZL ?_
   refine s_B (cs := [v82, hv, v86]) Try.sizeOf33 ?_
   refine Ga2 ?_
   have er : Al x s = (Cz x s.node (Ai (Ar x s.node) s.node (x.cores.length : Int) s.op).1 (Ai (Ar x s.node) s.node (x.cores.length : Int) s.op).2.1, (Ai (Ar x s.node) s.node (x.cores.length : Int) s.op).2.2.1, 0) := by unfold Al Bc; rw [if_pos (by omega), if_neg (by omega), if_neg ht71]
   rw [er]
   exact Ct (v82, hv, v86, v65.2.2) Try.isAgg33 Try.sizeOf33
theorem Y8 {n nl : Nat} {M : List Int} {cv hv fv : Value} {x : Chip} {s : Step} (hs : St (L) R w) (hc : sl cv x.cores ∈ R) (hh : sl hv x.home ∈ R) (hf : sl fv x.frames ∈ R) (h : Inv n nl x M) (hsw : s.wf) (hk : s.kind ≠ 1 ∧ s.kind ≠ 2 ∧ s.kind ≠ 3 ∧ s.kind ≠ 4 ∧ s.kind ≠ 5 ∧ s.kind ≠ 6) : Calls Try.prog 20 [.agg #[cv, hv, fv], .agg s.cells.toArray].toArray w (Ca (fun v : Value × Value × Value × Value => .tuple #[.agg #[v.1, v.2.1, v.2.2.1], v.2.2.2, vi (Al x s).2.2]) (fun v => L) (fun v => sl v.1 (Al x s).1.cores :: sl v.2.1 (Al x s).1.home :: sl v.2.2.1 (Al x s).1.frames :: sl v.2.2.2 (Al x s).2.1 :: R)) := by
 refine Zbc ?_;intro hn hnl hnc hnh hfr honec honeh honef hsw0 hop hsn hsN hsb hn64 hcw
 clear hs
 refine Zbr ?_;intro b2 b3 b4
 refine ZF ?_
 refine ZF ?_
 refine Zdx ?_
 refine Zaa ?_
 refine ZC ?_
 refine Cg (caps := []) (vs := [vi 1]) rfl Try.call49 rfl (fun w hs => Kw hs) ?_; intro _
 refine rn3 ?_
 refine Za2 ?_
 refine Ga2 ?_
 have er : Al x s = (Dk, [], 1) := by unfold Al; rw [if_neg (by omega), if_neg (by omega), if_neg (by omega), if_neg (by omega), if_neg (by omega), if_neg (by omega)]
 rw [er]
 exact Ct (.slice none 0 0, .slice none 0 0, .slice none 0 0, .slice none 0 0) Try.isAgg33 Try.sizeOf33
theorem Y2 {n nl : Nat} {M : List Int} {cv hv fv : Value} {x : Chip} {s : Step} (hs : St (L) R w) (hc : sl cv x.cores ∈ R) (hh : sl hv x.home ∈ R) (hf : sl fv x.frames ∈ R) (h : Inv n nl x M) (hsw : s.wf) (hk : s.kind = 6) : Calls Try.prog 20 [.agg #[cv, hv, fv], .agg s.cells.toArray].toArray w (Ca (fun v : Value × Value × Value × Value => .tuple #[.agg #[v.1, v.2.1, v.2.2.1], v.2.2.2, vi (Al x s).2.2]) (fun v => L) (fun v => sl v.1 (Al x s).1.cores :: sl v.2.1 (Al x s).1.home :: sl v.2.2.1 (Al x s).1.frames :: sl v.2.2.2 (Al x s).2.1 :: R)) := by
 refine Zbc ?_;intro hn hnl hnc hnh hfr honec honeh honef hsw0 hop hsn hsN hsb hn64 hcw
 clear hs
 refine Zbr ?_;intro b2 b3 b4
 refine ZF ?_
 refine Zax ?_
 rcases (show (s.node < 0) ∨ (0 ≤ s.node ∧ (x.cores.length : Int) < s.node) ∨ (0 ≤ s.node ∧ s.node < (x.cores.length : Int)) ∨ (s.node = (x.cores.length : Int)) from by omega) with hc | hc | hc | hc
 ·refine ZZ ?_
  refine Gc6 ?_
  exact Zfx
 ·refine Zad ?_
  refine ZG ?_
  refine Gt ?_
  refine Gc1 ?_
  exact Zfx
 ·refine Zad ?_
  refine ZG ?_
  refine Eg ?_
  refine Gd1 ?_
  refine rn3 ?_
  refine Ea ?_
  refine Glc ?_
  refine ZcZ ?_;intro hwt u hkb hlb hk4
  refine Ze3 ?_
  refine jd_ (fun ρ S => blk b2 33 (bif S 14 then [cv, hv, (Gh.dec (γ := Value) (ρ 12))] else [cv, hv, fv]) :: blk b3 28 s.cells :: blk b4 33 [.slice none 0 0, .slice none 0 0, .slice none 0 0] :: L) ?_
  refine dn1 ?_
  refine Iq (v := fv) (fun ρ S hS hB hA => by have h14 : S 14 = false := hA 14 ⟨0, rfl⟩; simp only [h14, cond_false]; exact C6 (hc := A7 pkk (by repeat (first | exact rfl | refine Di rfl ?_))) Try.isAgg31) (fun _ _ _ _ _ => rfl) ?_
  refine dn1 ?_
  refine Iq (v := cv) (fun ρ S hS hB hA => by have h14 : S 14 = false := hA 14 ⟨0, rfl⟩; simp only [h14, cond_false]; exact C6 (hc := A7 pkk (by repeat (first | exact rfl | refine Di rfl ?_))) Try.isAgg29) (fun _ _ _ _ _ => rfl) ?_
  refine dn2 ?_
  first | refine epc (fun _ _ => F6 Pz) ?_ | refine epc (fun _ _ => I1 Pz) ?_ | refine epp (fun _ _ => F6 Pz) ?_ | refine epp (fun _ _ => I1 Pz) ?_
  first | refine epc (fun _ _ => Yc Try.isAgg57 Try.sizeOf57) ?_ | refine epc (fun _ _ => Fh 4 Try.isAgg57 Try.sizeOf57) ?_ | refine epc (fun _ _ => q_lNc 4 Try.isAgg57 Try.sizeOf57) ?_ | refine epc (fun _ _ => q_lNf 4 Try.isAgg57 Try.sizeOf57) ?_ | refine epp (fun _ _ => Yc Try.isAgg57 Try.sizeOf57) ?_ | refine epp (fun _ _ => Fh 4 Try.isAgg57 Try.sizeOf57) ?_ | refine epp (fun _ _ => q_lNc 4 Try.isAgg57 Try.sizeOf57) ?_ | refine epp (fun _ _ => q_lNf 4 Try.isAgg57 Try.sizeOf57) ?_
  refine dn3 ?_
  refine Cc (γ := Value) (val := fun v => v) (F := fun v => [sl v (D3 (Ar x s.node) s.node (x.cores.length : Int))]) Try.call53 (fun _ => rfl) (fun ρ L R w hd hs => Qc (c := (Ar x s.node)) (id := s.node) (home := (x.cores.length : Int)) (u := u) hs (hd.base mm) hsn hn64) (fun _ _ _ _ _ => rfl) ?_
  refine Cc (γ := Value) (val := fun v => v) (F := fun v => [sl v (way x.frames (D3 (Ar x s.node) s.node (x.cores.length : Int)))]) Try.call52 (fun _ => rfl) (fun ρ L R w hd hs => P4 (fs := x.frames) (ms := (D3 (Ar x s.node) s.node (x.cores.length : Int))) hs (hd.base mm) (hd.dep (it := ⟨11, _, _, _, _⟩) (by repeat (first | exact List.Mem.head _ | refine List.Mem.tail _ ?_)) ⟨9, rfl⟩ (List.Mem.head _)) (Oq (by omega) (by omega) _ 0 (by omega) (by omega) (Ts (d := zLine) hlb))) (fun ρ g S hS hA => by have u14 : upS S 12 14 = S 14 := rfl; have h14 : S 14 = false := hA 14 ⟨0, rfl⟩; simp only [u14, h14, cond_false]) ?_
  refine dn1 ?_
  refine Em (T0 := 33) (f := 2) (vs := fun ρ => [cv, hv, fv]) (v := fun ρ => (Gh.dec (γ := Value) (ρ 12))) (fun ρ => b2) Try.sizeOf31 (fun _ => rfl) (fun _ => rfl) (fun ρ S R w L9 hB hd hs => isSlice.one (hs.fact (hd.dep (it := ⟨12, _, _, _, _⟩) (by repeat (first | exact List.Mem.head _ | refine List.Mem.tail _ ?_)) ⟨9, rfl⟩ (List.Mem.head _)))) (fun _ => rfl) (fun ρ g S hS hB hA => ?_) ?_
  ·have ui : upS S 14 14 = true := rfl; have r12 : Rho.set ρ 14 g 12 = ρ 12 := rfl
   simp only [ui, hS, r12, cond_true, cond_false]
   exact pex
  refine dnl ?_; intro ρ
  refine xq_ (blk b2 33 [cv, hv, (Gh.dec (γ := Value) (ρ 12))] :: blk b3 28 s.cells :: blk b4 33 [.slice none 0 0, .slice none 0 0, .slice none 0 0] :: L) ?_
  generalize (Gh.dec (γ := Value) (ρ 11)) = v121
  generalize (Gh.dec (γ := Value) (ρ 12)) = v122
  refine Zak ?_
  refine JC.know (p := v122.oneCell' = true) (fun w hs => isSlice.one (hs.fact (mm (f := sl v122 (way x.frames (D3 (Ar x s.node) s.node (x.cores.length : Int))))))) (fun honev122 => ?_)
  refine kp [2, 3, 4, 5, 6, 7, 8, 31, 124] ?_
  refine ZC ?_
  refine s_B (cs := [cv, hv, v122]) Try.sizeOf33 ?_
  refine Ga2 ?_
  have er : Al x s = (⟨x.cores, x.home, way x.frames (D3 (Ar x s.node) s.node (x.cores.length : Int))⟩, [], 0) := by unfold Al Bc; rw [if_neg (by omega), if_neg (by omega), if_neg (by omega), if_neg (by omega), if_neg (by omega), if_pos (by omega)]; rw [if_neg (by omega), if_neg (by omega)]
  rw [er]
  exact Ct (cv, hv, v122, .slice none 0 0) Try.isAgg33 Try.sizeOf33
 ·refine Zad ?_
  refine ZG ?_
  refine Eg ?_
  refine Gd1 ?_
  refine rn3 ?_
  refine Bi ?_
  refine Glc ?_
  have hnode : s.node = (x.cores.length : Int) := by omega
  refine Aa ?_
  refine Ga4 ?_
  refine Bt (γ := Nat × Value) (fun g => g.1 ≤ x.home.length) (fun g => blk b2 33 [cv, hv, g.2] :: blk b3 28 s.cells :: blk b4 33 [.slice none 0 0, .slice none 0 0, .slice none 0 0] :: L) (fun g => sl g.2 (way x.frames (Db (x.cores.length : Int) 0 (x.home.take g.1))) :: R) (fun g => [(2, bp b2 0), (3, bp b3 0), (4, bp b4 0), (8, vi (x.cores.length : Int)), (126, hv), (127, vi (x.home.length : Int)), (128, vi (g.1 : Int))]) (fun g => x.home.length - g.1) (0, fv) (Nat.zero_le _) alT (fun w hs => Ah (Acb hs hf)) ?_
  rintro ⟨k, vf⟩ hk
  try simp only at hk ⊢
  refine Gl ?_
  refine kp [2, 3, 4, 5, 6, 7, 8, 31, 126, 127, 128, 129] ?_
  refine ZX ?_
  refine cdy ?_ ?_
  ·intro ht129
   refine Gl ?_
   refine Lu (l := x.home) (v := hv) k mm (by omega) (fun _ ue => ?_)
   refine JC.know (p := ue.oneCell' = true) (fun w hs => isSlice.one (hs.fact (.tail _ (.head _)))) (fun honeu => ?_)
   refine ZJ ?_
   refine al_ (cs := zEC) Try.zeroValue80 ?_; intro b14
   refine rn1 ?_
   refine s_B (cs := Entry.cells ue (x.home.getD k A6)) Try.sizeOf80 ?_
   refine Gl ?_
   refine cq_ (blk b2 33 [cv, hv, vf] :: blk b14 80 (Entry.cells ue (x.home.getD k A6)) :: blk b3 28 s.cells :: blk b4 33 [.slice none 0 0, .slice none 0 0, .slice none 0 0] :: L) ?_
   refine jd_ (fun ρ S => blk b2 33 (bif S 8 then [cv, hv, (Gh.dec (γ := Value) (ρ 6))] else [cv, hv, vf]) :: blk b14 80 (Entry.cells ue (x.home.getD k A6)) :: blk b3 28 s.cells :: blk b4 33 [.slice none 0 0, .slice none 0 0, .slice none 0 0] :: L) ?_
   refine dn1 ?_
   refine Iq (v := vf) (fun ρ S hS hB hA => by have h8 : S 8 = false := hA 8 ⟨0, rfl⟩; simp only [h8, cond_false]; exact C6 (hc := A7 pkk (by repeat (first | exact rfl | refine Di rfl ?_))) Try.isAgg31) (fun _ _ _ _ _ => rfl) ?_
   refine dn3 ?_
   refine Cc (γ := Value) (val := fun v => v) (F := fun v => [sl v (F5 (x.home.getD k A6) (k : Int) (x.cores.length : Int))]) Try.call54 (fun _ => rfl) (fun ρ L R w hd hs => Iy (e := (x.home.getD k A6)) (line := (k : Int)) (id := (x.cores.length : Int)) (u := ue) hs (h.ebs k (by omega)).1 honeu (by unfold Ap; omega) hn64) (fun _ _ _ _ _ => rfl) ?_
   refine Cc (γ := Value) (val := fun v => v) (F := fun v => [sl v (way (way x.frames (Db (x.cores.length : Int) 0 (x.home.take k))) (F5 (x.home.getD k A6) (k : Int) (x.cores.length : Int)))]) Try.call52 (fun _ => rfl) (fun ρ L R w hd hs => P4 (fs := way x.frames (Db (x.cores.length : Int) 0 (x.home.take k))) (ms := F5 (x.home.getD k A6) (k : Int) (x.cores.length : Int)) hs (hd.base mm) (hd.dep (it := ⟨5, _, _, _, _⟩) (by repeat (first | exact List.Mem.head _ | refine List.Mem.tail _ ?_)) ⟨9, rfl⟩ (List.Mem.head _)) (by rw [hnc]; exact h.says_in k (by omega))) (fun ρ g S hS hA => by have u8 : upS S 6 8 = S 8 := rfl; have h8 : S 8 = false := hA 8 ⟨0, rfl⟩; simp only [u8, h8, cond_false]) ?_
   refine dn1 ?_
   refine Em (T0 := 33) (f := 2) (vs := fun ρ => [cv, hv, vf]) (v := fun ρ => (Gh.dec (γ := Value) (ρ 6))) (fun ρ => b2) Try.sizeOf31 (fun _ => rfl) (fun _ => rfl) (fun ρ S R w L9 hB hd hs => isSlice.one (hs.fact (hd.dep (it := ⟨6, _, _, _, _⟩) (by repeat (first | exact List.Mem.head _ | refine List.Mem.tail _ ?_)) ⟨9, rfl⟩ (List.Mem.head _)))) (fun _ => rfl) (fun ρ g S hS hB hA => ?_) ?_
   ·have ui : upS S 8 8 = true := rfl; have r6 : Rho.set ρ 8 g 6 = ρ 6 := rfl
    simp only [ui, hS, r6, cond_true, cond_false]
    exact pex
   refine dnl ?_; intro ρ
   refine xq_ (blk b2 33 [cv, hv, (Gh.dec (γ := Value) (ρ 6))] :: blk b14 80 (Entry.cells ue (x.home.getD k A6)) :: blk b3 28 s.cells :: blk b4 33 [.slice none 0 0, .slice none 0 0, .slice none 0 0] :: L) ?_
   generalize (Gh.dec (γ := Value) (ρ 5)) = v138
   generalize (Gh.dec (γ := Value) (ρ 6)) = v139
   refine ZD ?_
   refine Be (k + 1, v139) (by show k + 1 ≤ x.home.length; omega) (by show x.home.length - (k + 1) < x.home.length - k; omega) alT (fun w hs => ?_)
   try simp only
   rw [Fa A6 (by omega), H9, Je, List.length_take, Nat.min_eq_left (by omega), Int.zero_add]; exact Ah hs
  ·intro ht129
   refine Zak ?_
   refine JC.know (p := vf.oneCell' = true) (fun w hs => isSlice.one (hs.fact (mm (f := sl vf (way x.frames (Db (x.cores.length : Int) 0 (x.home.take k))))))) (fun honevf => ?_)
   refine ZC ?_
   refine s_B (cs := [cv, hv, vf]) Try.sizeOf33 ?_
   refine Ga2 ?_
   have er : Al x s = (⟨x.cores, x.home, way x.frames (Db (x.cores.length : Int) 0 (x.home.take k))⟩, [], 0) := by unfold Al Bc; rw [if_neg (by omega), if_neg (by omega), if_neg (by omega), if_neg (by omega), if_neg (by omega), if_pos (by omega)]; rw [if_neg (by omega), if_pos (by omega), List.take_of_length_le (by omega), hnode]; rfl
   rw [er]
   exact Ct (cv, hv, vf, .slice none 0 0) Try.isAgg33 Try.sizeOf33
theorem Y4 {n nl : Nat} {M : List Int} {cv hv fv : Value} {x : Chip} {s : Step} (hs : St (L) R w) (hc : sl cv x.cores ∈ R) (hh : sl hv x.home ∈ R) (hf : sl fv x.frames ∈ R) (h : Inv n nl x M) (hsw : s.wf) (hk : s.kind = 4) : Calls Try.prog 20 [.agg #[cv, hv, fv], .agg s.cells.toArray].toArray w (Ca (fun v : Value × Value × Value × Value => .tuple #[.agg #[v.1, v.2.1, v.2.2.1], v.2.2.2, vi (Al x s).2.2]) (fun v => L) (fun v => sl v.1 (Al x s).1.cores :: sl v.2.1 (Al x s).1.home :: sl v.2.2.1 (Al x s).1.frames :: sl v.2.2.2 (Al x s).2.1 :: R)) := by
 refine Zbc ?_;intro hn hnl hnc hnh hfr honec honeh honef hsw0 hop hsn hsN hsb hn64 hcw
 clear hs
 refine Zbr ?_;intro b2 b3 b4
 refine ZaX ?_
 refine Gc1 ?_
 rcases (show (Bx x s.n) ∨ (¬ Bx x s.n) from by exact Classical.em _) with hc | hc
 ·exact ZeH
 ·have hnf := hc
  unfold Bx at hc
  refine Zcp ?_;intro et
  refine An (γ := Value × Value) (val := fun v => .tuple #[v.1, v.2, vi 0]) (Rf := fun v => sl v.1 (x.frames.eraseIdx s.n.toNat) :: sl v.2 (Aw x.frames s.n) :: R) Try.call55 rfl (fun w hs => by have h9 := Iw (l := x.frames) (n := s.n) hs mm hsN; rw [et] at h9; exact h9) ?_; intro ⟨va, vb⟩
  refine Zdw ?_
  refine Gb2 ?_
  refine Ck ?_
  refine Gd1 ?_
  refine rn3 ?_
  refine An Try.call56 rfl (fun w hs => V8 (l := x.frames) (b := (Aw x.frames s.n)) hs mm mm) ?_; intro v172
  refine J.know (p := v172.oneCell' = true) (fun w hs => isSlice.one (hs.fact (List.Mem.head _))) (fun honev172 => ?_)
  refine ZI ?_
  refine Zak ?_
  refine ZC ?_
  refine s_B (cs := [cv, hv, v172]) Try.sizeOf33 ?_
  refine Ga2 ?_
  have er : Al x s = (⟨x.cores, x.home, Dd x.frames (Aw x.frames s.n)⟩, [], 0) := by unfold Al; rw [if_neg (by omega), if_neg (by omega), if_neg (by omega), if_pos (by omega), if_neg hnf]
  rw [er]
  exact Ct (cv, hv, v172, .slice none 0 0) Try.isAgg33 Try.sizeOf33
theorem Y3 {n nl : Nat} {M : List Int} {cv hv fv : Value} {x : Chip} {s : Step} (hs : St (L) R w) (hc : sl cv x.cores ∈ R) (hh : sl hv x.home ∈ R) (hf : sl fv x.frames ∈ R) (h : Inv n nl x M) (hsw : s.wf) (hk : s.kind = 5) : Calls Try.prog 20 [.agg #[cv, hv, fv], .agg s.cells.toArray].toArray w (Ca (fun v : Value × Value × Value × Value => .tuple #[.agg #[v.1, v.2.1, v.2.2.1], v.2.2.2, vi (Al x s).2.2]) (fun v => L) (fun v => sl v.1 (Al x s).1.cores :: sl v.2.1 (Al x s).1.home :: sl v.2.2.1 (Al x s).1.frames :: sl v.2.2.2 (Al x s).2.1 :: R)) := by
 refine Zbc ?_;intro hn hnl hnc hnh hfr honec honeh honef hsw0 hop hsn hsN hsb hn64 hcw
 clear hs
 refine Zbr ?_;intro b2 b3 b4
 refine ZF ?_
 refine ZaX ?_
 refine Gc1 ?_
 rcases (show (Bx x s.n) ∨ (¬ Bx x s.n) from by exact Classical.em _) with hc | hc
 ·exact ZeH
 ·have hnf := hc
  unfold Bx at hc
  refine Zcp ?_;intro et
  refine An (γ := Value × Value) (val := fun v => .tuple #[v.1, v.2, vi 0]) (Rf := fun v => sl v.1 (x.frames.eraseIdx s.n.toNat) :: sl v.2 (Aw x.frames s.n) :: R) Try.call55 rfl (fun w hs => by have h9 := Iw (l := x.frames) (n := s.n) hs mm hsN; rw [et] at h9; exact h9) ?_; intro ⟨va, vb⟩
  refine Zdw ?_
  refine Gb2 ?_
  refine ZF ?_
  refine Ck ?_
  refine Gd1 ?_
  refine rn6 ?_
  refine An Try.call24 rfl (fun w hs => Ow (c := (Aq x)) (b := (Aw x.frames s.n)) hs mm hcw) ?_; intro _
  refine rn3 ?_
  refine al_ (cs := zMsg.cells) Try.zeroValue49 ?_; intro b18
  refine Zdo ?_
  refine cdy ?_ ?_
  ·intro ht188
   refine Gl ?_
   refine Zaa ?_
   refine ZC ?_
   refine Cg (caps := []) (vs := [vi 6]) rfl Try.call49 rfl (fun w hs => Kw hs) ?_; intro _
   refine rn3 ?_
   refine Za2 ?_
   refine Ga2 ?_
   have er : Al x s = (Dk, [], 6) := by unfold Al; rw [if_neg (by omega), if_neg (by omega), if_neg (by omega), if_neg (by omega), if_pos (by omega), if_neg hnf]; rw [if_pos ht188]
   rw [er]
   exact Ct (.slice none 0 0, .slice none 0 0, .slice none 0 0, .slice none 0 0) Try.isAgg33 Try.sizeOf33
  ·intro ht188
   refine Gl ?_
   have hb12 : (Aw x.frames s.n).length = 12 := (h.mi _ (Kh hc)).1
   rcases (show (s.bit < 0) ∨ (0 ≤ s.bit ∧ 8 * ((Aw x.frames s.n).length : Int) ≤ s.bit) ∨ (0 ≤ s.bit ∧ s.bit < 8 * ((Aw x.frames s.n).length : Int)) from by omega) with hc | hc | hc
   ·have esp : Bp x.frames s.n s.bit = ([], 3) := by unfold Bp; rw [if_neg (by omega), if_pos (by omega)]
    refine ZZ ?_
    refine Gc8 ?_
    exact Zfn
   ·have esp : Bp x.frames s.n s.bit = ([], 3) := by unfold Bp; rw [if_neg (by omega), if_pos (by omega)]
    refine Zew ?_
    refine G6 ?_
    refine Gc1 ?_
    exact Zfn
   ·have esp : Bp x.frames s.n s.bit = (x.frames.set s.n.toNat (Bw (Aw x.frames s.n) s.bit), 0) := by unfold Bp; rw [if_neg (by omega), if_neg (by omega)]
    refine Zew ?_
    refine Dl ?_
    refine Gc1 ?_
    refine kp [2, 3, 4, 5, 6, 8, 15, 16, 17, 20, 210, 211, 212, 213] ?_
    refine Aa ?_
    refine liO ([] : Frames) Kk rfl (fun j h => G4) ?_; intro v210
    refine rn2 ?_
    refine ap Kk (hb := fun w hs => by have : maxN = 16777216 := rfl; simp only [List.length_nil]; omega) (k := ?_); intro v213
    refine Ga1 ?_
    refine cq_ (row 52 v213 x.frames :: blk b2 33 [cv, hv, fv] :: blk b3 28 s.cells :: blk b4 33 [.slice none 0 0, .slice none 0 0, .slice none 0 0] :: L) ?_
    refine jd_ (fun ρ S => row 52 v213 (bif S 8 then (x.frames.set s.n.toNat (Bw (Aw x.frames s.n) s.bit)) else x.frames) :: blk b2 33 [cv, hv, fv] :: blk b3 28 s.cells :: blk b4 33 [.slice none 0 0, .slice none 0 0, .slice none 0 0] :: L) ?_
    refine dn6 ?_
    refine Cc (γ := Value) (val := fun v => v) (F := fun v => [sl v (Bw (Aw x.frames s.n) s.bit)]) Try.call57 (fun _ => rfl) (fun ρ L R w hd hs => Mg (b := (Aw x.frames s.n)) (bit := s.bit) hs (hd.base mm) hsb) (fun _ _ _ _ _ => rfl) ?_
    refine Jx (v := ep v213 1 s.n.toNat 0) (fun ρ S => I1 (v := v213) (len := (bif S 8 then (x.frames.set s.n.toNat (Bw (Aw x.frames s.n) s.bit)) else x.frames).length) (i := s.n) Ot (hl := Dz .hd) (h0 := by omega) (h1 := by cases S 8 <;> simp <;> omega)) (fun _ _ _ _ _ => rfl) ?_
    refine Aam (T0 := 52) (v := v213) (xs := x.frames) (k := s.n.toNat) (e' := (Bw (Aw x.frames s.n) s.bit)) (c := fun ρ => (Gh.dec (γ := Value) (ρ 6))) (cs := fun ρ => [(Gh.dec (γ := Value) (ρ 6))]) Try.sizeOf52 rfl (by omega) (fun _ => rfl) (fun _ => rfl) (fun _ h => H5 h) (fun ρ R w L' hd hs => isSlice.one (hs.fact (hd.dep (it := ⟨6, _, _, _, _⟩) (by repeat (first | exact List.Mem.head _ | refine List.Mem.tail _ ?_)) ⟨9, rfl⟩ (List.Mem.head _)))) (fun ρ R hd j hj => ⟨_, rfl, hj _ (hd.dep (it := ⟨6, _, _, _, _⟩) (by repeat (first | exact List.Mem.head _ | refine List.Mem.tail _ ?_)) ⟨9, rfl⟩ (List.Mem.head _))⟩) (fun ρ g S hS hB hA => ?_) ?_
    ·have ui : upS S 8 8 = true := rfl
     simp only [ui, hS, cond_true, cond_false]
     exact pex
    refine dnl ?_; intro ρ
    refine xq_ (row 52 v213 (x.frames.set s.n.toNat (Bw (Aw x.frames s.n) s.bit)) :: blk b2 33 [cv, hv, fv] :: blk b3 28 s.cells :: blk b4 33 [.slice none 0 0, .slice none 0 0, .slice none 0 0] :: L) ?_
    generalize (Gh.dec (γ := Value) (ρ 6)) = v220
    refine Gl ?_
    refine JC.shut (v := v213) pkk ?_
    refine JC.know (p := v213.oneCell' = true) (fun w hs => isSlice.one (hs.fact (List.Mem.head _))) (fun honev213 => ?_)
    refine ZA ?_
    refine sc ?_
    refine Zak ?_
    refine ZC ?_
    refine s_B (cs := [cv, hv, v213]) Try.sizeOf33 ?_
    refine Ga2 ?_
    have er : Al x s = (⟨x.cores, x.home, x.frames.set s.n.toNat (Bw (Aw x.frames s.n) s.bit)⟩, [], 0) := by unfold Al; rw [if_neg (by omega), if_neg (by omega), if_neg (by omega), if_neg (by omega), if_pos (by omega), if_neg hnf]; rw [if_neg ht188, esp, if_neg (fun h => h rfl)]
    rw [er]
    exact Ct (cv, hv, v213, .slice none 0 0) Try.isAgg33 Try.sizeOf33
theorem Y5 {n nl : Nat} {M : List Int} {cv hv fv : Value} {x : Chip} {s : Step} (hs : St (L) R w) (hc : sl cv x.cores ∈ R) (hh : sl hv x.home ∈ R) (hf : sl fv x.frames ∈ R) (h : Inv n nl x M) (hsw : s.wf) (hk : s.kind = 3) : Calls Try.prog 20 [.agg #[cv, hv, fv], .agg s.cells.toArray].toArray w (Ca (fun v : Value × Value × Value × Value => .tuple #[.agg #[v.1, v.2.1, v.2.2.1], v.2.2.2, vi (Al x s).2.2]) (fun v => L) (fun v => sl v.1 (Al x s).1.cores :: sl v.2.1 (Al x s).1.home :: sl v.2.2.1 (Al x s).1.frames :: sl v.2.2.2 (Al x s).2.1 :: R)) := by
 refine Zbc ?_;intro hn hnl hnc hnh hfr honec honeh honef hsw0 hop hsn hsN hsb hn64 hcw
 clear hs
 refine Zbr ?_;intro b2 b3 b4
 refine ZF ?_
 refine Zau ?_
 refine Gc1 ?_
 rcases (show (Bx x s.n) ∨ (¬ Bx x s.n) from by exact Classical.em _) with hc | hc
 ·exact ZeH
 ·have hnf := hc
  unfold Bx at hc
  refine Zcp ?_;intro et
  refine An (γ := Value × Value) (val := fun v => .tuple #[v.1, v.2, vi 0]) (Rf := fun v => sl v.1 (x.frames.eraseIdx s.n.toNat) :: sl v.2 (Aw x.frames s.n) :: R) Try.call55 rfl (fun w hs => by have h9 := Iw (l := x.frames) (n := s.n) hs mm hsN; rw [et] at h9; exact h9) ?_; intro ⟨va, vb⟩
  refine Zdw ?_
  refine Zeg ?_;intro honea
  refine Ck ?_
  refine Glc ?_
  refine ZT ?_
  refine ZC ?_
  refine s_B (cs := [cv, hv, va]) Try.sizeOf33 ?_
  refine Ga2 ?_
  have er : Al x s = (⟨x.cores, x.home, (x.frames.eraseIdx s.n.toNat)⟩, [], 0) := by unfold Al; rw [if_neg (by omega), if_neg (by omega), if_pos (by omega), if_neg hnf]
  exact ZgB
theorem Y6 {n nl : Nat} {M : List Int} {cv hv fv : Value} {x : Chip} {s : Step} (hs : St (L) R w) (hc : sl cv x.cores ∈ R) (hh : sl hv x.home ∈ R) (hf : sl fv x.frames ∈ R) (h : Inv n nl x M) (hsw : s.wf) (hk : s.kind = 2) : Calls Try.prog 20 [.agg #[cv, hv, fv], .agg s.cells.toArray].toArray w (Ca (fun v : Value × Value × Value × Value => .tuple #[.agg #[v.1, v.2.1, v.2.2.1], v.2.2.2, vi (Al x s).2.2]) (fun v => L) (fun v => sl v.1 (Al x s).1.cores :: sl v.2.1 (Al x s).1.home :: sl v.2.2.1 (Al x s).1.frames :: sl v.2.2.2 (Al x s).2.1 :: R)) := by
 refine Zbc ?_;intro hn hnl hnc hnh hfr honec honeh honef hsw0 hop hsn hsN hsb hn64 hcw
 clear hs
 refine Zbr ?_;intro b2 b3 b4
 refine Zau ?_
 refine Gc1 ?_
 rcases (show (Bx x s.n) ∨ (¬ Bx x s.n) from by exact Classical.em _) with hc | hc
 ·refine Zct ?_;intro et
  refine An (γ := Value × Value) (val := fun v => .tuple #[v.1, v.2, vi 5]) (Rf := fun v => sl v.1 ([] : Frames) :: sl v.2 ([] : List UInt8) :: R) Try.call55 rfl (fun w hs => by have h9 := Iw (l := x.frames) (n := s.n) hs mm hsN; rw [et] at h9; exact h9) ?_; intro ⟨va, vb⟩
  refine Gb7 ?_
  refine rn1 ?_
  refine ZaR ?_
  refine kp [2, 3, 4, 5, 6, 7, 8, 15, 16, 17, 159, 160, 161, 162, 163, 164] ?_
  refine ZA ?_
  refine Cg (caps := []) (vs := [vi 5]) rfl Try.call49 rfl (fun w hs => Kw hs) ?_; intro _
  refine Zc1 ?_;intro er
  exact Ct (.slice none 0 0, .slice none 0 0, .slice none 0 0, .slice none 0 0) Try.isAgg33 Try.sizeOf33
 ·have hnf := hc
  unfold Bx at hc
  refine Zcp ?_;intro et
  refine An (γ := Value × Value) (val := fun v => .tuple #[v.1, v.2, vi 0]) (Rf := fun v => sl v.1 (x.frames.eraseIdx s.n.toNat) :: sl v.2 (Aw x.frames s.n) :: R) Try.call55 rfl (fun w hs => by have h9 := Iw (l := x.frames) (n := s.n) hs mm hsN; rw [et] at h9; exact h9) ?_; intro ⟨va, vb⟩
  refine Gb7 ?_
  refine rn1 ?_
  refine ob (Ao rfl rfl (Cy (by decide))) ?_
  refine Glc ?_
  refine kp [2, 3, 4, 5, 6, 7, 8, 15, 16, 17, 165, 166] ?_
  refine Aa ?_
  refine Zeg ?_;intro honea
  refine Av ?_
  refine Gmc ?_
  refine rn6 ?_
  refine An Try.call24 rfl (fun w hs => Ow (c := (Aq x)) (b := (Aw x.frames s.n)) hs mm hcw) ?_; intro _
  refine rn3 ?_
  refine al_ (cs := zMsg.cells) Try.zeroValue49 ?_; intro b21
  refine Zdo ?_
  refine cdy ?_ ?_
  ·intro ht242
   refine Zak ?_
   refine ZC ?_
   refine s_B (cs := [cv, hv, va]) Try.sizeOf33 ?_
   refine Ga2 ?_
   have er : Al x s = (⟨x.cores, x.home, (x.frames.eraseIdx s.n.toNat)⟩, [], 0) := by unfold Al; rw [if_neg (by omega), if_pos (by omega), if_neg hnf]; unfold A0; rw [show Aq ⟨x.cores, x.home, (x.frames.eraseIdx s.n.toNat)⟩ = Aq x from rfl]; rw [if_pos ht242]
   exact ZgB
  ·intro ht242
   refine Gl ?_
   have hp0 : (Af (Aq x) (Aw x.frames s.n)).2 = 0 := Decidable.not_not.1 ht242
   have hpk := Hl (c := (Aq x)) (b := (Aw x.frames s.n)) (m := (Af (Aq x) (Aw x.frames s.n)).1) (by rw [← hp0])
   have hwk := Gv hpk.2.2.2.2.1
   have hpw : (Af (Aq x) (Aw x.frames s.n)).1.wf := by rw [hpk.2.2.2.2.2]; exact O8 _
   have ecn : (Aq x).cores = (x.cores.length : Int) := rfl
   rw [ecn] at hwk
   refine ZT ?_
   refine Aa ?_
   refine Ga4 ?_
   refine cdy ?_ ?_
   ·intro ht247
    refine Gl ?_
    refine kp [2, 4, 5, 6, 8, 21, 22, 23, 248, 249, 250, 251, 252, 253, 254, 255] ?_
    refine ZH ?_
    refine An Try.call58 rfl (fun w hs => R8 (l := x.home) (id := (x.cores.length : Int)) (m := (Af (Aq x) (Aw x.frames s.n)).1) hs mm (fun i hi => (h.ebs i hi).1) (fun i hi => (h.ebs i hi).2.2.2.2) hpw hn64) ?_; intro ⟨v253a, v253b⟩
    refine Ga5 ?_
    refine JC.know (p := v253a.oneCell' = true) (fun w hs => isSlice.one (hs.fact (mm (f := sl v253a (Ak x.home (x.cores.length : Int) (Af (Aq x) (Aw x.frames s.n)).1).1)))) (fun honeva => ?_)
    refine ZA ?_
    refine sc ?_
    refine Zaj ?_
    refine An Try.call52 rfl (fun w hs => P4 (fs := (x.frames.eraseIdx s.n.toNat)) (ms := (Ak x.home (x.cores.length : Int) (Af (Aq x) (Aw x.frames s.n)).1).2) hs mm mm (Mw (by omega) (by omega) h.ebs hwk.2.2.2.1 hwk.2.2.2.2.2.1)) ?_; intro v261
    refine J.know (p := v261.oneCell' = true) (fun w hs => isSlice.one (hs.fact (List.Mem.head _))) (fun honev261 => ?_)
    refine ZI ?_
    refine ZK ?_
    refine s_B (cs := [cv, v253a, v261]) Try.sizeOf33 ?_
    refine Ga2 ?_
    have er : Al x s = (⟨x.cores, (Ak x.home (x.cores.length : Int) (Af (Aq x) (Aw x.frames s.n)).1).1, way (x.frames.eraseIdx s.n.toNat) (Ak x.home (x.cores.length : Int) (Af (Aq x) (Aw x.frames s.n)).1).2⟩, [], 0) := by unfold Al; rw [if_neg (by omega), if_pos (by omega), if_neg hnf]; unfold A0; rw [show Aq ⟨x.cores, x.home, (x.frames.eraseIdx s.n.toNat)⟩ = Aq x from rfl]; rw [if_neg ht242, if_pos (show (Af (Aq x) (Aw x.frames s.n)).1.dst = Bc ⟨x.cores, x.home, (x.frames.eraseIdx s.n.toNat)⟩ from ht247)]; rfl
    rw [er]
    exact Ct (cv, v253a, v261, .slice none 0 0) Try.isAgg33 Try.sizeOf33
   ·intro ht247
    refine Gl ?_
    refine Lv (x := x) (v := cv) (Af (Aq x) (Aw x.frames s.n)).1.dst mm (by omega) (by omega) (fun hwt u => ?_)
    have hkb : KB (Ar x (Af (Aq x) (Aw x.frames s.n)).1.dst) := h.kb (p := (Af (Aq x) (Aw x.frames s.n)).1.dst.toNat) (by omega)
    have hlb := h.lbs (p := (Af (Aq x) (Aw x.frames s.n)).1.dst) (by omega)
    have hk4 := hkb.n
    have hpd64 : Ap (Af (Aq x) (Aw x.frames s.n)).1.dst := by unfold Ap; omega
    refine kp [2, 4, 5, 6, 8, 21, 24, 25, 26, 264, 265, 266, 267, 268, 269, 270, 271, 272, 273, 274, 275, 276, 277, 278] ?_
    refine cq_ (blk b2 33 [cv, hv, va] :: blk b21 49 (Af (Aq x) (Aw x.frames s.n)).1.cells :: blk b3 28 s.cells :: blk b4 33 [.slice none 0 0, .slice none 0 0, .slice none 0 0] :: L) ?_
    refine jd_ (fun ρ S => blk b2 33 [cv, hv, va] :: blk b21 49 (Af (Aq x) (Aw x.frames s.n)).1.cells :: blk b3 28 s.cells :: blk b4 33 [.slice none 0 0, .slice none 0 0, .slice none 0 0] :: ((bif S 15 then [blk (Gh.dec (γ := Nat) (ρ 15)) 57 (bif S 16 then [(Gh.dec (γ := Value × Value × Value) (ρ 10)).1, vi (Ae (Ar x (Af (Aq x) (Aw x.frames s.n)).1.dst) (Af (Aq x) (Aw x.frames s.n)).1.dst (x.cores.length : Int) (Af (Aq x) (Aw x.frames s.n)).1).1.wait.kind, vi (Ae (Ar x (Af (Aq x) (Aw x.frames s.n)).1.dst) (Af (Aq x) (Aw x.frames s.n)).1.dst (x.cores.length : Int) (Af (Aq x) (Aw x.frames s.n)).1).1.wait.line, vi (Ae (Ar x (Af (Aq x) (Aw x.frames s.n)).1.dst) (Af (Aq x) (Aw x.frames s.n)).1.dst (x.cores.length : Int) (Af (Aq x) (Aw x.frames s.n)).1).1.wait.value] else [.slice none 0 0, vi 0, vi 0, vi 0])] else []) ++ (L))) ?_
    refine Xe ?_
    refine Cc (γ := Value × Value × Value) (val := fun v => .tuple #[.agg (Core.cells v.1 (Ae (Ar x (Af (Aq x) (Aw x.frames s.n)).1.dst) (Af (Aq x) (Aw x.frames s.n)).1.dst (x.cores.length : Int) (Af (Aq x) (Aw x.frames s.n)).1).1).toArray, v.2.1, v.2.2]) (F := fun v => [sl v.1 (Ae (Ar x (Af (Aq x) (Aw x.frames s.n)).1.dst) (Af (Aq x) (Aw x.frames s.n)).1.dst (x.cores.length : Int) (Af (Aq x) (Aw x.frames s.n)).1).1.lines, sl v.2.1 (Ae (Ar x (Af (Aq x) (Aw x.frames s.n)).1.dst) (Af (Aq x) (Aw x.frames s.n)).1.dst (x.cores.length : Int) (Af (Aq x) (Aw x.frames s.n)).1).2.1, sl v.2.2 (Ae (Ar x (Af (Aq x) (Aw x.frames s.n)).1.dst) (Af (Aq x) (Aw x.frames s.n)).1.dst (x.cores.length : Int) (Af (Aq x) (Aw x.frames s.n)).1).2.2]) Try.call59 (fun _ => rfl) (fun ρ L R w hd hs => Adl (c := (Ar x (Af (Aq x) (Aw x.frames s.n)).1.dst)) (id := (Af (Aq x) (Aw x.frames s.n)).1.dst) (home := (x.cores.length : Int)) (m := (Af (Aq x) (Aw x.frames s.n)).1) (u := u) hs (hd.base mm) hkb hpd64 hn64 hpw) (fun ρ g S hS hA => by have u15 : upS S 10 15 = S 15 := rfl; have u16 : upS S 10 16 = S 16 := rfl; have r15 : Rho.set ρ 10 g 15 = ρ 15 := rfl; have h16 : S 16 = false := hA 16 ⟨0, rfl⟩; simp only [u15, u16, r15, h16, cond_false]) ?_
    refine e_p (v := fun ρ => .tuple #[.agg (Core.cells (Gh.dec (γ := Value × Value × Value) (ρ 10)).1 (Ae (Ar x (Af (Aq x) (Aw x.frames s.n)).1.dst) (Af (Aq x) (Aw x.frames s.n)).1.dst (x.cores.length : Int) (Af (Aq x) (Aw x.frames s.n)).1).1).toArray, (Gh.dec (γ := Value × Value × Value) (ρ 10)).2.1, (Gh.dec (γ := Value × Value × Value) (ρ 10)).2.2]) (fun _ _ => Pw) (Ind.gh (h := fun g => (.tuple #[.agg (Core.cells (Gh.dec (γ := Value × Value × Value) g).1 (Ae (Ar x (Af (Aq x) (Aw x.frames s.n)).1.dst) (Af (Aq x) (Aw x.frames s.n)).1.dst (x.cores.length : Int) (Af (Aq x) (Aw x.frames s.n)).1).1).toArray, (Gh.dec (γ := Value × Value × Value) g).2.1, (Gh.dec (γ := Value × Value × Value) g).2.2] : Value)) 10 0 rfl) (fun _ _ _ _ _ => rfl) ?_
    refine e_p (v := fun ρ => .agg (Core.cells (Gh.dec (γ := Value × Value × Value) (ρ 10)).1 (Ae (Ar x (Af (Aq x) (Aw x.frames s.n)).1.dst) (Af (Aq x) (Aw x.frames s.n)).1.dst (x.cores.length : Int) (Af (Aq x) (Aw x.frames s.n)).1).1).toArray) (fun _ _ => q_x) (Ind.gh (h := fun g => (.agg (Core.cells (Gh.dec (γ := Value × Value × Value) g).1 (Ae (Ar x (Af (Aq x) (Aw x.frames s.n)).1.dst) (Af (Aq x) (Aw x.frames s.n)).1.dst (x.cores.length : Int) (Af (Aq x) (Aw x.frames s.n)).1).1).toArray : Value)) 10 1 rfl) (fun _ _ _ _ _ => rfl) ?_
    refine e_p (v := fun ρ => (Gh.dec (γ := Value × Value × Value) (ρ 10)).2.1) (fun _ _ => q_x) (Ind.gh (h := fun g => ((Gh.dec (γ := Value × Value × Value) g).2.1 : Value)) 10 1 rfl) (fun _ _ _ _ _ => rfl) ?_
    refine e_p (v := fun ρ => (Gh.dec (γ := Value × Value × Value) (ρ 10)).2.2) (fun _ _ => q_x) (Ind.gh (h := fun g => ((Gh.dec (γ := Value × Value × Value) g).2.2 : Value)) 10 1 rfl) (fun _ _ _ _ _ => rfl) ?_
    refine Ha (cs := [.slice none 0 0, vi 0, vi 0, vi 0]) Try.zeroValue57 rfl (fun ρ b S hS hA => ?_) ?_
    ·have ui : upS S 15 15 = true := rfl; have u16 : upS S 15 16 = S 16 := rfl; have r10 : Rho.set ρ 15 (Gh.enc b) 10 = ρ 10 := rfl; have h16 : S 16 = false := hA 16 ⟨0, rfl⟩; have rs : (Gh.dec (γ := Nat) (Rho.set ρ 15 (Gh.enc b) 15)) = b := rfl
     simp only [ui, hS, u16, r10, h16, rs, cond_true, cond_false, List.nil_append]
     exact ZeL
    refine es_ 57 0 [15] [] (fun ρ => (Gh.dec (γ := Nat) (ρ 15))) (fun ρ => [.slice none 0 0, vi 0, vi 0, vi 0]) (fun ρ => [(Gh.dec (γ := Value × Value × Value) (ρ 10)).1, vi (Ae (Ar x (Af (Aq x) (Aw x.frames s.n)).1.dst) (Af (Aq x) (Aw x.frames s.n)).1.dst (x.cores.length : Int) (Af (Aq x) (Aw x.frames s.n)).1).1.wait.kind, vi (Ae (Ar x (Af (Aq x) (Aw x.frames s.n)).1.dst) (Af (Aq x) (Aw x.frames s.n)).1.dst (x.cores.length : Int) (Af (Aq x) (Aw x.frames s.n)).1).1.wait.line, vi (Ae (Ar x (Af (Aq x) (Aw x.frames s.n)).1.dst) (Af (Aq x) (Aw x.frames s.n)).1.dst (x.cores.length : Int) (Af (Aq x) (Aw x.frames s.n)).1).1.wait.value]) Try.sizeOf57 (h1 := (fun ρ R w L' hd hs => Bm (isSlice.one (hs.fact (hd.dep (it := ⟨10, _, _, _, _⟩) (by repeat (first | exact List.Mem.head _ | refine List.Mem.tail _ ?_)) ⟨9, rfl⟩ (List.Mem.head _)))) (by repeat (first | exact D5 | refine Bm rfl ?_)))) ?_
    refine e_p (v := fun ρ => (Gh.dec (γ := Value × Value × Value) (ρ 10)).2.1) (fun _ _ => Dx) (Ind.gh (h := fun g => ((Gh.dec (γ := Value × Value × Value) g).2.1 : Value)) 10 0 rfl) (fun _ _ _ _ _ => rfl) ?_
    refine e_p (v := fun ρ => (Gh.dec (γ := Value × Value × Value) (ρ 10)).2.2) (fun _ _ => Dx) (Ind.gh (h := fun g => ((Gh.dec (γ := Value × Value × Value) g).2.2 : Value)) 10 0 rfl) (fun _ _ _ _ _ => rfl) ?_
    refine dnl ?_; intro ρ
    refine xq_ (blk b2 33 [cv, hv, va] :: blk b21 49 (Af (Aq x) (Aw x.frames s.n)).1.cells :: blk b3 28 s.cells :: blk b4 33 [.slice none 0 0, .slice none 0 0, .slice none 0 0] :: (blk (Gh.dec (γ := Nat) (ρ 15)) 57 [(Gh.dec (γ := Value × Value × Value) (ρ 10)).1, vi (Ae (Ar x (Af (Aq x) (Aw x.frames s.n)).1.dst) (Af (Aq x) (Aw x.frames s.n)).1.dst (x.cores.length : Int) (Af (Aq x) (Aw x.frames s.n)).1).1.wait.kind, vi (Ae (Ar x (Af (Aq x) (Aw x.frames s.n)).1.dst) (Af (Aq x) (Aw x.frames s.n)).1.dst (x.cores.length : Int) (Af (Aq x) (Aw x.frames s.n)).1).1.wait.line, vi (Ae (Ar x (Af (Aq x) (Aw x.frames s.n)).1.dst) (Af (Aq x) (Aw x.frames s.n)).1.dst (x.cores.length : Int) (Af (Aq x) (Aw x.frames s.n)).1).1.wait.value] :: L)) ?_
    generalize (Gh.dec (γ := Value × Value × Value) (ρ 10)) = v275
    generalize (Gh.dec (γ := Nat) (ρ 15)) = b24
    refine Zai ?_
    refine An Try.call51 rfl (fun w hs => Mf (x := x) (i := (Af (Aq x) (Aw x.frames s.n)).1.dst) (k := (Ae (Ar x (Af (Aq x) (Aw x.frames s.n)).1.dst) (Af (Aq x) (Aw x.frames s.n)).1.dst (x.cores.length : Int) (Af (Aq x) (Aw x.frames s.n)).1).1) (u := v275.1) hs mm honeh honea mm (Qy hkb.wwf) (by omega)) ?_; intro v283
    refine J.know (p := v283.oneCell' = true) (fun w hs => isSlice.one (hs.fact (List.Mem.head _))) (fun honev283 => ?_)
    refine s_B (cs := [v283, hv, va]) Try.sizeOf33 ?_
    refine Zaj ?_
    refine An Try.call52 rfl (fun w hs => P4 (fs := (x.frames.eraseIdx s.n.toNat)) (ms := (Ae (Ar x (Af (Aq x) (Aw x.frames s.n)).1.dst) (Af (Aq x) (Aw x.frames s.n)).1.dst (x.cores.length : Int) (Af (Aq x) (Aw x.frames s.n)).1).2.1) hs mm mm (W0 (by omega) (by omega) hk4 hlb hwk.2.2.2.2.1)) ?_; intro v287
    refine J.know (p := v287.oneCell' = true) (fun w hs => isSlice.one (hs.fact (List.Mem.head _))) (fun honev287 => ?_)
    refine ZI ?_
    refine Gl ?_
    refine kp [2, 4, 5, 6, 26, 289, 290] ?_
    refine ZA ?_
    refine s_B (cs := [v283, hv, v287]) Try.sizeOf33 ?_
    refine Ga2 ?_
    have er : Al x s = (⟨x.cores.set (Af (Aq x) (Aw x.frames s.n)).1.dst.toNat (Ae (Ar x (Af (Aq x) (Aw x.frames s.n)).1.dst) (Af (Aq x) (Aw x.frames s.n)).1.dst (x.cores.length : Int) (Af (Aq x) (Aw x.frames s.n)).1).1, x.home, way (x.frames.eraseIdx s.n.toNat) (Ae (Ar x (Af (Aq x) (Aw x.frames s.n)).1.dst) (Af (Aq x) (Aw x.frames s.n)).1.dst (x.cores.length : Int) (Af (Aq x) (Aw x.frames s.n)).1).2.1⟩, (Ae (Ar x (Af (Aq x) (Aw x.frames s.n)).1.dst) (Af (Aq x) (Aw x.frames s.n)).1.dst (x.cores.length : Int) (Af (Aq x) (Aw x.frames s.n)).1).2.2, 0) := by unfold Al; rw [if_neg (by omega), if_pos (by omega), if_neg hnf]; unfold A0; rw [show Aq ⟨x.cores, x.home, (x.frames.eraseIdx s.n.toNat)⟩ = Aq x from rfl]; rw [if_neg ht242, if_neg (show ¬ (Af (Aq x) (Aw x.frames s.n)).1.dst = Bc ⟨x.cores, x.home, (x.frames.eraseIdx s.n.toNat)⟩ from ht247)]; rfl
    rw [er]
    exact Ct (v283, hv, v287, v275.2.2) Try.isAgg33 Try.sizeOf33
theorem Wb {n nl : Nat} {M : List Int} {cv hv fv : Value} {x : Chip} {s : Step} (hs : St (L) R w) (hc : sl cv x.cores ∈ R) (hh : sl hv x.home ∈ R) (hf : sl fv x.frames ∈ R) (h : Inv n nl x M) (hsw : s.wf) : Calls Try.prog 20 [.agg #[cv, hv, fv], .agg s.cells.toArray].toArray w (Ca (fun v : Value × Value × Value × Value => .tuple #[.agg #[v.1, v.2.1, v.2.2.1], v.2.2.2, vi (Al x s).2.2]) (fun v => L) (fun v => sl v.1 (Al x s).1.cores :: sl v.2.1 (Al x s).1.home :: sl v.2.2.1 (Al x s).1.frames :: sl v.2.2.2 (Al x s).2.1 :: R)) := by
 by_cases h1 : s.kind = 1
 ·exact Y7 hs hc hh hf h hsw h1
 by_cases h2 : s.kind = 2
 ·exact Y6 hs hc hh hf h hsw h2
 by_cases h3 : s.kind = 3
 ·exact Y5 hs hc hh hf h hsw h3
 by_cases h4 : s.kind = 4
 ·exact Y4 hs hc hh hf h hsw h4
 by_cases h5 : s.kind = 5
 ·exact Y3 hs hc hh hf h hsw h5
 by_cases h6 : s.kind = 6
 ·exact Y2 hs hc hh hf h hsw h6
 exact Y8 hs hc hh hf h hsw ⟨h1, h2, h3, h4, h5, h6⟩
def bAt (c : Config) (l : List Step) (k : Nat) : Chip × List Done := C9 (A8 c).1 (l.take k)
theorem F1 {x : Chip} {a : Step} {l : List Step} (h : (Al x a).2.2 = 0) : C9 x (a :: l) = ((C9 (Al x a).1 l).1, (Al x a).2.1 ++ (C9 (Al x a).1 l).2) := by simp only [C9]; rw [if_pos h]
theorem F2 {x : Chip} {a : Step} {l : List Step} (h : ¬ (Al x a).2.2 = 0) : C9 x (a :: l) = C9 x l := by simp only [C9]; rw [if_neg h]
theorem Na (s : Step) : ∀ (l : List Step) (x : Chip), (Al (C9 x l).1 s).2.2 = 0 → C9 x (l ++ [s]) = ((Al (C9 x l).1 s).1, (C9 x l).2 ++ (Al (C9 x l).1 s).2.1)
 | [], x, h => by
  have h' : (Al x s).2.2 = 0 := h
  rw [List.nil_append, F1 h']; simp [C9]
 | a :: l, x, h => by
  by_cases h1 : (Al x a).2.2 = 0
  ·rw [F1 h1] at h ⊢
   rw [List.cons_append, F1 h1, Na s l _ h]; simp
  ·rw [F2 h1] at h ⊢
   rw [List.cons_append, F2 h1]; exact Na s l x h
theorem Pg (s : Step) : ∀ (l : List Step) (x : Chip), ¬ (Al (C9 x l).1 s).2.2 = 0 → C9 x (l ++ [s]) = C9 x l
 | [], x, h => by
  have h' : ¬ (Al x s).2.2 = 0 := h
  rw [List.nil_append, F2 h']
 | a :: l, x, h => by
  by_cases h1 : (Al x a).2.2 = 0
  ·rw [F1 h1] at h ⊢
   rw [List.cons_append, F1 h1, Pg s l _ h]
  ·rw [F2 h1] at h ⊢
   rw [List.cons_append, F2 h1]; exact Pg s l x h
theorem Ps {c : Config} {l : List Step} {k : Nat} (h : k < l.length) (h0 : (Al (bAt c l k).1 (l.getD k zStep)).2.2 = 0) : bAt c l (k + 1) = ((Al (bAt c l k).1 (l.getD k zStep)).1, (bAt c l k).2 ++ (Al (bAt c l k).1 (l.getD k zStep)).2.1) := by
 unfold bAt at h0 ⊢; rw [Fa zStep h]; exact Na _ _ _ h0
theorem T7 {c : Config} {l : List Step} {k : Nat} (h : k < l.length) (h0 : ¬ (Al (bAt c l k).1 (l.getD k zStep)).2.2 = 0) : bAt c l (k + 1) = bAt c l k := by
 unfold bAt at h0 ⊢; rw [Fa zStep h]; exact Pg _ _ _ h0
theorem X0 (c : Core) (id home : Int) (o : Op) : (Ai c id home o).2.2.1.length ≤ 1 := by
 unfold Ai
 split
 ·simp
 split
 ·simp
 split
 ·simp
 split <;> simp
theorem Z6 (c : Core) (id home : Int) (m : Msg) : (Ae c id home m).2.2.length ≤ 1 := by
 unfold Ae
 split
 ·simp
 split
 ·simp
 split
 ·split
  ·simp only; split <;> simp
  split <;> simp
 split
 ·split
  ·simp
  split <;> simp
 split <;> simp
theorem Ra (x : Chip) (s : Step) : (Al x s).2.1.length ≤ 1 := by
 unfold Al
 split
 ·split
  ·simp
  split
  ·simp
  ·exact X0 ..
 split
 ·split
  ·simp
  ·simp only
   unfold A0
   split
   ·simp
   split
   ·simp
   ·exact Z6 ..
 split
 ·split <;> simp
 split
 ·split <;> simp
 split
 ·split
  ·simp
  split
  ·simp
  split <;> simp
 split
 ·split
  ·simp
  split <;> simp
 ·simp
theorem K7 (c : Config) (l : List Step) : ∀ k, (bAt c l k).2.length ≤ k
 | 0 => by unfold bAt; simp [C9]
 | k + 1 => by
  have ih := K7 c l k
  by_cases h : k < l.length
  ·by_cases h0 : (Al (bAt c l k).1 (l.getD k zStep)).2.2 = 0
   ·have := Ra (bAt c l k).1 (l.getD k zStep)
    rw [Ps h h0]
    simp only [List.length_append]; omega
   ·rw [T7 h h0]; omega
  ·unfold bAt at ih ⊢
   rw [List.take_of_length_le (by omega)]
   rw [List.take_of_length_le (by omega)] at ih
   omega
theorem S6 {c : Config} (l : List Step) (h : (A8 c).2 = 0) (k : Nat) : ∃ n nl M, Inv n nl (bAt c l k).1 M := by
 obtain ⟨n, nl, h1, h2, _, h4⟩ := H4 h
 obtain ⟨M, h5, _⟩ := I7 (l.take k) (Mt h1 h2)
 exact ⟨n, nl, M, by unfold bAt; rw [h4]; exact h5⟩
theorem Li {c : Config} (h : (A8 c).2 ≠ 0) : A8 c = (Dk, 3) := by
 unfold A8 at h ⊢
 split
 ·rfl
 ·rename_i h1; rw [if_neg h1] at h; exact absurd rfl h
theorem T2 {c : Config} {l : List Step} {k : Nat} (h : (A8 c).2 = 0) (hk : l.take k = l.take 300) : build c l = bAt c l k := by
 unfold build bAt; rw [if_neg (by rw [h]; decide), hk]
theorem T3 {c : Config} {l : List Step} (h : (A8 c).2 ≠ 0) : build c l = ((A8 c).1, []) := by
 unfold build; rw [if_pos h, Li h]
theorem Lt {vl : Value} {c : Config} {l : List Step} (hs : St (L) R w) (hl : sl vl l ∈ R) (hcw : c.wf) : Calls Try.prog 14 [.agg c.cells.toArray, vl].toArray w (Ca (fun v : Value × Value × Value × Value => .tuple #[.agg #[v.1, v.2.1, v.2.2.1], v.2.2.2]) (fun v => L) (fun v => sl v.1 (build c l).1.cores :: sl v.2.1 (build c l).1.home :: sl v.2.2.1 (build c l).1.frames :: sl v.2.2.2 (build c l).2 :: R)) := by
 have hlen := Bh hl hs
 refine Aj Try.func14 rfl Try.ntmps14 rfl hs ?_
 clear hs
 refine Gm ?_
 refine bx ?_; intro b2
 refine Zcc ?_;intro b4
 refine ZaZ ?_
 refine An Try.call16 rfl (fun w hs => V9 (c := c) hs hcw) ?_; intro v16
 refine J.know (p := v16.1.oneCell' = true ∧ v16.2.oneCell' = true) (fun w hs => ⟨isSlice.one (hs.fact (.head _)), isSlice.one (hs.fact (.tail _ (.head _)))⟩) (fun h12 => ?_)
 obtain ⟨hone1, hone2⟩ := h12
 refine rn3 ?_
 refine al_ (cs := [.slice none 0 0, .slice none 0 0, .slice none 0 0]) Try.zeroValue33 ?_; intro b6
 refine s_B (cs := [v16.1, v16.2, .slice none 0 0]) Try.sizeOf33 ?_
 refine ZE ?_
 refine cdy ?_ ?_
 ·intro ht20
  refine Zak ?_
  refine ZC ?_
  refine s_B (cs := [v16.1, v16.2, .slice none 0 0]) Try.sizeOf33 ?_
  refine Ga1 ?_
  rw [T3 ht20]
  exact He (v16.1, v16.2, .slice none 0 0, .slice none 0 0) Try.isAgg33 Try.sizeOf33
 ·intro ht20
  refine ZS ?_
  refine Ga3 ?_
  have hok : (A8 c).2 = 0 := Decidable.not_not.1 ht20
  have e0 : bAt c l 0 = ((A8 c).1, []) := by unfold bAt; simp [C9]
  refine Zay ?_
  refine Bt (γ := Nat × Value × Value × Value × Value) (fun g => g.1 ≤ l.length ∧ g.1 ≤ 300) (fun g => row 66 g.2.2.2.2 (bAt c l g.1).2 :: blk b6 33 [g.2.1, g.2.2.1, g.2.2.2.1] :: blk b4 33 [.slice none 0 0, .slice none 0 0, .slice none 0 0] :: L) (fun g => sl g.2.1 (bAt c l g.1).1.cores :: sl g.2.2.1 (bAt c l g.1).1.home :: sl g.2.2.2.1 (bAt c l g.1).1.frames :: R) (fun g => [(4, bp b4 0), (6, bp b6 0), (8, g.2.2.2.2), (22, vl), (23, vi (l.length : Int)), (24, vi (g.1 : Int))]) (fun g => l.length - g.1) (0, v16.1, v16.2, .slice none 0 0, .slice none 0 0) ⟨Nat.zero_le _, by show 0 ≤ 300; omega⟩ alT (fun w hs => by rw [e0]; exact Ah hs) ?_
  rintro ⟨k, cv, hv, fv, dv⟩ ⟨hk, hk3⟩
  try simp only at hk hk3 ⊢
  refine ZB ?_
  refine cdy ?_ ?_
  ·intro ht25
   refine Gl ?_
   refine Zc6 ?_;intro hsw
   refine ZJ ?_
   refine al_ (cs := zStep.cells) Try.zeroValue28 ?_; intro b10
   refine rn1 ?_
   refine Zc3 ?_
   refine ZD ?_
   refine cdy ?_ ?_
   ·intro ht30
    exact Zfh
   ·intro ht30
    refine ZL ?_
    obtain ⟨n, nl, M, hI⟩ := S6 l hok k
    refine An Try.call20 rfl (fun w hs => Wb (x := (bAt c l k).1) (s := (l.getD k zStep)) hs mm mm mm hI hsw) ?_; intro v34
    refine J.know (p := v34.1.oneCell' = true ∧ v34.2.1.oneCell' = true ∧ v34.2.2.1.oneCell' = true) (fun w hs => ⟨isSlice.one (hs.fact (.head _)), isSlice.one (hs.fact (.tail _ (.head _))), isSlice.one (hs.fact (.tail _ (.tail _ (.head _))))⟩) (fun h12 => ?_)
    obtain ⟨hone1, hone2, hone3⟩ := h12
    refine rn4 ?_
    refine Zds ?_;intro b11
    refine s_B (cs := [v34.1, v34.2.1, v34.2.2.1]) Try.sizeOf33 ?_
    refine Ga2 ?_
    refine kp [4, 5, 6, 8, 9, 10, 11, 12, 13, 22, 23, 24, 25, 26, 27, 28, 29, 30, 31, 32, 33, 34, 35, 36, 37, 38, 39] ?_
    refine ZP ?_
    refine cdy ?_ ?_
    ·intro ht39
     refine ZK ?_
     refine s_B (cs := [v34.1, v34.2.1, v34.2.2.1]) Try.sizeOf33 ?_
     refine ZL ?_
     refine ap F8 (hb := fun w hs => by have : maxN = 16777216 := rfl; have h8 := K7 c l k; have h9 := Ra (bAt c l k).1 (l.getD k zStep); omega) (k := ?_); intro v43
     refine ZE ?_
     have e1 := Ps (c := c) (l := l) (k := k) (by omega) ht39
     refine Be (k + 1, v34.1, v34.2.1, v34.2.2.1, v43) ⟨by show k + 1 ≤ l.length; omega, by show k + 1 ≤ 300; omega⟩ (by show l.length - (k + 1) < l.length - k; omega) alT (fun w hs => ?_)
     exact Zf6
    ·intro ht39
     refine ZD ?_
     have e1 := T7 (c := c) (l := l) (k := k) (by omega) ht39
     refine Be (k + 1, cv, hv, fv, dv) ⟨by show k + 1 ≤ l.length; omega, by show k + 1 ≤ 300; omega⟩ (by show l.length - (k + 1) < l.length - k; omega) alT (fun w hs => ?_)
     exact Zf6
  ·intro ht25
   exact Zfh
def hE0 : List Entry := [⟨0, -1, 0, 0, 0, 0, false, 0, 0, [0, 0]⟩]
theorem Wo (e : Entry) : (Bg e).phase = 1 ∨ (Bg e).phase = 2 ∨ (Bg e).phase = 3 := by
 unfold Bg; split
 ·exact .inl rfl
 split
 ·exact .inr (.inl rfl)
 ·exact .inr (.inr rfl)
theorem Agl {s k : Int} (h0 : 0 ≤ s) (h1 : s < 16) (h2 : 0 ≤ k) (h3 : k < 4) : Ks (Hg s k) k = false := by
 exact ZeE
theorem Aas : ∀ (s : _root_.Fin 16) (k j : _root_.Fin 4), Ks (Hg (Hg (s.val : Int) (k.val : Int)) (j.val : Int)) (k.val : Int) = false := by decide
theorem Aar {s k j : Int} (h0 : 0 ≤ s) (h1 : s < 16) (h2 : 0 ≤ k) (h3 : k < 4) (h4 : 0 ≤ j) (h5 : j < 4) : Ks (Hg (Hg s k) j) k = false := by
 obtain ⟨a, rfl⟩ := Int.eq_ofNat_of_zero_le h0
 obtain ⟨b, rfl⟩ := Int.eq_ofNat_of_zero_le h2
 obtain ⟨c, rfl⟩ := Int.eq_ofNat_of_zero_le h4
 exact Aas ⟨a, by omega⟩ ⟨b, by omega⟩ ⟨c, by omega⟩
theorem U4 {e : Entry} {id : Int} {m : Msg} (he : EB e) (hs : 0 ≤ m.src ∧ m.src < 4) (hsl : m.src < (e.last.length : Int)) : (Ag (Ag e id m).1 id m).1 = (Ag e id m).1 := by
 have hE := he
 unfold EB at hE
 by_cases k12 : m.kind = 1 ∨ m.kind = 2
 ·by_cases c : e.phase ≠ 0 ∨ m.serial ≤ Dy e m.src ∨ 65535 ≤ e.turn
  ·have h1 : Ag e id m = (e, []) := by unfold Ag; rw [if_pos k12, if_pos c]
   rw [h1]; rw [h1]
  ·have h1 : (Ag e id m).1 = Kl e m := by unfold Ag; rw [if_pos k12, if_neg c]
   rw [h1]
   have h2 : (Kl e m).phase ≠ 0 := by unfold Kl; rcases Wo { e with last := e.last.set m.src.toNat m.serial, who := m.src, serial := m.serial, alone := m.kind == 2, turn := e.turn + 1 } with h | h | h <;> rw [h] <;> decide
   unfold Ag; rw [if_pos k12, if_pos (.inl h2)]
 by_cases k3 : m.kind = 3
 ·by_cases c : e.phase ≠ 0
  ·have h1 : Ag e id m = (e, []) := by unfold Ag; rw [if_neg k12, if_pos k3, if_pos c]
   rw [h1]; rw [h1]
  ·have h1 : (Ag e id m).1 = E4 e m := by unfold Ag; rw [if_neg k12, if_pos k3, if_neg c]
   rw [h1]
   have h3 : (E4 e m).phase = e.phase := by unfold E4; split <;> (try split) <;> rfl
   have h4 : ¬ Dy (E4 e m) m.src < m.serial := by
    unfold E4
    by_cases d : Dy e m.src < m.serial
    ·rw [if_pos d]
     have : ∀ z : Entry, z.last = e.last.set m.src.toNat m.serial → ¬ Dy z m.src < m.serial := by
      intro z hz
      unfold Dy; rw [hz, List.getD_eq_getElem?_getD, List.getElem?_set_self (by omega)]
      exact Int.lt_irrefl _
     split <;> exact this _ rfl
    ·rw [if_neg d]; exact d
   have h5 : (Ag (E4 e m) id m).1 = E4 (E4 e m) m := by unfold Ag; rw [if_neg k12, if_pos k3, if_neg (by rw [h3]; exact c)]
   rw [h5]
   generalize E4 e m = z at h4
   unfold E4; rw [if_neg h4]
 by_cases k9 : m.kind = 9 ∧ m.turn = e.turn ∧ e.phase = 1 ∧ m.src = e.owner
 ·have h1 : (Ag e id m).1 = Fy e m := by unfold Ag; rw [if_neg k12, if_neg k3, if_pos k9]
  rw [h1]
  have h2 : (Fy e m).owner = -1 := by unfold Fy; rw [(Jh _).2.2.2.1]
  unfold Ag
  rw [if_neg k12, if_neg k3, if_neg (by rw [h2]; omega), if_neg (by omega), if_neg (by omega)]
 by_cases k8 : m.kind = 8 ∧ m.turn = e.turn ∧ e.phase = 2 ∧ Ks e.need m.src = true
 ·by_cases c : (Cl e m).need = 0
  ·have h1 : (Ag e id m).1 = Bg (Cl e m) := by unfold Ag; rw [if_neg k12, if_neg k3, if_neg k9, if_pos k8, if_pos c]
   rw [h1]
   have h2 : (Bg (Cl e m)).phase = 2 → Ks (Bg (Cl e m)).need m.src = false := by
    unfold Bg
    split
    ·intro h; simp at h
    split
    ·intro _
     exact Aar hE.2.1.1 hE.2.1.2 hs.1 hs.2 hE.2.2.2.1.1 hE.2.2.2.1.2
    ·intro h; simp at h
   unfold Ag
   rw [if_neg k12, if_neg k3, if_neg (by omega), if_neg (fun h => by rw [h2 h.2.2.1] at h; exact absurd h.2.2.2 (by decide)), if_neg (by omega)]
  ·have h1 : (Ag e id m).1 = Cl e m := by unfold Ag; rw [if_neg k12, if_neg k3, if_neg k9, if_pos k8, if_neg c]
   rw [h1]
   have h2 : Ks (Cl e m).need m.src = false := Agl hE.2.2.1.1 hE.2.2.1.2 hs.1 hs.2
   unfold Ag
   rw [if_neg k12, if_neg k3, if_neg (by omega), if_neg (fun h => by rw [h2] at h; exact absurd h.2.2.2 (by decide)), if_neg (by omega)]
 by_cases k10 : m.kind = 10 ∧ m.turn = e.turn ∧ e.phase = 3 ∧ m.src = e.who
 ·have h1 : (Ag e id m).1 = Dg e := by unfold Ag; rw [if_neg k12, if_neg k3, if_neg k9, if_neg k8, if_pos k10]
  rw [h1]
  have h2 : (Dg e).phase = 0 := by unfold Dg; split <;> rfl
  unfold Ag
  rw [if_neg k12, if_neg k3, if_neg (by omega), if_neg (by omega), if_neg (by omega)]
 ·have h1 : Ag e id m = (e, []) := by unfold Ag; rw [if_neg k12, if_neg k3, if_neg k9, if_neg k8, if_neg k10]
  rw [h1]; rw [h1]
theorem Zw (e : Entry) (id : Int) (m : Msg) : (Ag e id m).1.last.length = e.last.length := by
 unfold Ag
 split
 ·split
  ·rfl
  ·simp only [Kl, Dj, List.length_set]
 split
 ·split
  ·rfl
  ·simp only [E4]; split
   ·split <;> simp
   ·rfl
 split
 ·simp only [Fy, Dj]
 split
 ·split
  ·simp only [Dj]; rfl
  ·rfl
 split
 ·simp only [Dg]; split <;> rfl
 ·rfl
theorem Uv {l : List Entry} {id : Int} {m : Msg} (hb : ∀ i, i < l.length → EB (l.getD i A6) ∧ (l.getD i A6).last.length ≤ 4) : (Ak (Ak l id m).1 id m).1 = (Ak l id m).1 := by
 by_cases c : m.line < 0 ∨ (l.length : Int) ≤ m.line ∨ m.src < 0 ∨ ((Ad l m.line).last.length : Int) ≤ m.src
 ·have h1 : Ak l id m = (l, []) := by unfold Ak; rw [if_pos c]
  rw [h1]; rw [h1]
 ·have h1 : (Ak l id m).1 = l.set m.line.toNat (Ag (Ad l m.line) id m).1 := by unfold Ak; rw [if_neg c]
  obtain ⟨h2, h3⟩ := hb m.line.toNat (by omega)
  have h4 : Ad (l.set m.line.toNat (Ag (Ad l m.line) id m).1) m.line = (Ag (Ad l m.line) id m).1 := by
   unfold Ad; rw [List.getD_eq_getElem?_getD, List.getElem?_set_self (by omega)]; rfl
  have h3' : (Ad l m.line).last.length ≤ 4 := h3
  have h5 := U4 (id := id) (m := m) (e := Ad l m.line) h2 (by omega) (by omega)
  rw [h1]
  have h6 : (Ak (l.set m.line.toNat (Ag (Ad l m.line) id m).1) id m).1 = (l.set m.line.toNat (Ag (Ad l m.line) id m).1).set m.line.toNat (Ag (Ad (l.set m.line.toNat (Ag (Ad l m.line) id m).1) m.line) id m).1 := by
   have h7 := Zw (Ad l m.line) id m
   unfold Ak; rw [if_neg (by rw [List.length_set, h4, h7]; exact c)]
  rw [h6, h4, h5, List.set_set]
theorem Z3 (l : List Entry) (id : Int) (m : Msg) : (Ak l id m).1.length = l.length := by unfold Ak; split <;> simp
end Go.Proofs.Ytehpekiedfpnkaa
