/- This file proves parts of what its law needs: each part is told ahead of it. No conditions. -/
import Derived.Test.YtbigiimomnfpdaaGM2
import Derived.Test.YtbigiimomnfpdaaGM3
set_option linter.unusedVariables false
set_option linter.unusedSimpArgs false
set_option maxHeartbeats 1000000
set_option maxRecDepth 8000
namespace Go.Proofs.Ytbigiimomnfpdaa
open Go
variable {L : List Chunk} {R : List Fact} {w : World}
section
variable {ls : List Line} {q : Op} {id home : Int} {m : Msg} {l : Line}
theorem Lw (hl : ls.getD m.line.toNat zLine = l) (hi : 0 ≤ m.line ∧ m.line < (ls.length : Int)) (hk : m.kind = 4) : Ac ⟨ls, q⟩ id home m = (⟨ls.set m.line.toNat (Dg l m.turn), q⟩, [Bk 8 id home m.line m.turn 0], []) := by
 subst hl
 unfold Ac
 rw [if_neg (by simp only; omega), if_pos hk]; rfl
theorem Nc (hl : ls.getD m.line.toNat zLine = l) (hi : 0 ≤ m.line ∧ m.line < (ls.length : Int)) (hk : m.kind = 11) : Ac ⟨ls, q⟩ id home m = (if l.want = 3 ∧ m.serial = l.serial then (⟨ls.set m.line.toNat { l with state := 0, value := 0, want := 0 }, zOp⟩, [], [⟨id, q, 0⟩]) else (⟨ls, q⟩, [], [])) := by
 subst hl
 unfold Ac
 rw [if_neg (by simp only; omega), if_neg (by omega), if_neg (by omega), if_neg (by omega)]
 by_cases h : (ls.getD m.line.toNat zLine).want = 3 ∧ m.serial = (ls.getD m.line.toNat zLine).serial
 ·rw [if_pos h, if_pos ⟨hk, h⟩]; rfl
 ·rw [if_neg h, if_neg (fun g => h g.2)]
theorem Wm (hi : 0 ≤ m.line ∧ m.line < (ls.length : Int)) (hk : m.kind ≠ 4 ∧ m.kind ≠ 5 ∧ m.kind ≠ 6 ∧ m.kind ≠ 7 ∧ m.kind ≠ 11) : Ac ⟨ls, q⟩ id home m = (⟨ls, q⟩, [], []) := by
 unfold Ac
 rw [if_neg (by simp only; omega), if_neg (by omega), if_neg (by omega), if_neg (by omega), if_neg (by omega)]
end
structure KH (c : Core) : Prop where
 n : c.lines.length ≤ 4
 w : CW c c.lines.length
theorem KB.kh {c : Core} (h : KB c) : KH c := ⟨h.n, h.w⟩
theorem KH.wline {c : Core} (h : KH c) (i : Int) (h0 : 0 ≤ i) (hi : i.toNat < c.lines.length) (hw : (Bn c i).want ≠ 0) : c.wait.line = i ∧ (1 ≤ c.wait.kind ∧ c.wait.kind ≤ 4) ∧ 0 ≤ c.wait.value ∧ c.wait.value ≤ 255 := by
 have hb := h.w.busy (fun h0 => hw ((h.w.free h0).2 i.toNat hi))
 have h1 := hb.2.2.2 i.toNat hi
 by_cases e : (i.toNat : Int) = c.wait.line
 ·exact ⟨by omega, hb.1, hb.2.2.1⟩
 ·rw [if_neg e] at h1; exact absurd h1 hw
theorem KH.wwf {c : Core} (h : KH c) : c.wait.wf := by
 by_cases h0 : c.wait.kind = 0
 ·rw [(h.w.free h0).1]; unfold Op.wf Ao; decide
 ·have hb := h.w.busy h0
  have := h.n
  unfold Op.wf Ao; omega
theorem Wl (c : Core) (id home : Int) (m : Msg) : (Ac c id home m).1.lines.length = c.lines.length := by
 unfold Ac
 repeat' split
 all_goals first | rfl | exact List.length_set
theorem KH.hear {c : Core} (h : KH c) (id home : Int) (m : Msg) : KH (Ac c id home m).1 := by
 have n' := Wl c id home m
 refine ⟨by rw [n']; exact h.n, ?_⟩
 rw [n']; clear n'
 by_cases o : m.line < 0 ∨ (c.lines.length : Int) ≤ m.line
 ·unfold Ac; rw [if_pos o]; exact h.w
 obtain ⟨i, hi⟩ := Int.eq_ofNat_of_zero_le (show 0 ≤ m.line by omega)
 have hil : i < c.lines.length := by omega
 have hz : (Bn c m.line).want ≠ 0 → c.wait.line = (i : Int) := fun hw => by rw [(h.wline m.line (by omega) (by omega) hw).1, hi]
 have hla : Bn c m.line = c.lines.getD i zLine := by unfold Bn; rw [hi]; rfl
 unfold Ac; rw [if_neg o]
 generalize Bn c m.line = l at hz hla
 rw [hi]
 split
 ·refine L3 rfl h.w hil ?_
  rw [← hla]; unfold Dg; split <;> (try split) <;> rfl
 split
 ·split
  ·by_cases e : l.want = 3
   ·rw [if_pos e]
    refine F4 rfl h.w hil (.inr (hz (by omega))) ?_
    unfold Cm; rw [if_pos e]
   ·rw [if_neg e]
    refine L3 rfl h.w hil ?_
    rw [← hla]; unfold Cm; rw [if_neg e]; split <;> rfl
  split <;> exact h.w
 split
 ·split
  ·exact h.w
  split
  ·rename_i a
   exact F4 rfl h.w hil (.inr (hz (by unfold Ku at a; omega))) rfl
  ·exact h.w
 split
 ·rename_i a
  exact F4 rfl h.w hil (.inr (hz (by omega))) rfl
 ·exact h.w
theorem open_l {P : Program} {n : Nat} {Q : Exit → Act → World → Prop} {L : List Chunk} {R : List Fact} {al : List (Nat × Value)} {cd : Code} {v : Value} {ls : List Line} {l : Line} {i : Int} (hl : ls.getD i.toNat zLine = l) (hm : sl v ls ∈ R) (h0 : 0 ≤ i) (hi : i < (ls.length : Int)) (k : l.wf → JC P n cd Q L (cF v 7 i.toNat l.cells :: R) al) : JC P n cd Q L R al := by
 subst hl
 exact JC.open0 (xs := ls) i.toNat hm (by omega) k
theorem Ui {u : Value} {ls : List Line} {q : Op} {l : Line} {id home : Int} {m : Msg} (hs : St (L) R w) (hu : sl u ls ∈ R) (hk : KH ⟨ls, q⟩) (hid : Ao id) (hhome : Ao home) (hm : m.wf) (hl : ls.getD m.line.toNat zLine = l) (hg : m.line < 0 ∨ (ls.length : Int) ≤ m.line) : Calls Try.prog 42 [.agg (Core.cells u ⟨ls, q⟩).toArray, vi id, vi home, .agg m.cells.toArray].toArray w (Bl (fun v : Value × Value × Value => .tuple #[.agg (Core.cells v.1 (Ac ⟨ls, q⟩ id home m).1).toArray, v.2.1, v.2.2]) (fun v => L) (fun v => sl v.1 (Ac ⟨ls, q⟩ id home m).1.lines :: sl v.2.1 (Ac ⟨ls, q⟩ id home m).2.1 :: sl v.2.2 (Ac ⟨ls, q⟩ id home m).2.2 :: R)) := by
 refine Za9 ?_;intro hlen hone0 hn4 hm0 hid0 hhome0
 clear hs
 refine ZaX ?_;intro b4 b7 b8 vL honeV b18
 rcases (show (m.line < 0) ∨ (¬ m.line < 0 ∧ (ls.length : Int) ≤ m.line) from by omega) with hc | hc
 ·refine Zat ?_
  refine Gc8 ?_
  refine Zcb ?_;intro er
  exact ZcU
 ·refine ZB ?_
  refine Zbm ?_
  refine Gc1 ?_
  refine Zcb ?_;intro er
  exact ZcU
theorem Uh {u : Value} {ls : List Line} {q : Op} {l : Line} {id home : Int} {m : Msg} (hs : St (L) R w) (hu : sl u ls ∈ R) (hk : KH ⟨ls, q⟩) (hid : Ao id) (hhome : Ao home) (hm : m.wf) (hl : ls.getD m.line.toNat zLine = l) (hg : 0 ≤ m.line ∧ m.line < (ls.length : Int) ∧ m.kind = 4) : Calls Try.prog 42 [.agg (Core.cells u ⟨ls, q⟩).toArray, vi id, vi home, .agg m.cells.toArray].toArray w (Bl (fun v : Value × Value × Value => .tuple #[.agg (Core.cells v.1 (Ac ⟨ls, q⟩ id home m).1).toArray, v.2.1, v.2.2]) (fun v => L) (fun v => sl v.1 (Ac ⟨ls, q⟩ id home m).1.lines :: sl v.2.1 (Ac ⟨ls, q⟩ id home m).2.1 :: sl v.2.2 (Ac ⟨ls, q⟩ id home m).2.2 :: R)) := by
 refine Za9 ?_;intro hlen hone0 hn4 hm0 hid0 hhome0
 clear hs
 refine ZaX ?_;intro b4 b7 b8 vL honeV b18
 refine ZB ?_
 refine Zaj ?_
 refine Gc1 ?_
 refine Zbd ?_;intro hlw hA hlw0 honeL
 refine dn7 ?_
 refine Zbe ?_;intro ρ
 refine Zbz ?_
 refine C3 ?_
 refine Gc1 ?_
 refine A8 ?_
 refine dn7 ?_
 refine dnl ?_; intro ρ
 refine Gl ?_
 refine cdy ?_ ?_
 ·intro ht52
  refine Gm ?_
  refine rn5 ?_
  refine ZJ ?_
  refine Ga5 ?_
  refine cdy ?_ ?_
  ·intro ht62
   refine ZG ?_
   refine ZaH ?_
   refine ZV ?_
   refine Zah ?_
   refine Ak Try.call61 rfl (fun w hs => Ed (vL := vL) (vd := .slice none 0 0) (q := q) (id := id) (home := home) (ms := []) (kind := 8) (line := m.line) (serial := 0) (turn := m.turn) (value := 0) (LX := foc 67 vL ls m.line.toNat [vi 0, vi 0, vi l.want, vi l.serial, vi m.turn, vi l.gave, vi l.given] :: blk b8 57 [.slice none 0 0, vi 0, vi 0, vi 0] :: L) (Af hs) (by simp) (by unfold Msg.wf Ao; simp only; omega)) ?_; intro v74
   refine Gl ?_
   refine JC.conseq (L' := row 67 vL (ls.set m.line.toNat ({ l with seen := m.turn, state := 0, value := 0 })) :: blk b18 98 [vL, vi q.kind, vi q.line, vi q.value, vi id, vi home, v74, .slice none 0 0] :: row 105 v74 [Bk 8 id home m.line m.turn 0] :: blk b8 57 [.slice none 0 0, vi 0, vi 0, vi 0] :: L) (fun w hs => Af (Ci ({ l with seen := m.turn, state := 0, value := 0 }) (by unfold Line.wf Ao; simp only; omega) (hs.pick pkk))) ?_
   refine JC.shut (v := vL) (xs := (ls.set m.line.toNat ({ l with seen := m.turn, state := 0, value := 0 }))) .hd ?_
   refine ZbN ?_
   refine ZbJ ?_
   refine Zbp ?_;intro ρ
   have eh : Dg l m.turn = { l with seen := m.turn, state := 0, value := 0 } := by unfold Dg; rw [if_pos (by omega), if_pos (by omega)]
   have er : (Ac ⟨ls, q⟩ id home m) = (⟨ls.set m.line.toNat ({ l with seen := m.turn, state := 0, value := 0 }), q⟩, [Bk 8 id home m.line m.turn 0], []) := by rw [Lw hl (by omega) (by omega), eh]
   exact Zdg
  ·intro ht62
   refine Gl ?_
   refine ZV ?_
   refine Zah ?_
   refine Ak Try.call61 rfl (fun w hs => Ed (vL := vL) (vd := .slice none 0 0) (q := q) (id := id) (home := home) (ms := []) (kind := 8) (line := m.line) (serial := 0) (turn := m.turn) (value := 0) (LX := foc 67 vL ls m.line.toNat [vi l.state, vi l.value, vi l.want, vi l.serial, vi m.turn, vi l.gave, vi l.given] :: blk b8 57 [.slice none 0 0, vi 0, vi 0, vi 0] :: L) (Af hs) (by simp) (by unfold Msg.wf Ao; simp only; omega)) ?_; intro v74
   refine Gl ?_
   refine JC.conseq (L' := row 67 vL (ls.set m.line.toNat ({ l with seen := m.turn })) :: blk b18 98 [vL, vi q.kind, vi q.line, vi q.value, vi id, vi home, v74, .slice none 0 0] :: row 105 v74 [Bk 8 id home m.line m.turn 0] :: blk b8 57 [.slice none 0 0, vi 0, vi 0, vi 0] :: L) (fun w hs => Af (Ci ({ l with seen := m.turn }) (by unfold Line.wf Ao; simp only; omega) (hs.pick pkk))) ?_
   refine JC.shut (v := vL) (xs := (ls.set m.line.toNat ({ l with seen := m.turn }))) .hd ?_
   refine ZbN ?_
   refine Zbp ?_;intro ρ
   have eh : Dg l m.turn = { l with seen := m.turn } := by unfold Dg; rw [if_pos (by omega), if_neg (by omega)]
   have er : (Ac ⟨ls, q⟩ id home m) = (⟨ls.set m.line.toNat ({ l with seen := m.turn }), q⟩, [Bk 8 id home m.line m.turn 0], []) := by rw [Lw hl (by omega) (by omega), eh]
   exact Zdg
 ·intro ht52
  refine Gl ?_
  refine ZV ?_
  refine Zah ?_
  refine Ak Try.call61 rfl (fun w hs => Ed (vL := vL) (vd := .slice none 0 0) (q := q) (id := id) (home := home) (ms := []) (kind := 8) (line := m.line) (serial := 0) (turn := m.turn) (value := 0) (LX := foc 67 vL ls m.line.toNat [vi l.state, vi l.value, vi l.want, vi l.serial, vi l.seen, vi l.gave, vi l.given] :: blk b8 57 [.slice none 0 0, vi 0, vi 0, vi 0] :: L) (Af hs) (by simp) (by unfold Msg.wf Ao; simp only; omega)) ?_; intro v74
  refine Gl ?_
  refine JC.conseq (L' := row 67 vL ls :: blk b18 98 [vL, vi q.kind, vi q.line, vi q.value, vi id, vi home, v74, .slice none 0 0] :: row 105 v74 [Bk 8 id home m.line m.turn 0] :: blk b8 57 [.slice none 0 0, vi 0, vi 0, vi 0] :: L) (fun w hs => Af (C8 hl hlw (hs.pick pkk))) ?_
  refine JC.shut (v := vL) (xs := ls) .hd ?_
  refine ZbN ?_
  refine Zbp ?_;intro ρ
  have eh : Dg l m.turn = l := by unfold Dg; rw [if_neg (by omega)]
  have er : (Ac ⟨ls, q⟩ id home m) = (⟨ls, q⟩, [Bk 8 id home m.line m.turn 0], []) := by rw [Lw hl (by omega) (by omega), eh, ← hl, H0]
  exact Zdg
theorem Ug {u : Value} {ls : List Line} {q : Op} {l : Line} {id home : Int} {m : Msg} (hs : St (L) R w) (hu : sl u ls ∈ R) (hk : KH ⟨ls, q⟩) (hid : Ao id) (hhome : Ao home) (hm : m.wf) (hl : ls.getD m.line.toNat zLine = l) (hg : 0 ≤ m.line ∧ m.line < (ls.length : Int) ∧ m.kind = 5) : Calls Try.prog 42 [.agg (Core.cells u ⟨ls, q⟩).toArray, vi id, vi home, .agg m.cells.toArray].toArray w (Bl (fun v : Value × Value × Value => .tuple #[.agg (Core.cells v.1 (Ac ⟨ls, q⟩ id home m).1).toArray, v.2.1, v.2.2]) (fun v => L) (fun v => sl v.1 (Ac ⟨ls, q⟩ id home m).1.lines :: sl v.2.1 (Ac ⟨ls, q⟩ id home m).2.1 :: sl v.2.2 (Ac ⟨ls, q⟩ id home m).2.2 :: R)) := by
 refine Za9 ?_;intro hlen hone0 hn4 hm0 hid0 hhome0
 clear hs
 refine Zbh ?_;intro b4 b7 b8 vL honeV b18 ρ
 exact Zcx
theorem Uf {u : Value} {ls : List Line} {q : Op} {l : Line} {id home : Int} {m : Msg} (hs : St (L) R w) (hu : sl u ls ∈ R) (hk : KH ⟨ls, q⟩) (hid : Ao id) (hhome : Ao home) (hm : m.wf) (hl : ls.getD m.line.toNat zLine = l) (hg : 0 ≤ m.line ∧ m.line < (ls.length : Int) ∧ m.kind = 6) : Calls Try.prog 42 [.agg (Core.cells u ⟨ls, q⟩).toArray, vi id, vi home, .agg m.cells.toArray].toArray w (Bl (fun v : Value × Value × Value => .tuple #[.agg (Core.cells v.1 (Ac ⟨ls, q⟩ id home m).1).toArray, v.2.1, v.2.2]) (fun v => L) (fun v => sl v.1 (Ac ⟨ls, q⟩ id home m).1.lines :: sl v.2.1 (Ac ⟨ls, q⟩ id home m).2.1 :: sl v.2.2 (Ac ⟨ls, q⟩ id home m).2.2 :: R)) := by
 refine Za9 ?_;intro hlen hone0 hn4 hm0 hid0 hhome0
 clear hs
 refine Zbh ?_;intro b4 b7 b8 vL honeV b18 ρ
 refine ZF ?_
 exact Zcx
theorem Ue {u : Value} {ls : List Line} {q : Op} {l : Line} {id home : Int} {m : Msg} (hs : St (L) R w) (hu : sl u ls ∈ R) (hk : KH ⟨ls, q⟩) (hid : Ao id) (hhome : Ao home) (hm : m.wf) (hl : ls.getD m.line.toNat zLine = l) (hg : 0 ≤ m.line ∧ m.line < (ls.length : Int) ∧ m.kind = 7) : Calls Try.prog 42 [.agg (Core.cells u ⟨ls, q⟩).toArray, vi id, vi home, .agg m.cells.toArray].toArray w (Bl (fun v : Value × Value × Value => .tuple #[.agg (Core.cells v.1 (Ac ⟨ls, q⟩ id home m).1).toArray, v.2.1, v.2.2]) (fun v => L) (fun v => sl v.1 (Ac ⟨ls, q⟩ id home m).1.lines :: sl v.2.1 (Ac ⟨ls, q⟩ id home m).2.1 :: sl v.2.2 (Ac ⟨ls, q⟩ id home m).2.2 :: R)) := by
 refine Za9 ?_;intro hlen hone0 hn4 hm0 hid0 hhome0
 clear hs
 refine Zbh ?_;intro b4 b7 b8 vL honeV b18 ρ
 refine ZaF ?_
 refine Gc1 ?_
 refine ZV ?_
 refine JC.rowNil 102 Done ?_
 have hkd : m.kind = 7 := by omega
 have hqa : Ku l m → q.line = m.line ∧ (1 ≤ q.kind ∧ q.kind ≤ 4) ∧ 0 ≤ q.value ∧ q.value ≤ 255 := fun ha => by
  have hw : (Bn ⟨ls, q⟩ m.line).want ≠ 0 := by
   show (ls.getD m.line.toNat zLine).want ≠ 0
   rw [hl]; unfold Ku at ha; omega
  exact hk.wline m.line (by omega) (show m.line.toNat < ls.length by omega) hw
 refine ZC ?_
 refine Ak Try.call63 rfl (fun w hs => Uj (vL := vL) (vo := .slice none 0 0) (vd := .slice none 0 0) (bk := b18) (bm := b7) (q := q) (id := id) (home := home) (ls := ls) (l := l) (ms := []) (ds := []) (m := m) (LX := blk b8 57 [.slice none 0 0, vi 0, vi 0, vi 0] :: L) (Af hs) hl (by omega) (by omega) hm hid hhome (by simp) (by simp) hk.wwf hkd hqa) ?_; intro ⟨g1, g2⟩
 refine J.conseq (L' := blk b18 98 [vL, vi (Ac ⟨ls, q⟩ id home m).1.wait.kind, vi (Ac ⟨ls, q⟩ id home m).1.wait.line, vi (Ac ⟨ls, q⟩ id home m).1.wait.value, vi id, vi home, g1, g2] :: row 67 vL (Ac ⟨ls, q⟩ id home m).1.lines :: row 105 g1 (Ac ⟨ls, q⟩ id home m).2.1 :: row 102 g2 (Ac ⟨ls, q⟩ id home m).2.2 :: blk b8 57 [.slice none 0 0, vi 0, vi 0, vi 0] :: L) (fun w hs => by rw [List.nil_append, List.nil_append] at hs; exact Af hs) ?_
 refine Zbn ?_;intro ρ
 exact Es (vL, g1, g2) Try.isAgg57 Try.sizeOf57
theorem Ru {u : Value} {ls : List Line} {q : Op} {l : Line} {id home : Int} {m : Msg} (hs : St (L) R w) (hu : sl u ls ∈ R) (hk : KH ⟨ls, q⟩) (hid : Ao id) (hhome : Ao home) (hm : m.wf) (hl : ls.getD m.line.toNat zLine = l) (hg : 0 ≤ m.line ∧ m.line < (ls.length : Int) ∧ m.kind = 11) : Calls Try.prog 42 [.agg (Core.cells u ⟨ls, q⟩).toArray, vi id, vi home, .agg m.cells.toArray].toArray w (Bl (fun v : Value × Value × Value => .tuple #[.agg (Core.cells v.1 (Ac ⟨ls, q⟩ id home m).1).toArray, v.2.1, v.2.2]) (fun v => L) (fun v => sl v.1 (Ac ⟨ls, q⟩ id home m).1.lines :: sl v.2.1 (Ac ⟨ls, q⟩ id home m).2.1 :: sl v.2.2 (Ac ⟨ls, q⟩ id home m).2.2 :: R)) := by
 refine Za9 ?_;intro hlen hone0 hn4 hm0 hid0 hhome0
 clear hs
 refine ZaX ?_;intro b4 b7 b8 vL honeV b18
 refine ZB ?_
 refine Zaj ?_
 refine Gc1 ?_
 refine Zbd ?_;intro hlw hA hlw0 honeL
 refine dn7 ?_
 refine Zbe ?_;intro ρ
 refine Zbz ?_
 refine ZF ?_
 refine ZF ?_
 refine ZaF ?_
 refine Gc1 ?_
 refine kp [1, 7, 8, 9, 10, 11, 12, 86, 87, 88, 89, 90, 91, 92, 93, 94, 95, 96, 97, 98, 99] ?_
 refine Cx 99 (.bool (decide ((l.want = 3) ∧ (m.serial = l.serial)))) ?_ ?_
 ·rcases (show (¬ (l.want = 3)) ∨ ((l.want = 3) ∧ ¬ (m.serial = l.serial)) ∨ ((l.want = 3) ∧ (m.serial = l.serial)) from by omega) with hm | hm | hm
  ·refine A8 ?_
   refine dn4 ?_
   refine Zau ?_
   refine dn7 ?_
   refine djf ?_
   refine dnl ?_; intro ρ
   refine An ?_ (fun w hs => hs)
   exact meF
  ·refine A8 ?_
   refine dn4 ?_
   refine ZO ?_
   refine dn6 ?_
   refine dj (dgy ?_)
   refine ZZ ?_
   refine ZY ?_
   refine dnl ?_; intro ρ
   refine An ?_ (fun w hs => hs)
   exact meF
  ·refine A8 ?_
   refine dn4 ?_
   refine ZO ?_
   refine dn6 ?_
   refine dj (dgy ?_)
   refine Zap ?_
   refine ZY ?_
   refine dnl ?_; intro ρ
   refine An ?_ (fun w hs => hs)
   exact meT
 ·refine A2 ?_
  first | (refine cdx (p := ?p1) (hd := ?d1) ?e1 ?_ ?_; case e1 => exact rfl) | (refine Bg (b := ?b1) ?e1 ?_ ?_; case e1 => exact rfl)
  ·intro ht99
   refine Gl ?_
   refine kp [1, 8, 9, 10, 11, 12, 100, 101, 102, 103, 104, 105, 106, 107, 108] ?_
   refine Zah ?_
   refine Zax ?_
   refine ZaH ?_
   refine JC.rowNil 102 Done ?_
   have hwq := hk.wwf
   refine cq_ (blk b18 98 [vL, vi q.kind, vi q.line, vi q.value, vi id, vi home, .slice none 0 0, .slice none 0 0] :: row 102 (.slice none 0 0) [] :: foc 67 vL ls m.line.toNat [vi 0, vi 0, vi 0, vi l.serial, vi l.seen, vi l.gave, vi l.given] :: blk b8 57 [.slice none 0 0, vi 0, vi 0, vi 0] :: L) ?_
   refine jd_ (fun ρ S => blk b18 98 (bif S 16 then [vL, vi q.kind, vi q.line, vi q.value, vi id, vi home, .slice none 0 0, (Gh.dec (γ := Value) (ρ 13))] else [vL, vi q.kind, vi q.line, vi q.value, vi id, vi home, .slice none 0 0, .slice none 0 0]) :: (bif S 13 then row 102 (Gh.dec (γ := Value) (ρ 13)) ([] ++ [(⟨id, q, 0⟩ : Done)]) else row 102 (.slice none 0 0) []) :: foc 67 vL ls m.line.toNat [vi 0, vi 0, vi 0, vi l.serial, vi l.seen, vi l.gave, vi l.given] :: blk b8 57 [.slice none 0 0, vi 0, vi 0, vi 0] :: L) ?_
   refine dn4 ?_
   refine Hv (v := .slice none 0 0) (fun ρ S hS hB hA => by have h16 : S 16 = false := hA 16 ⟨0, rfl⟩; simp only [h16, cond_false]; exact Dm (hc := Bd pkk (by repeat (first | exact rfl | refine Cp rfl ?_))) Try.isAgg48) (fun _ _ _ _ _ => rfl) ?_
   refine dn5 ?_
   refine Hv (v := .agg q.cells.toArray) (fun ρ S hS hB hA => by have h16 : S 16 = false := hA 16 ⟨9, rfl⟩; simp only [h16, cond_false]; exact Ev (b := b18) (f := 1) (vs := [vL, vi q.kind, vi q.line, vi q.value, vi id, vi home, .slice none 0 0, .slice none 0 0]) 3 Try.isAgg33 Try.sizeOf33) (fun _ _ _ _ _ => rfl) ?_
   first | refine epc (fun _ _ => D5 Er) ?_ | refine epc (fun _ _ => Eh Er) ?_ | refine epp (fun _ _ => D5 Er) ?_ | refine epp (fun _ _ => Eh Er) ?_
   refine Ie ([(⟨id, q, 0⟩ : Done)] : List Done) K1 rfl (fun _ => rfl) rfl (fun _ => rfl) rfl rfl (fun ρ R hd => Mu ⟨hid, hwq.1, hwq.2.1, hwq.2.2, by unfold Ao; simp only; omega⟩) (fun _ _ _ _ _ => rfl) ?_
   refine Ec (e := 102) (xs := []) (ys := [(⟨id, q, 0⟩ : Done)]) (v := (.slice none 0 0)) K1 (fun _ => rfl) (fun _ => rfl) rfl (by decide) (fun ρ R hd => (hd.dep (it := ⟨12, _, _, _, _⟩) (by repeat (first | exact List.Mem.head _ | refine List.Mem.tail _ ?_)) ⟨9, rfl⟩ (List.Mem.head _))) (by have : maxN = 16777216 := rfl; simp only [List.length_cons, List.length_nil]; omega) (fun ρ g S hS hB hA => ?_) ?_
   ·exact ZcN
   refine dn2 ?_
   refine Di (T0 := 98) (f := 7) (vs := fun ρ => [vL, vi q.kind, vi q.line, vi q.value, vi id, vi home, .slice none 0 0, .slice none 0 0]) (v := fun ρ => (Gh.dec (γ := Value) (ρ 13))) (fun ρ => b18) Try.sizeOf48 (fun _ => rfl) (fun _ => rfl) (fun ρ S R w L9 hB hd hs => by have h13 : S 13 = true := hB 13 ⟨9, rfl⟩; simp only [h13, cond_true] at hs; exact A6 pkk hs) (fun _ => rfl) (fun ρ g S hS hB hA => ?_) ?_
   ·exact ZcW
   refine dnl ?_; intro ρ
   refine xq_ (blk b18 98 [vL, vi q.kind, vi q.line, vi q.value, vi id, vi home, .slice none 0 0, (Gh.dec (γ := Value) (ρ 13))] :: row 102 (Gh.dec (γ := Value) (ρ 13)) [(⟨id, q, 0⟩ : Done)] :: foc 67 vL ls m.line.toNat [vi 0, vi 0, vi 0, vi l.serial, vi l.seen, vi l.gave, vi l.given] :: blk b8 57 [.slice none 0 0, vi 0, vi 0, vi 0] :: L) ?_
   generalize (Gh.dec (γ := Value) (ρ 12)) = v121
   generalize (Gh.dec (γ := Value) (ρ 13)) = v122
   refine Zad ?_
   refine ob (D5 (cs := zOp.cells) Sn) ?_
   refine rn3 ?_
   refine s_N [vL, vi 0, vi 0, vi 0, vi id, vi home, .slice none 0 0, v122] Try.sizeOf33 ?_
   refine Gl ?_
   refine JC.conseq (L' := row 67 vL (ls.set m.line.toNat ({ l with state := 0, value := 0, want := 0 })) :: blk b18 98 [vL, vi 0, vi 0, vi 0, vi id, vi home, .slice none 0 0, v122] :: row 102 v122 [(⟨id, q, 0⟩ : Done)] :: blk b8 57 [.slice none 0 0, vi 0, vi 0, vi 0] :: L) (fun w hs => Af (Ci ({ l with state := 0, value := 0, want := 0 }) (by unfold Line.wf Ao; simp only; omega) (hs.pick pkk))) ?_
   refine JC.shut (v := vL) (xs := (ls.set m.line.toNat ({ l with state := 0, value := 0, want := 0 }))) .hd ?_
   refine JC.slNil Msg ?_
   refine JC.shut (v := v122) (xs := [(⟨id, q, 0⟩ : Done)]) pkk ?_
   refine ZbJ ?_
   refine cq_ (blk b8 57 [.slice none 0 0, vi 0, vi 0, vi 0] :: blk b18 98 [vL, vi 0, vi 0, vi 0, vi id, vi home, .slice none 0 0, v122] :: L) ?_
   refine jd_ (fun ρ S => blk b8 57 (bif S 12 then [vL, vi 0, vi 0, vi 0] else [.slice none 0 0, vi 0, vi 0, vi 0]) :: blk b18 98 [vL, vi 0, vi 0, vi 0, vi id, vi home, .slice none 0 0, v122] :: L) ?_
   refine dn3 ?_
   refine Jn (v := .agg ([vL, vi 0, vi 0, vi 0]).toArray) (fun _ _ => Ev (b := b18) (f := 0) (vs := [vL, vi 0, vi 0, vi 0, vi id, vi home, .slice none 0 0, v122]) 4 Try.isAgg57 Try.sizeOf57) (fun _ _ _ _ _ => rfl) ?_
   refine Zcn ?_
   refine dn2 ?_
   refine dnl ?_; intro ρ
   refine xq_ (blk b8 57 [vL, vi 0, vi 0, vi 0] :: blk b18 98 [vL, vi 0, vi 0, vi 0, vi id, vi home, .slice none 0 0, v122] :: L) ?_
   refine Gl ?_
   have er : (Ac ⟨ls, q⟩ id home m) = (⟨ls.set m.line.toNat ({ l with state := 0, value := 0, want := 0 }), zOp⟩, [], [⟨id, q, 0⟩]) := by rw [Nc hl (by omega) (by omega), if_pos ht99]
   rw [er]
   exact Es (vL, .slice none 0 0, v122) Try.isAgg57 Try.sizeOf57
  ·intro ht99
   refine Gl ?_
   refine JC.conseq (L' := row 67 vL ls :: blk b18 98 [vL, vi q.kind, vi q.line, vi q.value, vi id, vi home, .slice none 0 0, .slice none 0 0] :: blk b8 57 [.slice none 0 0, vi 0, vi 0, vi 0] :: L) (fun w hs => Af (C8 hl hlw (hs.pick pkk))) ?_
   refine Zb4 ?_
   refine ZbJ ?_
   refine ZbT ?_;intro ρ
   have er : (Ac ⟨ls, q⟩ id home m) = (⟨ls, q⟩, [], []) := by rw [Nc hl (by omega) (by omega), if_neg ht99]
   rw [er]
   exact ZcU
theorem Ud {u : Value} {ls : List Line} {q : Op} {l : Line} {id home : Int} {m : Msg} (hs : St (L) R w) (hu : sl u ls ∈ R) (hk : KH ⟨ls, q⟩) (hid : Ao id) (hhome : Ao home) (hm : m.wf) (hl : ls.getD m.line.toNat zLine = l) (hg : 0 ≤ m.line ∧ m.line < (ls.length : Int) ∧ m.kind ≠ 4 ∧ m.kind ≠ 5 ∧ m.kind ≠ 6 ∧ m.kind ≠ 7 ∧ m.kind ≠ 11) : Calls Try.prog 42 [.agg (Core.cells u ⟨ls, q⟩).toArray, vi id, vi home, .agg m.cells.toArray].toArray w (Bl (fun v : Value × Value × Value => .tuple #[.agg (Core.cells v.1 (Ac ⟨ls, q⟩ id home m).1).toArray, v.2.1, v.2.2]) (fun v => L) (fun v => sl v.1 (Ac ⟨ls, q⟩ id home m).1.lines :: sl v.2.1 (Ac ⟨ls, q⟩ id home m).2.1 :: sl v.2.2 (Ac ⟨ls, q⟩ id home m).2.2 :: R)) := by
 refine Za9 ?_;intro hlen hone0 hn4 hm0 hid0 hhome0
 clear hs
 refine Zbh ?_;intro b4 b7 b8 vL honeV b18 ρ
 refine ZF ?_
 refine ZF ?_
 refine ZF ?_
 refine Az ?_
 refine Gc1 ?_
 refine cq_ (row 67 vL ls :: blk b18 98 [vL, vi q.kind, vi q.line, vi q.value, vi id, vi home, .slice none 0 0, .slice none 0 0] :: blk b8 57 [.slice none 0 0, vi 0, vi 0, vi 0] :: L) ?_
 refine Zb4 ?_
 refine ZbT ?_;intro ρ
 have er : (Ac ⟨ls, q⟩ id home m) = (⟨ls, q⟩, [], []) := Wm (by omega) (by omega)
 rw [er]
 exact ZcU
theorem Uc {u : Value} {c : Core} {id home : Int} {m : Msg} (hs : St (L) R w) (hu : sl u c.lines ∈ R) (hk : KH c) (hid : Ao id) (hhome : Ao home) (hm : m.wf) : Calls Try.prog 42 [.agg (c.cells u).toArray, vi id, vi home, .agg m.cells.toArray].toArray w (Bl (fun v : Value × Value × Value => .tuple #[.agg (Core.cells v.1 (Ac c id home m).1).toArray, v.2.1, v.2.2]) (fun v => L) (fun v => sl v.1 (Ac c id home m).1.lines :: sl v.2.1 (Ac c id home m).2.1 :: sl v.2.2 (Ac c id home m).2.2 :: R)) := by
 obtain ⟨ls, q⟩ := c
 by_cases h : 0 ≤ m.line ∧ m.line < (ls.length : Int)
 ·by_cases h4 : m.kind = 4
  ·exact Uh hs hu hk hid hhome hm rfl (by omega)
  by_cases h5 : m.kind = 5
  ·exact Ug hs hu hk hid hhome hm rfl (by omega)
  by_cases h6 : m.kind = 6
  ·exact Uf hs hu hk hid hhome hm rfl (by omega)
  by_cases h7 : m.kind = 7
  ·exact Ue hs hu hk hid hhome hm rfl (by omega)
  by_cases h11 : m.kind = 11
  ·exact Ru hs hu hk hid hhome hm rfl (by omega)
  exact Ud hs hu hk hid hhome hm rfl (by omega)
 ·exact Ui hs hu hk hid hhome hm rfl (by omega)
section
variable {ls : List Line} {q q0 : Op} {id home : Int} {l : Line}
theorem beg_1 (h : q.kind < 1 ∨ 4 < q.kind) : Aj ⟨ls, q0⟩ id home q = (Ez, [], [], 1) := by unfold Aj; rw [if_pos h]
theorem Xt (h1 : 1 ≤ q.kind ∧ q.kind ≤ 4) (h : q.line < 0 ∨ (ls.length : Int) ≤ q.line ∨ q.value < 0 ∨ 255 < q.value) : Aj ⟨ls, q0⟩ id home q = (Ez, [], [], 3) := by
 unfold Aj; rw [if_neg (by omega), if_pos h]
theorem beg_8 (hl : ls.getD q.line.toNat zLine = l) (h1 : 1 ≤ q.kind ∧ q.kind ≤ 4) (h2 : 0 ≤ q.line ∧ q.line < (ls.length : Int)) (h3 : 0 ≤ q.value ∧ q.value ≤ 255) (h : q0.kind ≠ 0 ∨ 65535 ≤ l.serial) : Aj ⟨ls, q0⟩ id home q = (Ez, [], [], 8) := by
 subst hl
 unfold Aj; rw [if_neg (by omega), if_neg (by simp only; omega), if_pos (show (⟨ls, q0⟩ : Core).wait.kind ≠ 0 ∨ 65535 ≤ (Bn ⟨ls, q0⟩ q.line).serial from h)]
theorem Nx (hl : ls.getD q.line.toNat zLine = l) (h1 : 1 ≤ q.kind ∧ q.kind ≤ 4) (h2 : 0 ≤ q.line ∧ q.line < (ls.length : Int)) (h3 : 0 ≤ q.value ∧ q.value ≤ 255) (h4 : q0.kind = 0) (h5 : l.serial < 65535) : Aj ⟨ls, q0⟩ id home q = (if Bt l q then (⟨ls.set q.line.toNat (A4 l q), zOp⟩, [], [⟨id, q, Dr l q⟩], 0) else (⟨ls.set q.line.toNat (A4 l q), q⟩, [Bz (A4 l q) id home q.line], [], 0)) := by
 subst hl
 unfold Aj; rw [if_neg (by omega), if_neg (by simp only; omega), if_neg (fun h => by rcases h with h | h; exact h h4; exact absurd h (by show ¬ 65535 ≤ (ls.getD q.line.toNat zLine).serial; omega))]; rfl
end
theorem Rv {u : Value} {c : Core} {id home : Int} {q : Op} (hs : St (L) R w) (hu : sl u c.lines ∈ R) (hk : KB c) (hid : Ao id) (hhome : Ao home) (hq : q.wf) : Calls Try.prog 20 [.agg (c.cells u).toArray, vi id, vi home, .agg q.cells.toArray].toArray w (Bl (fun v : Value × Value × Value => .tuple #[.agg (Core.cells v.1 (Aj c id home q).1).toArray, v.2.1, v.2.2, vi (Aj c id home q).2.2.2]) (fun v => L) (fun v => sl v.1 (Aj c id home q).1.lines :: sl v.2.1 (Aj c id home q).2.1 :: sl v.2.2 (Aj c id home q).2.2.1 :: R)) := by
 obtain ⟨ls, q0⟩ := c
 have hu : sl u ls ∈ R := hu
 obtain ⟨l, hl⟩ : ∃ l, ls.getD q.line.toNat zLine = l := ⟨_, rfl⟩
 have hlen := Bv hu hs
 have hone0 : u.oneCell' = true := isSlice.one (hs.fact hu)
 have hn4 : ls.length ≤ 4 := hk.n
 refine Za8 ?_;intro hid0 hhome0
 refine Ah Try.func20 rfl Try.ntmps20 rfl hs ?_
 clear hs
 refine Gm ?_
 refine bx ?_; intro b4
 refine bx ?_; intro b7
 refine al_ (cs := [.slice none 0 0, vi 0, vi 0, vi 0]) Try.zeroValue57 ?_; intro b8
 refine Ga3 ?_
 refine cq_ (blk b4 57 [u, vi q0.kind, vi q0.line, vi q0.value] :: blk b7 33 q.cells :: blk b8 57 [.slice none 0 0, vi 0, vi 0, vi 0] :: L) ?_
 rcases (show (q.kind < 1) ∨ (¬ q.kind < 1 ∧ 4 < q.kind) ∨ (1 ≤ q.kind ∧ q.kind ≤ 4) from by omega) with hc | hc | hc
 ·refine Zat ?_
  refine Gc6 ?_
  exact Zdk
 ·refine ZaV ?_
  refine Gc2 ?_
  exact Zdk
 ·refine Zar ?_
  refine Gc2 ?_
  rcases (show (q.line < 0) ∨ (0 ≤ q.line ∧ (ls.length : Int) ≤ q.line) ∨ (0 ≤ q.line ∧ q.line < (ls.length : Int) ∧ q.value < 0) ∨ (0 ≤ q.line ∧ q.line < (ls.length : Int) ∧ 255 < q.value) ∨ (0 ≤ q.line ∧ q.line < (ls.length : Int) ∧ 0 ≤ q.value ∧ q.value ≤ 255) from by omega) with hc | hc | hc | hc | hc
  ·refine Zat ?_
   refine Gc19 ?_
   exact Zdw
  ·refine ZB ?_
   refine Zbm ?_
   refine Gc12 ?_
   exact Zdw
  ·refine ZB ?_
   refine Zaj ?_
   refine ZE ?_
   refine E4 ?_
   refine Gc7 ?_
   exact Zdw
  ·refine ZB ?_
   refine Zaj ?_
   refine Za0 ?_
   refine Ha ?_
   refine Gc2 ?_
   exact Zdw
  ·refine ZB ?_
   refine Zaj ?_
   refine Zas ?_
   refine Gc2 ?_
   refine open_l (v := u) hl mm (by omega) (by omega) (fun hlw1 => ?_)
   rcases (show (q0.kind ≠ 0) ∨ (q0.kind = 0 ∧ 65535 ≤ l.serial) ∨ (q0.kind = 0 ∧ l.serial < 65535) from by omega) with hc | hc | hc
   ·refine ZbG ?_
    refine S9 ?_
    refine Gc11 ?_
    exact Zdc
   ·refine ZbG ?_
    refine V3 ?_
    refine rn8 ?_
    refine gy ?_
    refine Jk ?_
    refine Gc2 ?_
    exact Zdc
   ·have hc5 := hc
    refine ZbG ?_
    refine V3 ?_
    refine rn8 ?_
    refine gy ?_
    refine Ea ?_
    refine Gd2 ?_
    refine rn1 ?_
    refine Ak Try.call33 rfl (fun w hs => Fm (u := u) (c := ⟨ls, q0⟩) hs mm) ?_; intro vL
    refine J.know (p := vL.oneCell' = true) (fun w hs => A6 .hd hs) (fun honeV => ?_)
    refine rn3 ?_
    refine bx ?_; intro b68
    refine Ga1 ?_
    refine cq_ (row 67 vL ls :: blk b68 98 [vL, vi q0.kind, vi q0.line, vi q0.value, vi id, vi home, .slice none 0 0, .slice none 0 0] :: blk b8 57 [.slice none 0 0, vi 0, vi 0, vi 0] :: blk b7 33 q.cells :: L) ?_
    refine Zb5 ?_;intro hlw hA hlw0 honeL
    have hz : q0 = zOp := (hk.w.free hc5.1).1
    refine ZbF ?_;intro ρ
    refine Gl ?_
    refine kp [1, 7, 8, 9, 10, 11, 12, 13, 80, 81, 82, 83, 84, 85, 86, 87, 88, 89, 90] ?_
    refine Cx 80 (.bool (decide ((q.kind = 4) ∧ (l.state = 2)))) ?_ ?_
    ·rcases (show (¬ (q.kind = 4)) ∨ ((q.kind = 4) ∧ ¬ (l.state = 2)) ∨ ((q.kind = 4) ∧ (l.state = 2)) from by omega) with hm | hm | hm
     ·refine ZB ?_
      refine Az ?_
      refine Ga8 ?_
      exact ZcI
     ·refine ZB ?_
      refine C3 ?_
      refine Zab ?_
      refine Az ?_
      refine Ga2 ?_
      exact ZcI
     ·refine ZB ?_
      refine C3 ?_
      refine Zab ?_
      refine C3 ?_
      refine Ga2 ?_
      exact Zc9
    ·refine A2 ?_
     first | (refine cdx (p := ?p1) (hd := ?d1) ?e1 ?_ ?_; case e1 => exact rfl) | (refine Bg (b := ?b1) ?e1 ?_ ?_; case e1 => exact rfl)
     ·intro ht80
      refine Gl ?_
      refine kp [1, 7, 8, 9, 10, 11, 12, 13, 91, 92, 93] ?_
      refine ZP ?_
      refine sc ?_
      refine Gl ?_
      refine JC.conseq (L' := row 67 vL (ls.set q.line.toNat ({ l with state := 3 })) :: blk b68 98 [vL, vi q0.kind, vi q0.line, vi q0.value, vi id, vi home, .slice none 0 0, .slice none 0 0] :: blk b8 57 [.slice none 0 0, vi 0, vi 0, vi 0] :: blk b7 33 q.cells :: L) (fun w hs => Af (Ci ({ l with state := 3 }) (by unfold Line.wf Ao; simp only; omega) (hs.pick pkk))) ?_
      refine ZV ?_
      refine ZB ?_
      refine Ak Try.call34 rfl (fun w hs => O0 (vL := vL) (vo := .slice none 0 0) (vd := .slice none 0 0) (q := q) (q0 := q0) (id := id) (home := home) (ls := (ls.set q.line.toNat ({ l with state := 3 }))) (l := { l with state := 3 }) (ms := []) (want := 3) (bk := b68) (LX := blk b8 57 [.slice none 0 0, vi 0, vi 0, vi 0] :: blk b7 33 q.cells :: L) (Af hs) (by rw [List.getD_eq_getElem?_getD, List.getElem?_set_self (by omega)]; rfl) (by rw [List.length_set]; omega) (by rw [List.length_set]; omega) hid hhome (by simp) (by first | omega | (simp only; omega)) (by unfold Ao; omega)) ?_; intro v96
      refine J.conseq (L' := row 67 vL (ls.set q.line.toNat ({ l with state := 3, want := 3, serial := l.serial + 1 })) :: blk b68 98 [vL, vi q.kind, vi q.line, vi q.value, vi id, vi home, v96, .slice none 0 0] :: row 105 v96 [Bz ({ l with state := 3, want := 3, serial := l.serial + 1 }) id home q.line] :: blk b8 57 [.slice none 0 0, vi 0, vi 0, vi 0] :: L) (fun w hs => by rw [List.nil_append, List.set_set] at hs; exact Af hs) ?_
      refine Gl ?_
      refine cq_ (row 67 vL (ls.set q.line.toNat ({ l with state := 3, want := 3, serial := l.serial + 1 })) :: blk b68 98 [vL, vi q.kind, vi q.line, vi q.value, vi id, vi home, v96, .slice none 0 0] :: row 105 v96 [Bz ({ l with state := 3, want := 3, serial := l.serial + 1 }) id home q.line] :: blk b8 57 [.slice none 0 0, vi 0, vi 0, vi 0] :: L) ?_
      refine JC.shut (v := vL) (xs := (ls.set q.line.toNat ({ l with state := 3, want := 3, serial := l.serial + 1 }))) .hd ?_
      refine JC.shut (v := v96) (xs := [Bz ({ l with state := 3, want := 3, serial := l.serial + 1 }) id home q.line]) pkk ?_
      refine ZM ?_
      refine cq_ (blk b8 57 [.slice none 0 0, vi 0, vi 0, vi 0] :: blk b68 98 [vL, vi q.kind, vi q.line, vi q.value, vi id, vi home, v96, .slice none 0 0] :: L) ?_
      refine jd_ (fun ρ S => blk b8 57 (bif S 12 then [vL, vi q.kind, vi q.line, vi q.value] else [.slice none 0 0, vi 0, vi 0, vi 0]) :: blk b68 98 [vL, vi q.kind, vi q.line, vi q.value, vi id, vi home, v96, .slice none 0 0] :: L) ?_
      refine dn3 ?_
      refine Jn (v := .agg ([vL, vi q.kind, vi q.line, vi q.value]).toArray) (fun _ _ => Ev (b := b68) (f := 0) (vs := [vL, vi q.kind, vi q.line, vi q.value, vi id, vi home, v96, .slice none 0 0]) 4 Try.isAgg57 Try.sizeOf57) (fun _ _ _ _ _ => rfl) ?_
      refine ZaO ?_
      refine dn3 ?_
      refine dnl ?_; intro ρ
      refine xq_ (blk b8 57 [vL, vi q.kind, vi q.line, vi q.value] :: blk b68 98 [vL, vi q.kind, vi q.line, vi q.value, vi id, vi home, v96, .slice none 0 0] :: L) ?_
      refine Gl ?_
      have eb : A4 l q = { l with state := 3, want := 3, serial := l.serial + 1 } := by unfold A4; rw [if_pos (by omega), if_pos (by omega)]
      have ed : Bt l q = false := by unfold Bt; split <;> simp <;> omega
      have er : (Aj ⟨ls, q0⟩ id home q) = (⟨ls.set q.line.toNat ({ l with state := 3, want := 3, serial := l.serial + 1 }), q⟩, [Bz ({ l with state := 3, want := 3, serial := l.serial + 1 }) id home q.line], [], 0) := by rw [Nx hl (by omega) (by omega) (by omega) (by omega) (by omega), ed, if_neg (by decide), eb]
      rw [er]
      exact Ir (vL, v96, .slice none 0 0) Try.isAgg57 Try.sizeOf57
     ·intro ht80
      refine Gl ?_
      refine kp [1, 7, 8, 9, 10, 11, 12, 13, 97, 98, 99, 100] ?_
      refine Aa ?_
      refine Ga4 ?_
      refine cdy ?_ ?_
      ·intro ht97
       refine Gm ?_
       refine rn4 ?_
       refine ZaH ?_
       refine JC.rowNil 102 Done ?_
       refine cq_ (blk b68 98 [vL, vi q0.kind, vi q0.line, vi q0.value, vi id, vi home, .slice none 0 0, .slice none 0 0] :: row 102 (.slice none 0 0) [] :: foc 67 vL ls q.line.toNat [vi 0, vi 0, vi l.want, vi l.serial, vi l.seen, vi l.gave, vi l.given] :: blk b8 57 [.slice none 0 0, vi 0, vi 0, vi 0] :: blk b7 33 q.cells :: L) ?_
       refine jd_ (fun ρ S => blk b68 98 (bif S 12 then [vL, vi q0.kind, vi q0.line, vi q0.value, vi id, vi home, .slice none 0 0, (Gh.dec (γ := Value) (ρ 9))] else [vL, vi q0.kind, vi q0.line, vi q0.value, vi id, vi home, .slice none 0 0, .slice none 0 0]) :: (bif S 9 then row 102 (Gh.dec (γ := Value) (ρ 9)) ([] ++ [(⟨id, q, 0⟩ : Done)]) else row 102 (.slice none 0 0) []) :: foc 67 vL ls q.line.toNat [vi 0, vi 0, vi l.want, vi l.serial, vi l.seen, vi l.gave, vi l.given] :: blk b8 57 [.slice none 0 0, vi 0, vi 0, vi 0] :: blk b7 33 q.cells :: L) ?_
       refine dn4 ?_
       refine Hv (v := .slice none 0 0) (fun ρ S hS hB hA => by have h12 : S 12 = false := hA 12 ⟨0, rfl⟩; simp only [h12, cond_false]; exact Dm (hc := Bd pkk (by repeat (first | exact rfl | refine Cp rfl ?_))) Try.isAgg48) (fun _ _ _ _ _ => rfl) ?_
       refine dn3 ?_
       refine Zby ?_
       refine Ec (e := 102) (xs := []) (ys := [(⟨id, q, 0⟩ : Done)]) (v := (.slice none 0 0)) K1 (fun _ => rfl) (fun _ => rfl) rfl (by decide) (fun ρ R hd => (hd.dep (it := ⟨8, _, _, _, _⟩) (by repeat (first | exact List.Mem.head _ | refine List.Mem.tail _ ?_)) ⟨9, rfl⟩ (List.Mem.head _))) (by have : maxN = 16777216 := rfl; simp only [List.length_cons, List.length_nil]; omega) (fun ρ g S hS hB hA => ?_) ?_
       ·have ui : upS S 9 9 = true := rfl; have u12 : upS S 9 12 = S 12 := rfl; have h12 : S 12 = false := hA 12 ⟨0, rfl⟩; have rs : (Gh.dec (γ := Value) (Rho.set ρ 9 (Gh.enc g) 9)) = g := rfl
        simp only [ui, hS, u12, h12, rs, cond_true, cond_false]
        exact pex
       refine dn2 ?_
       refine Di (T0 := 98) (f := 7) (vs := fun ρ => [vL, vi q0.kind, vi q0.line, vi q0.value, vi id, vi home, .slice none 0 0, .slice none 0 0]) (v := fun ρ => (Gh.dec (γ := Value) (ρ 9))) (fun ρ => b68) Try.sizeOf48 (fun _ => rfl) (fun _ => rfl) (fun ρ S R w L9 hB hd hs => by have h9 : S 9 = true := hB 9 ⟨9, rfl⟩; simp only [h9, cond_true] at hs; exact A6 pkk hs) (fun _ => rfl) (fun ρ g S hS hB hA => ?_) ?_
       ·have ui : upS S 12 12 = true := rfl; have u9 : upS S 12 9 = S 9 := rfl; have r9 : Rho.set ρ 12 g 9 = ρ 9 := rfl
        simp only [ui, hS, u9, r9, cond_true, cond_false]
        exact pex
       refine dnl ?_; intro ρ
       refine xq_ (blk b68 98 [vL, vi q0.kind, vi q0.line, vi q0.value, vi id, vi home, .slice none 0 0, (Gh.dec (γ := Value) (ρ 9))] :: row 102 (Gh.dec (γ := Value) (ρ 9)) [(⟨id, q, 0⟩ : Done)] :: foc 67 vL ls q.line.toNat [vi 0, vi 0, vi l.want, vi l.serial, vi l.seen, vi l.gave, vi l.given] :: blk b8 57 [.slice none 0 0, vi 0, vi 0, vi 0] :: blk b7 33 q.cells :: L) ?_
       generalize (Gh.dec (γ := Value) (ρ 8)) = v115
       generalize (Gh.dec (γ := Value) (ρ 9)) = v116
       refine Gl ?_
       refine JC.conseq (L' := row 67 vL (ls.set q.line.toNat ({ l with state := 0, value := 0 })) :: blk b68 98 [vL, vi q0.kind, vi q0.line, vi q0.value, vi id, vi home, .slice none 0 0, v116] :: row 102 v116 [(⟨id, q, 0⟩ : Done)] :: blk b8 57 [.slice none 0 0, vi 0, vi 0, vi 0] :: L) (fun w hs => Af (Ci ({ l with state := 0, value := 0 }) (by unfold Line.wf Ao; simp only; omega) (hs.pick pkk))) ?_
       refine JC.shut (v := vL) (xs := (ls.set q.line.toNat ({ l with state := 0, value := 0 }))) .hd ?_
       refine JC.slNil Msg ?_
       refine JC.shut (v := v116) (xs := [(⟨id, q, 0⟩ : Done)]) pkk ?_
       refine cq_ (blk b8 57 [.slice none 0 0, vi 0, vi 0, vi 0] :: blk b68 98 [vL, vi q0.kind, vi q0.line, vi q0.value, vi id, vi home, .slice none 0 0, v116] :: L) ?_
       refine jd_ (fun ρ S => blk b8 57 (bif S 12 then [vL, vi q0.kind, vi q0.line, vi q0.value] else [.slice none 0 0, vi 0, vi 0, vi 0]) :: blk b68 98 [vL, vi q0.kind, vi q0.line, vi q0.value, vi id, vi home, .slice none 0 0, v116] :: L) ?_
       refine dn3 ?_
       refine Jn (v := .agg ([vL, vi q0.kind, vi q0.line, vi q0.value]).toArray) (fun _ _ => Ev (b := b68) (f := 0) (vs := [vL, vi q0.kind, vi q0.line, vi q0.value, vi id, vi home, .slice none 0 0, v116]) 4 Try.isAgg57 Try.sizeOf57) (fun _ _ _ _ _ => rfl) ?_
       refine dn8 ?_
       refine es_ 57 0 [] [] (fun ρ => b8) (fun ρ => [.slice none 0 0, vi 0, vi 0, vi 0]) (fun ρ => [vL, vi q0.kind, vi q0.line, vi q0.value]) Try.sizeOf57 ?_
       refine dn3 ?_
       refine dnl ?_; intro ρ
       refine xq_ (blk b8 57 [vL, vi q0.kind, vi q0.line, vi q0.value] :: blk b68 98 [vL, vi q0.kind, vi q0.line, vi q0.value, vi id, vi home, .slice none 0 0, v116] :: L) ?_
       refine Gl ?_
       have eb : A4 l q = { l with state := 0, value := 0 } := by unfold A4; rw [if_pos (by omega), if_neg (by omega)]
       have ed : Bt l q = true := by unfold Bt; split <;> simp <;> omega
       have et : Dr l q = 0 := by unfold Dr; rw [if_pos (by omega)]
       have er : (Aj ⟨ls, q0⟩ id home q) = (⟨ls.set q.line.toNat ({ l with state := 0, value := 0 }), q0⟩, [], [(⟨id, q, 0⟩ : Done)], 0) := by rw [Nx hl (by omega) (by omega) (by omega) (by omega) (by omega), ed, if_pos rfl, eb, et, hz]
       rw [er]
       exact Ir (vL, .slice none 0 0, v116) Try.isAgg57 Try.sizeOf57
      ·intro ht97
       refine Gl ?_
       refine Zcs ?_
       refine Cx 119 (.bool (decide (l.state = 2 ∨ (l.state = 1 ∧ q.kind = 1)))) ?_ ?_
       ·rcases (show (l.state = 2) ∨ (l.state = 1 ∧ q.kind = 1) ∨ (l.state = 1 ∧ q.kind ≠ 1) ∨ (l.state ≠ 1 ∧ l.state ≠ 2) from by omega) with hm | hm | hm | hm
        ·refine ZG ?_
         refine C3 ?_
         refine Ga13 ?_
         exact Zc9
        ·refine ZG ?_
         refine Az ?_
         refine Zab ?_
         refine C3 ?_
         refine ZK ?_
         refine C3 ?_
         refine Ga3 ?_
         exact Zc9
        ·refine Zcs ?_
         refine ZG ?_
         refine Az ?_
         refine Zab ?_
         refine C3 ?_
         refine ZK ?_
         refine Az ?_
         refine Ga3 ?_
         exact ZcI
        ·refine ZG ?_
         refine Az ?_
         refine Zab ?_
         refine Az ?_
         refine Ga7 ?_
         exact ZcI
       ·refine A2 ?_
        first | (refine cdx (p := ?p3) (hd := ?d3) ?e3 ?_ ?_; case e3 => exact rfl) | (refine Bg (b := ?b3) ?e3 ?_ ?_; case e3 => exact rfl)
        ·intro ht119
         refine Zbw ?_
         refine JC.rowNil 102 Done ?_
         refine kp [7, 8, 9, 10, 11, 12, 137, 138] ?_
         refine ZB ?_
         refine Ak Try.call35 rfl (fun w hs => I6 (vL := vL) (vo := .slice none 0 0) (vd := .slice none 0 0) (q := q) (q0 := q0) (id := id) (home := home) (ls := ls) (l := l) (ds := []) (bk := b68) (LX := blk b8 57 [.slice none 0 0, vi 0, vi 0, vi 0] :: blk b7 33 q.cells :: L) (Af hs) hl (by omega) (by omega) hid hhome (by simp) hq (by omega) (by omega)) ?_; intro v139
         refine J.conseq (L' := row 67 vL (ls.set q.line.toNat ({ l with value := (A7 l.value q).1 })) :: blk b68 98 [vL, vi 0, vi 0, vi 0, vi id, vi home, .slice none 0 0, v139] :: row 102 v139 [(⟨id, q, (A7 l.value q).2⟩ : Done)] :: blk b8 57 [.slice none 0 0, vi 0, vi 0, vi 0] :: L) (fun w hs => by rw [List.nil_append] at hs; exact Af hs) ?_
         refine Gl ?_
         refine cq_ (row 67 vL (ls.set q.line.toNat ({ l with value := (A7 l.value q).1 })) :: blk b68 98 [vL, vi 0, vi 0, vi 0, vi id, vi home, .slice none 0 0, v139] :: row 102 v139 [(⟨id, q, (A7 l.value q).2⟩ : Done)] :: blk b8 57 [.slice none 0 0, vi 0, vi 0, vi 0] :: L) ?_
         refine JC.shut (v := vL) (xs := (ls.set q.line.toNat ({ l with value := (A7 l.value q).1 }))) .hd ?_
         refine JC.slNil Msg ?_
         refine JC.shut (v := v139) (xs := [(⟨id, q, (A7 l.value q).2⟩ : Done)]) pkk ?_
         refine cq_ (blk b8 57 [.slice none 0 0, vi 0, vi 0, vi 0] :: blk b68 98 [vL, vi 0, vi 0, vi 0, vi id, vi home, .slice none 0 0, v139] :: L) ?_
         refine jd_ (fun ρ S => blk b8 57 (bif S 12 then [vL, vi 0, vi 0, vi 0] else [.slice none 0 0, vi 0, vi 0, vi 0]) :: blk b68 98 [vL, vi 0, vi 0, vi 0, vi id, vi home, .slice none 0 0, v139] :: L) ?_
         refine dn3 ?_
         refine Jn (v := .agg ([vL, vi 0, vi 0, vi 0]).toArray) (fun _ _ => Ev (b := b68) (f := 0) (vs := [vL, vi 0, vi 0, vi 0, vi id, vi home, .slice none 0 0, v139]) 4 Try.isAgg57 Try.sizeOf57) (fun _ _ _ _ _ => rfl) ?_
         refine Zcn ?_
         refine dn3 ?_
         refine dnl ?_; intro ρ
         refine xq_ (blk b8 57 [vL, vi 0, vi 0, vi 0] :: blk b68 98 [vL, vi 0, vi 0, vi 0, vi id, vi home, .slice none 0 0, v139] :: L) ?_
         refine Gl ?_
         have eb : A4 l q = { l with value := (A7 l.value q).1 } := by unfold A4; rw [if_neg (by omega), if_pos (by omega)]
         have ed : Bt l q = true := by unfold Bt; split <;> simp <;> omega
         have et : Dr l q = (A7 l.value q).2 := by unfold Dr; rw [if_neg (by omega)]
         have er : (Aj ⟨ls, q0⟩ id home q) = (⟨ls.set q.line.toNat ({ l with value := (A7 l.value q).1 }), zOp⟩, [], [(⟨id, q, (A7 l.value q).2⟩ : Done)], 0) := by rw [Nx hl (by omega) (by omega) (by omega) (by omega) (by omega), ed, if_pos rfl, eb, et]
         rw [er]
         exact Ir (vL, .slice none 0 0, v139) Try.isAgg57 Try.sizeOf57
        ·intro ht119
         refine Gl ?_
         refine kp [7, 8, 9, 10, 11, 12, 140, 141, 142, 143] ?_
         refine Aa ?_
         refine Ga4 ?_
         refine cdy ?_ ?_
         ·intro ht140
          refine Zbw ?_
          refine ZV ?_
          refine ZB ?_
          refine Ak Try.call34 rfl (fun w hs => O0 (vL := vL) (vo := .slice none 0 0) (vd := .slice none 0 0) (q := q) (q0 := q0) (id := id) (home := home) (ls := ls) (l := l) (ms := []) (want := 1) (bk := b68) (LX := blk b8 57 [.slice none 0 0, vi 0, vi 0, vi 0] :: blk b7 33 q.cells :: L) (Af hs) hl (by omega) (by omega) hid hhome (by simp) (by first | omega | (simp only; omega)) (by unfold Ao; omega)) ?_; intro v146
          refine J.conseq (L' := row 67 vL (ls.set q.line.toNat ({ l with want := 1, serial := l.serial + 1 })) :: blk b68 98 [vL, vi q.kind, vi q.line, vi q.value, vi id, vi home, v146, .slice none 0 0] :: row 105 v146 [Bz ({ l with want := 1, serial := l.serial + 1 }) id home q.line] :: blk b8 57 [.slice none 0 0, vi 0, vi 0, vi 0] :: L) (fun w hs => by rw [List.nil_append] at hs; exact Af hs) ?_
          refine Gl ?_
          refine cq_ (row 67 vL (ls.set q.line.toNat ({ l with want := 1, serial := l.serial + 1 })) :: blk b68 98 [vL, vi q.kind, vi q.line, vi q.value, vi id, vi home, v146, .slice none 0 0] :: row 105 v146 [Bz ({ l with want := 1, serial := l.serial + 1 }) id home q.line] :: blk b8 57 [.slice none 0 0, vi 0, vi 0, vi 0] :: L) ?_
          refine JC.shut (v := vL) (xs := (ls.set q.line.toNat ({ l with want := 1, serial := l.serial + 1 }))) .hd ?_
          refine JC.shut (v := v146) (xs := [Bz ({ l with want := 1, serial := l.serial + 1 }) id home q.line]) pkk ?_
          refine ZM ?_
          refine cq_ (blk b8 57 [.slice none 0 0, vi 0, vi 0, vi 0] :: blk b68 98 [vL, vi q.kind, vi q.line, vi q.value, vi id, vi home, v146, .slice none 0 0] :: L) ?_
          refine jd_ (fun ρ S => blk b8 57 (bif S 12 then [vL, vi q.kind, vi q.line, vi q.value] else [.slice none 0 0, vi 0, vi 0, vi 0]) :: blk b68 98 [vL, vi q.kind, vi q.line, vi q.value, vi id, vi home, v146, .slice none 0 0] :: L) ?_
          refine dn3 ?_
          refine Jn (v := .agg ([vL, vi q.kind, vi q.line, vi q.value]).toArray) (fun _ _ => Ev (b := b68) (f := 0) (vs := [vL, vi q.kind, vi q.line, vi q.value, vi id, vi home, v146, .slice none 0 0]) 4 Try.isAgg57 Try.sizeOf57) (fun _ _ _ _ _ => rfl) ?_
          refine ZaO ?_
          refine dn3 ?_
          refine dnl ?_; intro ρ
          refine xq_ (blk b8 57 [vL, vi q.kind, vi q.line, vi q.value] :: blk b68 98 [vL, vi q.kind, vi q.line, vi q.value, vi id, vi home, v146, .slice none 0 0] :: L) ?_
          refine Gl ?_
          have eb : A4 l q = { l with want := 1, serial := l.serial + 1 } := by unfold A4; rw [if_neg (by omega), if_neg (by omega), if_pos (by omega)]
          have ed : Bt l q = false := by unfold Bt; split <;> simp <;> omega
          have er : (Aj ⟨ls, q0⟩ id home q) = (⟨ls.set q.line.toNat ({ l with want := 1, serial := l.serial + 1 }), q⟩, [Bz ({ l with want := 1, serial := l.serial + 1 }) id home q.line], [], 0) := by rw [Nx hl (by omega) (by omega) (by omega) (by omega) (by omega), ed, if_neg (by decide), eb]
          rw [er]
          exact Ir (vL, v146, .slice none 0 0) Try.isAgg57 Try.sizeOf57
         ·intro ht140
          refine Zbw ?_
          refine ZV ?_
          refine ZB ?_
          refine Ak Try.call34 rfl (fun w hs => O0 (vL := vL) (vo := .slice none 0 0) (vd := .slice none 0 0) (q := q) (q0 := q0) (id := id) (home := home) (ls := ls) (l := l) (ms := []) (want := 2) (bk := b68) (LX := blk b8 57 [.slice none 0 0, vi 0, vi 0, vi 0] :: blk b7 33 q.cells :: L) (Af hs) hl (by omega) (by omega) hid hhome (by simp) (by first | omega | (simp only; omega)) (by unfold Ao; omega)) ?_; intro v79
          refine J.conseq (L' := row 67 vL (ls.set q.line.toNat ({ l with want := 2, serial := l.serial + 1 })) :: blk b68 98 [vL, vi q.kind, vi q.line, vi q.value, vi id, vi home, v79, .slice none 0 0] :: row 105 v79 [Bz ({ l with want := 2, serial := l.serial + 1 }) id home q.line] :: blk b8 57 [.slice none 0 0, vi 0, vi 0, vi 0] :: L) (fun w hs => by rw [List.nil_append] at hs; exact Af hs) ?_
          refine Gl ?_
          refine cq_ (row 67 vL (ls.set q.line.toNat ({ l with want := 2, serial := l.serial + 1 })) :: blk b68 98 [vL, vi q.kind, vi q.line, vi q.value, vi id, vi home, v79, .slice none 0 0] :: row 105 v79 [Bz ({ l with want := 2, serial := l.serial + 1 }) id home q.line] :: blk b8 57 [.slice none 0 0, vi 0, vi 0, vi 0] :: L) ?_
          refine JC.shut (v := vL) (xs := (ls.set q.line.toNat ({ l with want := 2, serial := l.serial + 1 }))) .hd ?_
          refine JC.shut (v := v79) (xs := [Bz ({ l with want := 2, serial := l.serial + 1 }) id home q.line]) pkk ?_
          refine ZM ?_
          refine cq_ (blk b8 57 [.slice none 0 0, vi 0, vi 0, vi 0] :: blk b68 98 [vL, vi q.kind, vi q.line, vi q.value, vi id, vi home, v79, .slice none 0 0] :: L) ?_
          refine jd_ (fun ρ S => blk b8 57 (bif S 12 then [vL, vi q.kind, vi q.line, vi q.value] else [.slice none 0 0, vi 0, vi 0, vi 0]) :: blk b68 98 [vL, vi q.kind, vi q.line, vi q.value, vi id, vi home, v79, .slice none 0 0] :: L) ?_
          refine dn3 ?_
          refine Jn (v := .agg ([vL, vi q.kind, vi q.line, vi q.value]).toArray) (fun _ _ => Ev (b := b68) (f := 0) (vs := [vL, vi q.kind, vi q.line, vi q.value, vi id, vi home, v79, .slice none 0 0]) 4 Try.isAgg57 Try.sizeOf57) (fun _ _ _ _ _ => rfl) ?_
          refine ZaO ?_
          refine dn3 ?_
          refine dnl ?_; intro ρ
          refine xq_ (blk b8 57 [vL, vi q.kind, vi q.line, vi q.value] :: blk b68 98 [vL, vi q.kind, vi q.line, vi q.value, vi id, vi home, v79, .slice none 0 0] :: L) ?_
          refine Gl ?_
          have eb : A4 l q = { l with want := 2, serial := l.serial + 1 } := by unfold A4; rw [if_neg (by omega), if_neg (by omega), if_neg (by omega)]
          have ed : Bt l q = false := by unfold Bt; split <;> simp <;> omega
          have er : (Aj ⟨ls, q0⟩ id home q) = (⟨ls.set q.line.toNat ({ l with want := 2, serial := l.serial + 1 }), q⟩, [Bz ({ l with want := 2, serial := l.serial + 1 }) id home q.line], [], 0) := by rw [Nx hl (by omega) (by omega) (by omega) (by omega) (by omega), ed, if_neg (by decide), eb]
          rw [er]
          exact Ir (vL, v79, .slice none 0 0) Try.isAgg57 Try.sizeOf57
theorem Rt {u : Value} {c : Core} {id home : Int} (hs : St (L) R w) (hu : sl u c.lines ∈ R) (hn4 : c.lines.length ≤ 100) (hid : Ao id) (hhome : Ao home) : Calls Try.prog 45 [.agg (c.cells u).toArray, vi id, vi home].toArray w (Bl (fun v : Value => v) (fun v => L) (fun v => sl v (Eu c id home) :: R)) := by
 obtain ⟨ls, q⟩ := c
 have hu : sl u ls ∈ R := hu
 have hn4 : ls.length ≤ 100 := hn4
 have hone0 : u.oneCell' = true := isSlice.one (hs.fact hu)
 refine Ah Try.func45 rfl Try.ntmps45 rfl hs ?_
 clear hs
 refine Gm ?_
 refine bx ?_; intro b3
 refine Gb1 ?_
 refine ZbQ ?_;intro vL honeV
 refine bx ?_; intro b14
 refine Ga1 ?_
 refine cq_ (row 67 vL ls :: blk b14 98 [vL, vi q.kind, vi q.line, vi q.value, vi id, vi home, .slice none 0 0, .slice none 0 0] :: L) ?_
 refine Aa ?_
 refine Ga7 ?_
 refine ZV ?_
 refine Bf (γ := Nat × Value) (fun g => g.1 ≤ ls.length) (fun g => blk b14 98 [vL, vi q.kind, vi q.line, vi q.value, vi id, vi home, g.2, .slice none 0 0] :: row 67 vL ls :: row 105 g.2 (Br id home 0 (ls.take g.1)) :: L) (fun _ => R) (fun g => [(7, bp b14 0), (20, vi (ls.length : Int)), (21, vi (g.1 : Int))]) (fun g => ls.length - g.1) (0, .slice none 0 0) (Nat.zero_le _) alT (fun w hs => Af hs) ?_
 rintro ⟨k, vs⟩ hk9
 try simp only at hk9 ⊢
 have htl := Ml id home (ls.take k) 0
 rw [List.length_take] at htl
 refine ZA ?_
 refine cdy ?_ ?_
 ·intro ht22
  refine ZD ?_
  obtain ⟨l, hl⟩ : ∃ l, ls.getD ((k : Int)).toNat zLine = l := ⟨_, rfl⟩
  refine F3 (ls := ls) (l := l) (i := (k : Int)) pkk hl (by omega) (by omega) (fun hlw hA => ?_)
  have hlw0 := hlw
  unfold Line.wf Ao at hlw0
  have honeL : (ep vL 7 (k : Int).toNat 0).oneCell' = true := hA.one
  refine Aa ?_
  refine rn6 ?_
  refine ob (It (v := vL) (i := (k : Int)) Kz (hl := Cd (α := Line) (xs := ls) pkk)) ?_
  refine Ga3 ?_
  refine cdy ?_ ?_
  ·intro ht33
   refine JC.conseq (L' := row 67 vL ls :: blk b14 98 [vL, vi q.kind, vi q.line, vi q.value, vi id, vi home, vs, .slice none 0 0] :: row 105 vs (Br id home 0 (ls.take k)) :: L) (fun w hs => Af (C8 hl hlw (hs.pick pkk))) ?_
   refine ZB ?_
   refine Ak Try.call53 rfl (fun w hs => Nq (vL := vL) (vd := .slice none 0 0) (q := q) (id := id) (home := home) (ms := Br id home 0 (ls.take k)) (line := (k : Int)) (ls := ls) (l := l) (LX := L) (Af hs) hl (by omega) (by omega) (by omega) hid hhome) ?_; intro v36
   refine Gl ?_
   refine kp [6, 7, 8, 20, 21, 22, 23, 24, 25, 26, 27, 28, 29, 30, 31, 32, 33, 34, 35, 37] ?_
   refine Zac ?_
   refine A3 (k + 1, v36) (by show k + 1 ≤ ls.length; omega) (by show ls.length - (k + 1) < ls.length - k; omega) alT (fun w hs => ?_)
   try simp only
   rw [Kx zLine (by omega), Il, show ls.getD k zLine = l from hl, if_pos ht33, List.length_take, Nat.min_eq_left (by omega), Int.zero_add]
   exact Af hs
  ·intro ht33
   refine ZD ?_
   refine A3 (k + 1, vs) (by show k + 1 ≤ ls.length; omega) (by show ls.length - (k + 1) < ls.length - k; omega) alT (fun w hs => ?_)
   try simp only
   rw [Kx zLine (by omega), Il, show ls.getD k zLine = l from hl, if_neg ht33, List.append_nil]
   exact Af (C8 hl hlw (hs.pick pkk))
 ·intro ht22
  refine Gl ?_
  refine JC.shut (v := vs) (xs := Br id home 0 (ls.take k)) pkk ?_
  refine Aa ?_
  refine Ga5 ?_
  have hkl : k = ls.length := by omega
  rw [show Eu ⟨ls, q⟩ id home = Br id home 0 (ls.take k) from by rw [hkl, List.take_length]; rfl]
  exact Be vs
theorem Xb {lines : Int} (hs : St (L) R w) (hl : 0 ≤ lines ∧ lines ≤ 4) : Calls Try.prog 18 [vi lines].toArray w (Bl (fun v : Value => .agg (Core.cells v (C5 lines)).toArray) (fun v => L) (fun v => sl v (C5 lines).lines :: R)) := by
 refine Ah Try.func18 rfl Try.ntmps18 rfl hs ?_
 clear hs
 refine Gm ?_
 refine al_ (cs := [.slice none 0 0, vi 0, vi 0, vi 0]) Try.zeroValue57 ?_; intro b2
 refine Zad ?_
 refine ob (q_mx (a := lines) rfl (by omega)) ?_
 refine S2 (α := Line) (x0 := zLine) (zc := zLine.cells) W6 rfl (by decide) rfl rfl rfl (fun j => ⟨rfl, by unfold Line.wf Ao; decide⟩) (by omega) (by omega) ?_; intro v5
 refine J.shut .hd ?_
 refine J.know (p := v5.oneCell' = true) (fun w hs => isSlice.one (hs.fact (.head _))) (fun honev5 => ?_)
 refine rn1 ?_
 refine s_B (cs := [v5, vi 0, vi 0, vi 0]) Try.sizeOf57 ?_
 refine Gl ?_
 exact Sy v5 Try.isAgg57 Try.sizeOf57
section
variable {P : Program} {T : TypeId} {s k : Int}
theorem Ny (h2 : 0 ≤ k) (h3 : k < 4) (w : World) : (binOp .shl T (vi 1) (vi k)).run P w = .ok (vi ((2 ^ k.toNat : Nat) : Int)) w := by
 rcases (show k = 0 ∨ k = 1 ∨ k = 2 ∨ k = 3 by omega) with g | g | g | g <;> subst g <;> rfl
theorem Ks (h0 : 0 ≤ s) (h1 : s < 16) (h2 : 0 ≤ k) (h3 : k < 4) (w : World) : (binOp .andNot T (vi s) (vi ((2 ^ k.toNat : Nat) : Int))).run P w = .ok (vi (Gd s k)) w := by
 exact Zcw
theorem b_orB (h0 : 0 ≤ s) (h1 : s < 16) (h2 : 0 ≤ k) (h3 : k < 4) (w : World) : (binOp .or T (vi s) (vi ((2 ^ k.toNat : Nat) : Int))).run P w = .ok (vi (Gj s k)) w := by
 exact Zcw
theorem Kr (h0 : 0 ≤ s) (h1 : s < 16) (h2 : 0 ≤ k) (h3 : k < 4) (w : World) : (binOp .shr T (vi s) (vi k)).run P w = .ok (vi ((s.toNat / 2 ^ k.toNat : Nat) : Int)) w := by
 exact Zcw
theorem Ht (h0 : 0 ≤ s) (h1 : s < 16) (h2 : 0 ≤ k) (h3 : k < 4) (w : World) : (binOp .and T (vi ((s.toNat / 2 ^ k.toNat : Nat) : Int)) (vi 1)).run P w = .ok (vi (if H8 s k then 1 else 0)) w := by
 exact Zcw
theorem Tu (h0 : 0 ≤ s) (h1 : s < 16) (hk : Hu s ≤ k) (h2 : 0 ≤ k) (h3 : k < 4) : H8 s k = false := by
 revert hk
 rcases (show s = 0 ∨ s = 1 ∨ s = 2 ∨ s = 3 ∨ s = 4 ∨ s = 5 ∨ s = 6 ∨ s = 7 ∨ s = 8 ∨ s = 9 ∨ s = 10 ∨ s = 11 ∨ s = 12 ∨ s = 13 ∨ s = 14 ∨ s = 15 by omega) with h | h | h | h | h | h | h | h | h | h | h | h | h | h | h | h <;> rcases (show k = 0 ∨ k = 1 ∨ k = 2 ∨ k = 3 by omega) with g | g | g | g <;> subst h <;> subst g <;> intro hk <;> first | rfl | (exfalso; revert hk; decide)
end
theorem Hk {e : Entry} {line id : Int} {k : Nat} : D3 e line id (k + 1) = D3 e line id k ++ (if H8 e.need (k : Int) then [⟨4, id, (k : Int), line, 0, e.turn, 0, false⟩] else []) := by
 unfold H8
 rw [Int.toNat_natCast]
 cases h : e.need.toNat.testBit k with
 | true => rw [Qj h, if_pos rfl]
 | false => rw [Sw h]; simp
theorem K8 {e : Entry} {line id : Int} (he : EB e) : ∀ j : Nat, (Hu e.need).toNat + j ≤ 4 → D3 e line id ((Hu e.need).toNat + j) = D3 e line id (Hu e.need).toNat
 | 0, _ => rfl
 | j + 1, h => by
  have ih := K8 (line := line) (id := id) he j (by omega)
  have hl : 0 ≤ Hu e.need := by unfold Hu; split <;> (try split) <;> (try split) <;> (try split) <;> omega
  rw [← Nat.add_assoc, Hk, Tu he.2.2.1.1 he.2.2.1.2 (by omega) (by omega) (by omega), ih]; simp
theorem Th {s : Int} : 0 ≤ Hu s ∧ Hu s ≤ 4 := by unfold Hu; split <;> (try split) <;> (try split) <;> (try split) <;> omega
theorem N9 {e : Entry} {line id : Int} (he : EB e) : D3 e line id (Hu e.need).toNat = D3 e line id 4 := by
 have h := Th (s := e.need)
 have := K8 (line := line) (id := id) he (4 - (Hu e.need).toNat) (by omega)
 rw [← this]; congr 1; omega
theorem Lv {LX : List Chunk} {R : List Fact} {w : World} {vh vo u : Value} {i bk : Nat} {e : Entry} {ms : List Msg} {line id : Int} {kind to serial value : Int} {al : Bool} (hs : St (blk bk 136 [(ep vh 10 i 0), vi line, vi id, vo] :: row 105 vo ms :: LX) R w) (hE : Bx LX R (ep vh 10 i 0) (Entry.cells u e)) (hA : EpAll vh 10 i) (hn : ms.length ≤ 1000) (hwf : (⟨kind, id, to, line, serial, e.turn, value, al⟩ : Msg).wf) : Calls Try.prog 68 [bp bk 0, vi kind, vi to, vi serial, vi value, .bool al].toArray w (Bl (fun v : Value => .tuple #[]) (fun v => blk bk 136 [(ep vh 10 i 0), vi line, vi id, v] :: row 105 v (ms ++ [(⟨kind, id, to, line, serial, e.turn, value, al⟩ : Msg)]) :: LX) (fun v => R)) := by
 refine Ah Try.func68 rfl Try.ntmps68 rfl hs ?_
 clear hs
 refine cq_ (blk bk 136 [(ep vh 10 i 0), vi line, vi id, vo] :: row 105 vo ms :: LX) ?_
 refine jd_ (fun ρ S => blk bk 136 (bif S 30 then [(ep vh 10 i 0), vi line, vi id, (Gh.dec (γ := Value) (ρ 27))] else [(ep vh 10 i 0), vi line, vi id, vo]) :: (bif S 27 then row 105 (Gh.dec (γ := Value) (ρ 27)) (ms ++ [(⟨kind, id, to, line, serial, e.turn, value, al⟩ : Msg)]) else row 105 vo ms) :: (LX)) ?_
 refine dn4 ?_
 refine Hv (v := vo) (fun ρ S hS hB hA => by have h30 : S 30 = false := hA 30 ⟨0, rfl⟩; simp only [h30, cond_false]; exact Dm (hc := Bd pkk (by repeat (first | exact rfl | refine Cp rfl ?_))) Try.isAgg78) (fun _ _ _ _ _ => rfl) ?_
 refine dn4 ?_
 refine Hv (v := vi id) (fun ρ S hS hB hA => by have h30 : S 30 = false := hA 30 ⟨0, rfl⟩; simp only [h30, cond_false]; exact Dm (hc := Bd pkk (by repeat (first | exact rfl | refine Cp rfl ?_))) Try.isAgg3) (fun _ _ _ _ _ => rfl) ?_
 refine dn4 ?_
 refine Hv (v := vi line) (fun ρ S hS hB hA => by have h30 : S 30 = false := hA 30 ⟨0, rfl⟩; simp only [h30, cond_false]; exact Dm (hc := Bd pkk (by repeat (first | exact rfl | refine Cp rfl ?_))) Try.isAgg3) (fun _ _ _ _ _ => rfl) ?_
 refine dn4 ?_
 refine Hv (v := (ep vh 10 i 0)) (fun ρ S hS hB hA => by have h30 : S 30 = false := hA 30 ⟨0, rfl⟩; simp only [h30, cond_false]; exact Dm (hc := Bd pkk (by repeat (first | exact rfl | refine Cp rfl ?_))) Try.isAgg133) (fun _ _ _ _ _ => rfl) ?_
 first | refine epc (fun _ _ => q_nb) ?_ | refine epc (fun _ _ => q_ne) ?_ | refine epp (fun _ _ => q_nb) ?_ | refine epp (fun _ _ => q_ne) ?_
 first | refine epc (fun _ _ => q_fa Ki) ?_ | refine epc (fun _ _ => q_fe Ki) ?_ | refine epp (fun _ _ => q_fa Ki) ?_ | refine epp (fun _ _ => q_fe Ki) ?_
 first | refine epc (fun _ _ => Dm Try.isAgg3) ?_ | refine epp (fun _ _ => Dm Try.isAgg3) ?_
 refine dn2 ?_
 first | refine epc (fun _ _ => D5 Cg) ?_ | refine epc (fun _ _ => Eh Cg) ?_ | refine epp (fun _ _ => D5 Cg) ?_ | refine epp (fun _ _ => Eh Cg) ?_
 refine Ie ([(⟨kind, id, to, line, serial, e.turn, value, al⟩ : Msg)] : List Msg) Km rfl (fun _ => rfl) rfl (fun _ => rfl) rfl rfl (fun ρ R hd => S1 hwf) (fun _ _ _ _ _ => rfl) ?_
 refine Ec (e := 105) (xs := ms) (ys := [(⟨kind, id, to, line, serial, e.turn, value, al⟩ : Msg)]) (v := vo) Km (fun _ => rfl) (fun _ => rfl) rfl (by decide) (fun ρ R hd => (hd.dep (it := ⟨26, _, _, _, _⟩) (by repeat (first | exact List.Mem.head _ | refine List.Mem.tail _ ?_)) ⟨9, rfl⟩ (List.Mem.head _))) (by have : maxN = 16777216 := rfl; simp only [List.length_cons, List.length_nil]; omega) (fun ρ g S hS hB hA => ?_) ?_
 ·have ui : upS S 27 27 = true := rfl; have u30 : upS S 27 30 = S 30 := rfl; have h30 : S 30 = false := hA 30 ⟨0, rfl⟩; have rs : (Gh.dec (γ := Value) (Rho.set ρ 27 (Gh.enc g) 27)) = g := rfl
  simp only [ui, hS, u30, h30, rs, cond_true, cond_false]
  exact pex
 refine dn2 ?_
 refine Di (T0 := 136) (f := 3) (vs := fun ρ => [(ep vh 10 i 0), vi line, vi id, vo]) (v := fun ρ => (Gh.dec (γ := Value) (ρ 27))) (fun ρ => bk) Try.sizeOf78 (fun _ => rfl) (fun _ => rfl) (fun ρ S R w L9 hB hd hs => by have h27 : S 27 = true := hB 27 ⟨9, rfl⟩; simp only [h27, cond_true] at hs; exact A6 pkk hs) (fun _ => rfl) (fun ρ g S hS hB hA => ?_) ?_
 ·have ui : upS S 30 30 = true := rfl; have u27 : upS S 30 27 = S 27 := rfl; have r27 : Rho.set ρ 30 g 27 = ρ 27 := rfl
  simp only [ui, hS, u27, r27, cond_true, cond_false]
  exact pex
 refine dnl ?_; intro ρ
 refine xq_ (blk bk 136 [(ep vh 10 i 0), vi line, vi id, (Gh.dec (γ := Value) (ρ 27))] :: row 105 (Gh.dec (γ := Value) (ρ 27)) (ms ++ [(⟨kind, id, to, line, serial, e.turn, value, al⟩ : Msg)]) :: (LX)) ?_
 generalize (Gh.dec (γ := Value) (ρ 26)) = v38
 generalize (Gh.dec (γ := Value) (ρ 27)) = v39
 refine A0 (.inl rfl) (fun B w hs => Gb rfl _ w) (fun w hs => ⟨v39, rfl, Af hs⟩)
theorem Si {s : Int} (h0 : 0 ≤ s) (h1 : s < 16) : IntKind.u64.wrap s = s := by
 rcases (show s = 0 ∨ s = 1 ∨ s = 2 ∨ s = 3 ∨ s = 4 ∨ s = 5 ∨ s = 6 ∨ s = 7 ∨ s = 8 ∨ s = 9 ∨ s = 10 ∨ s = 11 ∨ s = 12 ∨ s = 13 ∨ s = 14 ∨ s = 15 by omega) with h | h | h | h | h | h | h | h | h | h | h | h | h | h | h | h <;> subst h <;> rfl
theorem Gv {LX : List Chunk} {R : List Fact} {w : World} {vh vo u : Value} {i bk : Nat} {e : Entry} {ms : List Msg} {line id : Int} (hs : St (blk bk 136 [(ep vh 10 i 0), vi line, vi id, vo] :: row 105 vo ms :: LX) R w) (hE : Bx LX R (ep vh 10 i 0) (Entry.cells u e)) (hA : EpAll vh 10 i) (hn : ms.length ≤ 500) (hb : EB e) (hl : Ao line) (hid : Ao id) : Calls Try.prog 65 [bp bk 0].toArray w (Bl (fun v : Value => .tuple #[]) (fun v => blk bk 136 [(ep vh 10 i 0), vi line, vi id, v] :: row 105 v (ms ++ Hl e line id) :: LX) (fun v => R)) := by
 have hb0 := hb
 unfold EB Entry.wf Ao at hb0
 unfold Ao at hl hid
 refine Ah Try.func65 rfl Try.ntmps65 rfl hs ?_
 clear hs
 refine Gm ?_
 refine Gb7 ?_
 refine Ga2 ?_
 refine cdy ?_ ?_
 ·intro ht11
  refine ZH ?_
  refine Ga7 ?_
  refine Bg (b := ?b2) ?e2 ?_ ?_; case e2 => exact rfl
  ·intro ht19
   refine Aa ?_
   refine Gb1 ?_
   refine rn9 ?_
   refine Ak Try.call68 rfl (fun w hs => Lv (e := e) (ms := ms) (kind := 6) (to := e.owner) (serial := 0) (value := 0) (al := false) hs hE hA (by omega) (by unfold Msg.wf Ao; simp only; omega)) ?_; intro v29
   refine Gl ?_
   have er : Hl e line id = [⟨6, id, e.owner, line, 0, e.turn, 0, false⟩] := by unfold Hl; rw [if_pos ht11, ht19]; rfl
   exact Zds
  ·intro ht19
   refine Gm ?_
   refine rn9 ?_
   refine Ak Try.call68 rfl (fun w hs => Lv (e := e) (ms := ms) (kind := 5) (to := e.owner) (serial := 0) (value := 0) (al := false) hs hE hA (by omega) (by unfold Msg.wf Ao; simp only; omega)) ?_; intro v29
   refine Gl ?_
   have er : Hl e line id = [⟨5, id, e.owner, line, 0, e.turn, 0, false⟩] := by unfold Hl; rw [if_pos ht11, ht19]; rfl
   exact Zds
 ·intro ht11
  refine ZD ?_
  refine cdy ?_ ?_
  ·intro ht30
   refine Gm ?_
   refine rn7 ?_
   refine ob (Aq (v := .int .u64 e.need) Try.underlying3 Try.underlying91 rfl (by rw [show IntKind.u64.wrap e.need = e.need from Si hb0.2.2.1.1 hb0.2.2.1.2])) ?_
   refine Ak Try.call69 rfl (fun w hs => Acf hs hb0.2.2.1.1 hb0.2.2.1.2) ?_; intro _
   refine Ga1 ?_
   have hlb := Th (s := e.need)
   refine Bf (γ := Nat × Value) (fun g => (g.1 : Int) ≤ Hu e.need) (fun g => blk bk 136 [(ep vh 10 i 0), vi line, vi id, g.2] :: row 105 g.2 (ms ++ D3 e line id g.1) :: LX) (fun _ => R) (fun g => [(0, bp bk 0), (40, vi (Hu e.need)), (41, vi (g.1 : Int))]) (fun g => (Hu e.need).toNat - g.1) (0, vo) (by show (0 : Int) ≤ Hu e.need; omega) alT (fun w hs => by have e0 : D3 e line id 0 = [] := rfl; rw [e0, List.append_nil]; exact hs) ?_
   rintro ⟨k, vs⟩ hk
   try simp only at hk ⊢
   have hsl := Qk e line id k
   refine ZA ?_
   refine cdy ?_ ?_
   ·intro ht42
    refine Gm ?_
    refine Gb2 ?_
    refine rn8 ?_
    refine ob (Ei (a := e.need) (b := (k : Int)) (Kr hb0.2.2.1.1 hb0.2.2.1.2 (by omega) (by omega))) ?_
    refine ob (Ei (a := ((e.need.toNat / 2 ^ (k : Int).toNat : Nat) : Int)) (b := 1) (Ht hb0.2.2.1.1 hb0.2.2.1.2 (by omega) (by omega))) ?_
    refine Ga1 ?_
    refine cdy ?_ ?_
    ·intro ht54
     refine kp [0, 3, 10, 40, 41, 42, 43, 44, 45, 46, 47, 48, 49, 50, 51, 52, 53, 54, 55, 56] ?_
     refine ZB ?_
     refine Ak Try.call68 rfl (fun w hs => Lv (e := e) (ms := (ms ++ D3 e line id k)) (kind := 4) (to := (k : Int)) (serial := 0) (value := 0) (al := false) hs hE hA (by simp only [List.length_append]; omega) (by unfold Msg.wf Ao; simp only; omega)) ?_; intro v57
     refine ZD ?_
     refine A3 (k + 1, v57) (by show ((k + 1 : Nat) : Int) ≤ Hu e.need; omega) (by show (Hu e.need).toNat - (k + 1) < (Hu e.need).toNat - k; omega) alT (fun w hs => ?_)
     try simp only
     have hb9 : H8 e.need (k : Int) = true := by revert ht54; cases H8 e.need (k : Int) <;> simp
     rw [Hk, hb9, if_pos rfl, ← List.append_assoc]; exact Af hs
    ·intro ht54
     refine Gl ?_
     refine kp [0, 3, 10, 40, 41, 42, 43, 44, 45, 46, 47, 48, 49, 50, 51, 52, 53, 54, 55, 56, 58] ?_
     refine Zac ?_
     refine A3 (k + 1, vs) (by show ((k + 1 : Nat) : Int) ≤ Hu e.need; omega) (by show (Hu e.need).toNat - (k + 1) < (Hu e.need).toNat - k; omega) alT (fun w hs => ?_)
     try simp only
     have hb9 : H8 e.need (k : Int) = false := by revert ht54; cases H8 e.need (k : Int) <;> simp
     rw [Hk, hb9, if_neg (by decide), List.append_nil]; exact Af hs
   ·intro ht42
    refine Gl ?_
    have hk4 : k = (Hu e.need).toNat := by omega
    subst hk4
    have er : Hl e line id = D3 e line id (Hu e.need).toNat := by rw [N9 hb, Ql ht30]
    rw [er]
    refine A0 (.inl rfl) (fun B w hs => Gb rfl _ w) (fun w hs => ⟨vs, rfl, Af hs⟩)
  ·intro ht30
   refine ZD ?_
   refine cdy ?_ ?_
   ·intro ht59
    refine A8 ?_
    refine dn29 ?_
    refine dtl ?_; intro ρ
    refine Ak Try.call68 rfl (fun w hs => Lv (e := e) (ms := ms) (kind := 7) (to := e.who) (serial := e.serial) (value := e.value) (al := e.alone) hs hE hA (by omega) (by unfold Msg.wf Ao; simp only; omega)) ?_; intro v90
    refine Gl ?_
    have er : Hl e line id = [⟨7, id, e.who, line, e.serial, e.turn, e.value, e.alone⟩] := by unfold Hl; rw [if_neg ht11, if_neg ht30, if_pos ht59]
    rw [er]
    refine A0 (.inl rfl) (fun B w hs => Gb rfl _ w) (fun w hs => ⟨v90, rfl, Af hs⟩)
   ·intro ht59
    refine Gl ?_
    have er : Hl e line id = [] := by unfold Hl; rw [if_neg ht11, if_neg ht30, if_neg ht59]
    rw [er, List.append_nil]
    refine A0 (.inl rfl) (fun B w hs => Gb rfl _ w) (fun w hs => ⟨vo, rfl, Af hs⟩)
theorem Jt {LX : List Chunk} {R : List Fact} {w : World} {vh vo u : Value} {i bk : Nat} {e : Entry} {ms : List Msg} {line id : Int} {xs : List Entry} (hs : St (blk bk 136 [(ep vh 10 i 0), vi line, vi id, vo] :: row 105 vo ms :: foc 54 vh xs i (Entry.cells u e) :: LX) R w) (hA : EpAll vh 10 i) (hone : u.oneCell' = true) (hn : ms.length ≤ 500) (hb : EB e) (hl : Ao line) (hid : Ao id) : Calls Try.prog 60 [bp bk 0].toArray w (Bl (fun v : Value => .tuple #[]) (fun v => blk bk 136 [(ep vh 10 i 0), vi line, vi id, v] :: row 105 v (ms ++ Hl (Cs e) line id) :: foc 54 vh xs i (Entry.cells u (Cs e)) :: LX) (fun v => R)) := by
 have hb0 := hb
 unfold EB Entry.wf Ao at hb0
 have hl0 := hl
 have hid0 := hid
 unfold Ao at hl0 hid0
 refine Ah Try.func60 rfl Try.ntmps60 rfl hs ?_
 clear hs
 refine Gm ?_
 refine rn6 ?_
 refine sc ?_
 refine Gl ?_
 refine A8 ?_
 refine dn14 ?_
 refine djc (fun _ _ => Ei (a := 1) (b := e.who) (Ny (by omega) (by omega))) ?_
 refine djc (fun _ _ => Ei (a := e.sharers) (b := ((2 ^ e.who.toNat : Nat) : Int)) (Ks (by omega) (by omega) (by omega) (by omega))) ?_
 refine ZI ?_;intro ρ
 refine Gm ?_
 refine Ga9 ?_
 refine cdy ?_ ?_
 ·intro ht31
  refine kp [0, 2, 40, 41, 42, 43, 44, 45] ?_
  refine Aa ?_
  refine rn6 ?_
  refine ZJ ?_
  refine rn1 ?_
  have en : Cs e = { e with need := 0, phase := 1 } := by unfold Cs; rw [if_pos ht31]
  have hbn : EB ({ e with need := 0, phase := 1 }) := en ▸ Fo hb
  refine Ak Try.call65 rfl (fun w hs => Gv (e := { e with need := 0, phase := 1 }) (u := u) (ms := ms) (line := line) (id := id) (LX := foc 54 vh xs i [vi e.value, vi e.owner, vi e.sharers, vi 1, vi e.who, vi e.serial, .bool e.alone, vi e.turn, vi 0, u] :: LX) (Af hs) (Kt .hd rfl) hA hn hbn hl hid) ?_; intro v72
  refine Gl ?_
  rw [en]
  refine A0 (.inl rfl) (fun B w hs => Gb rfl _ w) (fun w hs => ⟨v72, rfl, Af hs⟩)
 ·intro ht31
  refine Gl ?_
  refine kp [0, 2, 46, 47, 48, 49, 50, 51, 52, 53, 54, 55, 56, 57] ?_
  refine Aa ?_
  refine rn8 ?_
  refine Oo (t := 54) (b := ?b2) ?e2 ?_ ?_; case e2 => exact rfl
  ·intro ht54
   refine Ga4 ?_
   refine cdy ?_ ?_
   ·intro ht46
    refine cq_ (foc 54 vh xs i [vi e.value, vi e.owner, vi e.sharers, vi e.phase, vi e.who, vi e.serial, .bool e.alone, vi e.turn, vi 0, u] :: blk bk 136 [(ep vh 10 i 0), vi line, vi id, vo] :: row 105 vo ms :: LX) ?_
    refine jd_ (fun ρ S => foc 54 vh xs i (bif S 14 then [vi e.value, vi e.owner, vi e.sharers, vi 2, vi e.who, vi e.serial, .bool e.alone, vi e.turn, vi (Gd e.sharers e.who), u] else (bif S 11 then [vi e.value, vi e.owner, vi e.sharers, vi 2, vi e.who, vi e.serial, .bool e.alone, vi e.turn, vi 0, u] else [vi e.value, vi e.owner, vi e.sharers, vi e.phase, vi e.who, vi e.serial, .bool e.alone, vi e.turn, vi 0, u])) :: blk bk 136 [(ep vh 10 i 0), vi line, vi id, vo] :: row 105 vo ms :: (LX)) ?_
    refine Abo ?_
    refine C9 (T0 := 54) (f := 3) (k := i) (sz := 10) (hv := vh) (xs := xs) (vs := fun ρ => [vi e.value, vi e.owner, vi e.sharers, vi e.phase, vi e.who, vi e.serial, .bool e.alone, vi e.turn, vi 0, u]) (v := fun ρ => (vi 2)) rfl Try.sizeOf3 (fun _ => rfl) (fun _ => rfl) (fun _ _ _ _ _ _ _ _ => rfl) (fun _ => rfl) (fun ρ g S hS hB hA => ?_) ?_
    ·have ui : upS S 11 11 = true := rfl; have u14 : upS S 11 14 = S 14 := rfl; have h14 : S 14 = false := hA 14 ⟨0, rfl⟩
     simp only [ui, hS, u14, h14, cond_true, cond_false]
     exact pex
    refine dn2 ?_
    refine C9 (T0 := 54) (f := 8) (k := i) (sz := 10) (hv := vh) (xs := xs) (vs := fun ρ => [vi e.value, vi e.owner, vi e.sharers, vi 2, vi e.who, vi e.serial, .bool e.alone, vi e.turn, vi 0, u]) (v := fun ρ => (vi (Gd e.sharers e.who))) rfl Try.sizeOf3 (fun _ => rfl) (fun _ => rfl) (fun _ _ _ _ _ _ _ _ => rfl) (fun _ => rfl) (fun ρ g S hS hB hA => ?_) ?_
    ·have ui : upS S 14 14 = true := rfl; have u11 : upS S 14 11 = S 11 := rfl; have h11 : S 11 = true := hB 11 ⟨0, rfl⟩
     simp only [ui, hS, u11, h11, cond_true, cond_false]
     exact pex
    refine dnl ?_; intro ρ
    refine xq_ (foc 54 vh xs i [vi e.value, vi e.owner, vi e.sharers, vi 2, vi e.who, vi e.serial, .bool e.alone, vi e.turn, vi (Gd e.sharers e.who), u] :: blk bk 136 [(ep vh 10 i 0), vi line, vi id, vo] :: row 105 vo ms :: (LX)) ?_
    refine Zad ?_
    have en : Cs e = { e with need := (Gd e.sharers e.who), phase := 2 } := by unfold Cs; rw [if_neg ht31, if_pos ⟨ht54, ht46⟩]
    have hbn : EB ({ e with need := (Gd e.sharers e.who), phase := 2 }) := en ▸ Fo hb
    refine Ak Try.call65 rfl (fun w hs => Gv (e := { e with need := (Gd e.sharers e.who), phase := 2 }) (u := u) (ms := ms) (line := line) (id := id) (LX := foc 54 vh xs i [vi e.value, vi e.owner, vi e.sharers, vi 2, vi e.who, vi e.serial, .bool e.alone, vi e.turn, vi (Gd e.sharers e.who), u] :: LX) (Af hs) (Kt .hd rfl) hA hn hbn hl hid) ?_; intro v72
    refine Gl ?_
    rw [en]
    refine A0 (.inl rfl) (fun B w hs => Gb rfl _ w) (fun w hs => ⟨v72, rfl, Af hs⟩)
   ·intro ht46
    refine Aa ?_
    refine rn6 ?_
    refine ZJ ?_
    refine rn1 ?_
    have en : Cs e = { e with need := 0, phase := 3 } := by unfold Cs; rw [if_neg ht31, if_neg (fun h => h.2 (by omega))]
    exact Zdl
  ·intro ht54
   refine Gd4 ?_
   refine rn6 ?_
   refine ZJ ?_
   refine rn1 ?_
   have en : Cs e = { e with need := 0, phase := 3 } := by unfold Cs; rw [if_neg ht31, if_neg (fun h => by rw [h.1] at ht54; cases ht54)]
   exact Zdl
theorem Ts {LX : List Chunk} {R : List Fact} {w : World} {vh vo u : Value} {i bk : Nat} {e : Entry} {ms : List Msg} {line id : Int} {xs : List Entry} {bm : Nat} {m : Msg} (hs : St (blk bk 136 [(ep vh 10 i 0), vi line, vi id, vo] :: row 105 vo ms :: foc 54 vh xs i (Entry.cells u e) :: row 3 u e.last :: blk bm 105 m.cells :: LX) R w) (hA : EpAll vh 10 i) (hone : u.oneCell' = true) (hn : ms.length ≤ 500) (hb : EB e) (hl : Ao line) (hid : Ao id) (hm : m.wf) (hline : m.line = line) (hsrc : 0 ≤ m.src ∧ m.src < (e.last.length : Int)) (hla : e.last.length ≤ 4) (hk : m.kind = 1 ∨ m.kind = 2) : Calls Try.prog 58 [bp bk 0, bp bm 0].toArray w (Bl (fun v : Value => .tuple #[]) (fun v => blk bk 136 [(ep vh 10 i 0), vi line, vi id, v] :: row 105 v (ms ++ (Ad e id m).2) :: foc 54 vh xs i (Entry.cells u (Ad e id m).1) :: row 3 u (Ad e id m).1.last :: blk bm 105 m.cells :: LX) (fun v => R)) := by
 have hb0 := hb
 unfold EB Entry.wf Ao at hb0
 have hl0 := hl
 have hid0 := hid
 unfold Ao at hl0 hid0
 have hm0 := hm
 unfold Msg.wf Ao at hm0
 refine Ah Try.func58 rfl Try.ntmps58 rfl hs ?_
 clear hs
 refine Gl ?_
 rcases (show (e.phase ≠ 0) ∨ (e.phase = 0 ∧ m.serial ≤ e.last.getD m.src.toNat 0) ∨ (e.phase = 0 ∧ e.last.getD m.src.toNat 0 < m.serial ∧ 65535 ≤ e.turn) ∨ (e.phase = 0 ∧ e.last.getD m.src.toNat 0 < m.serial ∧ e.turn < 65535) from by omega) with hc | hc | hc | hc
 ·refine A8 ?_
  refine dn7 ?_
  refine djc (fun _ _ => Ai rfl rfl (Ga (by omega))) ?_
  refine djm ?_
  refine dn18 ?_
  refine ZX ?_
  refine dn8 ?_
  refine ZY ?_
  refine Zb9 ?_;intro ρ er
  exact ZcR
 ·refine ZbC ?_
  refine dj (dgy ?_)
  refine ZbM ?_
  refine dj (dgy ?_)
  refine dc (fun _ _ => Ai rfl rfl (Mc (by omega))) ?_
  refine ZT ?_
  refine dn8 ?_
  refine ZY ?_
  refine Zb9 ?_;intro ρ er
  exact ZcR
 ·refine ZbC ?_
  refine dj (dgy ?_)
  refine ZbM ?_
  refine dj (dgy ?_)
  refine dc (fun _ _ => Ai rfl rfl (O8 (by omega))) ?_
  refine ZT ?_
  refine dn7 ?_
  refine dj (dgy ?_)
  refine dc (fun _ _ => Ai rfl rfl (Me (by omega))) ?_
  refine djf ?_
  refine Zb9 ?_;intro ρ er
  exact ZcR
 ·refine ZbC ?_
  refine dj (dgy ?_)
  refine ZbM ?_
  refine dj (dgy ?_)
  refine dc (fun _ _ => Ai rfl rfl (O8 (by omega))) ?_
  refine ZT ?_
  refine dn7 ?_
  refine dj (dgy ?_)
  refine dc (fun _ _ => Ai rfl rfl (C6 (by omega))) ?_
  refine djf ?_
  refine dnl ?_; intro ρ
  refine Glc ?_
  refine kp [0, 1, 42, 43, 44, 45, 46, 47, 48, 49, 50, 51, 52, 53, 54, 55, 56, 57] ?_
  refine A8 ?_
  refine dn16 ?_
  refine dtl ?_; intro ρ
  refine Fp (xs := e.last) Try.sizeOf3 rfl rfl pkk (getD_some 0 (by omega)) hm.2.2.2.2.1 ?_
  refine Gl ?_
  refine Zcd ?_
  refine jd_ (fun ρ S => foc 54 vh xs i (bif S 33 then [vi e.value, vi e.owner, vi e.sharers, vi e.phase, vi m.src, vi m.serial, .bool (decide (m.kind = 2)), vi e.turn, vi e.need, u] else (bif S 30 then [vi e.value, vi e.owner, vi e.sharers, vi e.phase, vi m.src, vi m.serial, .bool e.alone, vi e.turn, vi e.need, u] else (bif S 27 then [vi e.value, vi e.owner, vi e.sharers, vi e.phase, vi m.src, vi e.serial, .bool e.alone, vi e.turn, vi e.need, u] else [vi e.value, vi e.owner, vi e.sharers, vi e.phase, vi e.who, vi e.serial, .bool e.alone, vi e.turn, vi e.need, u]))) :: blk bk 136 [(ep vh 10 i 0), vi line, vi id, vo] :: row 105 vo ms :: row 3 u (e.last.set m.src.toNat m.serial) :: blk bm 105 m.cells :: (LX)) ?_
  refine dn27 ?_
  refine C9 (T0 := 54) (f := 4) (k := i) (sz := 10) (hv := vh) (xs := xs) (vs := fun ρ => [vi e.value, vi e.owner, vi e.sharers, vi e.phase, vi e.who, vi e.serial, .bool e.alone, vi e.turn, vi e.need, u]) (v := fun ρ => (vi m.src)) rfl Try.sizeOf3 (fun _ => rfl) (fun _ => rfl) (fun _ _ _ _ _ _ _ _ => rfl) (fun _ => rfl) (fun ρ g S hS hB hA => ?_) ?_
  ·have ui : upS S 27 27 = true := rfl; have u30 : upS S 27 30 = S 30 := rfl; have u33 : upS S 27 33 = S 33 := rfl; have h30 : S 30 = false := hA 30 ⟨0, rfl⟩; have h33 : S 33 = false := hA 33 ⟨0, rfl⟩
   simp only [ui, hS, u30, u33, h30, h33, cond_true, cond_false]
   exact pex
  refine dn2 ?_
  refine C9 (T0 := 54) (f := 5) (k := i) (sz := 10) (hv := vh) (xs := xs) (vs := fun ρ => [vi e.value, vi e.owner, vi e.sharers, vi e.phase, vi m.src, vi e.serial, .bool e.alone, vi e.turn, vi e.need, u]) (v := fun ρ => (vi m.serial)) rfl Try.sizeOf3 (fun _ => rfl) (fun _ => rfl) (fun _ _ _ _ _ _ _ _ => rfl) (fun _ => rfl) (fun ρ g S hS hB hA => ?_) ?_
  ·have ui : upS S 30 30 = true := rfl; have u27 : upS S 30 27 = S 27 := rfl; have u33 : upS S 30 33 = S 33 := rfl; have h27 : S 27 = true := hB 27 ⟨0, rfl⟩; have h33 : S 33 = false := hA 33 ⟨0, rfl⟩
   simp only [ui, hS, u27, u33, h27, h33, cond_true, cond_false]
   exact pex
  refine dn2 ?_
  refine C9 (T0 := 54) (f := 6) (k := i) (sz := 10) (hv := vh) (xs := xs) (vs := fun ρ => [vi e.value, vi e.owner, vi e.sharers, vi e.phase, vi m.src, vi m.serial, .bool e.alone, vi e.turn, vi e.need, u]) (v := fun ρ => (.bool (decide (m.kind = 2)))) rfl Try.sizeOf4 (fun _ => rfl) (fun _ => rfl) (fun _ _ _ _ _ _ _ _ => rfl) (fun _ => rfl) (fun ρ g S hS hB hA => ?_) ?_
  ·have ui : upS S 33 33 = true := rfl; have u27 : upS S 33 27 = S 27 := rfl; have u30 : upS S 33 30 = S 30 := rfl; have h27 : S 27 = true := hB 27 ⟨0, rfl⟩; have h30 : S 30 = true := hB 30 ⟨0, rfl⟩
   simp only [ui, hS, u27, u30, h27, h30, cond_true, cond_false]
   exact pex
  refine dnl ?_; intro ρ
  refine xq_ (foc 54 vh xs i [vi e.value, vi e.owner, vi e.sharers, vi e.phase, vi m.src, vi m.serial, .bool (decide (m.kind = 2)), vi e.turn, vi e.need, u] :: blk bk 136 [(ep vh 10 i 0), vi line, vi id, vo] :: row 105 vo ms :: row 3 u (e.last.set m.src.toNat m.serial) :: blk bm 105 m.cells :: (LX)) ?_
  refine Gl ?_
  refine kp [0, 89, 90, 91, 92, 93, 94, 95, 96, 97, 98] ?_
  refine Aa ?_
  refine rn10 ?_
  refine ZJ ?_
  refine rn1 ?_
  have hX : EB ({ e with last := (e.last.set m.src.toNat m.serial), who := m.src, serial := m.serial, alone := m.kind == 2, turn := e.turn + 1 }) := by unfold EB Entry.wf Ao; simp only; omega
  refine Ak Try.call60 rfl (fun w hs => Jt (e := { e with last := (e.last.set m.src.toNat m.serial), who := m.src, serial := m.serial, alone := m.kind == 2, turn := e.turn + 1 }) (u := u) (ms := ms) (line := line) (id := id) (xs := xs) (LX := row 3 u (e.last.set m.src.toNat m.serial) :: blk bm 105 m.cells :: LX) (Af hs) hA hone hn hX hl hid) ?_; intro v100
  refine Gl ?_
  have er : Ad e id m = (Cs ({ e with last := (e.last.set m.src.toNat m.serial), who := m.src, serial := m.serial, alone := m.kind == 2, turn := e.turn + 1 }), Hl (Cs ({ e with last := (e.last.set m.src.toNat m.serial), who := m.src, serial := m.serial, alone := m.kind == 2, turn := e.turn + 1 })) m.line id) := by unfold Ad; rw [if_pos (by omega), if_neg (by unfold Fe; omega)]; rfl
  rw [er, hline, G1]
  refine A0 (.inl rfl) (fun B w hs => Gb rfl _ w) (fun w hs => ⟨v100, rfl, Af hs⟩)
theorem Zr {LX : List Chunk} {R : List Fact} {w : World} {vh vo u : Value} {i bk : Nat} {e : Entry} {ms : List Msg} {line id : Int} {xs : List Entry} {bm : Nat} {m : Msg} (hs : St (blk bk 136 [(ep vh 10 i 0), vi line, vi id, vo] :: row 105 vo ms :: foc 54 vh xs i (Entry.cells u e) :: row 3 u e.last :: blk bm 105 m.cells :: LX) R w) (hA : EpAll vh 10 i) (hone : u.oneCell' = true) (hn : ms.length ≤ 500) (hb : EB e) (hl : Ao line) (hid : Ao id) (hm : m.wf) (hline : m.line = line) (hsrc : 0 ≤ m.src ∧ m.src < (e.last.length : Int)) (hla : e.last.length ≤ 4) (hk : m.kind = 3) : Calls Try.prog 59 [bp bk 0, bp bm 0].toArray w (Bl (fun v : Value => .tuple #[]) (fun v => blk bk 136 [(ep vh 10 i 0), vi line, vi id, v] :: row 105 v (ms ++ (Ad e id m).2) :: foc 54 vh xs i (Entry.cells u (Ad e id m).1) :: row 3 u (Ad e id m).1.last :: blk bm 105 m.cells :: LX) (fun v => R)) := by
 have hb0 := hb
 unfold EB Entry.wf Ao at hb0
 have hl0 := hl
 have hid0 := hid
 unfold Ao at hl0 hid0
 have hm0 := hm
 unfold Msg.wf Ao at hm0
 refine Ah Try.func59 rfl Try.ntmps59 rfl hs ?_
 clear hs
 refine Gm ?_
 refine Ga8 ?_
 refine cdy ?_ ?_
 ·intro ht11
  refine Gl ?_
  have er : Ad e id m = (e, []) := by unfold Ad; rw [if_neg (by omega), if_pos (by omega), if_pos ht11]
  rw [er, List.append_nil]
  exact ZcR
 ·intro ht11
  refine Gl ?_
  refine A8 ?_
  refine dn16 ?_
  refine djc (fun _ _ => Dm (hc := G8 (xs := e.last) pkk (by omega)) Try.isAgg3) ?_
  refine djc (fun _ _ => Ei O9) ?_
  refine dnl ?_; intro ρ
  refine Gl ?_
  refine cdy ?_ ?_
  ·intro ht29
   refine Gl ?_
   refine A8 ?_
   refine dn16 ?_
   refine dtl ?_; intro ρ
   refine Fp (xs := e.last) Try.sizeOf3 rfl rfl pkk (getD_some 0 (by omega)) hm.2.2.2.2.1 ?_
   refine Gl ?_
   refine kp [0, 1, 46, 47, 48, 49, 50, 51, 52, 53, 54, 55, 56, 57] ?_
   refine A8 ?_
   refine dn12 ?_
   refine dnl ?_; intro ρ
   refine Gl ?_
   refine cdy ?_ ?_
   ·intro ht57
    refine Zcd ?_
    refine jd_ (fun ρ S => foc 54 vh xs i (bif S 17 then [vi m.value, vi (-1), vi e.sharers, vi e.phase, vi e.who, vi e.serial, .bool e.alone, vi e.turn, vi e.need, u] else (bif S 14 then [vi m.value, vi e.owner, vi e.sharers, vi e.phase, vi e.who, vi e.serial, .bool e.alone, vi e.turn, vi e.need, u] else [vi e.value, vi e.owner, vi e.sharers, vi e.phase, vi e.who, vi e.serial, .bool e.alone, vi e.turn, vi e.need, u])) :: blk bk 136 [(ep vh 10 i 0), vi line, vi id, vo] :: row 105 vo ms :: row 3 u (e.last.set m.src.toNat m.serial) :: blk bm 105 m.cells :: (LX)) ?_
    refine dn14 ?_
    refine C9 (T0 := 54) (f := 0) (k := i) (sz := 10) (hv := vh) (xs := xs) (vs := fun ρ => [vi e.value, vi e.owner, vi e.sharers, vi e.phase, vi e.who, vi e.serial, .bool e.alone, vi e.turn, vi e.need, u]) (v := fun ρ => (vi m.value)) rfl Try.sizeOf3 (fun _ => rfl) (fun _ => rfl) (fun _ _ _ _ _ _ _ _ => rfl) (fun _ => rfl) (fun ρ g S hS hB hA => ?_) ?_
    ·have ui : upS S 14 14 = true := rfl; have u17 : upS S 14 17 = S 17 := rfl; have h17 : S 17 = false := hA 17 ⟨0, rfl⟩
     simp only [ui, hS, u17, h17, cond_true, cond_false]
     exact pex
    refine dn2 ?_
    refine C9 (T0 := 54) (f := 1) (k := i) (sz := 10) (hv := vh) (xs := xs) (vs := fun ρ => [vi m.value, vi e.owner, vi e.sharers, vi e.phase, vi e.who, vi e.serial, .bool e.alone, vi e.turn, vi e.need, u]) (v := fun ρ => (vi (-1))) rfl Try.sizeOf3 (fun _ => rfl) (fun _ => rfl) (fun _ _ _ _ _ _ _ _ => rfl) (fun _ => rfl) (fun ρ g S hS hB hA => ?_) ?_
    ·have ui : upS S 17 17 = true := rfl; have u14 : upS S 17 14 = S 14 := rfl; have h14 : S 14 = true := hB 14 ⟨0, rfl⟩
     simp only [ui, hS, u14, h14, cond_true, cond_false]
     exact pex
    refine dnl ?_; intro ρ
    refine xq_ (foc 54 vh xs i [vi m.value, vi (-1), vi e.sharers, vi e.phase, vi e.who, vi e.serial, .bool e.alone, vi e.turn, vi e.need, u] :: blk bk 136 [(ep vh 10 i 0), vi line, vi id, vo] :: row 105 vo ms :: row 3 u (e.last.set m.src.toNat m.serial) :: blk bm 105 m.cells :: (LX)) ?_
    refine Gl ?_
    refine ZbI ?_;intro hwf
    refine cq_ (blk bk 136 [(ep vh 10 i 0), vi line, vi id, vo] :: row 105 vo ms :: foc 54 vh xs i [vi m.value, vi (-1), vi e.sharers, vi e.phase, vi e.who, vi e.serial, .bool e.alone, vi e.turn, vi e.need, u] :: row 3 u (e.last.set m.src.toNat m.serial) :: blk bm 105 m.cells :: LX) ?_
    refine jd_ (fun ρ S => blk bk 136 (bif S 26 then [(ep vh 10 i 0), vi line, vi id, (Gh.dec (γ := Value) (ρ 23))] else [(ep vh 10 i 0), vi line, vi id, vo]) :: (bif S 23 then row 105 (Gh.dec (γ := Value) (ρ 23)) (ms ++ [(⟨11, id, m.src, line, m.serial, 0, 0, false⟩ : Msg)]) else row 105 vo ms) :: foc 54 vh xs i [vi m.value, vi (-1), vi e.sharers, vi e.phase, vi e.who, vi e.serial, .bool e.alone, vi e.turn, vi e.need, u] :: row 3 u (e.last.set m.src.toNat m.serial) :: blk bm 105 m.cells :: (LX)) ?_
    refine dn4 ?_
    refine Hv (v := vo) (fun ρ S hS hB hA => by have h26 : S 26 = false := hA 26 ⟨0, rfl⟩; simp only [h26, cond_false]; exact Dm (hc := Bd pkk (by repeat (first | exact rfl | refine Cp rfl ?_))) Try.isAgg78) (fun _ _ _ _ _ => rfl) ?_
    refine dn3 ?_
    refine Hv (v := vi id) (fun ρ S hS hB hA => by have h26 : S 26 = false := hA 26 ⟨0, rfl⟩; simp only [h26, cond_false]; exact Dm (hc := Bd pkk (by repeat (first | exact rfl | refine Cp rfl ?_))) Try.isAgg3) (fun _ _ _ _ _ => rfl) ?_
    refine dn7 ?_
    refine Hv (v := vi line) (fun ρ S hS hB hA => by have h26 : S 26 = false := hA 26 ⟨0, rfl⟩; simp only [h26, cond_false]; exact Dm (hc := Bd pkk (by repeat (first | exact rfl | refine Cp rfl ?_))) Try.isAgg3) (fun _ _ _ _ _ => rfl) ?_
    refine dn4 ?_
    first | refine epc (fun _ _ => D5 Cg) ?_ | refine epc (fun _ _ => Eh Cg) ?_ | refine epp (fun _ _ => D5 Cg) ?_ | refine epp (fun _ _ => Eh Cg) ?_
    refine Zb1 ?_
    refine Ec (e := 105) (xs := ms) (ys := [(⟨11, id, m.src, line, m.serial, 0, 0, false⟩ : Msg)]) (v := vo) Km (fun _ => rfl) (fun _ => rfl) rfl (by decide) (fun ρ R hd => (hd.dep (it := ⟨22, _, _, _, _⟩) (by repeat (first | exact List.Mem.head _ | refine List.Mem.tail _ ?_)) ⟨9, rfl⟩ (List.Mem.head _))) (by have : maxN = 16777216 := rfl; simp only [List.length_cons, List.length_nil]; omega) (fun ρ g S hS hB hA => ?_) ?_
    ·exact Zc7
    refine dn2 ?_
    refine Di (T0 := 136) (f := 3) (vs := fun ρ => [(ep vh 10 i 0), vi line, vi id, vo]) (v := fun ρ => (Gh.dec (γ := Value) (ρ 23))) (fun ρ => bk) Try.sizeOf78 (fun _ => rfl) (fun _ => rfl) (fun ρ S R w L9 hB hd hs => by have h23 : S 23 = true := hB 23 ⟨9, rfl⟩; simp only [h23, cond_true] at hs; exact A6 pkk hs) (fun _ => rfl) (fun ρ g S hS hB hA => ?_) ?_
    ·exact ZcE
    refine dnl ?_; intro ρ
    refine xq_ (blk bk 136 [(ep vh 10 i 0), vi line, vi id, (Gh.dec (γ := Value) (ρ 23))] :: row 105 (Gh.dec (γ := Value) (ρ 23)) (ms ++ [(⟨11, id, m.src, line, m.serial, 0, 0, false⟩ : Msg)]) :: foc 54 vh xs i [vi m.value, vi (-1), vi e.sharers, vi e.phase, vi e.who, vi e.serial, .bool e.alone, vi e.turn, vi e.need, u] :: row 3 u (e.last.set m.src.toNat m.serial) :: blk bm 105 m.cells :: (LX)) ?_
    generalize (Gh.dec (γ := Value) (ρ 22)) = v96
    generalize (Gh.dec (γ := Value) (ρ 23)) = v97
    have er : Ad e id m = ({ e with last := (e.last.set m.src.toNat m.serial), value := m.value, owner := -1 }, [(⟨11, id, m.src, line, m.serial, 0, 0, false⟩ : Msg)]) := by unfold Ad; rw [if_neg (by omega), if_pos (by omega), if_neg ht11]; rw [hline]; unfold Ic; rw [if_pos (by unfold Fe; omega), if_pos ht57]
    rw [er]
    refine A0 (.inl rfl) (fun B w hs => Gb rfl _ w) (fun w hs => ⟨v97, rfl, Af hs⟩)
   ·intro ht57
    refine Gl ?_
    refine ZbI ?_;intro hwf
    refine cq_ (blk bk 136 [(ep vh 10 i 0), vi line, vi id, vo] :: row 105 vo ms :: foc 54 vh xs i [vi e.value, vi e.owner, vi e.sharers, vi e.phase, vi e.who, vi e.serial, .bool e.alone, vi e.turn, vi e.need, u] :: row 3 u (e.last.set m.src.toNat m.serial) :: blk bm 105 m.cells :: LX) ?_
    refine jd_ (fun ρ S => blk bk 136 (bif S 26 then [(ep vh 10 i 0), vi line, vi id, (Gh.dec (γ := Value) (ρ 23))] else [(ep vh 10 i 0), vi line, vi id, vo]) :: (bif S 23 then row 105 (Gh.dec (γ := Value) (ρ 23)) (ms ++ [(⟨11, id, m.src, line, m.serial, 0, 0, false⟩ : Msg)]) else row 105 vo ms) :: foc 54 vh xs i [vi e.value, vi e.owner, vi e.sharers, vi e.phase, vi e.who, vi e.serial, .bool e.alone, vi e.turn, vi e.need, u] :: row 3 u (e.last.set m.src.toNat m.serial) :: blk bm 105 m.cells :: (LX)) ?_
    refine dn4 ?_
    refine Hv (v := vo) (fun ρ S hS hB hA => by have h26 : S 26 = false := hA 26 ⟨0, rfl⟩; simp only [h26, cond_false]; exact Dm (hc := Bd pkk (by repeat (first | exact rfl | refine Cp rfl ?_))) Try.isAgg78) (fun _ _ _ _ _ => rfl) ?_
    refine dn3 ?_
    refine Hv (v := vi id) (fun ρ S hS hB hA => by have h26 : S 26 = false := hA 26 ⟨0, rfl⟩; simp only [h26, cond_false]; exact Dm (hc := Bd pkk (by repeat (first | exact rfl | refine Cp rfl ?_))) Try.isAgg3) (fun _ _ _ _ _ => rfl) ?_
    refine dn7 ?_
    refine Hv (v := vi line) (fun ρ S hS hB hA => by have h26 : S 26 = false := hA 26 ⟨0, rfl⟩; simp only [h26, cond_false]; exact Dm (hc := Bd pkk (by repeat (first | exact rfl | refine Cp rfl ?_))) Try.isAgg3) (fun _ _ _ _ _ => rfl) ?_
    refine dn4 ?_
    first | refine epc (fun _ _ => D5 Cg) ?_ | refine epc (fun _ _ => Eh Cg) ?_ | refine epp (fun _ _ => D5 Cg) ?_ | refine epp (fun _ _ => Eh Cg) ?_
    refine Zb1 ?_
    refine Ec (e := 105) (xs := ms) (ys := [(⟨11, id, m.src, line, m.serial, 0, 0, false⟩ : Msg)]) (v := vo) Km (fun _ => rfl) (fun _ => rfl) rfl (by decide) (fun ρ R hd => (hd.dep (it := ⟨22, _, _, _, _⟩) (by repeat (first | exact List.Mem.head _ | refine List.Mem.tail _ ?_)) ⟨9, rfl⟩ (List.Mem.head _))) (by have : maxN = 16777216 := rfl; simp only [List.length_cons, List.length_nil]; omega) (fun ρ g S hS hB hA => ?_) ?_
    ·exact Zc7
    refine dn2 ?_
    refine Di (T0 := 136) (f := 3) (vs := fun ρ => [(ep vh 10 i 0), vi line, vi id, vo]) (v := fun ρ => (Gh.dec (γ := Value) (ρ 23))) (fun ρ => bk) Try.sizeOf78 (fun _ => rfl) (fun _ => rfl) (fun ρ S R w L9 hB hd hs => by have h23 : S 23 = true := hB 23 ⟨9, rfl⟩; simp only [h23, cond_true] at hs; exact A6 pkk hs) (fun _ => rfl) (fun ρ g S hS hB hA => ?_) ?_
    ·exact ZcE
    refine dnl ?_; intro ρ
    refine xq_ (blk bk 136 [(ep vh 10 i 0), vi line, vi id, (Gh.dec (γ := Value) (ρ 23))] :: row 105 (Gh.dec (γ := Value) (ρ 23)) (ms ++ [(⟨11, id, m.src, line, m.serial, 0, 0, false⟩ : Msg)]) :: foc 54 vh xs i [vi e.value, vi e.owner, vi e.sharers, vi e.phase, vi e.who, vi e.serial, .bool e.alone, vi e.turn, vi e.need, u] :: row 3 u (e.last.set m.src.toNat m.serial) :: blk bm 105 m.cells :: (LX)) ?_
    generalize (Gh.dec (γ := Value) (ρ 22)) = v96
    generalize (Gh.dec (γ := Value) (ρ 23)) = v97
    have er : Ad e id m = ({ e with last := (e.last.set m.src.toNat m.serial) }, [(⟨11, id, m.src, line, m.serial, 0, 0, false⟩ : Msg)]) := by unfold Ad; rw [if_neg (by omega), if_pos (by omega), if_neg ht11]; rw [hline]; unfold Ic; rw [if_pos (by unfold Fe; omega), if_neg ht57]
    rw [er]
    refine A0 (.inl rfl) (fun B w hs => Gb rfl _ w) (fun w hs => ⟨v97, rfl, Af hs⟩)
  ·intro ht29
   refine Gl ?_
   refine ZbI ?_;intro hwf
   refine cq_ (blk bk 136 [(ep vh 10 i 0), vi line, vi id, vo] :: row 105 vo ms :: foc 54 vh xs i [vi e.value, vi e.owner, vi e.sharers, vi e.phase, vi e.who, vi e.serial, .bool e.alone, vi e.turn, vi e.need, u] :: row 3 u e.last :: blk bm 105 m.cells :: LX) ?_
   refine jd_ (fun ρ S => blk bk 136 (bif S 26 then [(ep vh 10 i 0), vi line, vi id, (Gh.dec (γ := Value) (ρ 23))] else [(ep vh 10 i 0), vi line, vi id, vo]) :: (bif S 23 then row 105 (Gh.dec (γ := Value) (ρ 23)) (ms ++ [(⟨11, id, m.src, line, m.serial, 0, 0, false⟩ : Msg)]) else row 105 vo ms) :: foc 54 vh xs i [vi e.value, vi e.owner, vi e.sharers, vi e.phase, vi e.who, vi e.serial, .bool e.alone, vi e.turn, vi e.need, u] :: row 3 u e.last :: blk bm 105 m.cells :: (LX)) ?_
   refine dn4 ?_
   refine Hv (v := vo) (fun ρ S hS hB hA => by have h26 : S 26 = false := hA 26 ⟨0, rfl⟩; simp only [h26, cond_false]; exact Dm (hc := Bd pkk (by repeat (first | exact rfl | refine Cp rfl ?_))) Try.isAgg78) (fun _ _ _ _ _ => rfl) ?_
   refine dn3 ?_
   refine Hv (v := vi id) (fun ρ S hS hB hA => by have h26 : S 26 = false := hA 26 ⟨0, rfl⟩; simp only [h26, cond_false]; exact Dm (hc := Bd pkk (by repeat (first | exact rfl | refine Cp rfl ?_))) Try.isAgg3) (fun _ _ _ _ _ => rfl) ?_
   refine dn7 ?_
   refine Hv (v := vi line) (fun ρ S hS hB hA => by have h26 : S 26 = false := hA 26 ⟨0, rfl⟩; simp only [h26, cond_false]; exact Dm (hc := Bd pkk (by repeat (first | exact rfl | refine Cp rfl ?_))) Try.isAgg3) (fun _ _ _ _ _ => rfl) ?_
   refine dn4 ?_
   first | refine epc (fun _ _ => D5 Cg) ?_ | refine epc (fun _ _ => Eh Cg) ?_ | refine epp (fun _ _ => D5 Cg) ?_ | refine epp (fun _ _ => Eh Cg) ?_
   refine Zb1 ?_
   refine Ec (e := 105) (xs := ms) (ys := [(⟨11, id, m.src, line, m.serial, 0, 0, false⟩ : Msg)]) (v := vo) Km (fun _ => rfl) (fun _ => rfl) rfl (by decide) (fun ρ R hd => (hd.dep (it := ⟨22, _, _, _, _⟩) (by repeat (first | exact List.Mem.head _ | refine List.Mem.tail _ ?_)) ⟨9, rfl⟩ (List.Mem.head _))) (by have : maxN = 16777216 := rfl; simp only [List.length_cons, List.length_nil]; omega) (fun ρ g S hS hB hA => ?_) ?_
   ·exact Zc7
   refine dn2 ?_
   refine Di (T0 := 136) (f := 3) (vs := fun ρ => [(ep vh 10 i 0), vi line, vi id, vo]) (v := fun ρ => (Gh.dec (γ := Value) (ρ 23))) (fun ρ => bk) Try.sizeOf78 (fun _ => rfl) (fun _ => rfl) (fun ρ S R w L9 hB hd hs => by have h23 : S 23 = true := hB 23 ⟨9, rfl⟩; simp only [h23, cond_true] at hs; exact A6 pkk hs) (fun _ => rfl) (fun ρ g S hS hB hA => ?_) ?_
   ·exact ZcE
   refine dnl ?_; intro ρ
   refine xq_ (blk bk 136 [(ep vh 10 i 0), vi line, vi id, (Gh.dec (γ := Value) (ρ 23))] :: row 105 (Gh.dec (γ := Value) (ρ 23)) (ms ++ [(⟨11, id, m.src, line, m.serial, 0, 0, false⟩ : Msg)]) :: foc 54 vh xs i [vi e.value, vi e.owner, vi e.sharers, vi e.phase, vi e.who, vi e.serial, .bool e.alone, vi e.turn, vi e.need, u] :: row 3 u e.last :: blk bm 105 m.cells :: (LX)) ?_
   generalize (Gh.dec (γ := Value) (ρ 22)) = v96
   generalize (Gh.dec (γ := Value) (ρ 23)) = v97
   have er : Ad e id m = (e, [(⟨11, id, m.src, line, m.serial, 0, 0, false⟩ : Msg)]) := by unfold Ad; rw [if_neg (by omega), if_pos (by omega), if_neg ht11]; rw [hline]; unfold Ic; rw [if_neg (by unfold Fe; omega)]
   rw [er]
   refine A0 (.inl rfl) (fun B w hs => Gb rfl _ w) (fun w hs => ⟨v97, rfl, Af hs⟩)
theorem C2 {e : Entry} {id : Int} {m : Msg} (he : EB e) (hm : m.wf) (hs : 0 ≤ m.src ∧ m.src < 4) : EB (Ad e id m).1 := by
 have h0 := he
 unfold EB Entry.wf Ao at h0
 have hm0 := hm
 unfold Msg.wf Ao at hm0
 have b1 := Eg h0.2.1.1 h0.2.1.2 hs.1 hs.2
 have b2 := Eg h0.2.2.1.1 h0.2.2.1.2 hs.1 hs.2
 unfold Ad
 split
 ·split
  ·exact he
  ·refine Fo ?_
   exact ZcY
 split
 ·split
  ·exact he
  ·show EB (Ic e m)
   unfold Ic
   split
   ·split
    ·exact ZcY
    ·exact he
   ·exact he
 split
 ·rename_i k3
  have hs4 : 0 ≤ (if e.alone = true then e.sharers else Gj e.sharers e.owner) ∧ (if e.alone = true then e.sharers else Gj e.sharers e.owner) < 16 := by
   split
   ·omega
   ·obtain ⟨_, _, r, _⟩ := Eg h0.2.1.1 h0.2.1.2 (show 0 ≤ e.owner by omega) h0.2.2.2.2.1.2; exact r
  refine Fo ?_
  exact Zdn
 have hg : EB (Ce e m) := by
  have c1 := b1.2.2.2; have c2 := b2.2.2.2
  unfold Ce EB Entry.wf Ao; simp only; omega
 split
 ·split
  ·exact Fo hg
  ·exact hg
 split
 ·show EB (E7 e)
  unfold E7
  split
  ·exact ZcY
  ·obtain ⟨_, _, r, _⟩ := Eg h0.2.1.1 h0.2.1.2 h0.2.2.2.1.1 h0.2.2.2.1.2
   exact ZcY
 ·exact he
theorem Pl (e : Entry) (i id : Int) : (Hl e i id).length ≤ 4 := by
 unfold Hl; split
 ·simp
 split
 ·rw [List.length_map]; exact Nat.le_trans (List.length_filter_le ..) (by simp)
 split <;> simp
theorem Jb (id : Int) : ∀ (l : List Entry) (i : Int), (Cr id i l).length ≤ 4 * l.length
 | [], _ => by simp [Cr]
 | e :: l, i => by
  have := Jb id l (i + 1)
  have := Pl e i id
  simp only [Cr, List.length_append, List.length_cons]; omega
theorem q_max {P : Program} {n : Nat} {L : List Chunk} {R : List Fact} {al : List (Nat × Value)} {d : Nat} {x : Operand} {T ty : TypeId} {pos : String} {aft : Array Edge} {a : Int} (hx : ev n al x = some (vi a)) (h0 : 0 ≤ a) : As P n al L R ⟨some d, .call { callee := .builtin .max, args := #[x, .const (.int .i64 0)], argTypes := #[T, T] }, ty, pos, aft, none⟩ (vi a) :=
 ⟨rfl, fun ρ w h _ => by
  have hx' := h x (by simp [Op.operands, Call.operands]) _ hx
  have hc' := h (.const (.int .i64 0)) (by simp [Op.operands, Call.operands]) _ rfl
  simp [execOp, resolve, invoke, builtin, hx', hc', Builtin.max_, Builtin.max2, show ¬ (a < 0) from by omega]⟩
theorem Re {v0 : Value} {l : List Entry} {id : Int} {m : Msg} (hs : St (L) R w) (h0 : sl v0 l ∈ R) (hb : ∀ i, i < l.length → EB (l.getD i Ay)) (hla : ∀ i, i < l.length → (l.getD i Ay).last.length ≤ 4) (hm : m.wf) (hid : Ao id) (hk : ¬ (0 ≤ m.line ∧ m.line < (l.length : Int) ∧ 0 ≤ m.src ∧ m.src < ((Ag l m.line).last.length : Int))) : Calls Try.prog 41 [v0, vi id, .agg m.cells.toArray].toArray w (Bl (fun v : Value × Value => .tuple #[v.1, v.2]) (fun v => L) (fun v => sl v.1 (Al l id m).1 :: sl v.2 (Al l id m).2 :: R)) := by
 refine Zay ?_;intro hlen hm0 hid0
 clear hs
 refine Zaw ?_;intro b5 g13
 rcases (show (m.line < 0) ∨ (¬ m.line < 0 ∧ (l.length : Int) ≤ m.line) ∨ (¬ m.line < 0 ∧ m.line < (l.length : Int) ∧ m.src < 0) ∨ (¬ m.line < 0 ∧ m.line < (l.length : Int) ∧ 0 ≤ m.src ∧ ((Ag l m.line).last.length : Int) ≤ m.src) from by omega) with hc | hc | hc | hc
 ·refine JC.conseq (L' := blk b5 105 m.cells :: L) (R' := sl g13.1 l :: R) (fun w hs => by
   have h1 : g13.2.map EV.e = l := Fq (.head _) hs
   have h2 := Kl hs
   rw [h1] at h2
   exact h2.sub .refl (fun f hf => by
    rcases List.mem_cons.1 hf with e | e
    ·
     exact List.mem_cons.2 (.inl e)
    ·
     exact List.mem_cons.2 (.inr (.tail _ e)))) ?_
  refine ZU ?_
  refine djc (fun _ _ => Ai rfl rfl (O7 (by omega))) ?_
  refine djm ?_
  refine dn5 ?_
  refine ZX ?_
  refine dn3 ?_
  refine ZX ?_
  refine dn10 ?_
  refine ZY ?_
  refine Zbf ?_;intro ρ er
  exact De (g13.1, .slice none 0 0) (hs := fun w hs => Af (St.shut (hs.rowNil 105 Msg)))
 ·refine JC.conseq (L' := blk b5 105 m.cells :: L) (R' := sl g13.1 l :: R) (fun w hs => by
   have h1 : g13.2.map EV.e = l := Fq (.head _) hs
   have h2 := Kl hs
   rw [h1] at h2
   exact h2.sub .refl (fun f hf => by
    rcases List.mem_cons.1 hf with e | e
    ·
     exact List.mem_cons.2 (.inl e)
    ·
     exact List.mem_cons.2 (.inr (.tail _ e)))) ?_
  refine Zbo ?_
  refine dj (dgy ?_)
  refine dc (fun _ _ => Ai rfl rfl (Me (by omega))) ?_
  refine ZT ?_
  refine dn3 ?_
  refine ZX ?_
  refine dn10 ?_
  refine ZY ?_
  refine Zbf ?_;intro ρ er
  exact De (g13.1, .slice none 0 0) (hs := fun w hs => Af (St.shut (hs.rowNil 105 Msg)))
 ·refine JC.conseq (L' := blk b5 105 m.cells :: L) (R' := sl g13.1 l :: R) (fun w hs => by
   have h1 : g13.2.map EV.e = l := Fq (.head _) hs
   have h2 := Kl hs
   rw [h1] at h2
   exact h2.sub .refl (fun f hf => by
    rcases List.mem_cons.1 hf with e | e
    ·
     exact List.mem_cons.2 (.inl e)
    ·
     exact List.mem_cons.2 (.inr (.tail _ e)))) ?_
  refine Zbo ?_
  refine dj (dgy ?_)
  refine Zao ?_
  refine dj (dgy ?_)
  refine dc (fun _ _ => Ai rfl rfl (O7 (by omega))) ?_
  refine ZT ?_
  refine dn10 ?_
  refine ZY ?_
  refine Zbf ?_;intro ρ er
  exact De (g13.1, .slice none 0 0) (hs := fun w hs => Af (St.shut (hs.rowNil 105 Msg)))
 ·refine JC.conseq (L' := blk b5 105 m.cells :: L) (R' := sl g13.1 l :: R) (fun w hs => by
   have h1 : g13.2.map EV.e = l := Fq (.head _) hs
   have h2 := Kl hs
   rw [h1] at h2
   exact h2.sub .refl (fun f hf => by
    rcases List.mem_cons.1 hf with e | e
    ·
     exact List.mem_cons.2 (.inl e)
    ·
     exact List.mem_cons.2 (.inr (.tail _ e)))) ?_
  refine ZbP ?_;intro hEw u hE hE0 hL hone hlin
  refine dj (dgy ?_)
  refine Zao ?_
  refine dj (dgy ?_)
  refine Zaz ?_
  refine dj (dgy ?_)
  refine dc (fun _ _ => Ai rfl rfl (Me (show ((Ag l m.line).last.length : Int) ≤ m.src by omega))) ?_
  refine djf ?_
  refine Zbf ?_;intro ρ er
  exact De (g13.1, .slice none 0 0) (hs := fun w hs => Af (St.shut (hs.rowNil 105 Msg)))
theorem Rd {v0 : Value} {l : List Entry} {id : Int} {m : Msg} (hs : St (L) R w) (h0 : sl v0 l ∈ R) (hb : ∀ i, i < l.length → EB (l.getD i Ay)) (hla : ∀ i, i < l.length → (l.getD i Ay).last.length ≤ 4) (hm : m.wf) (hid : Ao id) (hk : 0 ≤ m.line ∧ m.line < (l.length : Int) ∧ 0 ≤ m.src ∧ m.src < ((Ag l m.line).last.length : Int) ∧ m.kind = 1) : Calls Try.prog 41 [v0, vi id, .agg m.cells.toArray].toArray w (Bl (fun v : Value × Value => .tuple #[v.1, v.2]) (fun v => L) (fun v => sl v.1 (Al l id m).1 :: sl v.2 (Al l id m).2 :: R)) := by
 refine Zay ?_;intro hlen hm0 hid0
 clear hs
 refine Zaw ?_;intro b5 g13
 refine JC.conseqEx (γ := Value) (L' := fun u => foc 54 g13.1 l m.line.toNat (Entry.cells u (Ag l m.line)) :: row 3 u (Ag l m.line).last :: blk b5 105 m.cells :: L) (R' := fun u => pr (u.oneCell' = true) :: R) (fun w hs => by
  have h1 : g13.2.map EV.e = l := Fq (.head _) hs
  obtain ⟨u, h2, h3, h4⟩ := Hp m.line.toNat h1 (by omega) hs
  exact ⟨u, St.pr h3 (h4.sub .refl (fun f hf => .tail _ hf))⟩) (fun uo => ?_)
 refine ZaD ?_;intro honeo hEw u hE hE0 hL hone hlin
 refine dj (dgy ?_)
 refine Zao ?_
 refine dj (dgy ?_)
 refine Zaz ?_
 refine dj (dgy ?_)
 refine Za5 ?_;intro ρ hA honeE b51
 refine ZR ?_
 refine dnl ?_; intro ρ
 refine Zaf ?_
 refine C3 ?_
 refine Gd6 ?_
 refine Zce ?_;intro v69
 refine J.conseq (L' := foc 54 g13.1 l m.line.toNat (Entry.cells uo (Ad (Ag l m.line) id m).1) :: row 3 uo (Ad (Ag l m.line) id m).1.last :: blk b51 136 [ep g13.1 10 m.line.toNat 0, vi m.line, vi id, v69] :: row 105 v69 (Ad (Ag l m.line) id m).2 :: L) (fun w hs => by rw [List.nil_append] at hs; exact Af hs) ?_
 refine Gl ?_
 refine Zbs ?_;intro hEB ρ er
 exact De (g13.1, v69) (hs := fun w hs => Af (St.shut (hs.pick pkk)))
theorem Rb {v0 : Value} {l : List Entry} {id : Int} {m : Msg} (hs : St (L) R w) (h0 : sl v0 l ∈ R) (hb : ∀ i, i < l.length → EB (l.getD i Ay)) (hla : ∀ i, i < l.length → (l.getD i Ay).last.length ≤ 4) (hm : m.wf) (hid : Ao id) (hk : 0 ≤ m.line ∧ m.line < (l.length : Int) ∧ 0 ≤ m.src ∧ m.src < ((Ag l m.line).last.length : Int) ∧ m.kind = 2) : Calls Try.prog 41 [v0, vi id, .agg m.cells.toArray].toArray w (Bl (fun v : Value × Value => .tuple #[v.1, v.2]) (fun v => L) (fun v => sl v.1 (Al l id m).1 :: sl v.2 (Al l id m).2 :: R)) := by
 refine Zay ?_;intro hlen hm0 hid0
 clear hs
 refine Zaw ?_;intro b5 g13
 refine JC.conseqEx (γ := Value) (L' := fun u => foc 54 g13.1 l m.line.toNat (Entry.cells u (Ag l m.line)) :: row 3 u (Ag l m.line).last :: blk b5 105 m.cells :: L) (R' := fun u => pr (u.oneCell' = true) :: R) (fun w hs => by
  have h1 : g13.2.map EV.e = l := Fq (.head _) hs
  obtain ⟨u, h2, h3, h4⟩ := Hp m.line.toNat h1 (by omega) hs
  exact ⟨u, St.pr h3 (h4.sub .refl (fun f hf => .tail _ hf))⟩) (fun uo => ?_)
 refine ZaD ?_;intro honeo hEw u hE hE0 hL hone hlin
 refine dj (dgy ?_)
 refine Zao ?_
 refine dj (dgy ?_)
 refine Zaz ?_
 refine dj (dgy ?_)
 refine Za5 ?_;intro ρ hA honeE b51
 refine ZR ?_
 refine dnl ?_; intro ρ
 refine Zaf ?_
 refine Az ?_
 refine ZK ?_
 refine C3 ?_
 refine Gd2 ?_
 refine Zce ?_;intro v69
 refine J.conseq (L' := foc 54 g13.1 l m.line.toNat (Entry.cells uo (Ad (Ag l m.line) id m).1) :: row 3 uo (Ad (Ag l m.line) id m).1.last :: blk b51 136 [ep g13.1 10 m.line.toNat 0, vi m.line, vi id, v69] :: row 105 v69 (Ad (Ag l m.line) id m).2 :: L) (fun w hs => by rw [List.nil_append] at hs; exact Af hs) ?_
 refine Gl ?_
 refine Zbs ?_;intro hEB ρ er
 exact De (g13.1, v69) (hs := fun w hs => Af (St.shut (hs.pick pkk)))
theorem Ra {v0 : Value} {l : List Entry} {id : Int} {m : Msg} (hs : St (L) R w) (h0 : sl v0 l ∈ R) (hb : ∀ i, i < l.length → EB (l.getD i Ay)) (hla : ∀ i, i < l.length → (l.getD i Ay).last.length ≤ 4) (hm : m.wf) (hid : Ao id) (hk : 0 ≤ m.line ∧ m.line < (l.length : Int) ∧ 0 ≤ m.src ∧ m.src < ((Ag l m.line).last.length : Int) ∧ m.kind = 3) : Calls Try.prog 41 [v0, vi id, .agg m.cells.toArray].toArray w (Bl (fun v : Value × Value => .tuple #[v.1, v.2]) (fun v => L) (fun v => sl v.1 (Al l id m).1 :: sl v.2 (Al l id m).2 :: R)) := by
 refine Zay ?_;intro hlen hm0 hid0
 clear hs
 refine Zaw ?_;intro b5 g13
 refine JC.conseqEx (γ := Value) (L' := fun u => foc 54 g13.1 l m.line.toNat (Entry.cells u (Ag l m.line)) :: row 3 u (Ag l m.line).last :: blk b5 105 m.cells :: L) (R' := fun u => pr (u.oneCell' = true) :: R) (fun w hs => by
  have h1 : g13.2.map EV.e = l := Fq (.head _) hs
  obtain ⟨u, h2, h3, h4⟩ := Hp m.line.toNat h1 (by omega) hs
  exact ⟨u, St.pr h3 (h4.sub .refl (fun f hf => .tail _ hf))⟩) (fun uo => ?_)
 refine ZaD ?_;intro honeo hEw u hE hE0 hL hone hlin
 refine dj (dgy ?_)
 refine Zao ?_
 refine dj (dgy ?_)
 refine Zaz ?_
 refine dj (dgy ?_)
 refine Za5 ?_;intro ρ hA honeE b51
 refine ZR ?_
 refine dnl ?_; intro ρ
 refine Zaf ?_
 refine Az ?_
 refine ZK ?_
 refine Az ?_
 refine Gd2 ?_
 refine rn2 ?_
 refine C3 ?_
 refine Gc1 ?_
 refine kp [5, 6, 7, 8, 9, 10, 11, 74] ?_
 refine ZC ?_
 refine Ak Try.call59 rfl (fun w hs => Zr (vh := g13.1) (vo := .slice none 0 0) (u := uo) (i := m.line.toNat) (e := (Ag l m.line)) (ms := []) (line := m.line) (id := id) (xs := l) (m := m) (bm := b5) (LX := L) (Af hs) hA honeo (by simp) hE hm.2.2.2.1 hid hm rfl (by omega) hL (by omega)) ?_; intro v75
 refine J.conseq (L' := foc 54 g13.1 l m.line.toNat (Entry.cells uo (Ad (Ag l m.line) id m).1) :: row 3 uo (Ad (Ag l m.line) id m).1.last :: blk b51 136 [ep g13.1 10 m.line.toNat 0, vi m.line, vi id, v75] :: row 105 v75 (Ad (Ag l m.line) id m).2 :: L) (fun w hs => by rw [List.nil_append] at hs; exact Af hs) ?_
 refine Gl ?_
 refine Zam ?_;intro hEB
 refine Zan ?_;intro ρ er
 exact De (g13.1, v75) (hs := fun w hs => Af (St.shut (hs.pick pkk)))
theorem Q7 {v0 : Value} {l : List Entry} {id : Int} {m : Msg} (hs : St (L) R w) (h0 : sl v0 l ∈ R) (hb : ∀ i, i < l.length → EB (l.getD i Ay)) (hla : ∀ i, i < l.length → (l.getD i Ay).last.length ≤ 4) (hm : m.wf) (hid : Ao id) (hk : 0 ≤ m.line ∧ m.line < (l.length : Int) ∧ 0 ≤ m.src ∧ m.src < ((Ag l m.line).last.length : Int) ∧ m.kind ≠ 1 ∧ m.kind ≠ 2 ∧ m.kind ≠ 3 ∧ m.kind ≠ 9 ∧ m.kind ≠ 8 ∧ m.kind ≠ 10) : Calls Try.prog 41 [v0, vi id, .agg m.cells.toArray].toArray w (Bl (fun v : Value × Value => .tuple #[v.1, v.2]) (fun v => L) (fun v => sl v.1 (Al l id m).1 :: sl v.2 (Al l id m).2 :: R)) := by
 refine Zay ?_;intro hlen hm0 hid0
 clear hs
 refine Zaw ?_;intro b5 g13
 refine JC.conseqEx (γ := Value) (L' := fun u => foc 54 g13.1 l m.line.toNat (Entry.cells u (Ag l m.line)) :: row 3 u (Ag l m.line).last :: blk b5 105 m.cells :: L) (R' := fun u => pr (u.oneCell' = true) :: R) (fun w hs => by
  have h1 : g13.2.map EV.e = l := Fq (.head _) hs
  obtain ⟨u, h2, h3, h4⟩ := Hp m.line.toNat h1 (by omega) hs
  exact ⟨u, St.pr h3 (h4.sub .refl (fun f hf => .tail _ hf))⟩) (fun uo => ?_)
 refine ZaD ?_;intro honeo hEw u hE hE0 hL hone hlin
 refine dj (dgy ?_)
 refine Zao ?_
 refine dj (dgy ?_)
 refine Zaz ?_
 refine dj (dgy ?_)
 refine Za5 ?_;intro ρ hA honeE b51
 refine ZR ?_
 refine ZaW ?_;intro ρ
 refine Zav ?_
 refine ZaK ?_;intro eh hEB ρ er
 exact De (g13.1, .slice none 0 0) (hs := fun w hs => Af (St.shut (hs.pick pkk)))
theorem Q8 {v0 : Value} {l : List Entry} {id : Int} {m : Msg} (hs : St (L) R w) (h0 : sl v0 l ∈ R) (hb : ∀ i, i < l.length → EB (l.getD i Ay)) (hla : ∀ i, i < l.length → (l.getD i Ay).last.length ≤ 4) (hm : m.wf) (hid : Ao id) (hk : 0 ≤ m.line ∧ m.line < (l.length : Int) ∧ 0 ≤ m.src ∧ m.src < ((Ag l m.line).last.length : Int) ∧ m.kind = 9) : Calls Try.prog 41 [v0, vi id, .agg m.cells.toArray].toArray w (Bl (fun v : Value × Value => .tuple #[v.1, v.2]) (fun v => L) (fun v => sl v.1 (Al l id m).1 :: sl v.2 (Al l id m).2 :: R)) := by
 refine Zay ?_;intro hlen hm0 hid0
 clear hs
 refine Zaw ?_;intro b5 g13
 refine JC.conseqEx (γ := Value) (L' := fun u => foc 54 g13.1 l m.line.toNat (Entry.cells u (Ag l m.line)) :: row 3 u (Ag l m.line).last :: blk b5 105 m.cells :: L) (R' := fun u => pr (u.oneCell' = true) :: R) (fun w hs => by
  have h1 : g13.2.map EV.e = l := Fq (.head _) hs
  obtain ⟨u, h2, h3, h4⟩ := Hp m.line.toNat h1 (by omega) hs
  exact ⟨u, St.pr h3 (h4.sub .refl (fun f hf => .tail _ hf))⟩) (fun uo => ?_)
 refine ZaD ?_;intro honeo hEw u hE hE0 hL hone hlin
 refine dj (dgy ?_)
 refine Zao ?_
 refine dj (dgy ?_)
 refine Zaz ?_
 refine dj (dgy ?_)
 refine Za5 ?_;intro ρ hA honeE b51
 rcases (show (m.turn ≠ (Ag l m.line).turn) ∨ (m.turn = (Ag l m.line).turn ∧ (Ag l m.line).phase ≠ 1) ∨ (m.turn = (Ag l m.line).turn ∧ (Ag l m.line).phase = 1 ∧ m.src ≠ (Ag l m.line).owner) ∨ (m.turn = (Ag l m.line).turn ∧ (Ag l m.line).phase = 1 ∧ m.src = (Ag l m.line).owner) from by omega) with hc | hc | hc | hc
 ·refine Zbl ?_
  refine ZI ?_;intro ρ
  refine ZaN ?_
  refine ZaP ?_
  refine dn5 ?_
  refine ZT ?_
  refine Za4 ?_;intro ρ
  exact ZdE
 ·refine Zak ?_
  refine ZaQ ?_
  refine ZI ?_;intro ρ
  refine ZaN ?_
  refine ZaP ?_
  refine dn4 ?_
  refine dj (dgy ?_)
  refine ZZ ?_
  refine ZX ?_
  refine Za4 ?_;intro ρ
  exact ZdE
 ·refine Zak ?_
  refine ZaQ ?_
  refine ZI ?_;intro ρ
  refine ZaN ?_
  refine ZaP ?_
  refine dn4 ?_
  refine dj (dgy ?_)
  refine Za1 ?_
  refine dj (dgy ?_)
  refine ZZ ?_
  refine ZS ?_;intro ρ
  refine Glc ?_
  exact ZdE
 ·refine Zak ?_
  refine ZaQ ?_
  refine ZI ?_;intro ρ
  refine ZaN ?_
  refine ZaP ?_
  refine dn4 ?_
  refine dj (dgy ?_)
  refine Za1 ?_
  refine dj (dgy ?_)
  refine Zap ?_
  refine ZS ?_;intro ρ
  refine Gmc ?_
  refine rn5 ?_
  refine ZJ ?_
  refine Ga5 ?_
  refine Bg (b := ?b1) ?e1 ?_ ?_; case e1 => exact rfl
  ·intro ht108
   refine kp [5, 6, 7, 8, 9, 10, 11, 109, 110, 111, 112, 113, 114, 115, 116, 117, 118, 119, 120] ?_
   refine ZR ?_
   refine djc (fun _ _ => Ei (a := 1) (b := (Ag l m.line).owner) (Ny (by omega) (by omega))) ?_
   refine djc (fun _ _ => Ei (a := (Ag l m.line).sharers) (b := ((2 ^ (Ag l m.line).owner.toNat : Nat) : Int)) (b_orB (by omega) (by omega) (by omega) (by omega))) ?_
   refine dn2 ?_
   refine dtl ?_; intro ρ
   refine ZJ ?_
   refine rn3 ?_
   refine ZJ ?_
   refine rn1 ?_
   have hX : EB ({ (Ag l m.line) with value := m.value, sharers := (Gj (Ag l m.line).sharers (Ag l m.line).owner), owner := -1 }) := by obtain ⟨_, _, r9, _⟩ := Eg hE0.2.1.1 hE0.2.1.2 (show 0 ≤ (Ag l m.line).owner by omega) hE0.2.2.2.2.1.2; unfold EB Entry.wf Ao; simp only; omega
   have eh : (Ad (Ag l m.line) id m) = (Cs ({ (Ag l m.line) with value := m.value, sharers := (Gj (Ag l m.line).sharers (Ag l m.line).owner), owner := -1 }), Hl (Cs ({ (Ag l m.line) with value := m.value, sharers := (Gj (Ag l m.line).sharers (Ag l m.line).owner), owner := -1 })) m.line id) := by
    have hal : (Ag l m.line).alone = false := by simpa using ht108
    unfold Ad
    rw [if_neg (by omega), if_neg (by omega), if_pos (by omega)]
    unfold Hq
    rw [if_neg (by rw [hal]; decide)]
   refine Ak Try.call60 rfl (fun w hs => Jt (vh := g13.1) (vo := .slice none 0 0) (u := uo) (i := m.line.toNat) (e := { (Ag l m.line) with value := m.value, sharers := (Gj (Ag l m.line).sharers (Ag l m.line).owner), owner := -1 }) (ms := []) (line := m.line) (id := id) (xs := l) (LX := row 3 uo (Ag l m.line).last :: blk b5 105 m.cells :: L) (Af hs) hA honeo (by simp) hX hm.2.2.2.1 hid) ?_; intro v125
   refine J.conseq (L' := foc 54 g13.1 l m.line.toNat (Entry.cells uo (Ad (Ag l m.line) id m).1) :: row 3 uo (Ad (Ag l m.line) id m).1.last :: blk b51 136 [ep g13.1 10 m.line.toNat 0, vi m.line, vi id, v125] :: row 105 v125 (Ad (Ag l m.line) id m).2 :: L) (fun w hs => by rw [List.nil_append] at hs; rw [eh, G1]; exact Af hs) ?_
   refine Gl ?_
   refine Zam ?_;intro hEB
   refine Zan ?_;intro ρ er
   exact De (g13.1, v125) (hs := fun w hs => Af (St.shut (hs.pick pkk)))
  ·intro ht108
   refine Gl ?_
   refine kp [5, 6, 7, 8, 9, 10, 11, 121, 122, 123] ?_
   refine ZP ?_
   refine ZJ ?_
   refine rn1 ?_
   have hX : EB ({ (Ag l m.line) with value := m.value, sharers := (Ag l m.line).sharers, owner := -1 }) := by unfold EB Entry.wf Ao; simp only; omega
   have eh : (Ad (Ag l m.line) id m) = (Cs ({ (Ag l m.line) with value := m.value, sharers := (Ag l m.line).sharers, owner := -1 }), Hl (Cs ({ (Ag l m.line) with value := m.value, sharers := (Ag l m.line).sharers, owner := -1 })) m.line id) := by
    have hal : (Ag l m.line).alone = true := by simpa using ht108
    unfold Ad
    rw [if_neg (by omega), if_neg (by omega), if_pos (by omega)]
    unfold Hq
    rw [if_pos hal]
   refine Ak Try.call60 rfl (fun w hs => Jt (vh := g13.1) (vo := .slice none 0 0) (u := uo) (i := m.line.toNat) (e := { (Ag l m.line) with value := m.value, sharers := (Ag l m.line).sharers, owner := -1 }) (ms := []) (line := m.line) (id := id) (xs := l) (LX := row 3 uo (Ag l m.line).last :: blk b5 105 m.cells :: L) (Af hs) hA honeo (by simp) hX hm.2.2.2.1 hid) ?_; intro v125
   refine J.conseq (L' := foc 54 g13.1 l m.line.toNat (Entry.cells uo (Ad (Ag l m.line) id m).1) :: row 3 uo (Ad (Ag l m.line) id m).1.last :: blk b51 136 [ep g13.1 10 m.line.toNat 0, vi m.line, vi id, v125] :: row 105 v125 (Ad (Ag l m.line) id m).2 :: L) (fun w hs => by rw [List.nil_append] at hs; rw [eh, G1]; exact Af hs) ?_
   refine Gl ?_
   refine Zam ?_;intro hEB
   refine Zan ?_;intro ρ er
   exact De (g13.1, v125) (hs := fun w hs => Af (St.shut (hs.pick pkk)))
theorem Q9 {v0 : Value} {l : List Entry} {id : Int} {m : Msg} (hs : St (L) R w) (h0 : sl v0 l ∈ R) (hb : ∀ i, i < l.length → EB (l.getD i Ay)) (hla : ∀ i, i < l.length → (l.getD i Ay).last.length ≤ 4) (hm : m.wf) (hid : Ao id) (hk : 0 ≤ m.line ∧ m.line < (l.length : Int) ∧ 0 ≤ m.src ∧ m.src < ((Ag l m.line).last.length : Int) ∧ m.kind = 8) : Calls Try.prog 41 [v0, vi id, .agg m.cells.toArray].toArray w (Bl (fun v : Value × Value => .tuple #[v.1, v.2]) (fun v => L) (fun v => sl v.1 (Al l id m).1 :: sl v.2 (Al l id m).2 :: R)) := by
 refine Zay ?_;intro hlen hm0 hid0
 clear hs
 refine Zaw ?_;intro b5 g13
 refine JC.conseqEx (γ := Value) (L' := fun u => foc 54 g13.1 l m.line.toNat (Entry.cells u (Ag l m.line)) :: row 3 u (Ag l m.line).last :: blk b5 105 m.cells :: L) (R' := fun u => pr (u.oneCell' = true) :: R) (fun w hs => by
  have h1 : g13.2.map EV.e = l := Fq (.head _) hs
  obtain ⟨u, h2, h3, h4⟩ := Hp m.line.toNat h1 (by omega) hs
  exact ⟨u, St.pr h3 (h4.sub .refl (fun f hf => .tail _ hf))⟩) (fun uo => ?_)
 refine ZaD ?_;intro honeo hEw u hE hE0 hL hone hlin
 refine dj (dgy ?_)
 refine Zao ?_
 refine dj (dgy ?_)
 refine Zaz ?_
 refine dj (dgy ?_)
 refine Za5 ?_;intro ρ hA honeE b51
 rcases (show (m.turn ≠ (Ag l m.line).turn) ∨ (m.turn = (Ag l m.line).turn ∧ (Ag l m.line).phase ≠ 2) ∨ (m.turn = (Ag l m.line).turn ∧ (Ag l m.line).phase = 2 ∧ H8 (Ag l m.line).need m.src = false) ∨ (m.turn = (Ag l m.line).turn ∧ (Ag l m.line).phase = 2 ∧ H8 (Ag l m.line).need m.src = true) from by rcases Bool.eq_false_or_eq_true (H8 (Ag l m.line).need m.src) with h1 | h1 <;> simp only [h1, and_true, and_false, or_false, false_or, reduceCtorEq] <;> omega) with hc | hc | hc | hc
 ·refine Zbl ?_
  refine djc (fun _ _ => Ch) ?_
  refine ZaW ?_;intro ρ
  refine ZO ?_
  refine dn1 ?_
  refine ZX ?_
  refine dn5 ?_
  refine ZT ?_
  exact Zda
 ·refine ZaI ?_;intro ρ
  refine ZO ?_
  refine dn1 ?_
  refine ZX ?_
  refine dn4 ?_
  refine dj (dgy ?_)
  refine ZZ ?_
  refine ZX ?_
  exact Zda
 ·refine ZaI ?_;intro ρ
  refine ZO ?_
  refine dn1 ?_
  refine ZX ?_
  refine dn4 ?_
  refine dj (dgy ?_)
  refine Za1 ?_
  refine dj (dgy ?_)
  refine dc (fun _ _ => Ei (a := (Ag l m.line).need) (b := m.src) (Kr (by omega) (by omega) (by omega) (by omega))) ?_
  refine dj (dgy ?_)
  refine Zcm ?_
  refine dj (dgy ?_)
  refine dc (fun _ _ => Ai rfl rfl (A1 (by rw [if_neg (by rw [hc.2.2]; decide)]; decide))) ?_
  refine ZY ?_
  refine ZI ?_;intro ρ
  refine Zbq ?_
  refine Zav ?_
  refine Za4 ?_;intro ρ
  have eh : (Ad (Ag l m.line) id m) = ((Ag l m.line), []) := by unfold Ad; rw [if_neg (by omega), if_neg (by omega), if_neg (by omega), if_neg (fun h => by have h4 := h.2.2.2; rw [hc.2.2] at h4; cases h4), if_neg (by omega)]
  exact Zdb
 ·have hhas := hc.2.2
  refine ZaI ?_;intro ρ
  refine ZO ?_
  refine dn1 ?_
  refine ZX ?_
  refine dn4 ?_
  refine dj (dgy ?_)
  refine Za1 ?_
  refine dj (dgy ?_)
  refine dc (fun _ _ => Ei (a := (Ag l m.line).need) (b := m.src) (Kr (by omega) (by omega) (by omega) (by omega))) ?_
  refine dj (dgy ?_)
  refine Zcm ?_
  refine dj (dgy ?_)
  refine dc (fun _ _ => Ai rfl rfl (Av (by rw [if_pos hc.2.2]))) ?_
  refine ZS ?_;intro ρ
  refine Glc ?_
  refine kp [5, 6, 7, 8, 9, 10, 11, 151, 152, 153, 154, 155, 156, 157, 158, 159, 160] ?_
  refine Zak ?_
  refine djc (fun _ _ => Ei (a := 1) (b := m.src) (Ny (by omega) (by omega))) ?_
  refine djc (fun _ _ => Ei (a := (Ag l m.line).need) (b := ((2 ^ m.src.toNat : Nat) : Int)) (Ks (by omega) (by omega) (by omega) (by omega))) ?_
  refine dn2 ?_
  refine dtl ?_; intro ρ
  refine sc ?_
  refine Gl ?_
  refine Zak ?_
  refine djc (fun _ _ => Ei (a := 1) (b := m.src) (Ny (by omega) (by omega))) ?_
  refine djc (fun _ _ => Ei (a := (Ag l m.line).sharers) (b := ((2 ^ m.src.toNat : Nat) : Int)) (Ks (by omega) (by omega) (by omega) (by omega))) ?_
  refine dn2 ?_
  refine dtl ?_; intro ρ
  refine ZJ ?_
  refine Ga5 ?_
  refine cdy ?_ ?_
  ·intro ht175
   refine ZC ?_
   have hX : EB ((Ce (Ag l m.line) m)) := by have c1 := (Eg hE0.2.1.1 hE0.2.1.2 (show 0 ≤ m.src by omega) (show m.src < 4 by omega)).2.2.2; have c2 := (Eg hE0.2.2.1.1 hE0.2.2.1.2 (show 0 ≤ m.src by omega) (show m.src < 4 by omega)).2.2.2; unfold Ce EB Entry.wf Ao; simp only; omega
   have eh : (Ad (Ag l m.line) id m) = (Cs ((Ce (Ag l m.line) m)), Hl (Cs ((Ce (Ag l m.line) m))) m.line id) := by
    unfold Ad
    rw [if_neg (by omega), if_neg (by omega), if_neg (by omega), if_pos ⟨by omega, by omega, by omega, hhas⟩, if_pos (by unfold Ce; simp only; omega)]
   refine Ak Try.call60 rfl (fun w hs => Jt (vh := g13.1) (vo := .slice none 0 0) (u := uo) (i := m.line.toNat) (e := (Ce (Ag l m.line) m)) (ms := []) (line := m.line) (id := id) (xs := l) (LX := row 3 uo (Ag l m.line).last :: blk b5 105 m.cells :: L) (Af hs) hA honeo (by simp) hX hm.2.2.2.1 hid) ?_; intro v177
   refine J.conseq (L' := foc 54 g13.1 l m.line.toNat (Entry.cells uo (Ad (Ag l m.line) id m).1) :: row 3 uo (Ad (Ag l m.line) id m).1.last :: blk b51 136 [ep g13.1 10 m.line.toNat 0, vi m.line, vi id, v177] :: row 105 v177 (Ad (Ag l m.line) id m).2 :: L) (fun w hs => by rw [List.nil_append] at hs; rw [eh, G1]; exact Af hs) ?_
   refine Gl ?_
   refine Zam ?_;intro hEB
   refine Zan ?_;intro ρ er
   exact De (g13.1, v177) (hs := fun w hs => Af (St.shut (hs.pick pkk)))
  ·intro ht175
   refine Gl ?_
   have eh : (Ad (Ag l m.line) id m) = ((Ce (Ag l m.line) m), []) := by
    unfold Ad
    rw [if_neg (by omega), if_neg (by omega), if_neg (by omega), if_pos ⟨by omega, by omega, by omega, hhas⟩, if_neg (by unfold Ce; simp only; omega)]
   exact Zdb
theorem Ou {v0 : Value} {l : List Entry} {id : Int} {m : Msg} (hs : St (L) R w) (h0 : sl v0 l ∈ R) (hb : ∀ i, i < l.length → EB (l.getD i Ay)) (hla : ∀ i, i < l.length → (l.getD i Ay).last.length ≤ 4) (hm : m.wf) (hid : Ao id) (hk : 0 ≤ m.line ∧ m.line < (l.length : Int) ∧ 0 ≤ m.src ∧ m.src < ((Ag l m.line).last.length : Int) ∧ m.kind = 10) : Calls Try.prog 41 [v0, vi id, .agg m.cells.toArray].toArray w (Bl (fun v : Value × Value => .tuple #[v.1, v.2]) (fun v => L) (fun v => sl v.1 (Al l id m).1 :: sl v.2 (Al l id m).2 :: R)) := by
 refine Zay ?_;intro hlen hm0 hid0
 clear hs
 refine Zaw ?_;intro b5 g13
 refine JC.conseqEx (γ := Value) (L' := fun u => foc 54 g13.1 l m.line.toNat (Entry.cells u (Ag l m.line)) :: row 3 u (Ag l m.line).last :: blk b5 105 m.cells :: L) (R' := fun u => pr (u.oneCell' = true) :: R) (fun w hs => by
  have h1 : g13.2.map EV.e = l := Fq (.head _) hs
  obtain ⟨u, h2, h3, h4⟩ := Hp m.line.toNat h1 (by omega) hs
  exact ⟨u, St.pr h3 (h4.sub .refl (fun f hf => .tail _ hf))⟩) (fun uo => ?_)
 refine ZaD ?_;intro honeo hEw u hE hE0 hL hone hlin
 refine dj (dgy ?_)
 refine Zao ?_
 refine dj (dgy ?_)
 refine Zaz ?_
 refine dj (dgy ?_)
 refine Za5 ?_;intro ρ hA honeE b51
 rcases (show (m.turn ≠ (Ag l m.line).turn) ∨ (m.turn = (Ag l m.line).turn ∧ (Ag l m.line).phase ≠ 3) ∨ (m.turn = (Ag l m.line).turn ∧ (Ag l m.line).phase = 3 ∧ m.src ≠ (Ag l m.line).who) ∨ (m.turn = (Ag l m.line).turn ∧ (Ag l m.line).phase = 3 ∧ m.src = (Ag l m.line).who) from by omega) with hc | hc | hc | hc
 ·refine Zbl ?_
  refine djc (fun _ _ => Ch) ?_
  refine ZaW ?_;intro ρ
  refine ZaY ?_;intro ρ
  refine dn5 ?_
  refine ZT ?_
  refine Za4 ?_;intro ρ
  exact Zd3
 ·refine ZaI ?_;intro ρ
  refine ZaY ?_;intro ρ
  refine dn4 ?_
  refine dj (dgy ?_)
  refine ZZ ?_
  refine ZX ?_
  refine Za4 ?_;intro ρ
  exact Zd3
 ·refine ZaI ?_;intro ρ
  refine ZaY ?_;intro ρ
  refine dn4 ?_
  refine dj (dgy ?_)
  refine Za1 ?_
  refine dj (dgy ?_)
  refine ZZ ?_
  refine ZS ?_;intro ρ
  refine Glc ?_
  exact Zd3
 ·refine ZaI ?_;intro ρ
  refine ZaY ?_;intro ρ
  refine dn4 ?_
  refine dj (dgy ?_)
  refine Za1 ?_
  refine dj (dgy ?_)
  refine Zap ?_
  refine ZS ?_;intro ρ
  refine Glc ?_
  refine ZR ?_
  refine djc (fun _ _ => Ei (a := 1) (b := (Ag l m.line).who) (Ny (by omega) (by omega))) ?_
  refine djc (fun _ _ => Ei (a := (Ag l m.line).sharers) (b := ((2 ^ (Ag l m.line).who.toNat : Nat) : Int)) (b_orB (by omega) (by omega) (by omega) (by omega))) ?_
  refine dn2 ?_
  refine dtl ?_; intro ρ
  refine sc ?_
  refine Gl ?_
  refine kp [6, 7, 8, 9, 10, 213, 214, 215, 216] ?_
  refine Aa ?_
  refine Ga4 ?_
  refine Bg (b := ?b1) ?e1 ?_ ?_; case e1 => exact rfl
  ·intro ht216
   refine Aa ?_
   refine rn8 ?_
   refine Zax ?_
   refine ZJ ?_
   refine rn6 ?_
   refine Zax ?_
   refine Zax ?_
   refine ZaH ?_
   have eh : (Ad (Ag l m.line) id m) = ({ (Ag l m.line) with owner := (Ag l m.line).who, sharers := 0, phase := 0, who := 0, serial := 0, alone := false }, []) := by
    unfold Ad
    rw [if_neg (by omega), if_neg (by omega), if_neg (by omega), if_neg (by omega), if_pos (by omega)]
    unfold E7
    rw [if_pos ht216]
   refine ZaS ?_
   refine Zbs ?_;intro hEB ρ er
   exact Zcz
  ·intro ht216
   refine Gm ?_
   refine rn6 ?_
   refine Zax ?_
   refine Zax ?_
   refine ZaH ?_
   have eh : (Ad (Ag l m.line) id m) = ({ (Ag l m.line) with sharers := Gj (Ag l m.line).sharers (Ag l m.line).who, phase := 0, who := 0, serial := 0, alone := false }, []) := by
    unfold Ad
    rw [if_neg (by omega), if_neg (by omega), if_neg (by omega), if_neg (by omega), if_pos (by omega)]
    unfold E7
    rw [if_neg (by rw [ht216]; decide)]
   exact Zdb
theorem Nb {v0 : Value} {l : List Entry} {id : Int} {m : Msg} (hs : St (L) R w) (h0 : sl v0 l ∈ R) (hb : ∀ i, i < l.length → EB (l.getD i Ay)) (hla : ∀ i, i < l.length → (l.getD i Ay).last.length ≤ 4) (hm : m.wf) (hid : Ao id) : Calls Try.prog 41 [v0, vi id, .agg m.cells.toArray].toArray w (Bl (fun v : Value × Value => .tuple #[v.1, v.2]) (fun v => L) (fun v => sl v.1 (Al l id m).1 :: sl v.2 (Al l id m).2 :: R)) := by
 by_cases h : 0 ≤ m.line ∧ m.line < (l.length : Int) ∧ 0 ≤ m.src ∧ m.src < ((Ag l m.line).last.length : Int)
 ·by_cases h1 : m.kind = 1
  ·exact Rd hs h0 hb hla hm hid (by omega)
  by_cases h2 : m.kind = 2
  ·exact Rb hs h0 hb hla hm hid (by omega)
  by_cases h3 : m.kind = 3
  ·exact Ra hs h0 hb hla hm hid (by omega)
  by_cases h9 : m.kind = 9
  ·exact Q8 hs h0 hb hla hm hid (by omega)
  by_cases h8 : m.kind = 8
  ·exact Q9 hs h0 hb hla hm hid (by omega)
  by_cases h10 : m.kind = 10
  ·exact Ou hs h0 hb hla hm hid (by omega)
  exact Q7 hs h0 hb hla hm hid (by omega)
 ·exact Re hs h0 hb hla hm hid h
theorem Q6 {v0 : Value} {l : List Entry} {id : Int} (hs : St (L) R w) (h0 : sl v0 l ∈ R) (hb : ∀ i, i < l.length → EB (l.getD i Ay)) (hln : l.length ≤ 100) (hid : Ao id) : Calls Try.prog 44 [v0, vi id].toArray w (Bl (fun v : Value => v) (fun v => L) (fun v => sl v (E5 l id) :: R)) := by
 have hlen := Bv h0 hs
 refine Ah Try.func44 rfl Try.ntmps44 rfl hs ?_
 clear hs
 refine ZH ?_
 refine Gb1 ?_
 refine rn1 ?_
 refine Ak Try.call31 rfl (fun w hs => Py (l := l) hs mm) ?_; intro v10
 refine Gb1 ?_
 refine Ga3 ?_
 refine ZV ?_
 refine Bf (γ := Nat × Value) (fun g => g.1 ≤ l.length) (fun g => row 105 g.2 (Cr id 0 (l.take g.1)) :: L) (fun _ => sl v10 l :: R) (fun g => [(1, vi id), (5, g.2), (6, v10), (12, vi (l.length : Int)), (13, vi (g.1 : Int))]) (fun g => l.length - g.1) (0, .slice none 0 0) (Nat.zero_le _) alT (fun w hs => hs) ?_
 rintro ⟨k, vs⟩ hk
 try simp only at hk ⊢
 have hsl := Jb id (l.take k) 0
 rw [List.length_take] at hsl
 refine ZA ?_
 refine cdy ?_ ?_
 ·intro ht14
  refine ZD ?_
  refine Vz (l := l) (v := v10) k mm (by omega) (fun _ u => ?_)
  refine JC.know (p := EpAll v10 10 k) (fun w hs => ok_c (v := v10) (i := k) (.head _) w hs) (fun hA => ?_)
  have honeE : (ep v10 10 k 0).oneCell' = true := hA.one
  refine Aa ?_
  refine rn6 ?_
  refine bx ?_; intro b22
  refine Ga1 ?_
  refine ZV ?_
  refine ZC ?_
  refine Ak Try.call65 rfl (fun w hs => Gv (vh := v10) (vo := .slice none 0 0) (u := u) (i := k) (e := (l.getD k Ay)) (ms := []) (line := (k : Int)) (id := id) (LX := row 105 vs (Cr id 0 (l.take k)) :: L) (Af hs) (U5 (cs := Entry.cells u (l.getD k Ay)) mm) hA (by simp) (hb k (by omega)) (by unfold Ao; omega) hid) ?_; intro vq
  refine Gl ?_
  refine JC.shut (v := vq) pkk ?_
  have hs4 := Pl (l.getD k Ay) (k : Int) id
  refine Zah ?_
  refine ap Km (hb := fun w hs => by have : maxN = 16777216 := rfl; simp only [List.length_append, List.length_nil]; omega) (k := ?_); intro v30
  refine ZL ?_
  refine A3 (k + 1, v30) (by show k + 1 ≤ l.length; omega) (by show l.length - (k + 1) < l.length - k; omega) alT (fun w hs => ?_)
  try simp only
  rw [Kx Ay (by omega), H1, List.length_take, Nat.min_eq_left (by omega), Int.zero_add]; exact Af hs
 ·intro ht14
  refine ZD ?_
  have hkl : k = l.length := by omega
  rw [show Cr id 0 (l.take k) = E5 l id from by rw [hkl, List.take_length]; rfl]
  exact Be vs (hs := fun w hs => Af (St.shut (hs.pick pkk)))
theorem Wk {cores lines : Int} (hs : St (L) R w) (hc : 0 ≤ cores ∧ cores ≤ 4) (hl : 0 ≤ lines ∧ lines ≤ 4) : Calls Try.prog 17 [vi cores, vi lines].toArray w (Bl (fun v : Value => v) (fun v => L) (fun v => sl v (Ke cores lines) :: R)) := by
 refine Ah Try.func17 rfl Try.ntmps17 rfl hs ?_
 clear hs
 refine ZH ?_
 refine ZL ?_
 refine JC.rowNil 54 Entry ?_
 refine Bf (γ := Nat × Value) (fun g => (g.1 : Int) ≤ lines) (fun g => row 54 g.2 (List.replicate g.1 (Ft ⟨cores, lines⟩)) :: L) (fun _ => R) (fun g => [(0, vi cores), (5, g.2), (6, vi lines), (7, vi (g.1 : Int))]) (fun g => lines.toNat - g.1) (0, .slice none 0 0) (by show (0 : Int) ≤ lines; omega) alT (fun w hs => hs) ?_
 rintro ⟨k, vs⟩ hk
 try simp only at hk ⊢
 refine ZA ?_
 refine cdy ?_ ?_
 ·intro ht8
  refine Zaf ?_
  refine ob (q_max (a := cores) rfl (by omega)) ?_
  refine S2 (α := Int) (x0 := 0) (zc := [vi 0]) Ko rfl (by decide) rfl rfl rfl (fun j => ⟨rfl, by unfold Ao; omega⟩) (by omega) (by omega) ?_; intro v12
  refine J.shut .hd ?_
  refine J.know (p := v12.oneCell' = true) (fun w hs => isSlice.one (hs.fact (.head _))) (fun honev12 => ?_)
  refine rn1 ?_
  refine li (α := Entry) [Ft ⟨cores, lines⟩] Rn rfl (fun j hj => ⟨⟨_, rfl, ⟨_, rfl, hj _ (.head _), M4 ⟨cores, lines⟩⟩⟩, trivial⟩) ?_; intro v14
  refine ap Rn (hb := fun w hs => by have : maxN = 16777216 := rfl; simp only [List.length_replicate, List.length_cons, List.length_nil]; omega) (k := ?_); intro v15
  refine ZL ?_
  refine A3 (k + 1, v15) (by show ((k + 1 : Nat) : Int) ≤ lines; omega) (by show lines.toNat - (k + 1) < lines.toNat - k; omega) alT (fun w hs => ?_)
  try simp only
  rw [Jr]; exact Af hs
 ·intro ht8
  refine ZD ?_
  have hkl : k = lines.toNat := by omega
  rw [show List.replicate k (Ft ⟨cores, lines⟩) = Ke cores lines from by rw [hkl]; rfl]
  exact Be vs (hs := fun w hs => Af (St.shut (hs.pick pkk)))
end Go.Proofs.Ytbigiimomnfpdaa
set_option maxHeartbeats 1000000
set_option maxRecDepth 8000
namespace Go.Proofs.Ytbigiimomnfpdaa
open Go
end Go.Proofs.Ytbigiimomnfpdaa
set_option maxHeartbeats 1000000
set_option maxRecDepth 8000
namespace Go.Proofs.Ytbigiimomnfpdaa
open Go
end Go.Proofs.Ytbigiimomnfpdaa
set_option maxHeartbeats 1000000
set_option maxRecDepth 8000
namespace Go.Proofs.Ytbigiimomnfpdaa
open Go
end Go.Proofs.Ytbigiimomnfpdaa
set_option maxHeartbeats 1000000
set_option maxRecDepth 8000
namespace Go.Proofs.Ytbigiimomnfpdaa
open Go
end Go.Proofs.Ytbigiimomnfpdaa
set_option maxHeartbeats 1000000
set_option maxRecDepth 8000
namespace Go.Proofs.Ytbigiimomnfpdaa
open Go
end Go.Proofs.Ytbigiimomnfpdaa
set_option maxHeartbeats 1000000
set_option maxRecDepth 8000
namespace Go.Proofs.Ytbigiimomnfpdaa
open Go
variable {L : List Chunk} {R : List Fact} {w : World}
theorem G2 {v0 : Value} {l : Frames} {n : Int} (hs : St (L) R w) (h0 : sl v0 l ∈ R) (hn : Ao n) : Calls Try.prog 22 [v0, vi n].toArray w (Bl (fun v : Value × Value => .tuple #[v.1, v.2, vi (Ck l n).2.2]) (fun v => row 60 v.1 (Ck l n).1 :: L) (fun v => sl v.2 (Ck l n).2.1 :: R)) := by
 have hlen := Bv h0 hs
 unfold Ao at hn
 refine Ah Try.func22 rfl Try.ntmps22 rfl hs ?_
 clear hs
 refine Za2 ?_
 rcases (show (n < 0) ∨ (¬ n < 0 ∧ (l.length : Int) ≤ n) ∨ (0 ≤ n ∧ n < (l.length : Int)) from by omega) with hc | hc | hc
 ·refine ZC ?_
  refine E4 ?_
  refine Gd6 ?_
  exact ZcS
 ·refine Zae ?_
  refine ZE ?_
  refine Jk ?_
  refine Gd1 ?_
  exact ZcS
 ·refine Zae ?_
  refine ZE ?_
  refine Ea ?_
  refine Gd1 ?_
  refine rn1 ?_
  refine Ak Try.call32 rfl (fun w hs => Pr hs mm) ?_; intro v18
  refine Gb1 ?_
  refine rn2 ?_
  refine ob (It Mo) ?_
  refine l_Sr Try.isAgg60 rfl .hd (by omega) ?_; intro v22
  refine Gb1 ?_
  refine rn3 ?_
  refine ob Qw ?_
  rw [show n + 1 = ((n.toNat + 1 : Nat) : Int) by omega]
  refine Ak Try.call38 rfl (fun w hs => by have h := Tc (i := n.toNat) (Yt hs) (by omega); rw [Int.toNat_of_nonneg (by omega)] at h; exact h) ?_; intro v27
  refine Ga4 ?_
  have er : Ck l n = (l.eraseIdx n.toNat, Cq l n, 0) := by unfold Ck; rw [if_neg (by omega)]
  rw [er]
  exact Iq (v27, v22)
theorem M5 {v0 : Value} {l : Frames} {n : Int} (hs : St (L) R w) (h0 : sl v0 l ∈ R) (hn : Ao n) : Calls Try.prog 24 [v0, vi n].toArray w (Bl (fun v : Value => .tuple #[v, vi (Du l n).2]) (fun v => row 60 v (Du l n).1 :: L) (fun v => R)) := by
 have hlen := Bv h0 hs
 unfold Ao at hn
 refine Ah Try.func24 rfl Try.ntmps24 rfl hs ?_
 clear hs
 refine ZD ?_
 rcases (show (n < 0) ∨ (¬ n < 0 ∧ (l.length : Int) ≤ n) ∨ (0 ≤ n ∧ n < (l.length : Int)) from by omega) with hc | hc | hc
 ·refine ZC ?_
  refine E4 ?_
  refine Gd6 ?_
  exact Zdq
 ·refine Zae ?_
  refine ZE ?_
  refine Jk ?_
  refine Gd1 ?_
  exact Zdq
 ·refine Zae ?_
  refine ZE ?_
  refine Ea ?_
  refine Gc1 ?_
  refine JC.open1 (xs := l) n.toNat mm (by omega) (fun _ u => ?_)
  refine Zah ?_
  refine Ak Try.call36 rfl (fun w hs => Pq hs mm mm) ?_; intro v19
  refine Ga2 ?_
  have er : Du l n = (Dx l (Cq l n), 0) := by unfold Du; rw [if_neg (by omega)]
  rw [er]
  exact De v19
theorem Tb {v0 : Value} {l : Frames} {n bit : Int} (hs : St (L) R w) (h0 : sl v0 l ∈ R) (hn : Ao n) (hbit : Ao bit) : Calls Try.prog 43 [v0, vi n, vi bit].toArray w (Bl (fun v : Value => .tuple #[v, vi (Bo l n bit).2]) (fun v => row 60 v (Bo l n bit).1 :: L) (fun v => R)) := by
 have hlen := Bv h0 hs
 unfold Ao at hn
 refine Ah Try.func43 rfl Try.ntmps43 rfl hs ?_
 clear hs
 refine ZD ?_
 rcases (show (n < 0) ∨ (¬ n < 0 ∧ (l.length : Int) ≤ n) ∨ (0 ≤ n ∧ n < (l.length : Int)) from by omega) with hc | hc | hc
 ·refine ZC ?_
  refine E4 ?_
  refine Gd6 ?_
  exact Zdo
 ·refine Zae ?_
  refine ZE ?_
  refine Jk ?_
  refine Gd1 ?_
  exact Zdo
 ·refine Zae ?_
  refine ZE ?_
  refine Ea ?_
  refine Gc1 ?_
  refine JC.open1 (xs := l) n.toNat mm (by omega) (fun _ u => ?_)
  refine JC.know (p := (l.getD n.toNat []).length ≤ 16777216) (fun w hs => Bv (α := UInt8) (v := u) (.tail _ (.head _)) hs) (fun hlb => ?_)
  rcases (show (bit < 0) ∨ (¬ bit < 0 ∧ 8 * ((l.getD n.toNat []).length : Int) ≤ bit) ∨ (0 ≤ bit ∧ bit < 8 * ((l.getD n.toNat []).length : Int)) from by omega) with hc | hc | hc
  ·refine ZC ?_
   refine E4 ?_
   refine Gd10 ?_
   exact Zdi
  ·refine Zae ?_
   refine Zco ?_
   refine Jk ?_
   refine Gd1 ?_
   exact Zdi
  ·refine Zae ?_
   refine Zco ?_
   refine Ea ?_
   refine Gd1 ?_
   refine rn1 ?_
   refine Ak Try.call32 rfl (fun w hs => Pr hs mm) ?_; intro v30
   refine Gb1 ?_
   refine rn4 ?_
   refine ob (It Mo) ?_
   refine l_Sr Try.isAgg60 rfl .hd (by omega) ?_; intro v36
   refine rn1 ?_
   refine Ak Try.call64 rfl (fun w hs => Kg (bit := bit) hs mm hbit) ?_; intro v38
   refine ob (It Mo) ?_
   refine s_Sr Try.sizeOf60 rfl rfl mm .hd (by omega) ?_
   refine Gl ?_
   refine kp [6, 7, 8, 40] ?_
   refine Aa ?_
   refine Ga3 ?_
   have er : Bo l n bit = (l.set n.toNat (D1 (Cq l n) bit), 0) := by unfold Bo Cq; rw [if_neg (by omega), if_neg (by omega)]
   rw [er]
   exact De v30
theorem V0 {P : Program} {n : Nat} {Q : Exit → Act → World → Prop} {L : List Chunk} {R : List Fact} {al : List (Nat × Value)} {c : Code} {v : Value} {x : Chip} (i : Int) (hm : sl v x.cores ∈ R) (h0 : 0 ≤ i) (hi : i < x.cores.length) (k : (Au x i).wait.wf → ∀ u, JC P n c Q L (cF v 4 i.toNat (Core.cells u (Au x i)) :: sl u (Au x i).lines :: R) al) : JC P n c Q L R al := JC.open1 i.toNat hm (by omega) k
theorem R8 {c : Core} {id home : Int} {o : Op} (ho : o.wf) : (Aj c id home o).1.wait.wf := by
 have hz : zOp.wf := by unfold zOp Op.wf Ao; simp only; omega
 unfold Aj
 split
 ·exact hz
 split
 ·exact hz
 split
 ·exact hz
 split
 ·exact hz
 ·exact ho
theorem Tt {c : Core} {id home : Int} {m : Msg} (ho : c.wait.wf) : (Ac c id home m).1.wait.wf := by
 have hz : zOp.wf := by unfold zOp Op.wf Ao; simp only; omega
 unfold Ac
 split
 ·exact ho
 split
 ·exact ho
 split
 ·split
  ·show (if _ then zOp else c.wait).wf
   split
   ·exact hz
   ·exact ho
  split
  ·exact ho
  ·exact ho
 split
 ·split
  ·exact ho
  split
  ·exact hz
  ·exact ho
 split
 ·exact hz
 ·exact ho
section
variable {n nl : Nat} {x : Chip} {M : List Int}
theorem Inv.lbs (h : Inv n nl x M) {p : Int} (hp : 0 ≤ p ∧ p < x.cores.length) : ∀ i, i < (Au x p).lines.length → LB ((Au x p).lines.getD i zLine) := fun i hi => by
 have hnc := h.nc
 have h1 : (Au x p).lines.length = nl := h.ncl p.toNat (by omega)
 exact h.lb (i := i) (p := p.toNat) (by omega) (by omega)
theorem Inv.ebs (h : Inv n nl x M) : ∀ i, i < x.home.length → EB (x.home.getD i Ay) ∧ (x.home.getD i Ay).turn ≤ 65535 ∧ (0 ≤ (x.home.getD i Ay).serial ∧ (x.home.getD i Ay).serial ≤ 65535) ∧ (0 ≤ (x.home.getD i Ay).value ∧ (x.home.getD i Ay).value ≤ 255) ∧ (x.home.getD i Ay).last.length ≤ 4 := fun i hi => by
 have hnh := h.nh
 have hn := h.n1
 have := h.nla i (by omega)
 exact ⟨h.eb (i := i) (by omega), (h.ebd (i := i) (by omega)).1, (h.ebd (i := i) (by omega)).2.1, (h.ebd (i := i) (by omega)).2.2, by show (ent x i).last.length ≤ 4; omega⟩
theorem Inv.says_in (h : Inv n nl x M) (i : Nat) (hi : i < x.home.length) : ∀ a ∈ Hl (x.home.getD i Ay) i n, MsgIn a := fun a ha => by
 have hnh := h.nh; have hn := h.n1; have hl := h.l1
 exact V7 (N8 h (i := i) (by omega) a ha).1 (by simp only [F8]; omega) (by simp only [F8]; omega)
end
end Go.Proofs.Ytbigiimomnfpdaa
set_option maxHeartbeats 1000000
set_option maxRecDepth 8000
namespace Go.Proofs.Ytbigiimomnfpdaa
open Go
end Go.Proofs.Ytbigiimomnfpdaa
set_option maxHeartbeats 1000000
set_option maxRecDepth 8000
namespace Go.Proofs.Ytbigiimomnfpdaa
open Go
end Go.Proofs.Ytbigiimomnfpdaa
set_option maxHeartbeats 1000000
set_option maxRecDepth 8000
namespace Go.Proofs.Ytbigiimomnfpdaa
open Go
variable {L : List Chunk} {R : List Fact} {w : World}
def hE0 : List Entry := [⟨0, -1, 0, 0, 0, 0, false, 0, 0, [0, 0]⟩]
theorem Wq {m : Msg} (hs : St (L) R w) (hin : MsgIn m) : Calls Try.prog 37 [.agg m.cells.toArray].toArray w (Bl (fun v : Value => v) (fun v => L) (fun v => sl v (Bj m) :: R)) := by
 obtain ⟨k0, k1, k2, k3, k4, k5, k6⟩ := hin
 refine Ah Try.func37 rfl Try.ntmps37 rfl hs ?_
 clear hs
 refine ZaM ?_;intro b1
 refine ZL ?_
 refine Bg (b := ?b1) ?e1 ?_ ?_; case e1 => exact rfl
 ·intro ht7
  refine Aa ?_
  refine Gb1 ?_
  refine ZbZ ?_
  refine liO (α := UInt8) ([u8 m.kind, u8 (16 * m.src + m.dst % 16), u8 m.line, u8 (m.serial / 256), u8 m.serial, u8 (m.turn / 256), u8 m.turn, u8 m.value, 1, 0] : List UInt8) Kn rfl (fun j hj => ⟨⟨_, rfl, rfl⟩, ⟨_, rfl, rfl⟩, ⟨_, rfl, rfl⟩, ⟨_, rfl, rfl⟩, ⟨_, rfl, rfl⟩, ⟨_, rfl, rfl⟩, ⟨_, rfl, rfl⟩, ⟨_, rfl, rfl⟩, ⟨_, rfl, rfl⟩, ⟨_, rfl, rfl⟩, trivial⟩) ?_; intro v40
  have hxs : ([u8 m.kind, u8 (16 * m.src + m.dst % 16), u8 m.line, u8 (m.serial / 256), u8 m.serial, u8 (m.turn / 256), u8 m.turn, u8 m.value, 1, 0] : List UInt8) = Cw m := by unfold Cw; rw [ht7, show 16 * m.src + m.dst % 16 = 16 * m.src + m.dst by omega]; rfl
  rw [hxs]
  have hsm := Pg (Cw m)
  refine Ga1 ?_
  refine kp [2, 4, 5, 41, 42] ?_
  refine ZC ?_
  refine Ak (γ := Unit) (val := fun _ => vi (Jz (Cw m))) Try.call56 rfl (fun w hs => lend .hd (fun L R w hs hf _ => Fk hs hf) hs) ?_; intro _
  refine Zch ?_;intro v49
  refine ap Kn (hb := fun w hs => by have : maxN = 16777216 := rfl; rw [Pt]; simp only [List.length_cons, List.length_nil]; omega) (k := ?_); intro v50
  refine Ga1 ?_
  exact Be v50 (hs := fun w hs => Af (St.shut (hs.pick pkk)))
 ·intro ht7
  refine Gm ?_
  refine ZbZ ?_
  refine liO (α := UInt8) ([u8 m.kind, u8 (16 * m.src + m.dst % 16), u8 m.line, u8 (m.serial / 256), u8 m.serial, u8 (m.turn / 256), u8 m.turn, u8 m.value, 0, 0] : List UInt8) Kn rfl (fun j hj => ⟨⟨_, rfl, rfl⟩, ⟨_, rfl, rfl⟩, ⟨_, rfl, rfl⟩, ⟨_, rfl, rfl⟩, ⟨_, rfl, rfl⟩, ⟨_, rfl, rfl⟩, ⟨_, rfl, rfl⟩, ⟨_, rfl, rfl⟩, ⟨_, rfl, rfl⟩, ⟨_, rfl, rfl⟩, trivial⟩) ?_; intro v40
  have hxs : ([u8 m.kind, u8 (16 * m.src + m.dst % 16), u8 m.line, u8 (m.serial / 256), u8 m.serial, u8 (m.turn / 256), u8 m.turn, u8 m.value, 0, 0] : List UInt8) = Cw m := by unfold Cw; rw [ht7, show 16 * m.src + m.dst % 16 = 16 * m.src + m.dst by omega]; rfl
  rw [hxs]
  have hsm := Pg (Cw m)
  refine Ga1 ?_
  refine kp [2, 4, 5, 41, 42] ?_
  refine ZC ?_
  refine Ak (γ := Unit) (val := fun _ => vi (Jz (Cw m))) Try.call56 rfl (fun w hs => lend .hd (fun L R w hs hf _ => Fk hs hf) hs) ?_; intro _
  refine Zch ?_;intro v49
  refine ap Kn (hb := fun w hs => by have : maxN = 16777216 := rfl; rw [Pt]; simp only [List.length_cons, List.length_nil]; omega) (k := ?_); intro v50
  refine Ga1 ?_
  exact Be v50 (hs := fun w hs => Af (St.shut (hs.pick pkk)))
theorem R4 {c : Config} (hs : St (L) R w) : Calls Try.prog 16 [.agg c.cells.toArray].toArray w (Bl (fun _ : Unit => vi (C0 c)) (fun _ => L) (fun _ => R)) := by
 refine Ah Try.func16 rfl Try.ntmps16 rfl hs ?_
 clear hs
 refine Gm ?_
 refine bx ?_; intro b1
 refine Ga1 ?_
 refine ZbL ?_
 refine Cx 20 (.bool (decide ((c.cores < 1) ∨ (4 < c.cores) ∨ (c.lines < 1) ∨ (4 < c.lines)))) ?_ ?_
 ·rcases (show ((c.cores < 1)) ∨ (¬ (c.cores < 1) ∧ (4 < c.cores)) ∨ (¬ (c.cores < 1) ∧ ¬ (4 < c.cores) ∧ (c.lines < 1)) ∨ (¬ (c.cores < 1) ∧ ¬ (4 < c.cores) ∧ ¬ (c.lines < 1) ∧ (4 < c.lines)) ∨ (¬ (c.cores < 1) ∧ ¬ (4 < c.cores) ∧ ¬ (c.lines < 1) ∧ ¬ (4 < c.lines)) from by omega) with hm | hm | hm | hm | hm
  ·refine Zat ?_
   refine Ga15 ?_
   exact Zc9
  ·refine ZaV ?_
   refine Ga11 ?_
   exact Zc9
  ·refine ZbL ?_
   refine Zar ?_
   refine ZE ?_
   refine E4 ?_
   refine Ga6 ?_
   exact Zc9
  ·refine Zar ?_
   refine Za0 ?_
   refine Ha ?_
   refine Ga1 ?_
   exact Zc9
  ·refine ZbL ?_
   refine Zar ?_
   refine Zas ?_
   refine Ga1 ?_
   exact ZcI
 ·refine A2 ?_
  refine Gl ?_
  first | (refine cdx (p := ?p1) (hd := ?d1) ?e1 ?_ ?_; case e1 => exact rfl) | (refine Bg (b := ?b1) ?e1 ?_ ?_; case e1 => exact rfl)
  ·intro ht20
   refine ZA ?_
   have er : C0 c = 3 := by unfold C0; rw [if_pos ht20]
   exact ZcJ
  ·intro ht20
   refine ZA ?_
   have er : C0 c = 0 := by unfold C0; rw [if_neg ht20]
   exact ZcJ
theorem Xe {c : Config} (hs : St (L) R w) (hcw : c.wf) : Calls Try.prog 9 [.agg c.cells.toArray].toArray w (Bl (fun v : Value × Value => .tuple #[.agg #[v.1, v.2, .slice none 0 0], vi (Aw c).2]) (fun v => L) (fun v => sl v.1 (Aw c).1.cores :: sl v.2 (Aw c).1.home :: sl (.slice none 0 0) (Aw c).1.frames :: R)) := by
 refine Ah Try.func9 rfl Try.ntmps9 rfl hs ?_
 clear hs
 refine ZbD ?_;intro b1 b2
 refine Gb1 ?_
 refine rn1 ?_
 refine Ak Try.call16 rfl (fun w hs => R4 hs) ?_; intro _
 refine ZL ?_
 refine cdy ?_ ?_
 ·intro ht9
  have h3 : C0 c = 3 := by revert ht9; unfold C0; split <;> simp
  refine ZaG ?_
  refine Gm ?_
  refine ZaZ ?_
  refine rn1 ?_
  refine s_B Try.sizeOf38 ?_
  refine Ga1 ?_
  have h3 : C0 c = 3 := by revert ht9; unfold C0; split <;> simp
  have er : Aw c = (Dd, 3) := by unfold Aw; rw [if_pos ht9]
  rw [er, h3]
  exact Gf (.slice none 0 0, .slice none 0 0) Try.isAgg38 Try.sizeOf38
 ·intro ht9
  have hcg : ¬ (c.cores < 1 ∨ 4 < c.cores ∨ c.lines < 1 ∨ 4 < c.lines) := by revert ht9; unfold C0; split <;> simp_all
  refine Gm ?_
  refine rn4 ?_
  refine Ak Try.call17 rfl (fun w hs => Wk (cores := c.cores) (lines := c.lines) hs (by omega) (by omega)) ?_; intro v16
  refine J.know (p := v16.oneCell' = true) (fun w hs => isSlice.one (hs.fact (.head _))) (fun hone16 => ?_)
  refine rn1 ?_
  refine al_ (cs := [.slice none 0 0, .slice none 0 0, .slice none 0 0]) Try.zeroValue38 ?_; intro b5
  refine s_B (cs := [.slice none 0 0, v16, .slice none 0 0]) Try.sizeOf38 ?_
  refine Za2 ?_
  refine JC.rowNil 57 Core ?_
  refine Bf (γ := Nat × Value) (fun g => (g.1 : Int) ≤ c.cores) (fun g => row 57 g.2 (List.replicate g.1 (C5 c.lines)) :: blk b5 38 [g.2, v16, .slice none 0 0] :: blk b2 38 [.slice none 0 0, .slice none 0 0, .slice none 0 0] :: blk b1 23 c.cells :: L) (fun _ => sl v16 (Ke c.cores c.lines) :: R) (fun g => [(1, bp b1 0), (2, bp b2 0), (5, bp b5 0), (19, vi c.cores), (20, vi (g.1 : Int))]) (fun g => c.cores.toNat - g.1) (0, .slice none 0 0) (by show (0 : Int) ≤ c.cores; omega) alT (fun w hs => Af hs) ?_
  rintro ⟨k, vs⟩ hk
  try simp only at hk ⊢
  refine ZA ?_
  refine cdy ?_ ?_
  ·intro ht21
   refine Gl ?_
   refine cq_ (blk b5 38 [vs, v16, .slice none 0 0] :: row 57 vs (List.replicate k (C5 c.lines)) :: blk b2 38 [.slice none 0 0, .slice none 0 0, .slice none 0 0] :: blk b1 23 c.cells :: L) ?_
   refine jd_ (fun ρ S => blk b5 38 (bif S 8 then [(Gh.dec (γ := Value) (ρ 6)), v16, .slice none 0 0] else [vs, v16, .slice none 0 0]) :: (bif S 6 then row 57 (Gh.dec (γ := Value) (ρ 6)) ((List.replicate k (C5 c.lines)) ++ [(C5 c.lines)]) else row 57 vs (List.replicate k (C5 c.lines))) :: blk b2 38 [.slice none 0 0, .slice none 0 0, .slice none 0 0] :: blk b1 23 c.cells :: L) ?_
   refine dn1 ?_
   refine Hv (v := vs) (fun ρ S hS hB hA => by have h8 : S 8 = false := hA 8 ⟨0, rfl⟩; simp only [h8, cond_false]; exact Dm (hc := Bd pkk (by repeat (first | exact rfl | refine Cp rfl ?_))) Try.isAgg34) (fun _ _ _ _ _ => rfl) ?_
   refine dn2 ?_
   refine Gc (γ := Value) (val := fun v => .agg (Core.cells v (C5 c.lines)).toArray) (F := fun v => [sl v (C5 c.lines).lines]) Try.call18 (fun _ => rfl) (fun ρ L R w hd hs => Xb (lines := c.lines) hs (by omega)) (fun _ _ _ _ _ => rfl) ?_
   refine Ie ([(C5 c.lines)] : List Core) Ro rfl (fun _ => rfl) rfl (fun _ => rfl) rfl rfl (fun ρ R hd j hj => ⟨⟨_, rfl, ⟨_, rfl, hj (sl (Gh.dec (γ := Value) (ρ 4)) (C5 c.lines).lines) (hd.dep (it := ⟨4, _, _, _, _⟩) (by repeat (first | exact List.Mem.head _ | refine List.Mem.tail _ ?_)) ⟨9, rfl⟩ (List.Mem.head _)), by unfold C5 zOp Op.wf Ao; simp only; omega⟩⟩, trivial⟩) (fun _ _ _ _ _ => rfl) ?_
   refine Ec (e := 57) (xs := (List.replicate k (C5 c.lines))) (ys := [(C5 c.lines)]) (v := vs) Ro (fun _ => rfl) (fun _ => rfl) rfl (by decide) (fun ρ R hd => (hd.dep (it := ⟨5, _, _, _, _⟩) (by repeat (first | exact List.Mem.head _ | refine List.Mem.tail _ ?_)) ⟨9, rfl⟩ (List.Mem.head _))) (by have : maxN = 16777216 := rfl; simp only [List.length_cons, List.length_nil, List.length_replicate]; omega) (fun ρ g S hS hB hA => ?_) ?_
   ·have ui : upS S 6 6 = true := rfl; have u8 : upS S 6 8 = S 8 := rfl; have h8 : S 8 = false := hA 8 ⟨0, rfl⟩; have rs : (Gh.dec (γ := Value) (Rho.set ρ 6 (Gh.enc g) 6)) = g := rfl
    simp only [ui, hS, u8, h8, rs, cond_true, cond_false]
    exact pex
   refine dn1 ?_
   refine Di (T0 := 38) (f := 0) (vs := fun ρ => [vs, v16, .slice none 0 0]) (v := fun ρ => (Gh.dec (γ := Value) (ρ 6))) (fun ρ => b5) Try.sizeOf34 (fun _ => rfl) (fun _ => rfl) (fun ρ S R w L9 hB hd hs => by have h6 : S 6 = true := hB 6 ⟨9, rfl⟩; simp only [h6, cond_true] at hs; exact A6 pkk hs) (fun _ => rfl) (fun ρ g S hS hB hA => ?_) ?_
   ·have ui : upS S 8 8 = true := rfl; have u6 : upS S 8 6 = S 6 := rfl; have r6 : Rho.set ρ 8 g 6 = ρ 6 := rfl
    simp only [ui, hS, u6, r6, cond_true, cond_false]
    exact pex
   refine dnl ?_; intro ρ
   refine xq_ (blk b5 38 [(Gh.dec (γ := Value) (ρ 6)), v16, .slice none 0 0] :: row 57 (Gh.dec (γ := Value) (ρ 6)) ((List.replicate k (C5 c.lines)) ++ [(C5 c.lines)]) :: blk b2 38 [.slice none 0 0, .slice none 0 0, .slice none 0 0] :: blk b1 23 c.cells :: L) ?_
   generalize (Gh.dec (γ := Value) (ρ 4)) = v26
   generalize (Gh.dec (γ := Value) (ρ 5)) = v27
   generalize (Gh.dec (γ := Value) (ρ 6)) = v28
   refine ZD ?_
   refine A3 (k + 1, v28) (by show ((k + 1 : Nat) : Int) ≤ c.cores; omega) (by show c.cores.toNat - (k + 1) < c.cores.toNat - k; omega) alT (fun w hs => ?_)
   try simp only
   rw [Jr]; exact Af hs
  ·intro ht21
   refine Gl ?_
   refine JC.know (p := vs.oneCell' = true) (fun w hs => A6 .hd hs) (fun hones => ?_)
   refine JC.shut (v := vs) .hd ?_
   refine JC.slNil (List UInt8) ?_
   refine ZC ?_
   refine s_B (cs := [vs, v16, .slice none 0 0]) Try.sizeOf38 ?_
   refine Ga1 ?_
   have er : Aw c = (⟨List.replicate k (C5 c.lines), Ke c.cores c.lines, []⟩, 0) := by unfold Aw; rw [if_neg ht9, show c.cores.toNat = k by omega]
   rw [er]
   exact Gf (vs, v16) Try.isAgg38 Try.sizeOf38
theorem Abx {b : Nat} {cv hv fv : Value} {x : Chip} (hs : St (row 57 cv x.cores :: blk b 38 [cv, hv, fv] :: L) R w) (hhv : sl hv x.home ∈ R) : Calls Try.prog 40 [bp b 0].toArray w (Bl (fun _ : Unit => .agg (Ar x).cells.toArray) (fun _ => row 57 cv x.cores :: blk b 38 [cv, hv, fv] :: L) (fun _ => R)) := by
 refine Ah Try.func40 rfl Try.ntmps40 rfl hs ?_
 clear hs
 refine Gm ?_
 refine al_ (cs := zConfig.cells) Try.zeroValue23 ?_; intro b2
 refine Gl ?_
 refine cq_ (blk b2 23 zConfig.cells :: row 57 cv x.cores :: blk b 38 [cv, hv, fv] :: L) ?_
 refine jd_ (fun ρ S => blk b2 23 (bif S 11 then [vi (x.cores.length : Int), vi (x.home.length : Int)] else zConfig.cells) :: row 57 cv x.cores :: blk b 38 [cv, hv, fv] :: L) ?_
 refine Zcl ?_;intro ρ
 refine xq_ (blk b2 23 [vi (x.cores.length : Int), vi (x.home.length : Int)] :: row 57 cv x.cores :: blk b 38 [cv, hv, fv] :: L) ?_
 refine Gl ?_
 exact Sy () Try.isAgg23 Try.sizeOf23
theorem Xm {b : Nat} {cv hv fv : Value} {x : Chip} (hs : St (blk b 38 [cv, hv, fv] :: L) R w) (hcv : sl cv x.cores ∈ R) (hhv : sl hv x.home ∈ R) : Calls Try.prog 40 [bp b 0].toArray w (Bl (fun _ : Unit => .agg (Ar x).cells.toArray) (fun _ => blk b 38 [cv, hv, fv] :: L) (fun _ => R)) := by
 refine Ah Try.func40 rfl Try.ntmps40 rfl hs ?_
 clear hs
 refine Gm ?_
 refine al_ (cs := zConfig.cells) Try.zeroValue23 ?_; intro b2
 refine Gl ?_
 refine cq_ (blk b2 23 zConfig.cells :: blk b 38 [cv, hv, fv] :: L) ?_
 refine jd_ (fun ρ S => blk b2 23 (bif S 11 then [vi (x.cores.length : Int), vi (x.home.length : Int)] else zConfig.cells) :: blk b 38 [cv, hv, fv] :: L) ?_
 refine Zcl ?_;intro ρ
 refine xq_ (blk b2 23 [vi (x.cores.length : Int), vi (x.home.length : Int)] :: blk b 38 [cv, hv, fv] :: L) ?_
 refine Gl ?_
 exact Sy () Try.isAgg23 Try.sizeOf23
theorem Ih {b : Nat} {cv hv fv vm : Value} {fs : Frames} {ms : List Msg} (hs : St (blk b 38 [cv, hv, fv] :: L) R w) (hfv : sl fv fs ∈ R) (hvm : sl vm ms ∈ R) (hmi : ∀ a ∈ ms, MsgIn a) : Calls Try.prog 21 [bp b 0, vm].toArray w (Bl (fun v : Value => .tuple #[]) (fun v => blk b 38 [cv, hv, v] :: L) (fun v => sl v (way fs ms) :: R)) := by
 have hlen := Bv hvm hs
 refine Ah Try.func21 rfl Try.ntmps21 rfl hs ?_
 clear hs
 refine Za2 ?_
 refine Bf (γ := Nat × Value) (fun g => g.1 ≤ ms.length) (fun g => blk b 38 [cv, hv, g.2] :: L) (fun g => sl g.2 (way fs (ms.take g.1)) :: R) (fun g => [(0, bp b 0), (6, vm), (7, vi (ms.length : Int)), (8, vi (g.1 : Int))]) (fun g => ms.length - g.1) (0, fv) (Nat.zero_le _) alT (fun w hs => hs.sub .refl (fun f hf => by rcases List.mem_cons.1 hf with e | e; rw [e]; exact hfv; exact e)) ?_
 rintro ⟨k, gv⟩ hk
 try simp only at hk ⊢
 refine ZA ?_
 refine cdy ?_ ?_
 ·intro ht9
  refine Gl ?_
  refine JC.open0 (xs := ms) (v := vm) k mm (by omega) (fun hmw => ?_)
  have hkm : (ms.getD k zMsg) ∈ ms := by rw [List.getD_eq_getElem?_getD, List.getElem?_eq_getElem (by omega)]; exact List.getElem_mem _
  refine ZB ?_
  refine al_ (cs := zMsg.cells) Try.zeroValue105 ?_; intro b5
  refine s_B (cs := (ms.getD k zMsg).cells) Try.sizeOf105 ?_
  refine Gl ?_
  refine cq_ (blk b 38 [cv, hv, gv] :: blk b5 105 (ms.getD k zMsg).cells :: L) ?_
  refine jd_ (fun ρ S => blk b 38 (bif S 10 then [cv, hv, (Gh.dec (γ := Value) (ρ 7))] else [cv, hv, gv]) :: blk b5 105 (ms.getD k zMsg).cells :: L) ?_
  refine dn4 ?_
  refine Hv (v := gv) (fun ρ S hS hB hA => by have h10 : S 10 = false := hA 10 ⟨0, rfl⟩; simp only [h10, cond_false]; exact Dm (hc := Bd pkk (by repeat (first | exact rfl | refine Cp rfl ?_))) Try.isAgg36) (fun _ _ _ _ _ => rfl) ?_
  refine dn1 ?_
  refine Gc (γ := Value) (val := fun v => v) (F := fun v => [sl v (Bj (ms.getD k zMsg))]) Try.call37 (fun _ => rfl) (fun ρ L R w hd hs => Wq hs (hmi _ hkm)) (fun _ _ _ _ _ => rfl) ?_
  refine Gc (γ := Value) (val := fun v => v) (F := fun v => [sl v (Dx (way fs (ms.take k)) (Bj (ms.getD k zMsg)))]) Try.call36 (fun _ => rfl) (fun ρ L R w hd hs => frz (Pq hs (hd.base mm) (hd.dep (it := ⟨6, _, _, _, _⟩) (by repeat (first | exact List.Mem.head _ | refine List.Mem.tail _ ?_)) ⟨9, rfl⟩ (List.Mem.head _)))) (fun ρ g S hS hA => by have u10 : upS S 7 10 = S 10 := rfl; have h10 : S 10 = false := hA 10 ⟨0, rfl⟩; simp only [u10, h10, cond_false]) ?_
  refine dn2 ?_
  refine Di (T0 := 38) (f := 2) (vs := fun ρ => [cv, hv, gv]) (v := fun ρ => (Gh.dec (γ := Value) (ρ 7))) (fun ρ => b) Try.sizeOf36 (fun _ => rfl) (fun _ => rfl) (fun ρ S R w L9 hB hd hs => isSlice.one (hs.fact (hd.dep (it := ⟨7, _, _, _, _⟩) (by repeat (first | exact List.Mem.head _ | refine List.Mem.tail _ ?_)) ⟨9, rfl⟩ (List.Mem.head _)))) (fun _ => rfl) (fun ρ g S hS hB hA => ?_) ?_
  ·have ui : upS S 10 10 = true := rfl; have r7 : Rho.set ρ 10 g 7 = ρ 7 := rfl
   simp only [ui, hS, r7, cond_true, cond_false]
   exact pex
  refine dnl ?_; intro ρ
  refine xq_ (blk b 38 [cv, hv, (Gh.dec (γ := Value) (ρ 7))] :: blk b5 105 (ms.getD k zMsg).cells :: L) ?_
  generalize (Gh.dec (γ := Value) (ρ 6)) = v18
  generalize (Gh.dec (γ := Value) (ρ 7)) = v19
  refine ZD ?_
  refine A3 (k + 1, v19) (by show k + 1 ≤ ms.length; omega) (by show ms.length - (k + 1) < ms.length - k; omega) alT (fun w hs => ?_)
  try simp only
  rw [Kx zMsg (by omega), K4]; exact Af hs
 ·intro ht9
  refine Gl ?_
  have hkl : k = ms.length := by omega
  refine A0 (.inl rfl) (fun B w hs => Gb rfl _ w) (fun w hs => ⟨gv, rfl, by rw [hkl, List.take_length] at hs; exact Af hs⟩)
def SB (x : Chip) (N : Nat) : Prop := ∀ c ∈ x.cores, ∀ l ∈ c.lines, l.serial ≤ (N : Int)
theorem SB.mono {x : Chip} {N K : Nat} (h : SB x N) (hk : N ≤ K) : SB x K := fun c hc l hl => Int.le_trans (h c hc l hl) (by omega)
theorem SB.set {x : Chip} {N : Nat} {p : Nat} {c : Core} (h : SB x N) (hc : ∀ l ∈ c.lines, l.serial ≤ (N : Int)) {hm : List Entry} {fr : Frames} : SB ⟨x.cores.set p c, hm, fr⟩ N := by
 intro d hd l hl
 rcases List.mem_or_eq_of_mem_set hd with h1 | h1
 ·exact h d h1 l hl
 ·subst h1; exact hc l hl
theorem SB.line {c : Core} {N : Int} (h : ∀ l ∈ c.lines, l.serial ≤ N) (h0 : 0 ≤ N) (i : Int) : (Bn c i).serial ≤ N := by
 unfold Bn
 rw [List.getD_eq_getElem?_getD]
 cases e : c.lines[i.toNat]? with
 | none => exact h0
 | some l => exact h l (List.mem_of_getElem? e)
theorem SB.at {x : Chip} {N : Nat} (h : SB x N) (p : Int) : ∀ l ∈ (Au x p).lines, l.serial ≤ (N : Int) := by
 unfold Au
 rw [List.getD_eq_getElem?_getD]
 cases e : x.cores[p.toNat]? with
 | none => intro l hl; cases hl
 | some c => exact h c (List.mem_of_getElem? e)
theorem SB.wl {c : Core} {N K : Int} (h : ∀ l ∈ c.lines, l.serial ≤ N) (hk : N ≤ K) {i : Int} {l : Line} {w : Op} (hl : l.serial ≤ K) : ∀ l' ∈ (Bw c i l w).lines, l'.serial ≤ K := by
 intro l' h'
 rcases List.mem_or_eq_of_mem_set h' with h1 | h1
 ·exact Int.le_trans (h l' h1) hk
 ·subst h1; exact hl
theorem SB.hear {c : Core} {N : Nat} (h : ∀ l ∈ c.lines, l.serial ≤ (N : Int)) {id home : Int} {m : Msg} : ∀ l ∈ (Ac c id home m).1.lines, l.serial ≤ (N : Int) := by
 have h0 := SB.line h (by omega) m.line
 unfold Ac
 split
 ·exact h
 split
 ·refine SB.wl h (Int.le_refl _) ?_
  unfold Dg; split <;> (try split) <;> exact h0
 split
 ·split
  ·refine SB.wl h (Int.le_refl _) ?_
   unfold Cm; split <;> (try split) <;> exact h0
  split <;> exact h
 split
 ·split
  ·exact h
  split
  ·exact SB.wl h (Int.le_refl _) h0
  ·exact h
 split
 ·exact SB.wl h (Int.le_refl _) h0
 ·exact h
theorem SB.begin {c : Core} {N : Nat} (h : ∀ l ∈ c.lines, l.serial ≤ (N : Int)) {id home : Int} {o : Op} : ∀ l ∈ (Aj c id home o).1.lines, l.serial ≤ ((N + 1 : Nat) : Int) := by
 have h0 := SB.line h (by omega) o.line
 have h1 : (A4 (Bn c o.line) o).serial ≤ ((N + 1 : Nat) : Int) := by
  unfold A4
  split <;> (try split) <;> (simp only; omega)
 unfold Aj
 split
 ·intro l hl; cases hl
 split
 ·intro l hl; cases hl
 split
 ·intro l hl; cases hl
 split
 ·exact SB.wl h (by omega) h1
 ·exact SB.wl h (by omega) h1
theorem SB.zero {N : Nat} : SB Dd N := fun c hc => by cases hc
theorem SB.step {x : Chip} {N : Nat} (h : SB x N) (s : Step) : SB (Am x s).1 (N + 1) := by
 have hc : ∀ fr b, SB (Bp ⟨x.cores, x.home, fr⟩ b).1 N := by
  intro fr b
  unfold Bp
  split
  ·exact h
  split
  ·exact h
  ·exact SB.set h (SB.hear (SB.at h _))
 unfold Am
 split
 ·split
  ·exact SB.zero
  split
  ·exact SB.zero
  ·exact SB.set (h.mono (by omega)) (SB.begin (SB.at h _))
 split
 ·split
  ·exact SB.zero
  ·exact (hc _ _).mono (by omega)
 split
 ·split
  ·exact SB.zero
  ·exact Zdd
 split
 ·split
  ·exact SB.zero
  ·exact Zdd
 split
 ·split
  ·exact SB.zero
  split
  ·exact SB.zero
  split
  ·exact SB.zero
  ·exact Zdd
 split
 ·split
  ·exact SB.zero
  split
  ·exact Zdd
  ·exact Zdd
 ·exact SB.zero
theorem SB.all : ∀ (l : List Step) {x : Chip} {N : Nat}, SB x N → SB (Rp x l).1 (N + l.length)
 | [], _, _, h => h
 | s :: r, x, N, h => by
  unfold Rp
  split
  ·refine (SB.all r (SB.step h s)).mono ?_
   rw [List.length_cons]; omega
  ·exact (SB.all r h).mono (by rw [List.length_cons]; omega)
theorem SB.build (c : Config) (l : List Step) : SB (build c l).1 300 := by
 unfold Go.Proofs.Ytbigiimomnfpdaa.build
 split
 ·exact SB.zero
 ·rename_i hg
  have h0 : SB (Aw c).1 0 := by
   intro k hk l hl
   unfold Aw at hk
   split at hk
   ·cases hk
   ·have e := List.eq_of_mem_replicate hk
    subst e
    have e2 := List.eq_of_mem_replicate hl
    subst e2
    exact Int.le_refl _
  refine (SB.all (l.take 300) h0).mono ?_
  rw [List.length_take]; omega
section
variable {n nl : Nat} {x : Chip} {M : List Int}
end
section
variable {n nl : Nat} {x : Chip} {M : List Int}
def once (x : Chip) (k : Int) : Chip × List Done × Int := Am x ⟨2, 0, k, 0, zOp⟩
end
theorem Ub {v u : Value} {cs : List Core} {i : Nat} (c : Core) (hu : sl u c.lines ∈ R) (hw : c.wait.wf) (hs : St (foc 57 v cs i (Core.cells u c) :: L) R w) : St (row 57 v (cs.set i c) :: L) R w := hs.unfocus (fun j hj => ⟨u, rfl, hj _ hu, hw⟩)
theorem Nn {v u : Value} {cs : List Core} {i : Nat} (hu : sl u (cs.getD i Ez).lines ∈ R) (hw : (cs.getD i Ez).wait.wf) (hs : St (foc 57 v cs i (Core.cells u (cs.getD i Ez)) :: L) R w) : St (row 57 v cs :: L) R w := by
 have h := Ub _ hu hw hs
 rwa [H0] at h
theorem J1 {id : Int} : ∀ (l : List Entry) (i : Int), (∀ k, k < l.length → ∀ a ∈ Hl (l.getD k Ay) (i + (k : Int)) id, MsgIn a) → ∀ a ∈ Cr id i l, MsgIn a
 | [], i, h, a, ha => by cases ha
 | e :: r, i, h, a, ha => by
  simp only [Cr, List.mem_append] at ha
  rcases ha with ha | ha
  ·exact h 0 (by simp) a (by simpa using ha)
  ·refine J1 r (i + 1) (fun k hk a ha => h (k + 1) (by simpa using hk) a ?_) a ha
   rw [show i + ((k + 1 : Nat) : Int) = i + 1 + (k : Int) by omega]; exact ha
def Jh (x : Chip) (node : Int) : Int := if node < 0 ∨ Ba x < node then 5 else 0
def D6 (x : Chip) (node : Int) : Frames := if node < 0 ∨ Ba x < node then x.frames else if node = Ba x then way x.frames (E5 x.home node) else way x.frames (Eu (Au x node) node (Ba x))
def Ji (x : Chip) (s : Step) : Frames × Int := if Dw x s.n then ([], 5) else if (Ae (Ar x) (Cq x.frames s.n)).2 ≠ 0 then ([], 6) else Bo x.frames s.n s.bit
theorem R5 {b : Nat} {cv hv fv : Value} {x : Chip} {node : Int} {n nl : Nat} {M : List Int} (hs : St (row 57 cv x.cores :: blk b 38 [cv, hv, fv] :: L) R w) (hhv : sl hv x.home ∈ R) (hfv : sl fv x.frames ∈ R) (h : Inv n nl x M) : Calls Try.prog 26 [bp b 0, vi node].toArray w (Bl (fun v : Value => vi (Jh x node)) (fun v => row 57 cv x.cores :: blk b 38 [cv, hv, v] :: L) (fun v => sl v (D6 x node) :: R)) := by
 have hnc := h.nc
 have hnh := h.nh
 have hn1 := h.n1
 have hn2 := h.l1
 refine Ah Try.func26 rfl Try.ntmps26 rfl hs ?_
 clear hs
 refine ZA ?_
 rcases (show (node < 0) ∨ (0 ≤ node ∧ (x.cores.length : Int) < node) ∨ (0 ≤ node ∧ node ≤ (x.cores.length : Int)) from by omega) with hc | hc | hc
 ·refine ZC ?_
  refine E4 ?_
  refine Gd10 ?_
  exact ZcX
 ·refine Zae ?_
  refine rn7 ?_
  refine gy ?_
  refine Ha ?_
  refine Gd2 ?_
  exact ZcX
 ·refine Zae ?_
  refine rn7 ?_
  refine gy ?_
  refine D9 ?_
  refine Gd2 ?_
  refine Ga8 ?_
  refine cdy ?_ ?_
  ·intro ht33
   refine Aa ?_
   refine rn6 ?_
   refine Ak Try.call44 rfl (fun w hs => Q6 (l := x.home) (id := node) hs mm (fun i hi => (h.ebs i hi).1) (by omega) (by unfold Ao; omega)) ?_; intro vt
   refine Ak Try.call21 rfl (fun w hs => Ih (cv := cv) (hv := hv) (fv := fv) (fs := x.frames) (ms := E5 x.home node) (Af (L' := blk b 38 [cv, hv, fv] :: row 57 cv x.cores :: L) hs) mm mm (J1 _ 0 (fun k hk a ha => h.says_in k hk a (by rw [Int.zero_add] at ha; rw [← hnc, ← ht33]; exact ha)))) ?_; intro vs
   refine ZA ?_
   have er : Jh x node = 0 ∧ D6 x node = way x.frames (E5 x.home node) := by unfold Jh D6 Ba; rw [if_neg (by omega), if_neg (by omega), if_pos ht33]; exact ⟨rfl, rfl⟩
   rw [er.1, er.2]
   exact Be vs
  ·intro ht33
   refine JC.focus1 (T := 57) (v := cv) (xs := x.cores) node.toNat pkk (by omega) (fun hwt u => ?_)
   have hkb : KB (Au x node) := h.kb (p := node.toNat) (by omega)
   have hlb := h.lbs (p := node) (by omega)
   refine Zak ?_
   refine dj ?_
   refine dc (fun _ _ => It (v := cv) (i := node) Yv (hl := Cd (α := Core) (xs := x.cores) pkk)) ?_
   refine djc (fun _ _ => Y6 (cs := Core.cells u (Au x node)) Try.isAgg57 Try.sizeOf57) ?_
   refine dn5 ?_
   refine djc (fun _ _ => My Try.underlying34 rfl (Cd (α := Core) (xs := x.cores) pkk)) ?_
   refine dj ?_
   refine Yj (γ := Value) (val := fun v => v) (F := fun v => [sl v (Eu (Au x node) node (x.cores.length : Int))]) (C := fun _ => []) Try.call45 (fun _ => rfl) (fun _ _ _ _ => rfl) (fun ρ L R w hd hs => Rt (c := (Au x node)) (id := node) (home := (x.cores.length : Int)) (u := u) hs (hd.base mm) (by have := hkb.n; omega) (by unfold Ao; omega) (by unfold Ao; omega)) ?_
   refine dtl ?_; intro ρ
   have hkn := hkb.n
   generalize (Gh.dec (γ := Value) (ρ 14)) = vt
   refine Ak Try.call21 rfl (fun w hs => Ih (cv := cv) (hv := hv) (fv := fv) (fs := x.frames) (ms := (Eu (Au x node) node (x.cores.length : Int))) (Af (L' := blk b 38 [cv, hv, fv] :: foc 57 cv x.cores node.toNat (Core.cells u (Au x node)) :: L) hs) mm mm (Pf (by omega) (by omega) _ 0 (by omega) (by omega) (Wo (d := zLine) hlb))) ?_; intro vs
   refine Gl ?_
   refine kp [4] ?_
   refine Aa ?_
   refine Ga1 ?_
   have er : Jh x node = 0 ∧ D6 x node = way x.frames (Eu (Au x node) node (x.cores.length : Int)) := by unfold Jh D6 Ba; rw [if_neg (by omega), if_neg (by omega), if_neg ht33]; exact ⟨rfl, rfl⟩
   rw [er.1, er.2]
   exact Be vs (hs := fun w hs => Af (Nn mm hwt (hs.pick pkk)))
theorem R6 {b : Nat} {cv hv fv : Value} {x : Chip} {s : Step} (hs : St (blk b 38 [cv, hv, fv] :: L) R w) (hcv : sl cv x.cores ∈ R) (hhv : sl hv x.home ∈ R) (hfv : sl fv x.frames ∈ R) (hsn : s.wf) : Calls Try.prog 25 [bp b 0, .agg s.cells.toArray].toArray w (Bl (fun v : Value => .tuple #[v, vi (Ji x s).2]) (fun v => blk b 38 [cv, hv, fv] :: L) (fun v => sl v (Ji x s).1 :: R)) := by
 refine Ah Try.func25 rfl Try.ntmps25 rfl hs ?_
 clear hs
 refine Gm ?_
 refine bx ?_; intro b3
 refine Ga2 ?_
 rcases (show (Dw x s.n) ∨ (¬ Dw x s.n) from by exact Decidable.em _) with hc | hc
 ·refine ZbE ?_;intro hnt
  refine Zck ?_
  refine Gc (γ := Value × Value) (val := fun v => .tuple #[v.1, v.2, vi 5]) (F := fun v => [sl v.1 ([] : Frames), sl v.2 ([] : List UInt8)]) Try.call22 (fun _ => rfl) (fun ρ L R w hd hs => by have h := G2 (l := x.frames) (n := s.n) hs (hd.base mm) hsn.2.2.1; rw [hnt] at h; exact frz h) (fun _ _ _ _ _ => rfl) ?_
  refine e_p (v := fun ρ => .tuple #[(Gh.dec (γ := Value × Value) (ρ 6)).1, (Gh.dec (γ := Value × Value) (ρ 6)).2, vi 5]) (fun _ _ => N3) (Ind.gh (h := fun g => (.tuple #[(Gh.dec (γ := Value × Value) g).1, (Gh.dec (γ := Value × Value) g).2, vi 5] : Value)) 6 0 rfl) (fun _ _ _ _ _ => rfl) ?_
  refine Zbt ?_
  refine Jn (v := vi 5) (fun _ _ => q_x) (fun _ _ _ _ _ => rfl) ?_
  refine Zbu ?_
  refine Jn (v := vi 5) (fun _ _ => Ch) (fun _ _ _ _ _ => rfl) ?_
  refine dnl ?_; intro ρ
  refine xq_ (blk b3 47 s.cells :: blk b 38 [cv, hv, fv] :: L) ?_
  generalize (Gh.dec (γ := Value × Value) (ρ 6)) = vq
  refine Zad ?_
  refine ZaU ?_
  refine JC.slNil (List UInt8) ?_
  refine Aa ?_
  refine Ga3 ?_
  have er : Ji x s = ([], 5) := by unfold Ji; rw [if_pos hc]
  rw [er]
  exact De (.slice none 0 0)
 ·refine Zb7 ?_;intro hnt
  refine Zck ?_
  refine Gc (γ := Value × Value) (val := fun v => .tuple #[v.1, v.2, vi 0]) (F := fun v => [sl v.1 (x.frames.eraseIdx s.n.toNat), sl v.2 (Cq x.frames s.n)]) Try.call22 (fun _ => rfl) (fun ρ L R w hd hs => by have h := G2 (l := x.frames) (n := s.n) hs (hd.base mm) hsn.2.2.1; rw [hnt] at h; exact frz h) (fun _ _ _ _ _ => rfl) ?_
  refine e_p (v := fun ρ => .tuple #[(Gh.dec (γ := Value × Value) (ρ 6)).1, (Gh.dec (γ := Value × Value) (ρ 6)).2, vi 0]) (fun _ _ => N3) (Ind.gh (h := fun g => (.tuple #[(Gh.dec (γ := Value × Value) g).1, (Gh.dec (γ := Value × Value) g).2, vi 0] : Value)) 6 0 rfl) (fun _ _ _ _ _ => rfl) ?_
  refine Zbt ?_
  refine Jn (v := vi 0) (fun _ _ => q_x) (fun _ _ _ _ _ => rfl) ?_
  refine Zbu ?_
  refine Jn (v := vi 0) (fun _ _ => Ch) (fun _ _ _ _ _ => rfl) ?_
  refine dnl ?_; intro ρ
  refine xq_ (blk b3 47 s.cells :: blk b 38 [cv, hv, fv] :: L) ?_
  generalize (Gh.dec (γ := Value × Value) (ρ 6)) = vq
  refine Zad ?_
  refine ob (Ai rfl rfl (D2 rfl)) ?_
  refine Gmc ?_
  refine rn1 ?_
  refine Ak Try.call40 rfl (fun w hs => Xm (x := x) (cv := cv) (hv := hv) (fv := fv) (Af (L' := blk b 38 [cv, hv, fv] :: blk b3 47 s.cells :: L) hs) mm mm) ?_; intro _
  refine rn1 ?_
  refine Ak Try.call39 rfl (fun w hs => P1 (c := Ar x) (b := Cq x.frames s.n) hs mm) ?_; intro _
  refine rn3 ?_
  refine al_ (cs := zMsg.cells) Try.zeroValue105 ?_; intro b9
  refine s_B (cs := (Ae (Ar x) (Cq x.frames s.n)).1.cells) Try.sizeOf105 ?_
  refine ZL ?_
  refine cdy ?_ ?_
  ·intro ht33
   refine Gl ?_
   refine JC.slNil (List UInt8) ?_
   refine kp [0, 3, 4, 5] ?_
   refine Zac ?_
   have er : Ji x s = ([], 6) := by unfold Ji; rw [if_neg hc, if_pos ht33]
   rw [er]
   exact De (.slice none 0 0)
  ·intro ht33
   refine Gl ?_
   refine kp [0, 3, 4, 5, 34, 35, 36, 37, 38, 39, 40, 41, 42, 43, 44] ?_
   refine cq_ (blk b9 105 (Ae (Ar x) (Cq x.frames s.n)).1.cells :: blk b3 47 s.cells :: blk b 38 [cv, hv, fv] :: L) ?_
   refine jd_ (fun ρ S => blk b9 105 (Ae (Ar x) (Cq x.frames s.n)).1.cells :: blk b3 47 s.cells :: blk b 38 [cv, hv, fv] :: L) ?_
   refine dn8 ?_
   refine Gc (γ := Value) (val := fun v => .tuple #[v, vi (Bo x.frames s.n s.bit).2]) (F := fun v => [sl v (Bo x.frames s.n s.bit).1]) Try.call43 (fun _ => rfl) (fun ρ L R w hd hs => frz (Tb (l := x.frames) (n := s.n) (bit := s.bit) hs (hd.base mm) hsn.2.2.1 hsn.2.2.2.1)) (fun _ _ _ _ _ => rfl) ?_
   refine e_p (v := fun ρ => (Gh.dec (γ := Value) (ρ 8))) (fun _ _ => q_x) (Ind.gh (h := fun g => ((Gh.dec (γ := Value) g) : Value)) 8 0 rfl) (fun _ _ _ _ _ => rfl) ?_
   refine Jn (v := vi (Bo x.frames s.n s.bit).2) (fun _ _ => q_x) (fun _ _ _ _ _ => rfl) ?_
   refine epg 8 0 ?_
   refine Jn (v := vi (Bo x.frames s.n s.bit).2) (fun _ _ => Ch) (fun _ _ _ _ _ => rfl) ?_
   refine dnl ?_; intro ρ
   refine xq_ (blk b9 105 (Ae (Ar x) (Cq x.frames s.n)).1.cells :: blk b3 47 s.cells :: blk b 38 [cv, hv, fv] :: L) ?_
   generalize (Gh.dec (γ := Value) (ρ 8)) = vz
   refine Gl ?_
   have er : Ji x s = (Bo x.frames s.n s.bit) := by unfold Ji; rw [if_neg hc, if_neg ht33]
   rw [er]
   exact De vz
theorem fs_A {a b p : Fact} {R : List Fact} (ha : a ∈ R) (hb : b ∈ R) : ∀ f ∈ a :: b :: p :: R, f ∈ p :: R := fun f hf => by
 simp only [List.mem_cons] at hf ⊢
 rcases hf with e | e | e | e
 ·rw [e]; exact .inr ha
 ·rw [e]; exact .inr hb
 ·exact .inl e
 ·exact .inr e
theorem fs_B {a p q : Fact} {R : List Fact} (ha : a ∈ R) : ∀ f ∈ a :: p :: q :: R, f ∈ p :: q :: R := fun f hf => by
 simp only [List.mem_cons] at hf ⊢
 rcases hf with e | e | e | e
 ·rw [e]; exact .inr (.inr ha)
 ·exact .inl e
 ·exact .inr (.inl e)
 ·exact .inr (.inr e)
theorem Ut {b : Nat} {cv hv fv : Value} {x : Chip} {vb : Value} {bt : List UInt8} {n nl : Nat} {M : List Int} (hs : St (row 57 cv x.cores :: blk b 38 [cv, hv, fv] :: L) R w) (hhv : sl hv x.home ∈ R) (hfv : sl fv x.frames ∈ R) (hvb : sl vb bt ∈ R) (h : Inv n nl x M) : Calls Try.prog 23 [bp b 0, vb].toArray w (Bl (fun g : Value × Value × Value => g.2.2) (fun g => row 57 cv (Bp x bt).1.cores :: blk b 38 [cv, g.1, g.2.1] :: L) (fun g => sl g.1 (Bp x bt).1.home :: sl g.2.1 (Bp x bt).1.frames :: sl g.2.2 (Bp x bt).2 :: R)) := by
 have hnc := h.nc
 have hnh := h.nh
 have hn1 := h.n1
 have hn2 := h.l1
 have honec : cv.oneCell' = true := A6 .hd hs
 have honeh : hv.oneCell' = true := isSlice.one (hs.fact hhv)
 have honef : fv.oneCell' = true := isSlice.one (hs.fact hfv)
 have hn64 : Ao (x.cores.length : Int) := by unfold Ao; omega
 refine Ah Try.func23 rfl Try.ntmps23 rfl hs ?_
 clear hs
 refine ZH ?_
 refine rn1 ?_
 refine Ak Try.call40 rfl (fun w hs => Abx (x := x) (cv := cv) (hv := hv) (fv := fv) hs mm) ?_; intro _
 refine rn1 ?_
 refine Ak Try.call39 rfl (fun w hs => P1 (c := Ar x) (b := bt) hs mm) ?_; intro _
 refine rn3 ?_
 refine al_ (cs := zMsg.cells) Try.zeroValue105 ?_; intro b5
 refine s_B (cs := (Ae (Ar x) bt).1.cells) Try.sizeOf105 ?_
 refine ZL ?_
 refine cdy ?_ ?_
 ·intro ht21
  refine Gl ?_
  refine ZM ?_
  refine Aa ?_
  refine Ga1 ?_
  have er : Bp x bt = (x, []) := by unfold Bp; rw [if_pos ht21]
  rw [er]
  exact Be (hv, fv, .slice none 0 0) (hs := fun w hs => (Af hs : St _ (sl (.slice none 0 0) ([] : List Done) :: R) w).sub .refl (fs_A hhv hfv))
 ·intro ht21
  refine Gl ?_
  have hp0 : (Ae (Ar x) bt).2 = 0 := Decidable.not_not.1 ht21
  have hpk := Js (c := Ar x) (b := bt) (m := (Ae (Ar x) bt).1) (by rw [← hp0])
  have hwk := Hw hpk.2.2.2.2.1
  have hpw : (Ae (Ar x) bt).1.wf := by rw [hpk.2.2.2.2.2]; exact V6 _
  have ecn : (Ar x).cores = (x.cores.length : Int) := rfl
  rw [ecn] at hwk
  refine Aa ?_
  refine Gb6 ?_
  refine Ga4 ?_
  refine cdy ?_ ?_
  ·intro ht30
   refine Gl ?_
   refine cq_ (blk b5 105 (Ae (Ar x) bt).1.cells :: row 57 cv x.cores :: blk b 38 [cv, hv, fv] :: L) ?_
   refine jd_ (fun ρ S => blk b5 105 (Ae (Ar x) bt).1.cells :: row 57 cv x.cores :: blk b 38 [cv, hv, fv] :: L) ?_
   refine dn6 ?_
   refine Gc (γ := Value × Value) (val := fun v => .tuple #[v.1, v.2]) (F := fun v => [sl v.1 (Al x.home (x.cores.length : Int) (Ae (Ar x) bt).1).1, sl v.2 (Al x.home (x.cores.length : Int) (Ae (Ar x) bt).1).2]) Try.call41 (fun _ => rfl) (fun ρ L R w hd hs => Nb (l := x.home) (id := (x.cores.length : Int)) (m := (Ae (Ar x) bt).1) hs (hd.base mm) (fun i hi => (h.ebs i hi).1) (fun i hi => (h.ebs i hi).2.2.2.2) hpw hn64) (fun _ _ _ _ _ => rfl) ?_
   refine e_p (v := fun ρ => .tuple #[(Gh.dec (γ := Value × Value) (ρ 6)).1, (Gh.dec (γ := Value × Value) (ρ 6)).2]) (fun _ _ => N3) (Ind.gh (h := fun g => (.tuple #[(Gh.dec (γ := Value × Value) g).1, (Gh.dec (γ := Value × Value) g).2] : Value)) 6 0 rfl) (fun _ _ _ _ _ => rfl) ?_
   refine Zbt ?_
   refine Zbu ?_
   refine dnl ?_; intro ρ
   refine xq_ (blk b5 105 (Ae (Ar x) bt).1.cells :: row 57 cv x.cores :: blk b 38 [cv, hv, fv] :: L) ?_
   generalize (Gh.dec (γ := Value × Value) (ρ 6)) = vh
   refine Gl ?_
   refine JC.know (p := vh.1.oneCell' = true) (fun w hs => isSlice.one (hs.fact (mm (f := sl vh.1 (Al x.home (x.cores.length : Int) (Ae (Ar x) bt).1).1)))) (fun honeh1 => ?_)
   refine kp [0, 4, 5, 7, 8, 9, 41, 42, 43, 44] ?_
   refine ZG ?_
   refine Za3 ?_
   refine Ak Try.call21 rfl (fun w hs => Ih (cv := cv) (hv := vh.1) (fv := fv) (fs := x.frames) (ms := (Al x.home (x.cores.length : Int) (Ae (Ar x) bt).1).2) (Af (L' := blk b 38 [cv, vh.1, fv] :: row 57 cv x.cores :: L) hs) mm mm (Ot (by omega) (by omega) h.ebs hwk.2.2.2.1 hwk.2.2.2.2.2.1)) ?_; intro vs
   refine Gl ?_
   refine ZM ?_
   refine Aa ?_
   refine Ga1 ?_
   have er : Bp x bt = (⟨x.cores, (Al x.home (x.cores.length : Int) (Ae (Ar x) bt).1).1, way x.frames (Al x.home (x.cores.length : Int) (Ae (Ar x) bt).1).2⟩, []) := by unfold Bp Ba; rw [if_neg ht21, if_pos ht30]
   rw [er]
   exact Be (vh.1, vs, .slice none 0 0)
  ·intro ht30
   refine Gl ?_
   refine JC.focus1 (T := 57) (v := cv) (xs := x.cores) (Ae (Ar x) bt).1.dst.toNat pkk (by omega) (fun hwt u => ?_)
   have hkb : KB (Au x (Ae (Ar x) bt).1.dst) := h.kb (p := (Ae (Ar x) bt).1.dst.toNat) (by omega)
   have hlb := h.lbs (p := (Ae (Ar x) bt).1.dst) (by omega)
   have hk4 := hkb.n
   have hpd64 : Ao (Ae (Ar x) bt).1.dst := by unfold Ao; omega
   refine cq_ (foc 57 cv x.cores (Ae (Ar x) bt).1.dst.toNat (Core.cells u (Au x (Ae (Ar x) bt).1.dst)) :: blk b5 105 (Ae (Ar x) bt).1.cells :: blk b 38 [cv, hv, fv] :: L) ?_
   refine jd_ (fun ρ S => foc 57 cv x.cores (Ae (Ar x) bt).1.dst.toNat (Core.cells u (Au x (Ae (Ar x) bt).1.dst)) :: blk b5 105 (Ae (Ar x) bt).1.cells :: blk b 38 [cv, hv, fv] :: ((bif S 17 then [blk (Gh.dec (γ := Nat) (ρ 17)) 57 (bif S 18 then [(Gh.dec (γ := Value × Value × Value) (ρ 12)).1, vi (Ac (Au x (Ae (Ar x) bt).1.dst) (Ae (Ar x) bt).1.dst (x.cores.length : Int) (Ae (Ar x) bt).1).1.wait.kind, vi (Ac (Au x (Ae (Ar x) bt).1.dst) (Ae (Ar x) bt).1.dst (x.cores.length : Int) (Ae (Ar x) bt).1).1.wait.line, vi (Ac (Au x (Ae (Ar x) bt).1.dst) (Ae (Ar x) bt).1.dst (x.cores.length : Int) (Ae (Ar x) bt).1).1.wait.value] else [.slice none 0 0, vi 0, vi 0, vi 0])] else []) ++ (L))) ?_
   refine dn6 ?_
   refine epc (fun _ _ => It (v := cv) (i := (Ae (Ar x) bt).1.dst) Yv (hl := Cd (α := Core) (xs := x.cores) pkk)) ?_
   refine epc (fun _ _ => Y6 (cs := Core.cells u (Au x (Ae (Ar x) bt).1.dst)) Try.isAgg57 Try.sizeOf57) ?_
   refine dn4 ?_
   refine Gc (γ := Value × Value × Value) (val := fun v => .tuple #[.agg (Core.cells v.1 (Ac (Au x (Ae (Ar x) bt).1.dst) (Ae (Ar x) bt).1.dst (x.cores.length : Int) (Ae (Ar x) bt).1).1).toArray, v.2.1, v.2.2]) (F := fun v => [sl v.1 (Ac (Au x (Ae (Ar x) bt).1.dst) (Ae (Ar x) bt).1.dst (x.cores.length : Int) (Ae (Ar x) bt).1).1.lines, sl v.2.1 (Ac (Au x (Ae (Ar x) bt).1.dst) (Ae (Ar x) bt).1.dst (x.cores.length : Int) (Ae (Ar x) bt).1).2.1, sl v.2.2 (Ac (Au x (Ae (Ar x) bt).1.dst) (Ae (Ar x) bt).1.dst (x.cores.length : Int) (Ae (Ar x) bt).1).2.2]) Try.call42 (fun _ => rfl) (fun ρ L R w hd hs => Uc (c := (Au x (Ae (Ar x) bt).1.dst)) (id := (Ae (Ar x) bt).1.dst) (home := (x.cores.length : Int)) (m := (Ae (Ar x) bt).1) (u := u) hs (hd.base mm) hkb.kh hpd64 hn64 hpw) (fun ρ g S hS hA => by have u17 : upS S 12 17 = S 17 := rfl; have u18 : upS S 12 18 = S 18 := rfl; have r17 : Rho.set ρ 12 g 17 = ρ 17 := rfl; have h18 : S 18 = false := hA 18 ⟨0, rfl⟩; simp only [u17, u18, r17, h18, cond_false]) ?_
   refine e_p (v := fun ρ => .tuple #[.agg (Core.cells (Gh.dec (γ := Value × Value × Value) (ρ 12)).1 (Ac (Au x (Ae (Ar x) bt).1.dst) (Ae (Ar x) bt).1.dst (x.cores.length : Int) (Ae (Ar x) bt).1).1).toArray, (Gh.dec (γ := Value × Value × Value) (ρ 12)).2.1, (Gh.dec (γ := Value × Value × Value) (ρ 12)).2.2]) (fun _ _ => N3) (Ind.gh (h := fun g => (.tuple #[.agg (Core.cells (Gh.dec (γ := Value × Value × Value) g).1 (Ac (Au x (Ae (Ar x) bt).1.dst) (Ae (Ar x) bt).1.dst (x.cores.length : Int) (Ae (Ar x) bt).1).1).toArray, (Gh.dec (γ := Value × Value × Value) g).2.1, (Gh.dec (γ := Value × Value × Value) g).2.2] : Value)) 12 0 rfl) (fun _ _ _ _ _ => rfl) ?_
   refine e_p (v := fun ρ => .agg (Core.cells (Gh.dec (γ := Value × Value × Value) (ρ 12)).1 (Ac (Au x (Ae (Ar x) bt).1.dst) (Ae (Ar x) bt).1.dst (x.cores.length : Int) (Ae (Ar x) bt).1).1).toArray) (fun _ _ => q_x) (Ind.gh (h := fun g => (.agg (Core.cells (Gh.dec (γ := Value × Value × Value) g).1 (Ac (Au x (Ae (Ar x) bt).1.dst) (Ae (Ar x) bt).1.dst (x.cores.length : Int) (Ae (Ar x) bt).1).1).toArray : Value)) 12 1 rfl) (fun _ _ _ _ _ => rfl) ?_
   refine e_p (v := fun ρ => (Gh.dec (γ := Value × Value × Value) (ρ 12)).2.1) (fun _ _ => q_x) (Ind.gh (h := fun g => ((Gh.dec (γ := Value × Value × Value) g).2.1 : Value)) 12 1 rfl) (fun _ _ _ _ _ => rfl) ?_
   refine e_p (v := fun ρ => (Gh.dec (γ := Value × Value × Value) (ρ 12)).2.2) (fun _ _ => q_x) (Ind.gh (h := fun g => ((Gh.dec (γ := Value × Value × Value) g).2.2 : Value)) 12 1 rfl) (fun _ _ _ _ _ => rfl) ?_
   refine Lz (cs := [.slice none 0 0, vi 0, vi 0, vi 0]) Try.zeroValue57 rfl (fun ρ b S hS hA => ?_) ?_
   ·have ui : upS S 17 17 = true := rfl; have u18 : upS S 17 18 = S 18 := rfl; have r12 : Rho.set ρ 17 (Gh.enc b) 12 = ρ 12 := rfl; have h18 : S 18 = false := hA 18 ⟨0, rfl⟩; have rs : (Gh.dec (γ := Nat) (Rho.set ρ 17 (Gh.enc b) 17)) = b := rfl
    simp only [ui, hS, u18, r12, h18, rs, cond_true, cond_false, List.nil_append]
    exact ZcP
   refine es_ 57 0 [17] [] (fun ρ => (Gh.dec (γ := Nat) (ρ 17))) (fun ρ => [.slice none 0 0, vi 0, vi 0, vi 0]) (fun ρ => [(Gh.dec (γ := Value × Value × Value) (ρ 12)).1, vi (Ac (Au x (Ae (Ar x) bt).1.dst) (Ae (Ar x) bt).1.dst (x.cores.length : Int) (Ae (Ar x) bt).1).1.wait.kind, vi (Ac (Au x (Ae (Ar x) bt).1.dst) (Ae (Ar x) bt).1.dst (x.cores.length : Int) (Ae (Ar x) bt).1).1.wait.line, vi (Ac (Au x (Ae (Ar x) bt).1.dst) (Ae (Ar x) bt).1.dst (x.cores.length : Int) (Ae (Ar x) bt).1).1.wait.value]) Try.sizeOf57 (h1 := (fun ρ R w L' hd hs => Dt (isSlice.one (hs.fact (hd.dep (it := ⟨12, _, _, _, _⟩) (by repeat (first | exact List.Mem.head _ | refine List.Mem.tail _ ?_)) ⟨9, rfl⟩ (List.Mem.head _)))) (by repeat (first | exact Hn | refine Dt rfl ?_)))) ?_
   refine e_p (v := fun ρ => (Gh.dec (γ := Value × Value × Value) (ρ 12)).2.1) (fun _ _ => Ch) (Ind.gh (h := fun g => ((Gh.dec (γ := Value × Value × Value) g).2.1 : Value)) 12 0 rfl) (fun _ _ _ _ _ => rfl) ?_
   refine e_p (v := fun ρ => (Gh.dec (γ := Value × Value × Value) (ρ 12)).2.2) (fun _ _ => Ch) (Ind.gh (h := fun g => ((Gh.dec (γ := Value × Value × Value) g).2.2 : Value)) 12 0 rfl) (fun _ _ _ _ _ => rfl) ?_
   refine dnl ?_; intro ρ
   refine xq_ (foc 57 cv x.cores (Ae (Ar x) bt).1.dst.toNat (Core.cells u (Au x (Ae (Ar x) bt).1.dst)) :: blk b5 105 (Ae (Ar x) bt).1.cells :: blk b 38 [cv, hv, fv] :: (blk (Gh.dec (γ := Nat) (ρ 17)) 57 [(Gh.dec (γ := Value × Value × Value) (ρ 12)).1, vi (Ac (Au x (Ae (Ar x) bt).1.dst) (Ae (Ar x) bt).1.dst (x.cores.length : Int) (Ae (Ar x) bt).1).1.wait.kind, vi (Ac (Au x (Ae (Ar x) bt).1.dst) (Ae (Ar x) bt).1.dst (x.cores.length : Int) (Ae (Ar x) bt).1).1.wait.line, vi (Ac (Au x (Ae (Ar x) bt).1.dst) (Ae (Ar x) bt).1.dst (x.cores.length : Int) (Ae (Ar x) bt).1).1.wait.value] :: L)) ?_
   generalize (Gh.dec (γ := Value × Value × Value) (ρ 12)) = vk
   generalize (Gh.dec (γ := Nat) (ρ 17)) = b10
   refine Gl ?_
   refine JC.conseq (L' := row 57 cv x.cores :: blk b10 57 (Core.cells vk.1 (Ac (Au x (Ae (Ar x) bt).1.dst) (Ae (Ar x) bt).1.dst (x.cores.length : Int) (Ae (Ar x) bt).1).1) :: blk b5 105 (Ae (Ar x) bt).1.cells :: blk b 38 [cv, hv, fv] :: L) (fun w hs => Af (Nn mm hwt (hs.pick pkk))) ?_
   refine kp [0, 4, 5, 10, 11, 12, 65, 66, 67, 68, 69, 70, 71, 72] ?_
   refine ZR ?_
   refine dtl ?_; intro ρ
   refine s_W (α := Core) (Ac (Au x (Ae (Ar x) bt).1.dst) (Ae (Ar x) bt).1.dst (x.cores.length : Int) (Ae (Ar x) bt).1).1 Try.sizeOf57 rfl rfl rfl pkk (by omega) (X8 mm (Tt hkb.wwf)) ?_
   refine Zaf ?_
   refine Ak Try.call21 rfl (fun w hs => Ih (cv := cv) (hv := hv) (fv := fv) (fs := x.frames) (ms := (Ac (Au x (Ae (Ar x) bt).1.dst) (Ae (Ar x) bt).1.dst (x.cores.length : Int) (Ae (Ar x) bt).1).2.1) (Af (L' := blk b 38 [cv, hv, fv] :: row 57 cv (x.cores.set (Ae (Ar x) bt).1.dst.toNat (Ac (Au x (Ae (Ar x) bt).1.dst) (Ae (Ar x) bt).1.dst (x.cores.length : Int) (Ae (Ar x) bt).1).1) :: L) hs) mm mm (Zs (by omega) (by omega) hk4 hlb hwk.2.2.2.2.1)) ?_; intro vs
   refine ZD ?_
   have er : Bp x bt = (Cf x (Ae (Ar x) bt).1.dst (Ac (Au x (Ae (Ar x) bt).1.dst) (Ae (Ar x) bt).1.dst (x.cores.length : Int) (Ae (Ar x) bt).1).1 (Ac (Au x (Ae (Ar x) bt).1.dst) (Ae (Ar x) bt).1.dst (x.cores.length : Int) (Ae (Ar x) bt).1).2.1, (Ac (Au x (Ae (Ar x) bt).1.dst) (Ae (Ar x) bt).1.dst (x.cores.length : Int) (Ae (Ar x) bt).1).2.2) := by unfold Bp Ba; rw [if_neg ht21, if_neg ht30]
   rw [er]
   exact Be (hv, vs, vk.2.2) (hs := fun w hs => (Af hs : St _ (sl vs (way x.frames (Ac (Au x (Ae (Ar x) bt).1.dst) (Ae (Ar x) bt).1.dst (x.cores.length : Int) (Ae (Ar x) bt).1).2.1) :: sl vk.2.2 (Ac (Au x (Ae (Ar x) bt).1.dst) (Ae (Ar x) bt).1.dst (x.cores.length : Int) (Ae (Ar x) bt).1).2.2 :: R) w).sub .refl (fs_B hhv))
theorem kv_row {v : Value} {ks : List KV} {cs : List Core} (h : ks.map KV.c = cs) (hs : St (row 57 v ks :: (ks.map Va ++ L)) R w) : St (row 57 v cs :: L) R w := by
 subst h
 have h1 : St (ks.map Va ++ (row 57 v ks :: L)) R w := hs.perm List.perm_middle.symm
 have h2 := M6 ks h1
 have h3 := Qq (fun x hx => List.mem_append.2 (.inl (List.mem_map.2 ⟨x, hx, rfl⟩))) h2
 exact h3.sub .refl (fun f hf => List.mem_append.2 (.inr hf))
theorem F6 {cv hv fv : Value} {x : Chip} (hs : St L R w) (hcv : sl cv x.cores ∈ R) (hhv : sl hv x.home ∈ R) (hfv : sl fv x.frames ∈ R) (hn4 : x.cores.length ≤ 1000) : Calls Try.prog 19 [.agg #[cv, hv, fv]].toArray w (Bl (fun g : Value × Value × Value => .agg #[g.1, g.2.1, g.2.2]) (fun g => row 57 g.1 x.cores :: L) (fun g => sl g.2.2 x.frames :: sl g.2.1 x.home :: R)) :=
 G6 (Abw hs hcv hhv hfv hn4) (fun g w' hs' => ⟨(g.1, g.2.1, g.2.2.1), rfl, by
  have h1 := Fq (.head _) hs'
  exact (kv_row h1 hs').sub .refl (fun f hf => .tail _ hf)⟩)
theorem Wg {n nl : Nat} {x : Chip} {M : List Int} (h : Inv n nl x M) (i : Nat) : Inv n nl ⟨x.cores, x.home, x.frames.eraseIdx i⟩ M :=
 ⟨h.n1, h.l1, h.nc, h.nh, h.ncl, h.nla, h.ml, h.mv, h.bit, h.gi, h.ci, h.cw, by have := h.fr; have := List.length_eraseIdx_le x.frames i; simp only; omega, fun b hb => h.mi b (List.mem_of_mem_eraseIdx hb)⟩
theorem Xk {cv hv fv : Value} {x : Chip} {s : Step} {n nl : Nat} {M : List Int} (hs : St (L) R w) (hcv : sl cv x.cores ∈ R) (hhv : sl hv x.home ∈ R) (hfv : sl fv x.frames ∈ R) (hsn : s.wf) (h : Inv n nl x M) (hk : s.kind = 1) : Calls Try.prog 10 [.agg #[cv, hv, fv], .agg s.cells.toArray].toArray w (Bl (fun v : Value × Value × Value × Value => .tuple #[.agg #[v.1, v.2.1, v.2.2.1], v.2.2.2, vi (Am x s).2.2]) (fun v => L) (fun v => sl v.1 (Am x s).1.cores :: sl v.2.1 (Am x s).1.home :: sl v.2.2.1 (Am x s).1.frames :: sl v.2.2.2 (Am x s).2.1 :: R)) := by
 refine Za7 ?_;intro hnc hnh hn1 hn2 honec honeh honef hn64 hop
 clear hs
 refine ZaC ?_;intro b2 b3 b4
 refine Ak Try.call19 rfl (fun w hs => F6 (x := x) (cv := cv) (hv := hv) (fv := fv) hs mm mm mm (by omega)) ?_; intro ⟨cY, hY, fY⟩
 refine ZaA ?_;intro h12
 obtain ⟨honeY1, honeY2, honeY3⟩ := h12
 refine ZaB ?_;intro b7
 refine C3 ?_
 refine Gc1 ?_
 rcases (show (s.node < 0) ∨ (0 ≤ s.node ∧ (x.cores.length : Int) ≤ s.node) ∨ (0 ≤ s.node ∧ s.node < (x.cores.length : Int)) from by omega) with hc | hc | hc
 ·refine Zat ?_
  refine Gc8 ?_
  refine ZbX ?_;intro er
  exact Zc2
 ·refine ZB ?_
  refine Zbm ?_
  refine Gc1 ?_
  refine ZbX ?_;intro er
  exact Zc2
 ·refine ZB ?_
  refine Zaj ?_
  refine Gc1 ?_
  refine V0 (x := x) (v := cv) s.node mm (by omega) (by omega) (fun hwt u => ?_)
  have hkb : KB (Au x s.node) := h.kb (p := s.node.toNat) (by omega)
  have hlb := h.lbs (p := s.node) (by omega)
  have hk4 := hkb.n
  refine cq_ (row 57 cY x.cores :: blk b7 38 [cY, hY, fY] :: blk b4 38 [.slice none 0 0, .slice none 0 0, .slice none 0 0] :: blk b3 47 s.cells :: blk b2 38 [cv, hv, fv] :: L) ?_
  refine jd_ (fun ρ S => row 57 cY x.cores :: blk b7 38 [cY, hY, fY] :: blk b4 38 [.slice none 0 0, .slice none 0 0, .slice none 0 0] :: blk b3 47 s.cells :: blk b2 38 [cv, hv, fv] :: ((bif S 19 then [blk (Gh.dec (γ := Nat) (ρ 19)) 57 (bif S 20 then [(Gh.dec (γ := Value × Value × Value) (ρ 13)).1, vi (Aj (Au x s.node) s.node (x.cores.length : Int) s.op).1.wait.kind, vi (Aj (Au x s.node) s.node (x.cores.length : Int) s.op).1.wait.line, vi (Aj (Au x s.node) s.node (x.cores.length : Int) s.op).1.wait.value] else [.slice none 0 0, vi 0, vi 0, vi 0])] else []) ++ (L))) ?_
  refine dn13 ?_
  refine Gc (γ := Value × Value × Value) (val := fun v => .tuple #[.agg (Core.cells v.1 (Aj (Au x s.node) s.node (x.cores.length : Int) s.op).1).toArray, v.2.1, v.2.2, vi (Aj (Au x s.node) s.node (x.cores.length : Int) s.op).2.2.2]) (F := fun v => [sl v.1 (Aj (Au x s.node) s.node (x.cores.length : Int) s.op).1.lines, sl v.2.1 (Aj (Au x s.node) s.node (x.cores.length : Int) s.op).2.1, sl v.2.2 (Aj (Au x s.node) s.node (x.cores.length : Int) s.op).2.2.1]) Try.call20 (fun _ => rfl) (fun ρ L R w hd hs => Rv (c := (Au x s.node)) (id := s.node) (home := (x.cores.length : Int)) (q := s.op) (u := u) hs (hd.base mm) hkb hsn.2.1 hn64 hop) (fun ρ g S hS hA => by have u19 : upS S 13 19 = S 19 := rfl; have u20 : upS S 13 20 = S 20 := rfl; have r19 : Rho.set ρ 13 g 19 = ρ 19 := rfl; have h20 : S 20 = false := hA 20 ⟨0, rfl⟩; simp only [u19, u20, r19, h20, cond_false]) ?_
  refine e_p (v := fun ρ => .tuple #[.agg (Core.cells (Gh.dec (γ := Value × Value × Value) (ρ 13)).1 (Aj (Au x s.node) s.node (x.cores.length : Int) s.op).1).toArray, (Gh.dec (γ := Value × Value × Value) (ρ 13)).2.1, (Gh.dec (γ := Value × Value × Value) (ρ 13)).2.2, vi (Aj (Au x s.node) s.node (x.cores.length : Int) s.op).2.2.2]) (fun _ _ => N3) (Ind.gh (h := fun g => (.tuple #[.agg (Core.cells (Gh.dec (γ := Value × Value × Value) g).1 (Aj (Au x s.node) s.node (x.cores.length : Int) s.op).1).toArray, (Gh.dec (γ := Value × Value × Value) g).2.1, (Gh.dec (γ := Value × Value × Value) g).2.2, vi (Aj (Au x s.node) s.node (x.cores.length : Int) s.op).2.2.2] : Value)) 13 0 rfl) (fun _ _ _ _ _ => rfl) ?_
  refine e_p (v := fun ρ => .agg (Core.cells (Gh.dec (γ := Value × Value × Value) (ρ 13)).1 (Aj (Au x s.node) s.node (x.cores.length : Int) s.op).1).toArray) (fun _ _ => q_x) (Ind.gh (h := fun g => (.agg (Core.cells (Gh.dec (γ := Value × Value × Value) g).1 (Aj (Au x s.node) s.node (x.cores.length : Int) s.op).1).toArray : Value)) 13 1 rfl) (fun _ _ _ _ _ => rfl) ?_
  refine e_p (v := fun ρ => (Gh.dec (γ := Value × Value × Value) (ρ 13)).2.1) (fun _ _ => q_x) (Ind.gh (h := fun g => ((Gh.dec (γ := Value × Value × Value) g).2.1 : Value)) 13 1 rfl) (fun _ _ _ _ _ => rfl) ?_
  refine e_p (v := fun ρ => (Gh.dec (γ := Value × Value × Value) (ρ 13)).2.2) (fun _ _ => q_x) (Ind.gh (h := fun g => ((Gh.dec (γ := Value × Value × Value) g).2.2 : Value)) 13 1 rfl) (fun _ _ _ _ _ => rfl) ?_
  refine Jn (v := vi (Aj (Au x s.node) s.node (x.cores.length : Int) s.op).2.2.2) (fun _ _ => q_x) (fun _ _ _ _ _ => rfl) ?_
  refine Lz (cs := [.slice none 0 0, vi 0, vi 0, vi 0]) Try.zeroValue57 rfl (fun ρ b S hS hA => ?_) ?_
  ·have ui : upS S 19 19 = true := rfl; have u20 : upS S 19 20 = S 20 := rfl; have r13 : Rho.set ρ 19 (Gh.enc b) 13 = ρ 13 := rfl; have h20 : S 20 = false := hA 20 ⟨0, rfl⟩; have rs : (Gh.dec (γ := Nat) (Rho.set ρ 19 (Gh.enc b) 19)) = b := rfl
   simp only [ui, hS, u20, r13, h20, rs, cond_true, cond_false, List.nil_append]
   exact ZcP
  refine es_ 57 0 [19] [] (fun ρ => (Gh.dec (γ := Nat) (ρ 19))) (fun ρ => [.slice none 0 0, vi 0, vi 0, vi 0]) (fun ρ => [(Gh.dec (γ := Value × Value × Value) (ρ 13)).1, vi (Aj (Au x s.node) s.node (x.cores.length : Int) s.op).1.wait.kind, vi (Aj (Au x s.node) s.node (x.cores.length : Int) s.op).1.wait.line, vi (Aj (Au x s.node) s.node (x.cores.length : Int) s.op).1.wait.value]) Try.sizeOf57 (h1 := (fun ρ R w L' hd hs => Dt (isSlice.one (hs.fact (hd.dep (it := ⟨13, _, _, _, _⟩) (by repeat (first | exact List.Mem.head _ | refine List.Mem.tail _ ?_)) ⟨9, rfl⟩ (List.Mem.head _)))) (by repeat (first | exact Hn | refine Dt rfl ?_)))) ?_
  refine e_p (v := fun ρ => (Gh.dec (γ := Value × Value × Value) (ρ 13)).2.1) (fun _ _ => Ch) (Ind.gh (h := fun g => ((Gh.dec (γ := Value × Value × Value) g).2.1 : Value)) 13 0 rfl) (fun _ _ _ _ _ => rfl) ?_
  refine e_p (v := fun ρ => (Gh.dec (γ := Value × Value × Value) (ρ 13)).2.2) (fun _ _ => Ch) (Ind.gh (h := fun g => ((Gh.dec (γ := Value × Value × Value) g).2.2 : Value)) 13 0 rfl) (fun _ _ _ _ _ => rfl) ?_
  refine Jn (v := vi (Aj (Au x s.node) s.node (x.cores.length : Int) s.op).2.2.2) (fun _ _ => Ch) (fun _ _ _ _ _ => rfl) ?_
  refine dnl ?_; intro ρ
  refine xq_ (row 57 cY x.cores :: blk b7 38 [cY, hY, fY] :: blk b4 38 [.slice none 0 0, .slice none 0 0, .slice none 0 0] :: blk b3 47 s.cells :: blk b2 38 [cv, hv, fv] :: (blk (Gh.dec (γ := Nat) (ρ 19)) 57 [(Gh.dec (γ := Value × Value × Value) (ρ 13)).1, vi (Aj (Au x s.node) s.node (x.cores.length : Int) s.op).1.wait.kind, vi (Aj (Au x s.node) s.node (x.cores.length : Int) s.op).1.wait.line, vi (Aj (Au x s.node) s.node (x.cores.length : Int) s.op).1.wait.value] :: L)) ?_
  generalize (Gh.dec (γ := Value × Value × Value) (ρ 13)) = vk
  generalize (Gh.dec (γ := Nat) (ρ 19)) = b10
  refine Gl ?_
  refine kp [2, 3, 4, 5, 6, 7, 8, 9, 10, 11, 12, 13, 20, 54, 55] ?_
  refine Zac ?_
  refine cdy ?_ ?_
  ·intro ht55
   refine Gl ?_
   refine ZaR ?_
   have er : Am x s = (Dd, [], (Aj (Au x s.node) s.node (x.cores.length : Int) s.op).2.2.2) := by unfold Am Ba; rw [if_pos (by omega), if_neg (by omega), if_pos ht55]
   rw [er]
   exact Zc2
  ·intro ht55
   refine Gm ?_
   refine rn6 ?_
   refine s_W (α := Core) (Aj (Au x s.node) s.node (x.cores.length : Int) s.op).1 Try.sizeOf57 rfl rfl rfl pkk (by omega) (X8 mm (R8 hop)) ?_
   refine Zad ?_
   refine Ak Try.call21 rfl (fun w hs => Ih (cv := cY) (hv := hY) (fv := fY) (fs := x.frames) (ms := (Aj (Au x s.node) s.node (x.cores.length : Int) s.op).2.1) (Af (L' := blk b7 38 [cY, hY, fY] :: row 57 cY (x.cores.set s.node.toNat (Aj (Au x s.node) s.node (x.cores.length : Int) s.op).1) :: blk b4 38 [.slice none 0 0, .slice none 0 0, .slice none 0 0] :: blk b3 47 s.cells :: blk b2 38 [cv, hv, fv] :: L) hs) mm mm (Xs (by omega) (by omega) hk4 hlb)) ?_; intro vs
   refine Gm ?_
   refine Gb2 ?_
   refine rn1 ?_
   refine ZaJ ?_
   refine JC.shut (v := cY) (xs := (x.cores.set s.node.toNat (Aj (Au x s.node) s.node (x.cores.length : Int) s.op).1)) pkk ?_
   refine JC.know (p := vs.oneCell' = true) (fun w hs => isSlice.one (hs.fact (mm (f := sl vs (way x.frames (Aj (Au x s.node) s.node (x.cores.length : Int) s.op).2.1))))) (fun honevs => ?_)
   refine ZB ?_
   refine s_B (cs := [cY, hY, vs]) Try.sizeOf38 ?_
   refine Ga2 ?_
   have er : Am x s = (Cf x s.node (Aj (Au x s.node) s.node (x.cores.length : Int) s.op).1 (Aj (Au x s.node) s.node (x.cores.length : Int) s.op).2.1, (Aj (Au x s.node) s.node (x.cores.length : Int) s.op).2.2.1, 0) := by unfold Am Ba; rw [if_pos (by omega), if_neg (by omega), if_neg ht55]
   rw [er]
   exact Es (cY, hY, vs, vk.2.2) Try.isAgg38 Try.sizeOf38
theorem Xl {cv hv fv : Value} {x : Chip} {s : Step} {n nl : Nat} {M : List Int} (hs : St (L) R w) (hcv : sl cv x.cores ∈ R) (hhv : sl hv x.home ∈ R) (hfv : sl fv x.frames ∈ R) (hsn : s.wf) (h : Inv n nl x M) (hk : s.kind < 1 ∨ 6 < s.kind) : Calls Try.prog 10 [.agg #[cv, hv, fv], .agg s.cells.toArray].toArray w (Bl (fun v : Value × Value × Value × Value => .tuple #[.agg #[v.1, v.2.1, v.2.2.1], v.2.2.2, vi (Am x s).2.2]) (fun v => L) (fun v => sl v.1 (Am x s).1.cores :: sl v.2.1 (Am x s).1.home :: sl v.2.2.1 (Am x s).1.frames :: sl v.2.2.2 (Am x s).2.1 :: R)) := by
 refine Za7 ?_;intro hnc hnh hn1 hn2 honec honeh honef hn64 hop
 clear hs
 refine ZaC ?_;intro b2 b3 b4
 refine Ak Try.call19 rfl (fun w hs => F6 (x := x) (cv := cv) (hv := hv) (fv := fv) hs mm mm mm (by omega)) ?_; intro ⟨cY, hY, fY⟩
 refine ZaA ?_;intro h12
 obtain ⟨honeY1, honeY2, honeY3⟩ := h12
 refine ZaB ?_;intro b7
 refine ZF ?_
 refine ZF ?_
 refine ZF ?_
 refine ZF ?_
 refine ZF ?_
 refine ZF ?_
 refine Gb1 ?_
 refine rn1 ?_
 refine ZaU ?_
 refine ZaR ?_
 have er : Am x s = (Dd, [], 1) := by unfold Am Ba; rw [if_neg (by omega), if_neg (by omega), if_neg (by omega), if_neg (by omega), if_neg (by omega), if_neg (by omega)]
 rw [er]
 exact Zc2
theorem Xj {cv hv fv : Value} {x : Chip} {s : Step} {n nl : Nat} {M : List Int} (hs : St (L) R w) (hcv : sl cv x.cores ∈ R) (hhv : sl hv x.home ∈ R) (hfv : sl fv x.frames ∈ R) (hsn : s.wf) (h : Inv n nl x M) (hk : s.kind = 2) : Calls Try.prog 10 [.agg #[cv, hv, fv], .agg s.cells.toArray].toArray w (Bl (fun v : Value × Value × Value × Value => .tuple #[.agg #[v.1, v.2.1, v.2.2.1], v.2.2.2, vi (Am x s).2.2]) (fun v => L) (fun v => sl v.1 (Am x s).1.cores :: sl v.2.1 (Am x s).1.home :: sl v.2.2.1 (Am x s).1.frames :: sl v.2.2.2 (Am x s).2.1 :: R)) := by
 refine Za7 ?_;intro hnc hnh hn1 hn2 honec honeh honef hn64 hop
 clear hs
 refine ZaC ?_;intro b2 b3 b4
 refine Ak Try.call19 rfl (fun w hs => F6 (x := x) (cv := cv) (hv := hv) (fv := fv) hs mm mm mm (by omega)) ?_; intro ⟨cY, hY, fY⟩
 refine ZaA ?_;intro h12
 obtain ⟨honeY1, honeY2, honeY3⟩ := h12
 refine ZaB ?_;intro b7
 refine ZF ?_
 refine C3 ?_
 refine Gc1 ?_
 rcases (show (Dw x s.n) ∨ (¬ Dw x s.n) from by exact Classical.em _) with hc | hc
 ·refine ZbE ?_;intro hnt
  refine ZG ?_
  refine Ak (γ := Value × Value) (val := fun v => .tuple #[v.1, v.2, vi 5]) (Rf := fun v => sl v.1 ([] : Frames) :: sl v.2 ([] : List UInt8) :: _) Try.call22 rfl (fun w hs => by have h := G2 (v0 := fv) (l := x.frames) (n := s.n) hs mm hsn.2.2.1; rw [hnt] at h; exact frz h) ?_; intro ⟨va, vb⟩
  refine Gb7 ?_
  refine rn1 ?_
  refine ZaU ?_
  refine ZaG ?_
  refine ZM ?_
  refine kp [2, 3, 4, 5, 6, 7, 8, 9, 14, 15, 16, 20, 81, 82] ?_
  refine Zbr ?_
  have er : Am x s = (Dd, [], 5) := by unfold Am Ba; rw [if_neg (by omega), if_pos (by omega)]; rw [if_pos hc]
  rw [er]
  exact Zc2
 ·refine Zb7 ?_;intro hnt
  refine ZG ?_
  refine Ak (γ := Value × Value) (val := fun v => .tuple #[v.1, v.2, vi 0]) (Rf := fun v => sl v.1 (x.frames.eraseIdx s.n.toNat) :: sl v.2 (Cq x.frames s.n) :: _) Try.call22 rfl (fun w hs => by have h := G2 (v0 := fv) (l := x.frames) (n := s.n) hs mm hsn.2.2.1; rw [hnt] at h; exact frz h) ?_; intro ⟨va, vb⟩
  refine Gb7 ?_
  refine rn1 ?_
  refine ZaJ ?_
  refine JC.know (p := va.oneCell' = true) (fun w hs => isSlice.one (hs.fact (mm (f := sl va (x.frames.eraseIdx s.n.toNat))))) (fun honeva => ?_)
  refine kp [2, 3, 4, 5, 6, 7, 8, 9, 14, 15, 20, 83, 84] ?_
  refine ZB ?_
  refine Za3 ?_
  refine C3 ?_
  refine Gmc ?_
  refine rn1 ?_
  refine Ak Try.call23 rfl (fun w hs => Ut (x := ⟨x.cores, x.home, x.frames.eraseIdx s.n.toNat⟩) (cv := cY) (hv := hY) (fv := va) (bt := (Cq x.frames s.n)) (Af (L' := row 57 cY x.cores :: blk b7 38 [cY, hY, va] :: blk b4 38 [.slice none 0 0, .slice none 0 0, .slice none 0 0] :: blk b3 47 s.cells :: blk b2 38 [cv, hv, fv] :: L) hs) mm mm mm (Wg h _)) ?_; intro ⟨vh, vf, vd⟩
  refine Gb1 ?_
  refine rn1 ?_
  refine ZaJ ?_
  refine JC.shut (v := cY) (xs := (Bp ⟨x.cores, x.home, x.frames.eraseIdx s.n.toNat⟩ (Cq x.frames s.n)).1.cores) pkk ?_
  refine JC.know (p := vh.oneCell' = true) (fun w hs => isSlice.one (hs.fact (mm (f := sl vh (Bp ⟨x.cores, x.home, x.frames.eraseIdx s.n.toNat⟩ (Cq x.frames s.n)).1.home)))) (fun honevh => ?_)
  refine JC.know (p := vf.oneCell' = true) (fun w hs => isSlice.one (hs.fact (mm (f := sl vf (Bp ⟨x.cores, x.home, x.frames.eraseIdx s.n.toNat⟩ (Cq x.frames s.n)).1.frames)))) (fun honevf => ?_)
  refine ZB ?_
  refine s_B (cs := [cY, vh, vf]) Try.sizeOf38 ?_
  refine Ga2 ?_
  have er : Am x s = ((Bp ⟨x.cores, x.home, x.frames.eraseIdx s.n.toNat⟩ (Cq x.frames s.n)).1, (Bp ⟨x.cores, x.home, x.frames.eraseIdx s.n.toNat⟩ (Cq x.frames s.n)).2, 0) := by unfold Am Ba; rw [if_neg (by omega), if_pos (by omega)]; rw [if_neg hc]
  rw [er]
  exact Es (cY, vh, vf, vd) Try.isAgg38 Try.sizeOf38
theorem Xi {cv hv fv : Value} {x : Chip} {s : Step} {n nl : Nat} {M : List Int} (hs : St (L) R w) (hcv : sl cv x.cores ∈ R) (hhv : sl hv x.home ∈ R) (hfv : sl fv x.frames ∈ R) (hsn : s.wf) (h : Inv n nl x M) (hk : s.kind = 3) : Calls Try.prog 10 [.agg #[cv, hv, fv], .agg s.cells.toArray].toArray w (Bl (fun v : Value × Value × Value × Value => .tuple #[.agg #[v.1, v.2.1, v.2.2.1], v.2.2.2, vi (Am x s).2.2]) (fun v => L) (fun v => sl v.1 (Am x s).1.cores :: sl v.2.1 (Am x s).1.home :: sl v.2.2.1 (Am x s).1.frames :: sl v.2.2.2 (Am x s).2.1 :: R)) := by
 refine Za7 ?_;intro hnc hnh hn1 hn2 honec honeh honef hn64 hop
 clear hs
 refine ZaC ?_;intro b2 b3 b4
 refine Ak Try.call19 rfl (fun w hs => F6 (x := x) (cv := cv) (hv := hv) (fv := fv) hs mm mm mm (by omega)) ?_; intro ⟨cY, hY, fY⟩
 refine ZaA ?_;intro h12
 obtain ⟨honeY1, honeY2, honeY3⟩ := h12
 refine ZaB ?_;intro b7
 refine ZaF ?_
 refine Gc1 ?_
 rcases (show (Dw x s.n) ∨ (¬ Dw x s.n) from by exact Classical.em _) with hc | hc
 ·refine ZbE ?_;intro hnt
  refine ZG ?_
  refine Ak (γ := Value × Value) (val := fun v => .tuple #[v.1, v.2, vi 5]) (Rf := fun v => sl v.1 ([] : Frames) :: sl v.2 ([] : List UInt8) :: _) Try.call22 rfl (fun w hs => by have h := G2 (v0 := fv) (l := x.frames) (n := s.n) hs mm hsn.2.2.1; rw [hnt] at h; exact frz h) ?_; intro ⟨va, vb⟩
  refine Ga7 ?_
  refine kp [2, 3, 4, 5, 6, 7, 8, 9, 14, 15, 16, 20, 79, 80] ?_
  refine ZC ?_
  refine ZaU ?_
  refine ZaR ?_
  have er : Am x s = (Dd, [], 5) := by unfold Am Ba; rw [if_neg (by omega), if_neg (by omega), if_pos (by omega)]; rw [if_pos hc]
  rw [er]
  exact Zc2
 ·refine Zb7 ?_;intro hnt
  refine ZG ?_
  refine Ak (γ := Value × Value) (val := fun v => .tuple #[v.1, v.2, vi 0]) (Rf := fun v => sl v.1 (x.frames.eraseIdx s.n.toNat) :: sl v.2 (Cq x.frames s.n) :: _) Try.call22 rfl (fun w hs => by have h := G2 (v0 := fv) (l := x.frames) (n := s.n) hs mm hsn.2.2.1; rw [hnt] at h; exact frz h) ?_; intro ⟨va, vb⟩
  refine Ga7 ?_
  refine kp [2, 3, 4, 5, 6, 7, 8, 9, 14, 15, 16, 20, 79, 80] ?_
  refine ZC ?_
  refine ZaJ ?_
  refine JC.know (p := va.oneCell' = true) (fun w hs => isSlice.one (hs.fact (mm (f := sl va (x.frames.eraseIdx s.n.toNat))))) (fun honeva => ?_)
  refine ZB ?_
  refine Za3 ?_
  refine Az ?_
  refine Gmc ?_
  refine rn1 ?_
  refine ZaJ ?_
  refine Zb6 ?_
  have er : Am x s = (⟨x.cores, x.home, x.frames.eraseIdx s.n.toNat⟩, [], 0) := by unfold Am Ba; rw [if_neg (by omega), if_neg (by omega), if_pos (by omega)]; rw [if_neg hc]
  exact Zd8
theorem Xh {cv hv fv : Value} {x : Chip} {s : Step} {n nl : Nat} {M : List Int} (hs : St (L) R w) (hcv : sl cv x.cores ∈ R) (hhv : sl hv x.home ∈ R) (hfv : sl fv x.frames ∈ R) (hsn : s.wf) (h : Inv n nl x M) (hk : s.kind = 4) : Calls Try.prog 10 [.agg #[cv, hv, fv], .agg s.cells.toArray].toArray w (Bl (fun v : Value × Value × Value × Value => .tuple #[.agg #[v.1, v.2.1, v.2.2.1], v.2.2.2, vi (Am x s).2.2]) (fun v => L) (fun v => sl v.1 (Am x s).1.cores :: sl v.2.1 (Am x s).1.home :: sl v.2.2.1 (Am x s).1.frames :: sl v.2.2.2 (Am x s).2.1 :: R)) := by
 refine Za7 ?_;intro hnc hnh hn1 hn2 honec honeh honef hn64 hop
 clear hs
 refine ZaC ?_;intro b2 b3 b4
 refine Ak Try.call19 rfl (fun w hs => F6 (x := x) (cv := cv) (hv := hv) (fv := fv) hs mm mm mm (by omega)) ?_; intro ⟨cY, hY, fY⟩
 refine ZaA ?_;intro h12
 obtain ⟨honeY1, honeY2, honeY3⟩ := h12
 refine ZaB ?_;intro b7
 refine ZF ?_
 refine ZaF ?_
 refine Gc1 ?_
 rcases (show (Dw x s.n) ∨ (¬ Dw x s.n) from by exact Classical.em _) with hc | hc
 ·have hnt : Du x.frames s.n = ([], 5) := by unfold Du; rw [if_pos (show s.n < 0 ∨ (x.frames.length : Int) ≤ s.n from hc)]
  refine ZG ?_
  refine Ak (γ := Value) (val := fun v => .tuple #[v, vi 5]) (Rf := fun v => sl v ([] : Frames) :: _) Try.call24 rfl (fun w hs => by have h := M5 (v0 := fv) (l := x.frames) (n := s.n) hs mm hsn.2.2.1; rw [hnt] at h; exact frz h) ?_; intro va
  refine Zb2 ?_;intro honeva
  refine ZC ?_
  refine ZaU ?_
  refine ZaR ?_
  have er : Am x s = (Dd, [], 5) := by unfold Am Ba; rw [if_neg (by omega), if_neg (by omega), if_neg (by omega), if_pos (by omega)]; rw [if_pos hc]
  rw [er]
  exact Zc2
 ·have hnt : Du x.frames s.n = (Dx x.frames (Cq x.frames s.n), 0) := by unfold Du; rw [if_neg (show ¬ (s.n < 0 ∨ (x.frames.length : Int) ≤ s.n) from hc)]
  refine ZG ?_
  refine Ak (γ := Value) (val := fun v => .tuple #[v, vi 0]) (Rf := fun v => sl v (Dx x.frames (Cq x.frames s.n)) :: _) Try.call24 rfl (fun w hs => by have h := M5 (v0 := fv) (l := x.frames) (n := s.n) hs mm hsn.2.2.1; rw [hnt] at h; exact frz h) ?_; intro va
  refine Zb2 ?_;intro honeva
  refine ZC ?_
  refine ZaJ ?_
  refine Zb6 ?_
  have er : Am x s = (⟨x.cores, x.home, Dx x.frames (Cq x.frames s.n)⟩, [], 0) := by unfold Am Ba; rw [if_neg (by omega), if_neg (by omega), if_neg (by omega), if_pos (by omega)]; rw [if_neg hc]
  exact Zd8
theorem Xg {cv hv fv : Value} {x : Chip} {s : Step} {n nl : Nat} {M : List Int} (hs : St (L) R w) (hcv : sl cv x.cores ∈ R) (hhv : sl hv x.home ∈ R) (hfv : sl fv x.frames ∈ R) (hsn : s.wf) (h : Inv n nl x M) (hk : s.kind = 5) : Calls Try.prog 10 [.agg #[cv, hv, fv], .agg s.cells.toArray].toArray w (Bl (fun v : Value × Value × Value × Value => .tuple #[.agg #[v.1, v.2.1, v.2.2.1], v.2.2.2, vi (Am x s).2.2]) (fun v => L) (fun v => sl v.1 (Am x s).1.cores :: sl v.2.1 (Am x s).1.home :: sl v.2.2.1 (Am x s).1.frames :: sl v.2.2.2 (Am x s).2.1 :: R)) := by
 refine Za7 ?_;intro hnc hnh hn1 hn2 honec honeh honef hn64 hop
 clear hs
 refine ZaC ?_;intro b2 b3 b4
 refine Ak Try.call19 rfl (fun w hs => F6 (x := x) (cv := cv) (hv := hv) (fv := fv) hs mm mm mm (by omega)) ?_; intro ⟨cY, hY, fY⟩
 refine ZaA ?_;intro h12
 obtain ⟨honeY1, honeY2, honeY3⟩ := h12
 refine ZaB ?_;intro b7
 refine ZF ?_
 refine ZF ?_
 refine ZaF ?_
 refine Gd1 ?_
 refine rn1 ?_
 refine Ak Try.call25 rfl (fun w hs => R6 (x := x) (cv := cv) (hv := hv) (fv := fv) (s := s) (Af (L' := blk b2 38 [cv, hv, fv] :: row 57 cY x.cores :: blk b7 38 [cY, hY, fY] :: blk b4 38 [.slice none 0 0, .slice none 0 0, .slice none 0 0] :: blk b3 47 s.cells :: L) hs) mm mm mm hsn) ?_; intro va
 refine Zb2 ?_;intro honeva
 refine Zac ?_
 refine cdy ?_ ?_
 ·intro ht115
  refine Gl ?_
  refine ZaR ?_
  have er : Am x s = (Dd, [], (Ji x s).2) := by unfold Am Ba; rw [if_neg (by omega), if_neg (by omega), if_neg (by omega), if_neg (by omega), if_pos (by omega)]; revert ht115; unfold Ji; (repeat' split) <;> simp_all
  rw [er]
  exact Es (.slice none 0 0, .slice none 0 0, .slice none 0 0, .slice none 0 0) Try.isAgg38 Try.sizeOf38
 ·intro ht115
  refine Gl ?_
  refine Zb6 ?_
  have er : Am x s = (⟨x.cores, x.home, (Ji x s).1⟩, [], 0) := by unfold Am Ba; rw [if_neg (by omega), if_neg (by omega), if_neg (by omega), if_neg (by omega), if_pos (by omega)]; revert ht115; unfold Ji; (repeat' split) <;> simp_all
  rw [er]
  exact Es (cY, hY, va, .slice none 0 0) Try.isAgg38 Try.sizeOf38
theorem Xf {cv hv fv : Value} {x : Chip} {s : Step} {n nl : Nat} {M : List Int} (hs : St (L) R w) (hcv : sl cv x.cores ∈ R) (hhv : sl hv x.home ∈ R) (hfv : sl fv x.frames ∈ R) (hsn : s.wf) (h : Inv n nl x M) (hk : s.kind = 6) : Calls Try.prog 10 [.agg #[cv, hv, fv], .agg s.cells.toArray].toArray w (Bl (fun v : Value × Value × Value × Value => .tuple #[.agg #[v.1, v.2.1, v.2.2.1], v.2.2.2, vi (Am x s).2.2]) (fun v => L) (fun v => sl v.1 (Am x s).1.cores :: sl v.2.1 (Am x s).1.home :: sl v.2.2.1 (Am x s).1.frames :: sl v.2.2.2 (Am x s).2.1 :: R)) := by
 refine Za7 ?_;intro hnc hnh hn1 hn2 honec honeh honef hn64 hop
 clear hs
 refine ZaC ?_;intro b2 b3 b4
 refine Ak Try.call19 rfl (fun w hs => F6 (x := x) (cv := cv) (hv := hv) (fv := fv) hs mm mm mm (by omega)) ?_; intro ⟨cY, hY, fY⟩
 refine ZaA ?_;intro h12
 obtain ⟨honeY1, honeY2, honeY3⟩ := h12
 refine ZaB ?_;intro b7
 refine ZF ?_
 refine ZF ?_
 refine ZF ?_
 refine ZaF ?_
 refine Gd1 ?_
 refine rn2 ?_
 refine Ak Try.call26 rfl (fun w hs => R5 (x := x) (cv := cY) (hv := hY) (fv := fY) (node := s.node) (Af (L' := row 57 cY x.cores :: blk b7 38 [cY, hY, fY] :: blk b4 38 [.slice none 0 0, .slice none 0 0, .slice none 0 0] :: blk b3 47 s.cells :: blk b2 38 [cv, hv, fv] :: L) hs) mm mm h) ?_; intro va
 refine J.know (p := va.oneCell' = true) (fun w hs => isSlice.one (hs.fact (.head _))) (fun honeva => ?_)
 refine ZL ?_
 refine cdy ?_ ?_
 ·intro ht115
  refine Gl ?_
  refine ZaG ?_
  refine ZM ?_
  refine kp [4, 5, 6, 7, 8, 9, 116, 117] ?_
  refine Zbr ?_
  have er : Am x s = (Dd, [], (Jh x s.node)) := by unfold Am Ba; rw [if_neg (by omega), if_neg (by omega), if_neg (by omega), if_neg (by omega), if_neg (by omega), if_pos (by omega)]; revert ht115; unfold Jh Ba; split <;> simp_all
  rw [er]
  exact Es (.slice none 0 0, .slice none 0 0, .slice none 0 0, .slice none 0 0) Try.isAgg38 Try.sizeOf38
 ·intro ht115
  refine Gl ?_
  refine JC.shut (v := cY) (xs := x.cores) pkk ?_
  refine ZM ?_
  refine kp [4, 5, 6, 7, 8, 118, 119] ?_
  refine ZB ?_
  refine s_B (cs := [cY, hY, va]) Try.sizeOf38 ?_
  refine Ga2 ?_
  have er : Am x s = (⟨x.cores, x.home, D6 x s.node⟩, [], 0) := by unfold Am Ba; rw [if_neg (by omega), if_neg (by omega), if_neg (by omega), if_neg (by omega), if_neg (by omega), if_pos (by omega)]; revert ht115; unfold Jh D6 Ba; split <;> simp_all; split <;> rfl
  rw [er]
  exact Es (cY, hY, va, .slice none 0 0) Try.isAgg38 Try.sizeOf38
theorem R7 {cv hv fv : Value} {x : Chip} {s : Step} {n nl : Nat} {M : List Int} (hs : St (L) R w) (hcv : sl cv x.cores ∈ R) (hhv : sl hv x.home ∈ R) (hfv : sl fv x.frames ∈ R) (hsn : s.wf) (h : Inv n nl x M) : Calls Try.prog 10 [.agg #[cv, hv, fv], .agg s.cells.toArray].toArray w (Bl (fun v : Value × Value × Value × Value => .tuple #[.agg #[v.1, v.2.1, v.2.2.1], v.2.2.2, vi (Am x s).2.2]) (fun v => L) (fun v => sl v.1 (Am x s).1.cores :: sl v.2.1 (Am x s).1.home :: sl v.2.2.1 (Am x s).1.frames :: sl v.2.2.2 (Am x s).2.1 :: R)) := by
 by_cases h1 : s.kind = 1
 ·exact Xk hs hcv hhv hfv hsn h h1
 by_cases h2 : s.kind = 2
 ·exact Xj hs hcv hhv hfv hsn h h2
 by_cases h3 : s.kind = 3
 ·exact Xi hs hcv hhv hfv hsn h h3
 by_cases h4 : s.kind = 4
 ·exact Xh hs hcv hhv hfv hsn h h4
 by_cases h5 : s.kind = 5
 ·exact Xg hs hcv hhv hfv hsn h h5
 by_cases h6 : s.kind = 6
 ·exact Xf hs hcv hhv hfv hsn h h6
 exact Xl hs hcv hhv hfv hsn h (by omega)
def Q5 (p : Nat → Bool) : Nat → Int
 | 0 => -1
 | k + 1 => if 0 ≤ Q5 p k then Q5 p k else if p k = true then (k : Int) else -1
theorem Px {p : Nat → Bool} : ∀ {k : Nat}, (∀ i, i < k → p i = false) → Q5 p k = -1
 | 0, _ => rfl
 | k + 1, h => by
  simp only [Q5]
  rw [Px (k := k) fun i hi => h i (by omega), if_neg (by decide), if_neg (by rw [h k (by omega)]; decide)]
theorem Tr {p : Nat → Bool} {k : Nat} (h : ∀ i, i < k → p i = false) (hk : p k = true) : ∀ {n : Nat}, k < n → Q5 p n = (k : Int)
 | 0, hn => absurd hn (by omega)
 | n + 1, hn => by
  simp only [Q5]
  by_cases e : k = n
  ·rw [← e, Px h, if_neg (by decide), if_pos hk]
  ·rw [Tr h hk (n := n) (by omega), if_pos (by omega)]
theorem Tq {p : Nat → Bool} : ∀ {n : Nat}, Jo (fun k => !p k) n = false → 0 ≤ Q5 p n
 | 0, e => by cases e
 | n + 1, e => by
  simp only [Jo, Bool.and_eq_false_iff] at e
  simp only [Q5]
  by_cases h : 0 ≤ Q5 p n
  ·rw [if_pos h]; exact h
  ·rw [if_neg h]
   rcases e with e | e
   ·exact absurd (Tq e) h
   ·rw [if_pos (by simpa using e)]; omega
theorem Zp {p : Nat → Bool} {n : Nat} : decide (0 ≤ Q5 p n) = !Jo (fun k => !p k) n := by
 cases e : Jo (fun k => !p k) n with
 | true => rw [Px fun i hi => by have := allN_iff.1 e i hi; simpa using this]; rfl
 | false => rw [decide_eq_true (Tq e)]; rfl
theorem Zq {cv : Value} {x : Chip} {ff : Nat} {caps : List Value} {p : Nat → Bool} (hs : St (L) R w) (hv : sl cv x.cores ∈ R) (hf : ∀ args w, (callFunc ff args).run Try.prog w = .ok (.enter ff args) w) (hc : ∀ k, k < x.cores.length → (cor x k).wait.wf → ∀ uk, uk.oneCell' = true → ∀ R' w, sl uk (cor x k).lines ∈ R' → St L R' w → Calls Try.prog ff ([Value.agg (Core.cells uk (cor x k)).toArray] ++ caps).toArray w (Bl (fun _ : Unit => .bool (p k)) (fun _ => L) (fun _ => R'))) : Calls Try.prog 66 [cv, .func (.func ff) #[] caps.toArray].toArray w (Bl (fun _ : Unit => vi (Q5 p x.cores.length)) (fun _ => L) (fun _ => R)) := by
 have hlen := Bv hv hs
 refine Ah Try.func66 rfl Try.ntmps66 rfl hs ?_
 clear hs
 refine ZH ?_
 refine Ga3 ?_
 refine Bf (γ := Nat) (fun k => k ≤ x.cores.length ∧ ∀ i, i < k → p i = false) (fun _ => L) (fun _ => R) (fun k => [(0, cv), (1, .func (.func ff) #[] caps.toArray), (7, vi (x.cores.length : Int)), (8, vi (k : Int))]) (fun k => x.cores.length - k) 0 ⟨Nat.zero_le _, fun i hi => absurd hi (by omega)⟩ alT (fun w hs => hs) ?_
 rintro k ⟨hk, hp0⟩
 refine ZA ?_
 refine cdy ?_ ?_
 ·intro ht9
  refine ZD ?_
  refine Fd k (v := cv) mm (by omega) (fun hwk uk honek => ?_)
  refine Zah ?_
  refine Cc (γ := Unit) (val := fun _ => .bool (p k)) (caps := caps) (vs := [.agg (Core.cells uk (cor x k)).toArray]) rfl hf rfl (fun w hs => hc k (by omega) hwk uk honek _ w mm hs) ?_; intro _
  refine Gl ?_
  first | (refine cdx (p := ?p2) (hd := ?d2) ?e2 ?_ ?_; case e2 => exact rfl) | (refine Bg (b := ?b2) ?e2 ?_ ?_; case e2 => exact rfl)
  ·intro ht16
   refine ZD ?_
   have er : Q5 p x.cores.length = (k : Int) := Tr hp0 ht16 (by omega)
   exact ZcJ
  ·intro ht16
   refine ZD ?_
   refine A3 (k + 1) ⟨by omega, fun i hi => ?_⟩ (by omega) alT (fun w hs => Af hs)
   by_cases e : i = k
   ·rw [e]; exact ht16
   ·exact hp0 i (by omega)
 ·intro ht9
  refine ZA ?_
  have er : Q5 p x.cores.length = -1 := Px fun i hi => hp0 i (by omega)
  exact ZcJ
theorem Abr {cv : Value} {x : Chip} {ff : Nat} {caps : List Value} {p : Nat → Bool} (hs : St (L) R w) (hv : sl cv x.cores ∈ R) (hf : ∀ args w, (callFunc ff args).run Try.prog w = .ok (.enter ff args) w) (hc : ∀ k, k < x.cores.length → (cor x k).wait.wf → ∀ uk, uk.oneCell' = true → ∀ R' w, sl uk (cor x k).lines ∈ R' → St L R' w → Calls Try.prog ff ([Value.agg (Core.cells uk (cor x k)).toArray] ++ caps).toArray w (Bl (fun _ : Unit => .bool (p k)) (fun _ => L) (fun _ => R'))) : Calls Try.prog 47 [cv, .func (.func ff) #[] caps.toArray].toArray w (Bl (fun _ : Unit => .bool (!Jo (fun k => !p k) x.cores.length)) (fun _ => L) (fun _ => R)) := by
 refine Ah Try.func47 rfl Try.ntmps47 rfl hs ?_
 clear hs
 refine ZH ?_
 refine rn2 ?_
 refine Ak Try.call66 rfl (fun w hs => Zq (ff := ff) (caps := caps) (p := p) hs hv hf hc) ?_; intro _
 refine Ga2 ?_
 rw [← Zp]
 exact Be ()
theorem Ns {cv hv fv : Value} {x : Chip} (hs : St (L) R w) (hcv : sl cv x.cores ∈ R) (hhv : sl hv x.home ∈ R) (hx : CX x) (honef : fv.oneCell' = true) : Calls Try.prog 27 [.agg #[cv, hv, fv]].toArray w (Bl (fun _ : Unit => .bool (Ef x)) (fun _ => L) (fun _ => R)) := by
 refine Za6 ?_;intro honec honeh
 have hn4 := hx.n4
 have hh4 := hx.h4
 refine Ah Try.func27 rfl Try.ntmps27 rfl hs ?_
 clear hs
 refine ZaM ?_;intro b1
 refine Ga4 ?_
 refine Bf (γ := Nat) (fun i => i ≤ x.home.length ∧ Jo (Fa x) i = true) (fun _ => blk b1 38 [cv, hv, fv] :: L) (fun _ => R) (fun i => [(1, bp b1 0), (10, vi (x.home.length : Int)), (11, vi (i : Int))]) (fun i => x.home.length - i) 0 ⟨Nat.zero_le _, rfl⟩ alT (fun w hs => Af hs) ?_
 rintro i ⟨hi, hal⟩
 refine ZA ?_
 refine cdy ?_ ?_
 ·intro ht12
  refine Gm ?_
  refine Gb2 ?_
  refine Gb2 ?_
  refine Ga4 ?_
  refine Bf (γ := Nat) (fun p => p ≤ x.cores.length) (fun _ => blk b1 38 [cv, hv, fv] :: L) (fun _ => R) (fun p => [(1, bp b1 0), (3, vi (i : Int)), (4, vi (Fi (fun p => stN x i p == 2) p : Int)), (5, vi (Fi (fun p => stN x i p == 1) p : Int)), (10, vi (x.home.length : Int)), (11, vi (i : Int)), (15, cv), (16, vi (x.cores.length : Int)), (17, vi (p : Int))]) (fun p => x.cores.length - p) 0 (Nat.zero_le _) alT (fun w hs => Af hs) ?_
  intro p hp
  have hc2 := O1 (f := fun p => stN x i p == 2) (k := p)
  have hc1 := O1 (f := fun p => stN x i p == 1) (k := p)
  refine ZA ?_
  refine cdy ?_ ?_
  ·intro ht18
   refine Gl ?_
   refine Fd p (v := cv) mm (by omega) (fun hwp up honeu => ?_)
   have hln := hx.ln p (by omega)
   refine ZB ?_
   refine al_ (cs := [.slice none 0 0, vi 0, vi 0, vi 0]) Try.zeroValue57 ?_; intro b7
   refine s_B (cs := Core.cells up (cor x p)) Try.sizeOf57 ?_
   refine Gl ?_
   refine G0 (x := x) (p := p) i (u := up) mm (by omega) (fun hwl => ?_)
   refine Aa ?_
   refine Gb6 ?_
   refine Ga2 ?_
   refine cdy ?_ ?_
   ·intro ht27
    refine Zcj ?_
    refine A3 (p + 1) (by omega) (by omega) ⟨rfl, rfl, congrArg (fun z : Nat => some (vi (z : Int))) (show _ = Fi (fun p => stN x i p == 2) (p + 1) from (Uk (by simp [stN, ht27])).symm), congrArg (fun z : Nat => some (vi (z : Int))) (show _ = Fi (fun p => stN x i p == 1) (p + 1) from (Lc (by simp [stN, ht27])).symm), alT⟩ (fun w hs => Af hs)
   ·intro ht27
    refine ZD ?_
    refine cdy ?_ ?_
    ·intro ht31
     refine Zcj ?_
     refine A3 (p + 1) (by omega) (by omega) ⟨rfl, rfl, congrArg (fun z : Nat => some (vi (z : Int))) (show _ = Fi (fun p => stN x i p == 2) (p + 1) from (Lc (by simp [stN, ht27])).symm), congrArg (fun z : Nat => some (vi (z : Int))) (show _ = Fi (fun p => stN x i p == 1) (p + 1) from (Uk (by simp [stN, ht31])).symm), alT⟩ (fun w hs => Af hs)
    ·intro ht31
     refine ZD ?_
     refine A3 (p + 1) (by omega) (by omega) ⟨rfl, rfl, congrArg (fun z : Nat => some (vi (z : Int))) (show _ = Fi (fun p => stN x i p == 2) (p + 1) from (Lc (by simp [stN, ht27])).symm), congrArg (fun z : Nat => some (vi (z : Int))) (show _ = Fi (fun p => stN x i p == 1) (p + 1) from (Lc (by simp [stN, ht31])).symm), alT⟩ (fun w hs => Af hs)
  ·intro ht18
   refine Gl ?_
   have hpe : x.cores.length = p := by omega
   rw [← hpe]
   rcases (show (1 < (Fi (fun p => stN x i p == 2) x.cores.length : Int)) ∨ (¬ 1 < (Fi (fun p => stN x i p == 2) x.cores.length : Int) ∧ (Fi (fun p => stN x i p == 2) x.cores.length : Int) = 1 ∧ 0 < (Fi (fun p => stN x i p == 1) x.cores.length : Int)) ∨ (¬ 1 < (Fi (fun p => stN x i p == 2) x.cores.length : Int) ∧ (Fi (fun p => stN x i p == 2) x.cores.length : Int) = 1 ∧ ¬ 0 < (Fi (fun p => stN x i p == 1) x.cores.length : Int)) ∨ (¬ 1 < (Fi (fun p => stN x i p == 2) x.cores.length : Int) ∧ (Fi (fun p => stN x i p == 2) x.cores.length : Int) ≠ 1) from by omega) with hc | hc | hc | hc
   ·have hat : Fa x i = false := by
     exact Zc8
    refine ZC ?_
    refine Ha ?_
    refine Gd8 ?_
    exact Zdr
   ·have hat : Fa x i = false := by
     exact Zc8
    refine ZC ?_
    refine D9 ?_
    refine Zal ?_
    refine C3 ?_
    refine Zal ?_
    refine Ha ?_
    refine Gd2 ?_
    exact Zdr
   ·have hat : Fa x i = true := by
     exact Zc8
    refine ZC ?_
    refine D9 ?_
    refine Zal ?_
    refine C3 ?_
    refine Zal ?_
    refine D9 ?_
    refine Gd2 ?_
    exact Zdp
   ·have hat : Fa x i = true := by
     exact Zc8
    refine ZC ?_
    refine D9 ?_
    refine Zal ?_
    refine Az ?_
    refine Gd5 ?_
    exact Zdp
 ·intro ht12
  refine ZA ?_
  have er : Ef x = true := by unfold Ef; rw [show x.home.length = i by omega]; exact hal
  exact ZcJ
theorem Us {cv hv fv : Value} {x : Chip} {i : Nat} (hs : St (L) R w) (hcv : sl cv x.cores ∈ R) (hhv : sl hv x.home ∈ R) (hx : CX x) (honef : fv.oneCell' = true) (hi : i < x.home.length) : Calls Try.prog 46 [.agg #[cv, hv, fv], vi (i : Int)].toArray w (Bl (fun _ : Unit => vi (Cz x i)) (fun _ => L) (fun _ => R)) := by
 refine Za6 ?_;intro honec honeh
 have hn4 := hx.n4
 have hh4 := hx.h4
 refine Ah Try.func46 rfl Try.ntmps46 rfl hs ?_
 clear hs
 refine Gm ?_
 refine bx ?_; intro b2
 refine Ga1 ?_
 refine Lq i (v := hv) mm hi (fun hwe ue honeu => ?_)
 have hla := hx.la i hi
 refine Aa ?_
 refine Gb5 ?_
 refine Ga4 ?_
 refine Bf (γ := Nat) (fun p => p ≤ x.cores.length ∧ Jp x i p = none) (fun _ => blk b2 38 [cv, hv, fv] :: L) (fun _ => cF hv 10 i (Entry.cells ue (ent x i)) :: sl ue (ent x i).last :: R) (fun p => [(1, vi (i : Int)), (2, bp b2 0), (5, ep hv 10 i 0), (15, cv), (16, vi (x.cores.length : Int)), (17, vi (p : Int))]) (fun p => x.cores.length - p) 0 ⟨Nat.zero_le _, rfl⟩ alT (fun w hs => Af hs) ?_
 rintro p ⟨hp, hvn⟩
 refine ZA ?_
 refine cdy ?_ ?_
 ·intro ht18
  refine Gl ?_
  refine Fd p (v := cv) mm (by omega) (fun hwp up honep => ?_)
  have hln := hx.ln p (by omega)
  refine ZP ?_
  refine al_ (cs := [.slice none 0 0, vi 0, vi 0, vi 0]) Try.zeroValue57 ?_; intro b7
  refine Zcq ?_;intro hwl
  refine Vy (x := x) (i := i) p (u := ue) mm (by omega) (fun hwla => ?_)
  rcases (show ((lin x i p).state = 2) ∨ ((lin x i p).state ≠ 2 ∧ (lin x i p).state = 3 ∧ (ent x i).last.getD p 0 < (lin x i p).serial) ∨ ((lin x i p).state ≠ 2 ∧ (lin x i p).state = 3 ∧ ¬ (ent x i).last.getD p 0 < (lin x i p).serial) ∨ ((lin x i p).state ≠ 2 ∧ (lin x i p).state ≠ 3) from by omega) with hc | hc | hc | hc
  ·have ho : M2 x i p = true := by unfold M2 stN; simp [-List.getD_eq_getElem?_getD]; omega
   refine A8 ?_
   refine dn4 ?_
   refine ZO ?_
   refine dn19 ?_
   refine ZY ?_
   refine Zcc ?_;intro ρ er
   exact Be ()
  ·have ho : M2 x i p = true := by unfold M2 stN; simp [-List.getD_eq_getElem?_getD]; omega
   refine A8 ?_
   refine dn4 ?_
   refine Zau ?_
   refine dn4 ?_
   refine dj (dgy ?_)
   refine Zap ?_
   refine dj (dgy ?_)
   refine dc (fun _ _ => N3) ?_
   refine Abo ?_
   refine dj (dgy ?_)
   refine dc (fun _ _ => Ai rfl rfl (I7 (by omega))) ?_
   refine dj (dgy ?_)
   refine dc (fun _ _ => D8) ?_
   refine djf ?_
   refine Zcc ?_;intro ρ er
   exact Be ()
  ·have ho : M2 x i p = false := by unfold M2 stN; simp [-List.getD_eq_getElem?_getD]; omega
   refine A8 ?_
   refine dn4 ?_
   refine Zau ?_
   refine dn4 ?_
   refine dj (dgy ?_)
   refine Zap ?_
   refine dj (dgy ?_)
   refine dc (fun _ _ => N3) ?_
   refine Abo ?_
   refine dj (dgy ?_)
   refine dc (fun _ _ => Ai rfl rfl (Md (by omega))) ?_
   refine dj (dgy ?_)
   refine dc (fun _ _ => D8) ?_
   exact Zdm
  ·have ho : M2 x i p = false := by unfold M2 stN; simp [-List.getD_eq_getElem?_getD]; omega
   refine A8 ?_
   refine dn4 ?_
   refine Zau ?_
   refine dn4 ?_
   refine dj (dgy ?_)
   refine ZZ ?_
   refine dj (dgy ?_)
   refine dc (fun _ _ => N3) ?_
   refine dn12 ?_
   refine dj (dgy ?_)
   refine dc (fun _ _ => Ya) ?_
   exact Zdm
 ·intro ht18
  refine Gm ?_
  refine Ga5 ?_
  refine cdy ?_ ?_
  ·intro ht61
   refine Gl ?_
   have how := hx.ow i hi ht61
   refine Fd (ent x i).owner.toNat (v := cv) mm (by omega) (fun hwo uo honeo => ?_)
   have hlo := hx.ln (ent x i).owner.toNat (by omega)
   refine G0 (x := x) (p := (ent x i).owner.toNat) i (u := uo) mm (by omega) (fun hwlo => ?_)
   refine A8 ?_
   refine dn12 ?_
   refine dnl ?_; intro ρ
   refine Gl ?_
   refine A8 ?_
   refine dn9 ?_
   refine dnl ?_; intro ρ
   refine Gl ?_
   refine cdy ?_ ?_
   ·intro ht81
    refine Gl ?_
    refine kp [4, 5, 9, 82, 83, 84, 85] ?_
    refine Aa ?_
    refine ZbK ?_;intro hve
    have er : Cz x i = (lin x i (ent x i).owner.toNat).given := by rw [Hx hve]; unfold X5; rw [if_pos ⟨ht61, ht81⟩]
    exact ZcJ
   ·intro ht81
    refine Gl ?_
    refine kp [4, 5, 86, 87, 88, 89] ?_
    refine Aa ?_
    refine ZbK ?_;intro hve
    have er : Cz x i = (ent x i).value := by rw [Hx hve]; unfold X5; rw [if_neg (fun h => ht81 h.2)]
    exact ZcJ
  ·intro ht61
   refine Gm ?_
   refine ZbK ?_;intro hve
   have er : Cz x i = (ent x i).value := by rw [Hx hve]; unfold X5; rw [if_neg (fun h => ht61 h.1)]
   exact ZcJ
theorem Xd {up : Value} {x : Chip} {i p : Nat} {v : Int} {b3 b4 : Nat} (hs : St (blk b4 3 [vi v] :: blk b3 3 [vi (i : Int)] :: L) R w) (hu : sl up (cor x p).lines ∈ R) (hil : i < (cor x p).lines.length) (honeu : up.oneCell' = true) : Calls Try.prog 48 [.agg (Core.cells up (cor x p)).toArray, bp b3 0, bp b4 0].toArray w (Bl (fun _ : Unit => .bool (stN x i p == 1 && (lin x i p).value != v)) (fun _ => blk b4 3 [vi v] :: blk b3 3 [vi (i : Int)] :: L) (fun _ => R)) := by
 refine Ah Try.func48 rfl Try.ntmps48 rfl hs ?_
 clear hs
 refine Gm ?_
 refine bx ?_; intro b3
 refine Ga1 ?_
 refine G0 (x := x) (p := p) i (u := up) hu hil (fun hwl => ?_)
 rcases (show ((lin x i p).state ≠ 1) ∨ ((lin x i p).state = 1 ∧ (lin x i p).value = v) ∨ ((lin x i p).state = 1 ∧ ¬ (lin x i p).value = v) from by omega) with hc | hc | hc
 ·have hst : (stN x i p == 1 && (lin x i p).value != v) = false := by unfold stN; simp; omega
  refine Zbl ?_
  refine djm ?_
  refine dn8 ?_
  refine djf ?_
  refine ZI ?_;intro ρ
  refine Gl ?_
  rw [hst]
  exact Be ()
 ·have hst : (stN x i p == 1 && (lin x i p).value != v) = false := by unfold stN; simp; omega
  refine Zak ?_
  refine ZO ?_
  refine dn7 ?_
  refine dj (dgy ?_)
  refine dc (fun _ _ => Ai rfl rfl (D2 (by omega))) ?_
  refine ZS ?_;intro ρ
  refine Gl ?_
  rw [hst]
  exact Be ()
 ·have hst : (stN x i p == 1 && (lin x i p).value != v) = true := by unfold stN; simp; omega
  refine Zak ?_
  refine ZO ?_
  refine dn7 ?_
  refine dj (dgy ?_)
  refine dc (fun _ _ => Ai rfl rfl (Ga (by omega))) ?_
  refine ZS ?_;intro ρ
  refine Gl ?_
  rw [hst]
  exact Be ()
theorem L8 {cv hv fv : Value} {x : Chip} (hs : St (L) R w) (hcv : sl cv x.cores ∈ R) (hhv : sl hv x.home ∈ R) (hx : CX x) (honef : fv.oneCell' = true) : Calls Try.prog 28 [.agg #[cv, hv, fv]].toArray w (Bl (fun _ : Unit => .bool (E9 x)) (fun _ => L) (fun _ => R)) := by
 refine Za6 ?_;intro honec honeh
 have hn4 := hx.n4
 have hh4 := hx.h4
 refine Ah Try.func28 rfl Try.ntmps28 rfl hs ?_
 clear hs
 refine ZaM ?_;intro b1
 refine Ga4 ?_
 refine Bf (γ := Nat) (fun i => i ≤ x.home.length ∧ Jo (sameAt x) i = true) (fun _ => blk b1 38 [cv, hv, fv] :: L) (fun _ => R) (fun i => [(1, bp b1 0), (6, hv), (7, vi (x.home.length : Int)), (8, vi (i : Int))]) (fun i => x.home.length - i) 0 ⟨Nat.zero_le _, rfl⟩ alT (fun w hs => Af hs) ?_
 rintro i ⟨hi, hal⟩
 refine ZA ?_
 refine cdy ?_ ?_
 ·intro ht9
  refine Zad ?_
  refine al_ Try.zeroValue3 ?_; intro b3
  refine Za3 ?_
  refine Ak Try.call46 rfl (fun w hs => Us (x := x) (i := i) hs hcv hhv hx honef (by omega)) ?_; intro _
  refine al_ Try.zeroValue3 ?_; intro b4
  refine Za3 ?_
  refine K9 (vs := [bp b3 0, bp b4 0]) rfl ?_
  refine Ak Try.call47 rfl (fun w hs => Abr (x := x) (ff := 48) (caps := [bp b3 0, bp b4 0]) (p := Ys x i) (Af (L' := blk b4 3 [vi (Cz x i)] :: blk b3 3 [vi (i : Int)] :: blk b1 38 [cv, hv, fv] :: L) hs) hcv Try.call48 (fun k hk hwk uk honek R1 w1 hu1 hs1 => Xd hs1 hu1 (by have := hx.ln k hk; omega) honek)) ?_; intro _
  refine Gl ?_
  refine Bg (b := ?b2) ?e2 ?_ ?_; case e2 => exact rfl
  ·intro ht17
   refine ZA ?_
   have er : E9 x = false := Gx (show i < x.home.length by omega) (by simpa [sameAt] using ht17)
   exact ZcJ
  ·intro ht17
   refine ZD ?_
   refine A3 (i + 1) ⟨by omega, Fy hal (by simpa [sameAt] using ht17)⟩ (by omega) alT (fun w hs => Af hs)
 ·intro ht9
  refine ZA ?_
  have er : E9 x = true := by unfold E9; rw [show x.home.length = i by omega]; exact hal
  exact ZcJ
theorem Nr {cv hv fv : Value} {x : Chip} (hs : St (L) R w) (hcv : sl cv x.cores ∈ R) (hhv : sl hv x.home ∈ R) (hx : CX x) (honef : fv.oneCell' = true) : Calls Try.prog 29 [.agg #[cv, hv, fv]].toArray w (Bl (fun _ : Unit => .bool (Ee x)) (fun _ => L) (fun _ => R)) := by
 refine Za6 ?_;intro honec honeh
 have hn4 := hx.n4
 have hh4 := hx.h4
 refine Ah Try.func29 rfl Try.ntmps29 rfl hs ?_
 clear hs
 refine ZaM ?_;intro b1
 refine Ga4 ?_
 refine Bf (γ := Nat) (fun i => i ≤ x.home.length ∧ Jo (Tj x) i = true) (fun _ => blk b1 38 [cv, hv, fv] :: L) (fun _ => R) (fun i => [(1, bp b1 0), (10, hv), (11, vi (x.home.length : Int)), (12, vi (i : Int))]) (fun i => x.home.length - i) 0 ⟨Nat.zero_le _, rfl⟩ alT (fun w hs => Af hs) ?_
 rintro i ⟨hi, hal⟩
 refine ZA ?_
 refine cdy ?_ ?_
 ·intro ht13
  refine Gl ?_
  refine Lq i (v := hv) mm (by omega) (fun hwe ue honeu => ?_)
  have hsh := hx.sh i (by omega)
  refine ZP ?_
  refine al_ (cs := [vi 0, vi 0, vi 0, vi 0, vi 0, vi 0, .bool false, vi 0, vi 0, .slice none 0 0]) Try.zeroValue54 ?_; intro b4
  refine rn1 ?_
  refine s_B (cs := Entry.cells ue (ent x i)) Try.sizeOf54 ?_
  refine Zag ?_
  refine Bf (γ := Nat) (fun p => p ≤ x.cores.length ∧ Jo (F0 x i) p = true) (fun _ => blk b4 54 (Entry.cells ue (ent x i)) :: blk b1 38 [cv, hv, fv] :: L) (fun _ => R) (fun p => [(1, bp b1 0), (3, vi (i : Int)), (4, bp b4 0), (10, hv), (11, vi (x.home.length : Int)), (12, vi (i : Int)), (18, cv), (19, vi (x.cores.length : Int)), (20, vi (p : Int))]) (fun p => x.cores.length - p) 0 ⟨Nat.zero_le _, rfl⟩ alT (fun w hs => Af hs) ?_
  rintro p ⟨hp, hkp⟩
  refine ZA ?_
  refine cdy ?_ ?_
  ·intro ht21
   refine Gl ?_
   refine Fd p (v := cv) mm (by omega) (fun hwp up honep => ?_)
   have hln := hx.ln p (by omega)
   refine ZP ?_
   refine al_ (cs := [.slice none 0 0, vi 0, vi 0, vi 0]) Try.zeroValue57 ?_; intro b6
   refine Zcq ?_;intro hwl
   have hgd : Gg x i p = true ↔ ((ent x i).phase = 3 ∧ (ent x i).who = (p : Int)) ∧ (lin x i p).seen = (ent x i).turn := by simp [Gg]
   refine Zci ?_
   refine Cx 8 (.bool (decide (Gg x i p = true))) ?_ ?_
   ·rcases (show ((ent x i).phase ≠ 3) ∨ ((ent x i).phase = 3 ∧ (ent x i).who ≠ (p : Int)) ∨ ((ent x i).phase = 3 ∧ (ent x i).who = (p : Int) ∧ (lin x i p).seen ≠ (ent x i).turn) ∨ ((ent x i).phase = 3 ∧ (ent x i).who = (p : Int) ∧ (lin x i p).seen = (ent x i).turn) from by omega) with hm | hm | hm | hm
    ·refine ZU ?_
     refine Zau ?_
     refine dn4 ?_
     refine ZT ?_
     refine dn7 ?_
     refine djf ?_
     refine ZI ?_;intro ρ
     exact ZcA
    ·refine ZU ?_
     refine ZO ?_
     refine dn3 ?_
     refine dj (dgy ?_)
     refine ZZ ?_
     refine ZX ?_
     refine dn7 ?_
     refine djf ?_
     refine ZI ?_;intro ρ
     exact ZcA
    ·refine Zci ?_
     refine ZU ?_
     refine ZO ?_
     refine dn3 ?_
     refine dj (dgy ?_)
     refine Za1 ?_
     refine dj (dgy ?_)
     refine ZZ ?_
     refine ZS ?_;intro ρ
     exact ZcA
    ·refine ZU ?_
     refine ZO ?_
     refine dn3 ?_
     refine dj (dgy ?_)
     refine Za1 ?_
     refine dj (dgy ?_)
     refine Zap ?_
     refine ZS ?_;intro ρ
     refine An ?_ (fun w hs => hs)
     refine ⟨by first | exact congrArg (fun b => some (Value.bool b)) (decide_eq_true (by rw [hgd]; omega)).symm | exact congrArg (fun b => some (Value.bool b)) (by simp; omega), alT⟩
   ·refine A2 ?_
    refine Gl ?_
    refine Zbx ?_
    refine Cx 47 (.bool (decide ((lin x i p).state = 2 ∧ ¬ (ent x i).owner = (p : Int) ∧ ¬ Gg x i p = true))) ?_ ?_
    ·rcases (show ((lin x i p).state ≠ 2) ∨ ((lin x i p).state = 2 ∧ (ent x i).owner = (p : Int)) ∨ ((lin x i p).state = 2 ∧ ¬ (ent x i).owner = (p : Int) ∧ Gg x i p = true) ∨ ((lin x i p).state = 2 ∧ ¬ (ent x i).owner = (p : Int) ∧ ¬ Gg x i p = true) from by grind) with hm | hm | hm | hm
     ·refine ZG ?_
      refine Az ?_
      refine Ga11 ?_
      exact Zcv
     ·refine ZaE ?_
      refine V3 ?_
      refine Ga6 ?_
      exact Zcv
     ·refine Zbx ?_
      refine ZaE ?_
      refine S9 ?_
      refine ZK ?_
      refine ob (Cu rfl (decide_eq_true hm.2.2)) ?_
      refine Ga2 ?_
      exact Zcv
     ·refine ZaE ?_
      refine S9 ?_
      refine ZK ?_
      refine ob (H4 rfl (decide_eq_false hm.2.2)) ?_
      exact ZcT
    ·refine A2 ?_
     first | (refine cdx (p := ?p3) (hd := ?d3) ?e3 ?_ ?_; case e3 => exact rfl) | (refine Bg (b := ?b3) ?e3 ?_ ?_; case e3 => exact rfl)
     ·intro ht47
      refine Gl ?_
      refine Zbx ?_
      refine Aa ?_
      refine Ga1 ?_
      have hka : F0 x i p = false := by
       unfold F0 stN
       cases hg : Gg x i p <;> cases hb : H8 (ent x i).sharers p <;> simp [hg, hb] at ht47 ⊢ <;> omega
      exact Zdj
     ·intro ht47
      refine Gl ?_
      refine Zbv ?_
      refine Cx 63 (.bool (decide ((lin x i p).state = 1 ∧ ¬ H8 (ent x i).sharers p = true ∧ ¬ (ent x i).owner = (p : Int) ∧ ¬ Gg x i p = true))) ?_ ?_
      ·rcases (show ((lin x i p).state ≠ 1) ∨ ((lin x i p).state = 1 ∧ H8 (ent x i).sharers p = true) ∨ ((lin x i p).state = 1 ∧ ¬ H8 (ent x i).sharers p = true ∧ (ent x i).owner = (p : Int)) ∨ ((lin x i p).state = 1 ∧ ¬ H8 (ent x i).sharers p = true ∧ ¬ (ent x i).owner = (p : Int) ∧ Gg x i p = true) ∨ ((lin x i p).state = 1 ∧ ¬ H8 (ent x i).sharers p = true ∧ ¬ (ent x i).owner = (p : Int) ∧ ¬ Gg x i p = true) from by grind) with hm | hm | hm | hm | hm
       ·refine ZG ?_
        refine Az ?_
        refine Ga19 ?_
        exact Zcv
       ·refine ZaE ?_
        refine ZbV ?_
        refine ob (Ai rfl rfl (A1 (by rw [if_pos hm.2]; decide))) ?_
        refine Ga12 ?_
        exact Zcv
       ·refine Zbv ?_
        refine Zb8 ?_
        refine V3 ?_
        refine Ga6 ?_
        exact Zcv
       ·refine Zb8 ?_
        refine S9 ?_
        refine ZK ?_
        refine ob (Cu rfl (decide_eq_true hm.2.2.2)) ?_
        refine Ga2 ?_
        exact Zcv
       ·refine Zbv ?_
        refine Zb8 ?_
        refine S9 ?_
        refine ZK ?_
        refine ob (H4 rfl (decide_eq_false hm.2.2.2)) ?_
        exact ZcT
      ·refine A2 ?_
       first | (refine cdx (p := ?p4) (hd := ?d4) ?e4 ?_ ?_; case e4 => exact rfl) | (refine Bg (b := ?b4) ?e4 ?_ ?_; case e4 => exact rfl)
       ·intro ht63
        refine ZA ?_
        have hka : F0 x i p = false := by
         unfold F0 stN
         cases hg : Gg x i p <;> cases hb : H8 (ent x i).sharers p <;> simp [hg, hb] at ht63 ⊢ <;> omega
        exact Zdj
       ·intro ht63
        refine ZD ?_
        have hka : F0 x i p = true := by
         unfold F0 stN
         cases hg : Gg x i p <;> cases hb : H8 (ent x i).sharers p <;> simp [hg, hb] at ht47 ht63 ⊢ <;> omega
        refine A3 (p + 1) ⟨by omega, Fy hkp hka⟩ (by omega) alT (fun w hs => Af hs)
  ·intro ht21
   refine ZD ?_
   refine A3 (i + 1) ⟨by omega, Fy hal (by unfold Tj; rw [show x.cores.length = p by omega]; exact hkp)⟩ (by omega) alT (fun w hs => Af hs)
 ·intro ht13
  refine ZA ?_
  have er : Ee x = true := by unfold Ee; rw [show x.home.length = i by omega]; exact hal
  exact ZcJ
theorem Ur {cv hv fv : Value} {x : Chip} (hs : St (L) R w) (hcv : sl cv x.cores ∈ R) (hhv : sl hv x.home ∈ R) (hx : CX x) (hfv : sl fv x.frames ∈ R) (honef : fv.oneCell' = true) : Calls Try.prog 11 [.agg #[cv, hv, fv]].toArray w (Bl (fun _ : Unit => vi (Dj x)) (fun _ => L) (fun _ => R)) := by
 refine Za6 ?_;intro honec honeh
 have hn4 := hx.n4
 have hh4 := hx.h4
 refine Ah Try.func11 rfl Try.ntmps11 rfl hs ?_
 clear hs
 refine ZaM ?_;intro b1
 refine Ga5 ?_
 refine cdy ?_ ?_
 ·intro ht5
  refine ZA ?_
  have er : Dj x = 4 := by unfold Dj; rw [if_pos (by omega)]
  exact ZcJ
 ·intro ht5
  refine Gl ?_
  refine kp [1, 2, 10, 11, 12, 13] ?_
  refine Cx 10 (.bool (decide (Ef x = false))) ?_ ?_
  ·rcases (show (Ef x = false) ∨ (Ef x = true) from by cases Ef x <;> simp) with hm | hm
   ·refine ZC ?_
    refine Ak Try.call27 rfl (fun w hs => Ns (x := x) hs hcv hhv hx honef) ?_; intro _
    refine ob (H4 rfl hm) ?_
    refine Ga1 ?_
    refine An ?_ (fun w hs => hs)
    refine ⟨by first | exact congrArg (fun b => some (Value.bool b)) (decide_eq_true (by simp [hm])).symm | exact congrArg (fun b => some (Value.bool b)) (by simp; omega), alT⟩
   ·refine ZC ?_
    refine Ak Try.call27 rfl (fun w hs => Ns (x := x) hs hcv hhv hx honef) ?_; intro _
    refine ob (Cu rfl hm) ?_
    refine Ga1 ?_
    refine An ?_ (fun w hs => hs)
    refine ⟨by first | exact congrArg (fun b => some (Value.bool b)) (decide_eq_false (by simp [hm])).symm | exact congrArg (fun b => some (Value.bool b)) (by simp; omega), alT⟩
  ·refine A2 ?_
   first | (refine cdx (p := ?p2) (hd := ?d2) ?e2 ?_ ?_; case e2 => exact rfl) | (refine Bg (b := ?b2) ?e2 ?_ ?_; case e2 => exact rfl)
   ·intro ht10
    refine ZA ?_
    have er : Dj x = 6 := by unfold Dj; rw [if_neg (by omega), if_pos (by simpa using ht10)]
    exact ZcJ
   ·intro ht10
    refine Gl ?_
    refine kp [1, 2, 14, 15, 16, 17, 18, 19, 20, 21, 22] ?_
    refine Cx 14 (.bool (decide (E9 x = false ∨ Ee x = false))) ?_ ?_
    ·rcases (show (E9 x = false) ∨ (E9 x = true ∧ Ee x = false) ∨ (E9 x = true ∧ Ee x = true) from by cases E9 x <;> cases Ee x <;> simp) with hm | hm | hm
     ·refine ZC ?_
      refine Ak Try.call28 rfl (fun w hs => L8 (x := x) hs hcv hhv hx honef) ?_; intro _
      refine ob (H4 rfl hm) ?_
      refine Ga6 ?_
      refine An ?_ (fun w hs => hs)
      refine ⟨by first | exact congrArg (fun b => some (Value.bool b)) (decide_eq_true (by simp [hm])).symm | exact congrArg (fun b => some (Value.bool b)) (by simp; omega), alT⟩
     ·refine ZC ?_
      refine Ak Try.call28 rfl (fun w hs => L8 (x := x) hs hcv hhv hx honef) ?_; intro _
      refine ob (Cu rfl hm.1) ?_
      refine Zal ?_
      refine Ak Try.call29 rfl (fun w hs => Nr (x := x) hs hcv hhv hx honef) ?_; intro _
      refine gy ?_
      refine ob (H4 rfl hm.2) ?_
      refine Ga2 ?_
      refine An ?_ (fun w hs => hs)
      refine ⟨by first | exact congrArg (fun b => some (Value.bool b)) (decide_eq_true (by simp [hm])).symm | exact congrArg (fun b => some (Value.bool b)) (by simp; omega), alT⟩
     ·refine ZC ?_
      refine Ak Try.call28 rfl (fun w hs => L8 (x := x) hs hcv hhv hx honef) ?_; intro _
      refine ob (Cu rfl hm.1) ?_
      refine Zal ?_
      refine Ak Try.call29 rfl (fun w hs => Nr (x := x) hs hcv hhv hx honef) ?_; intro _
      refine gy ?_
      refine ob (Cu rfl hm.2) ?_
      refine Ga2 ?_
      refine An ?_ (fun w hs => hs)
      refine ⟨by first | exact congrArg (fun b => some (Value.bool b)) (decide_eq_false (by simp [hm])).symm | exact congrArg (fun b => some (Value.bool b)) (by simp; omega), alT⟩
    ·refine A2 ?_
     first | (refine cdx (p := ?p3) (hd := ?d3) ?e3 ?_ ?_; case e3 => exact rfl) | (refine Bg (b := ?b3) ?e3 ?_ ?_; case e3 => exact rfl)
     ·intro ht14
      refine ZA ?_
      have er : Dj x = 2 := by unfold Dj; rw [if_neg (by omega), if_neg (by simpa using ht10), if_pos (by simpa using ht14)]
      exact ZcJ
     ·intro ht14
      refine Zag ?_
      refine Bf (γ := Nat) (fun i => i ≤ x.frames.length ∧ Jo (I1 x) i = true) (fun _ => blk b1 38 [cv, hv, fv] :: L) (fun _ => R) (fun i => [(24, fv), (25, vi (x.frames.length : Int)), (26, vi (i : Int))]) (fun i => x.frames.length - i) 0 ⟨Nat.zero_le _, rfl⟩ alT (fun w hs => Af hs) ?_
      rintro i ⟨hi, hal⟩
      refine Gl ?_
      refine kp [2, 24, 25, 26, 27] ?_
      refine Aa ?_
      refine Ga1 ?_
      refine cdy ?_ ?_
      ·intro ht27
       refine Gl ?_
       refine JC.open1 (xs := x.frames) (v := fv) i mm (by omega) (fun _ fu => ?_)
       refine Aa ?_
       refine Gb3 ?_
       refine Ga3 ?_
       refine cdy ?_ ?_
       ·intro ht32
        have g32 : ((x.frames.getD i []).length : Int) ≠ 12 := ht32
        refine ZA ?_
        have er : Dj x = 3 := by unfold Dj; rw [if_neg (by omega), if_neg (by simpa using ht10), if_neg (by simpa using ht14), if_pos (Gx (show i < x.frames.length by omega) (by unfold I1; simp only [beq_eq_false_iff_ne]; omega))]
        exact ZcJ
       ·intro ht32
        have g32 : ¬ ((x.frames.getD i []).length : Int) ≠ 12 := ht32
        refine ZD ?_
        refine A3 (i + 1) ⟨by omega, Fy hal (by unfold I1; simp only [beq_iff_eq]; omega)⟩ (by omega) alT (fun w hs => Af hs)
      ·intro ht27
       refine ZA ?_
       have er : Dj x = 0 := by unfold Dj; rw [if_neg (by omega), if_neg (by simpa using ht10), if_neg (by simpa using ht14), if_neg (by rw [show x.frames.length = i by omega, hal]; decide)]
       exact ZcJ
theorem W4 (p q : Prop) : ¬ p ∨ (p ∧ q) ∨ (p ∧ ¬ q) := by
 by_cases h1 : p <;> by_cases h2 : q <;> simp [h1, h2]
section
variable {h : List Chip} {x : Chip} {ops : List Op} {losses : Bool}
theorem Jq {l : List Step} {j : Nat} (hj : j < l.length) : Dz h x (l.drop j) = match Ib h x (l.getD j zStep) with | none => none | some h' => Dz h' x (l.drop (j + 1)) := by
 rw [List.drop_eq_getElem_cons hj, List.getD_eq_getElem?_getD, List.getElem?_eq_getElem hj]; rfl
theorem Yd {l : List Chip} {i : Nat} (hi : i < l.length) : Fv ops losses h (l.drop i) = match Dz h (l.getD i Dd) (Io (l.getD i Dd) ops losses) with | none => none | some h' => Fv ops losses h' (l.drop (i + 1)) := by
 rw [List.drop_eq_getElem_cons hi, List.getD_eq_getElem?_getD, List.getElem?_eq_getElem hi]; rfl
theorem try_a {s : Step} (hc : ¬ (Am x s).2.2 = 0) : Ib h x s = some h := by unfold Ib; rw [if_pos (.inl hc)]
theorem try_b {s : Step} (hc : (Am x s).2.2 = 0 ∧ (Am x s).1 ∈ h) : Ib h x s = some h := by unfold Ib; rw [if_pos (.inr hc.2)]
theorem try_c {s : Step} (hc : (Am x s).2.2 = 0 ∧ ¬ (Am x s).1 ∈ h) (hl : h.length = 120) : Ib h x s = none := by
 unfold Ib; rw [if_neg (fun a => a.elim (fun b => b hc.1) hc.2), if_pos hl]
theorem try_d {s : Step} (hc : (Am x s).2.2 = 0 ∧ ¬ (Am x s).1 ∈ h) (hl : ¬ h.length = 120) : Ib h x s = some (h ++ [(Am x s).1]) := by
 unfold Ib; rw [if_neg (fun a => a.elim (fun b => b hc.1) hc.2), if_neg hl]
end
section
variable {c : Config} {ops : List Op} {losses : Bool} {most : Int}
theorem ea_1 (h : (Aw c).2 ≠ 0) : Ct c ops losses most = (⟨0, 0, false⟩, (Aw c).2) := by unfold Ct; rw [if_pos h]
theorem ea_2 (h : (Aw c).2 = 0) (h2 : most < 0 ∨ 300 < most) : Ct c ops losses most = (⟨0, 0, false⟩, 3) := by unfold Ct; rw [if_neg (by rw [h]; decide), if_pos h2]
theorem ea_3 (h : (Aw c).2 = 0) (h2 : ¬ (most < 0 ∨ 300 < most)) (h3 : 12 < ops.length) : Ct c ops losses most = (⟨0, 0, false⟩, 4) := by unfold Ct; rw [if_neg (by rw [h]; decide), if_neg h2, if_pos h3]
theorem ea_n (h : (Aw c).2 = 0) (h2 : ¬ (most < 0 ∨ 300 < most)) (h3 : ¬ 12 < ops.length) (e : C4 ops losses most.toNat [(Aw c).1] 0 = none) : Ct c ops losses most = (⟨120, 0, true⟩, 0) := by
 unfold Ct; rw [if_neg (by rw [h]; decide), if_neg h2, if_neg h3, e]
theorem ea_s {l : List Chip} (h : (Aw c).2 = 0) (h2 : ¬ (most < 0 ∨ 300 < most)) (h3 : ¬ 12 < ops.length) (e : C4 ops losses most.toNat [(Aw c).1] 0 = some l) : Ct c ops losses most = (⟨(l.length : Int), 0, false⟩, 0) := by
 unfold Ct; rw [if_neg (by rw [h]; decide), if_neg h2, if_neg h3, e]
theorem Vl {k : Nat} {had : List Chip} {f : Nat} (hk : 0 < k) (e : Fv ops losses had (had.drop f) = none) : C4 ops losses k had f = none := by
 obtain ⟨j, rfl⟩ : ∃ j, k = j + 1 := ⟨k - 1, by omega⟩
 unfold C4; rw [e]
theorem Vk {k : Nat} {had h : List Chip} {f : Nat} (hk : 0 < k) (e : Fv ops losses had (had.drop f) = some h) : C4 ops losses k had f = C4 ops losses (k - 1) h had.length := by
 obtain ⟨j, rfl⟩ : ∃ j, k = j + 1 := ⟨k - 1, by omega⟩
 show (match Fv ops losses had (had.drop f) with | none => none | some h => C4 ops losses j h had.length) = _
 rw [e]; rfl
theorem T3 {had t : List Chip} {y : Chip} : (had ++ t ++ [y]).drop had.length = (had ++ t).drop had.length ++ [y] := by
 rw [List.append_assoc, List.drop_left, List.drop_left]
theorem Tk {n nl : Nat} {l : List Chip} {y : Chip} {M : List Int} (hl : ∀ x ∈ l, ∃ M, Inv n nl x M) (hy : Inv n nl y M) : Gr y ∈ l.map Gr ↔ y ∈ l := by
 refine ⟨fun h => ?_, fun h => List.mem_map.2 ⟨y, h, rfl⟩⟩
 obtain ⟨x, hx, e⟩ := List.mem_map.1 h
 obtain ⟨Mx, hI⟩ := hl x hx
 rw [Zl hI hy e] at hx; exact hx
end
theorem Tz {vo : Value} {c : Config} {ops : List Op} {losses : Bool} {most : Int} (hs : St (L) R w) (ho : sl vo ops ∈ R) (hcw : c.wf) (hm : Ao most) : Calls Try.prog 5 [.agg c.cells.toArray, vo, .bool losses, vi most].toArray w (Bl (fun _ : Unit => .tuple #[.agg (Seen.cells (Ct c ops losses most).1).toArray, vi (Ct c ops losses most).2]) (fun _ => L) (fun _ => R)) := by
 refine Ah Try.func5 rfl Try.ntmps5 rfl hs ?_
 clear hs
 refine Gm ?_
 refine bx ?_; intro b4
 refine al_ (cs := zSeen.cells) Try.zeroValue28 ?_; intro b8
 refine Gb1 ?_
 refine rn1 ?_
 refine Ak Try.call9 rfl (fun w hs => Xe (c := c) hs hcw) ?_; intro v25
 refine J.know (p := v25.1.oneCell' = true ∧ v25.2.oneCell' = true) (fun w hs => ⟨isSlice.one (hs.fact (.head _)), isSlice.one (hs.fact (.tail _ (.head _)))⟩) (fun h12 => ?_)
 obtain ⟨honev251, honev252⟩ := h12
 refine rn3 ?_
 refine al_ (cs := [.slice none 0 0, .slice none 0 0, .slice none 0 0]) Try.zeroValue38 ?_; intro b10
 refine s_B (cs := [v25.1, v25.2, .slice none 0 0]) Try.sizeOf38 ?_
 refine ZL ?_
 refine cdy ?_ ?_
 ·intro ht29
  refine Gm ?_
  refine ob (D5 (cs := zSeen.cells) So) ?_
  refine rn1 ?_
  refine ZbO ?_
  rw [ea_1 ht29]
  exact Zdt
 ·intro ht29
  refine Gl ?_
  refine kp [1, 2, 3, 8, 9, 10, 32, 33, 34, 35, 36, 37] ?_
  refine Cx 37 (.bool (decide ((most < 0) ∨ (300 < most)))) ?_ ?_
  ·rcases (show ((most < 0)) ∨ (¬ (most < 0) ∧ (300 < most)) ∨ (¬ (most < 0) ∧ ¬ (300 < most)) from by omega) with hm | hm | hm
   ·refine ZC ?_
    refine E4 ?_
    refine Ga4 ?_
    exact Zc9
   ·refine Zae ?_
    refine Zal ?_
    refine Ha ?_
    refine Ga1 ?_
    exact Zc9
   ·refine Zae ?_
    refine Zal ?_
    refine D9 ?_
    refine Ga1 ?_
    exact ZcI
  ·refine A2 ?_
   refine Gl ?_
   first | (refine cdx (p := ?p2) (hd := ?d2) ?e2 ?_ ?_; case e2 => exact rfl) | (refine Bg (b := ?b2) ?e2 ?_ ?_; case e2 => exact rfl)
   ·intro ht37
    refine Gm ?_
    refine ob (D5 (cs := zSeen.cells) So) ?_
    refine ZbO ?_
    rw [ea_2 (Decidable.not_not.1 ht29) ht37]
    exact Zdt
   ·intro ht37
    refine Za2 ?_
    refine cdy ?_ ?_
    ·intro ht41
     refine Gm ?_
     refine ob (D5 (cs := zSeen.cells) So) ?_
     refine ZbO ?_
     rw [ea_3 (Decidable.not_not.1 ht29) ht37 (by omega)]
     exact Zdt
    ·intro ht41
     refine Gl ?_
     have hok : (Aw c).2 = 0 := Decidable.not_not.1 ht29
     have h12 : ¬ 12 < ops.length := by omega
     obtain ⟨m, rfl⟩ : ∃ m : Nat, most = (m : Int) := ⟨most.toNat, by omega⟩
     have hm0 : ¬ ((m : Int) < 0 ∨ 300 < (m : Int)) := ht37
     obtain ⟨n, nl, a1, a2, a3, a4⟩ := Lg hok
     obtain ⟨M0, hI0⟩ : ∃ M, Inv n nl (Aw c).1 M := ⟨_, by rw [a4]; exact Oq a1 a2⟩
     have hH0 : Had n nl [(Aw c).1] := by rw [a4]; exact Had.one a1 a2
     refine Aa ?_
     refine Y3 skv ?_; intro bm
     refine rn1 ?_
     refine Ak Try.call8 rfl (fun w hs => Ni (x := (Aw c).1) hs mm mm mm hI0.kx) ?_; intro _
     refine Vu (Gr (Aw c).1) Lo Try.underlying44 Try.underlying9 Ln (ks := []) (by simp) rfl rfl rfl pkk ?_
     rw [List.nil_append]
     refine Gb2 ?_
     refine rn1 ?_
     refine li (α := Chip) [(Aw c).1] Abh rfl (X9 mm mm mm) ?_; intro v48
     refine Gb1 ?_
     refine rn1 ?_
     refine al_ (cs := zSeen.cells) Try.zeroValue28 ?_; intro b14
     refine s_B (cs := [vi 1, vi 0, .bool false]) Try.sizeOf28 ?_
     refine Gl ?_
     refine kp [1, 2, 3, 8, 9, 12, 13, 14, 50, 51] ?_
     refine Zac ?_
     refine Bf (γ := Nat × List Chip × Nat × Value) (fun g => g.1 ≤ m ∧ Had n nl g.2.1 ∧ C4 ops losses (m - g.1) g.2.1 g.2.2.1 = C4 ops losses m [(Aw c).1] 0) (fun g => N7 skv bm (g.2.1.map Gr) :: blk b14 28 [vi (g.2.1.length : Int), vi 0, .bool false] :: blk b8 28 [vi 0, vi 0, .bool false] :: L) (fun g => sl g.2.2.2 (g.2.1.drop g.2.2.1) :: R) (fun g => [(1, vo), (2, .bool losses), (8, bp b8 0), (12, .map (some bm)), (13, g.2.2.2), (14, bp b14 0), (50, vi (m : Int)), (51, vi (g.1 : Int))]) (fun g => m - g.1) (0, [(Aw c).1], 0, v48) ⟨Nat.zero_le _, hH0, rfl⟩ alT (fun w hs => Af hs) ?_
     rintro ⟨r, had, f, vn⟩ ⟨hr, hH, hrun⟩
     try simp only at hr hH hrun ⊢
     refine ZA ?_
     refine cdy ?_ ?_
     ·intro ht52
      refine ZH ?_
      refine Ga3 ?_
      refine JC.rowNil 38 Chip ?_
      refine Bf (γ := Nat × List Chip × Value) (fun g => g.1 ≤ (had.drop f).length ∧ Had n nl g.2.1 ∧ (∃ t, g.2.1 = had ++ t) ∧ Fv ops losses had (had.drop f) = Fv ops losses g.2.1 ((had.drop f).drop g.1)) (fun g => row 38 g.2.2 (g.2.1.drop had.length) :: N7 skv bm (g.2.1.map Gr) :: blk b14 28 [vi (g.2.1.length : Int), vi 0, .bool false] :: blk b8 28 [vi 0, vi 0, .bool false] :: L) (fun _ => sl vn (had.drop f) :: R) (fun g => [(1, vo), (2, .bool losses), (8, bp b8 0), (12, .map (some bm)), (14, bp b14 0), (15, g.2.2), (50, vi (m : Int)), (51, vi (r : Int)), (53, vn), (54, vi ((had.drop f).length : Int)), (55, vi (g.1 : Int))]) (fun g => (had.drop f).length - g.1) (0, had, .slice none 0 0) ⟨Nat.zero_le _, hH, ⟨[], by simp⟩, rfl⟩ alT (fun w hs => by rw [List.drop_length]; exact Af hs) ?_
      rintro ⟨i, h, vx⟩ ⟨hi, hHh, ⟨t, ht⟩, hnow⟩
      try simp only at hi hHh ht hnow ⊢
      have hdl : (had.drop f).length ≤ 120 := by have := hH.len; rw [List.length_drop]; omega
      refine ZA ?_
      refine cdy ?_ ?_
      ·intro ht56
       refine Gl ?_
       refine V1 i (xs := had.drop f) (v := vn) mm (by omega) (fun a b c0 hone => ?_)
       obtain ⟨honea, honeb, honec⟩ := hone
       obtain ⟨X, hX⟩ : ∃ X, (had.drop f).getD i Dd = X := ⟨_, rfl⟩
       have hXm : X ∈ had := by
        rw [← hX, List.getD_eq_getElem?_getD, List.getElem?_eq_getElem (by omega)]; exact List.mem_of_mem_drop (List.getElem_mem _)
       rw [hX]
       obtain ⟨MX, hIX⟩ := hH.inv X hXm
       refine ZB ?_
       refine al_ (cs := [.slice none 0 0, .slice none 0 0, .slice none 0 0]) Try.zeroValue38 ?_; intro b17
       refine s_B (cs := [a, b, c0]) Try.sizeOf38 ?_
       refine Gm ?_
       refine rn3 ?_
       refine Ak Try.call7 rfl (fun w hs => P5 (x := X) (ops := ops) (losses := losses) hs mm mm mm hIX.kx (by omega)) ?_; intro v62
       refine Ga2 ?_
       obtain ⟨S, hS⟩ : ∃ S, Io X ops losses = S := ⟨_, rfl⟩
       rw [hS]
       refine Bf (γ := Nat × List Chip × Value) (fun g => g.1 ≤ S.length ∧ Had n nl g.2.1 ∧ (∃ t, g.2.1 = had ++ t) ∧ Dz h X S = Dz g.2.1 X (S.drop g.1)) (fun g => row 38 g.2.2 (g.2.1.drop had.length) :: blk b17 38 [a, b, c0] :: N7 skv bm (g.2.1.map Gr) :: blk b14 28 [vi (g.2.1.length : Int), vi 0, .bool false] :: blk b8 28 [vi 0, vi 0, .bool false] :: L) (fun _ => sl v62 S :: sl a X.cores :: sl b X.home :: sl c0 X.frames :: sl vn (had.drop f) :: R) (fun g => [(1, vo), (2, .bool losses), (8, bp b8 0), (12, .map (some bm)), (14, bp b14 0), (15, g.2.2), (17, bp b17 0), (50, vi (m : Int)), (51, vi (r : Int)), (53, vn), (54, vi ((had.drop f).length : Int)), (55, vi (i : Int)), (62, v62), (63, vi (S.length : Int)), (64, vi (g.1 : Int))]) (fun g => S.length - g.1) (0, h, vx) ⟨Nat.zero_le _, hHh, ⟨t, ht⟩, rfl⟩ alT (fun w hs => Af hs) ?_
       rintro ⟨j, h2, vx⟩ ⟨hj, hH2, ⟨t, ht⟩, hst⟩
       try simp only at hj hH2 ht hst ⊢
       have hl2 := hH2.len
       have hSl : S.length ≤ 200 := by
        have h1 := Sp X ops losses (X.cores.length + 1)
        rw [Sq, hS] at h1
        have h2 := Nat.mul_le_mul hIX.kx.cl (show ops.length ≤ 12 by omega)
        have h3 := hIX.kx.cl
        have h4 := hIX.kx.fl
        omega
       refine ZA ?_
       refine cdy ?_ ?_
       ·intro ht65
        refine Gl ?_
        obtain ⟨SJ, hSJ⟩ : ∃ SJ, S.getD j zStep = SJ := ⟨_, rfl⟩
        refine JC.open0 (xs := S) (v := v62) j mm (by omega) (fun hsw => ?_)
        have hsw2 : Step.wf (S.getD j zStep) := hsw
        refine JC.conseq (L' := row 38 vx (h2.drop had.length) :: blk b17 38 [a, b, c0] :: N7 skv bm (h2.map Gr) :: blk b14 28 [vi (h2.length : Int), vi 0, .bool false] :: blk b8 28 [vi 0, vi 0, .bool false] :: L) (R' := cF v62 7 j SJ.cells :: sl v62 S :: sl a X.cores :: sl b X.home :: sl c0 X.frames :: sl vn (had.drop f) :: R) (fun w hs => by rw [← hSJ]; exact hs) ?_
        rw [hSJ] at hsw2
        refine ZB ?_
        refine al_ (cs := zStep.cells) Try.zeroValue47 ?_; intro b19
        refine s_B (cs := SJ.cells) Try.sizeOf47 ?_
        refine Zaf ?_
        refine Ak Try.call10 rfl (fun w hs => R7 (x := X) (s := SJ) hs mm mm mm hsw2 hIX) ?_; intro v71
        refine J.know (p := v71.1.oneCell' = true ∧ v71.2.1.oneCell' = true ∧ v71.2.2.1.oneCell' = true) (fun w hs => ⟨isSlice.one (hs.fact (.head _)), isSlice.one (hs.fact (.tail _ (.head _))), isSlice.one (hs.fact (.tail _ (.tail _ (.head _))))⟩) (fun h12 => ?_)
        obtain ⟨honev711, honev712, honev713⟩ := h12
        refine rn4 ?_
        refine al_ (cs := [.slice none 0 0, .slice none 0 0, .slice none 0 0]) Try.zeroValue38 ?_; intro b20
        refine s_B (cs := [v71.1, v71.2.1, v71.2.2.1]) Try.sizeOf38 ?_
        refine Ga2 ?_
        rcases (show (¬ (Am X SJ).2.2 = 0) ∨ ((Am X SJ).2.2 = 0 ∧ (Am X SJ).1 ∈ h2) ∨ ((Am X SJ).2.2 = 0 ∧ ¬ (Am X SJ).1 ∈ h2) from by exact W4 _ _) with hc | hc | hc
        ·refine Zb0 ?_
         refine ob (Ai rfl rfl (Ga hc)) ?_
         refine Gd6 ?_
         refine Ga2 ?_
         have htd := try_a (h := h2) hc
         have hsa := Jq (h := h2) (x := X) (l := S) (j := j) (by omega)
         rw [hSJ, htd] at hsa
         refine A3 (j + 1, h2, vx) ⟨by show j + 1 ≤ S.length; omega, hH2, ⟨t, ht⟩, by rw [hst, hsa]⟩ (by show S.length - (j + 1) < S.length - j; omega) alT (fun w hs => Af hs)
        ·obtain ⟨MD, hID, _⟩ := Tm hIX hc.1
         have hkm := Tk hH2.inv hID
         refine Zb0 ?_
         refine ob (Ai rfl rfl (D2 hc.1)) ?_
         refine ZK ?_
         refine Ak Try.call8 rfl (fun w hs => Ni (x := (Am X SJ).1) hs mm mm mm hID.kx) ?_; intro _
         refine gy ?_
         refine Mv (Gr (Am X SJ).1) true (hv := ⟨fun _ => hkm.2 hc.2, fun _ => rfl⟩) Lo Try.underlying44 Try.underlying9 Try.zeroValue4 Ln rfl rfl pkk ?_
         refine Gd1 ?_
         refine Ga2 ?_
         have htd := try_b (h := h2) hc
         have hsa := Jq (h := h2) (x := X) (l := S) (j := j) (by omega)
         rw [hSJ, htd] at hsa
         refine A3 (j + 1, h2, vx) ⟨by show j + 1 ≤ S.length; omega, hH2, ⟨t, ht⟩, by rw [hst, hsa]⟩ (by show S.length - (j + 1) < S.length - j; omega) alT (fun w hs => Af hs)
        ·obtain ⟨MD, hID, _⟩ := Tm hIX hc.1
         have hkm := Tk hH2.inv hID
         refine Zb0 ?_
         refine ob (Ai rfl rfl (D2 hc.1)) ?_
         refine ZK ?_
         refine Ak Try.call8 rfl (fun w hs => Ni (x := (Am X SJ).1) hs mm mm mm hID.kx) ?_; intro _
         refine gy ?_
         refine Mv (Gr (Am X SJ).1) false (hv := ⟨fun h => absurd h (by decide), fun a => absurd (hkm.1 a) hc.2⟩) Lo Try.underlying44 Try.underlying9 Try.zeroValue4 Ln rfl rfl pkk ?_
         refine Gd1 ?_
         refine rn1 ?_
         refine Vt Try.underlying44 rfl pkk ?_
         rw [List.length_map]
         refine Ga1 ?_
         refine cdy ?_ ?_
         ·intro ht85
          refine Zad ?_
          refine ZJ ?_
          refine rn1 ?_
          refine s_B (cs := [vi (h2.length : Int), vi 0, .bool true]) Try.sizeOf28 ?_
          refine Ga1 ?_
          have htn := try_c (h := h2) hc (by omega)
          have hsa := Jq (h := h2) (x := X) (l := S) (j := j) (by omega)
          rw [hSJ, htn] at hsa
          have hst2 : Dz h X S = none := by rw [hst, hsa]
          have hn1 := Yd (ops := ops) (losses := losses) (h := h) (l := had.drop f) (i := i) (by omega)
          rw [hX, hS, hst2] at hn1
          have hr1 : C4 ops losses m [(Aw c).1] 0 = none := by rw [← hrun]; exact Vl (by omega) (by rw [hnow, hn1])
          rw [ea_n hok hm0 h12 hr1, show ((h2.length : Nat) : Int) = 120 by omega]
          exact Gf () Try.isAgg28 Try.sizeOf28
         ·intro ht85
          refine Zaf ?_
          refine Ak Try.call8 rfl (fun w hs => Ni (x := (Am X SJ).1) hs mm mm mm hID.kx) ?_; intro _
          refine Vs (Gr (Am X SJ).1) Lo Try.underlying44 Try.underlying9 Ln (fun a => hc.2 (hkm.1 a)) rfl rfl rfl pkk ?_
          refine Gm ?_
          refine rn4 ?_
          refine Za3 ?_
          refine ob (Ai rfl rfl (Av rfl)) ?_
          refine Gmc ?_
          refine rn1 ?_
          refine Ak Try.call11 rfl (fun w hs => by have h8 := Ur (x := (Am X SJ).1) hs mm mm hID.cx mm honev713; rw [Un hID] at h8; exact h8) ?_; intro _
          refine rn1 ?_
          refine Za3 ?_
          refine li (α := Chip) [(Am X SJ).1] Abh rfl (X9 mm mm mm) ?_; intro v103
          refine ap Abh (hb := fun w hs => by have : maxN = 16777216 := rfl; have := hH2.len; simp only [List.length_cons, List.length_nil, List.length_drop]; omega) (k := ?_); intro v104
          refine Ga1 ?_
          refine kp [1, 2, 8, 9, 12, 13, 14, 15, 17, 19, 20, 22, 50, 51, 52, 53, 54, 55, 56, 57, 58, 59, 60, 61, 62, 63, 64, 65, 66, 67, 68, 69, 70, 71, 72, 73, 74, 75, 76, 77, 78, 79, 80, 81, 82, 83, 84, 85, 86, 87, 88, 89, 90, 91, 92, 93, 94, 95, 96, 97, 98, 99, 100, 101, 102, 103, 104, 105] ?_
          refine Zac ?_
          have htd := try_d hc (by omega)
          have hsa := Jq (h := h2) (x := X) (l := S) (j := j) (by omega)
          rw [hSJ, htd] at hsa
          refine A3 (j + 1, h2 ++ [(Am X SJ).1], v104) ⟨by show j + 1 ≤ S.length; omega, hH2.try ⟨_, hIX⟩ htd, ⟨t ++ [(Am X SJ).1], by rw [ht, List.append_assoc]⟩, by rw [hst, hsa]⟩ (by show S.length - (j + 1) < S.length - j; omega) alT (fun w hs => ?_)
          try simp only
          rw [List.map_append, List.length_append, List.length_singleton]
          have hdr : (h2 ++ [(Am X SJ).1]).drop had.length = h2.drop had.length ++ [(Am X SJ).1] := by rw [ht]; exact T3
          rw [hdr]; exact Af hs
       ·intro ht65
        refine ZD ?_
        have hje : j = S.length := by omega
        have hst2 : Dz h X S = some h2 := by rw [hst, hje, List.drop_length]; rfl
        have hn1 := Yd (ops := ops) (losses := losses) (h := h) (l := had.drop f) (i := i) (by omega)
        rw [hX, hS, hst2] at hn1
        refine A3 (i + 1, h2, vx) ⟨by show i + 1 ≤ (had.drop f).length; omega, hH2, ⟨t, ht⟩, by show Fv ops losses had (had.drop f) = Fv ops losses h2 ((had.drop f).drop (i + 1)); rw [hnow, hn1]⟩ (by show (had.drop f).length - (i + 1) < (had.drop f).length - i; omega) alT (fun w hs => Af hs)
      ·intro ht56
       refine Gl ?_
       have hnow2 : Fv ops losses had (had.drop f) = some h := by rw [hnow, List.drop_of_length_le (by omega)]; rfl
       refine JC.shut (v := vx) pkk ?_
       refine Aa ?_
       refine Gb2 ?_
       refine Ga2 ?_
       refine A3 (r + 1, h, had.length, vx) ⟨by show r + 1 ≤ m; omega, hHh, by show C4 ops losses (m - (r + 1)) h had.length = _; rw [show m - (r + 1) = m - r - 1 by omega, ← Vk (by omega) hnow2]; exact hrun⟩ (by show m - (r + 1) < m - r; omega) alT (fun w hs => Af hs)
     ·intro ht52
      refine Zad ?_
      refine s_B (cs := [vi (had.length : Int), vi 0, .bool false]) Try.sizeOf28 ?_
      refine Ga1 ?_
      have hr1 : C4 ops losses m [(Aw c).1] 0 = some had := by rw [← hrun, show m - r = 0 by omega]; rfl
      rw [ea_s hok hm0 h12 hr1]
      exact Zdt
theorem e_al : Ct ⟨1, 1⟩ [⟨1, 0, 0⟩] false 3 = (⟨4, 0, false⟩, 0) := by decide +kernel
theorem e_st : ((Io (Aw ⟨1, 1⟩).1 [] true).length : Int) = 2 := by decide +kernel
theorem e_kx : KX (Aw ⟨1, 1⟩).1 := (Oq (n := 1) (nl := 1) (by decide) (by decide)).kx
theorem e_key : Gr (Aw ⟨1, 1⟩).1 ≠ [] := by decide +kernel
theorem rdOpE {R : List Fact} {e : Op} (hw : e.wf) : ∀ j, (∀ q ∈ R, q.p j) → RdV [e] [.agg e.cells.toArray] j := fun j _ => ⟨⟨_, rfl, rfl, hw⟩, trivial⟩
theorem ex_err {c : Config} {ops : List Op} {losses : Bool} {most : Int} (h : (Ct c ops losses most).2 ≠ 0) : (Ct c ops losses most).1 = zSeen := by
 unfold Ct at h ⊢
 split
 ·rfl
 split
 ·rfl
 split
 ·rfl
 rename_i h1 h2 h3
 rw [if_neg h1, if_neg h2, if_neg h3] at h
 split at h <;> exact absurd rfl h
theorem Abd {c : Config} {ops : List Op} {losses : Bool} {most : Int} (h : (Ct c ops losses most).2 = 0) : 0 ≤ most ∧ most ≤ 300 := by
 unfold Ct at h
 split at h
 ·rename_i h1; exact absurd h h1
 split at h
 ·exact absurd h (by decide)
 ·omega
theorem X3  (hs : St (L) R w) : Calls Try.prog 4 [].toArray w (Bl (fun _ : Unit => .bool true) (fun _ => L) (fun _ => R)) := by
 refine Ah Try.func4 rfl Try.ntmps4 rfl hs ?_
 clear hs
 refine ZH ?_
 refine rn2 ?_
 refine li (α := Op) [⟨1, 0, 0⟩] eo_24 rfl (rdOpE (by unfold Op.wf Ao; decide)) ?_; intro v8
 refine Ak Try.call5 rfl (fun w hs => by have h := Tz (c := ⟨1, 1⟩) (ops := [⟨1, 0, 0⟩]) (losses := false) (most := 3) hs mm (by unfold Config.wf Ao; decide) (by unfold Ao; omega); rw [e_al] at h; exact h) ?_; intro _u
 refine rn3 ?_
 refine al_ (cs := zSeen.cells) Try.zeroValue28 ?_; intro b1
 refine s_B (cs := (⟨4, 0, false⟩ : Seen).cells) Try.sizeOf28 ?_
 refine Gb1 ?_
 refine rn1 ?_
 refine Ak Try.call6 rfl (fun w hs => refNew (c := ⟨1, 1⟩) hs (by unfold Config.wf Ao; decide)) ?_; intro v14
 refine J.know (p := v14.1.oneCell' = true ∧ v14.2.oneCell' = true) (fun w hs => ⟨isSlice.one (hs.fact (.head _)), isSlice.one (hs.fact (.tail _ (.head _)))⟩) (fun h12 => ?_)
 obtain ⟨honev141, honev142⟩ := h12
 refine rn3 ?_
 refine al_ (cs := [.slice none 0 0, .slice none 0 0, .slice none 0 0]) Try.zeroValue38 ?_; intro b3
 refine s_B (cs := [v14.1, v14.2, .slice none 0 0]) Try.sizeOf38 ?_
 refine Ga1 ?_
 refine JC.slNil Op ?_
 refine ZC ?_
 refine ob (Ai rfl rfl (Av rfl)) ?_
 refine ZK ?_
 refine ob (Ai rfl rfl (Av rfl)) ?_
 refine ZE ?_
 refine ob (H4 rfl rfl) ?_
 refine ZE ?_
 refine ob (Ai rfl rfl (Av rfl)) ?_
 refine ZK ?_
 refine Ak Try.call7 rfl (fun w hs => P5 (x := (Aw ⟨1, 1⟩).1) (ops := []) (losses := true) hs mm mm mm e_kx (by decide)) ?_; intro v36
 refine rn1 ?_
 refine gy ?_
 refine ob (Ai rfl rfl (Av e_st)) ?_
 refine ZK ?_
 refine Ak Try.call8 rfl (fun w hs => Ni (x := (Aw ⟨1, 1⟩).1) hs mm mm mm e_kx) ?_; intro _
 refine gy ?_
 refine ob (p_str rfl rfl (Ux e_key)) ?_
 refine Ga2 ?_
 exact Be ()
theorem Jm {vo : Value} {c : Config} {ops : List Op} {losses : Bool} {most : Int} (hs : St (L) R w) (ho : sl vo ops ∈ R) (hcw : c.wf) (hm : Ao most) : Calls Try.prog 3 [.agg c.cells.toArray, vo, .bool losses, vi most].toArray w (Bl (fun _ : Unit => .bool true) (fun _ => L) (fun _ => R)) := by
 refine Ah Try.func3 rfl Try.ntmps3 rfl hs ?_
 clear hs
 refine Gm ?_
 refine bx ?_; intro b4
 refine Gb1 ?_
 refine Ak Try.call4 rfl (fun w hs => X3 hs) ?_; intro _
 refine Gd1 ?_
 refine rn4 ?_
 refine Ak Try.call5 rfl (fun w hs => Tz (c := c) (ops := ops) (losses := losses) (most := most) hs mm hcw hm) ?_; intro _u
 refine rn3 ?_
 refine al_ (cs := zSeen.cells) Try.zeroValue28 ?_; intro b9
 refine s_B (cs := (Ct c ops losses most).1.cells) Try.sizeOf28 ?_
 refine ZL ?_
 refine cdy ?_ ?_
 ·intro ht23
  have hz := ex_err ht23
  refine Zad ?_
  refine ob (D5 (cs := zSeen.cells) So) ?_
  refine ob (J7 rfl rfl (Acp (Ct c ops losses most).1 zSeen _) (Uw (x := (Ct c ops losses most).1) (y := zSeen) hz)) ?_
  refine Ga1 ?_
  exact Be ()
 ·intro ht23
  have h0 : (Ct c ops losses most).2 = 0 := Decidable.not_not.1 ht23
  obtain ⟨g1, g2, g3, g4, g5⟩ := Abe h0
  have gm := Abd h0
  refine Zaf ?_
  refine ob (Ai rfl rfl (D2 g1)) ?_
  refine ZK ?_
  refine Bb ?_
  refine ZE ?_
  refine D9 ?_
  refine Gd1 ?_
  refine Ga2 ?_
  refine cdy ?_ ?_
  ·intro ht41
   refine Gl ?_
   refine kp [1, 2, 3, 4, 8, 9, 10, 42, 43, 44] ?_
   refine ZB ?_
   refine ob (Ai rfl rfl (Av (g4 ht41))) ?_
   refine Ga1 ?_
   exact Be ()
  ·intro ht41
   obtain ⟨f1, f2, f3⟩ := g5 ht41
   refine Gl ?_
   refine kp [1, 2, 3, 4, 8, 9, 10, 11, 45, 46, 47, 48, 49, 50, 51, 52, 53] ?_
   refine Zah ?_
   refine Ak Try.call5 rfl (fun w hs => Tz (c := c) (ops := ops) (losses := losses) (most := (most - 1)) hs mm hcw (by unfold Ao; omega)) ?_; intro _u
   refine rn3 ?_
   refine al_ (cs := zSeen.cells) Try.zeroValue28 ?_; intro b11
   refine s_B (cs := (Ct c ops losses (most - 1)).1.cells) Try.sizeOf28 ?_
   refine Ga1 ?_
   rcases (show ((Ct c ops losses (most - 1)).1.full = true) ∨ ((Ct c ops losses (most - 1)).1.full = false) from by cases (Ct c ops losses (most - 1)).1.full <;> simp) with hc | hc
   ·have hfull := f3 hc
    refine ZC ?_
    refine ob (Ai rfl rfl (Av f1)) ?_
    refine Zab ?_
    refine ob (Ai rfl rfl (Mc f2)) ?_
    refine ZE ?_
    refine ob (Cu rfl hc) ?_
    refine Zal ?_
    refine ob (Dm (c := .bool (Ct c ops losses most).1.full) Try.isAgg4) ?_
    rw [hfull]
    refine Ga3 ?_
    exact Be ()
   ·refine ZC ?_
    refine ob (Ai rfl rfl (Av f1)) ?_
    refine Zab ?_
    refine ob (Ai rfl rfl (Mc f2)) ?_
    refine ZE ?_
    refine ob (H4 rfl hc) ?_
    refine Ga6 ?_
    exact Be ()
end Go.Proofs.Ytbigiimomnfpdaa
