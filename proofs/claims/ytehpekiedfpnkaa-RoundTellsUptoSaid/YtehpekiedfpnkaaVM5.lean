/- This file proves parts of what its law needs: each part is told ahead of it. No conditions. -/
import Derived.Test.YtehpekiedfpnkaaVM3
import Derived.Test.YtehpekiedfpnkaaVM4
set_option linter.unusedVariables false
set_option linter.unusedSimpArgs false
set_option maxHeartbeats 1000000
set_option maxRecDepth 8000
namespace Go.Proofs.Ytehpekiedfpnkaa
open Go
variable {L : List Chunk} {R : List Fact} {w : World}
section
variable {ls : List Line} {q : Op} {id home : Int} {m : Msg} {l : Line}
theorem J0 (hl : ls.getD m.line.toNat zLine = l) (hi : 0 ≤ m.line ∧ m.line < (ls.length : Int)) (hk : m.kind = 5 ∨ m.kind = 6) : Ae ⟨ls, q⟩ id home m = (if Dt l m.turn then (⟨ls.set m.line.toNat (Cx l m.kind m.turn), if l.want = 3 then zOp else q⟩, [Bm 9 id home m.line m.turn l.value], if l.want = 3 then [⟨id, q, 0⟩] else []) else if m.turn = l.gave ∧ 0 < m.turn then (⟨ls, q⟩, [Bm 9 id home m.line l.gave l.given], []) else (⟨ls, q⟩, [], [])) := by
 subst hl
 unfold Ae
 rw [if_neg (by simp only; omega), if_neg (by omega), if_pos hk]; rfl
theorem K0 (hl : ls.getD m.line.toNat zLine = l) (hi : 0 ≤ m.line ∧ m.line < (ls.length : Int)) (hk : m.kind = 7) : Ae ⟨ls, q⟩ id home m = (if l.serial < m.serial then (⟨ls, q⟩, [], []) else if Gn l m then (⟨ls.set m.line.toNat (F4 l m q), zOp⟩, [Bm 10 id home m.line m.turn 0], [⟨id, q, (A0 m.value q).2⟩]) else (⟨ls, q⟩, [Bm 10 id home m.line m.turn 0], [])) := by
 subst hl
 unfold Ae
 rw [if_neg (by simp only; omega), if_neg (by omega), if_neg (by omega), if_pos hk]; rfl
end
theorem So {LX : List Chunk} {R : List Fact} {w : World} {vL vo vd : Value} {bk : Nat} {q : Op} {id home : Int} {ls : List Line} {l : Line} {bm : Nat} {ms : List Msg} {ds : List Done} {m : Msg} (hs : St (blk bk 120 [vL, vi q.kind, vi q.line, vi q.value, vi id, vi home, vo, vd] :: row 82 vL ls :: row 49 vo ms :: row 66 vd ds :: blk bm 49 m.cells :: LX) R w) (hl : ls.getD m.line.toNat zLine = l) (hi : 0 ≤ m.line ∧ m.line < (ls.length : Int)) (hll : ls.length ≤ 100) (hm : m.wf) (hid : Ap id) (hhome : Ap home) (hn : ms.length ≤ 1000) (hnd : ds.length ≤ 1000) (hq : q.wf) (hk : m.kind = 5 ∨ m.kind = 6) : Calls Try.prog 105 [bp bk 0, bp bm 0].toArray w (Bu (fun g : Value × Value => .tuple #[]) (fun g => blk bk 120 [vL, vi (Ae ⟨ls, q⟩ id home m).1.wait.kind, vi (Ae ⟨ls, q⟩ id home m).1.wait.line, vi (Ae ⟨ls, q⟩ id home m).1.wait.value, vi id, vi home, g.1, g.2] :: row 82 vL (Ae ⟨ls, q⟩ id home m).1.lines :: row 49 g.1 (ms ++ (Ae ⟨ls, q⟩ id home m).2.1) :: row 66 g.2 (ds ++ (Ae ⟨ls, q⟩ id home m).2.2) :: blk bm 49 m.cells :: LX) (fun g => R)) := by
 have hm0 := hm
 unfold Msg.wf Ap at hm0
 refine Zbp ?_;intro hid0 hhome0
 refine Ai Try.func105 rfl Try.ntmps105 rfl hs ?_
 clear hs
 refine Gl ?_
 refine Zct ?_;intro hlw hA hlw0 honeL
 refine dn9 ?_
 refine Zcy ?_;intro ρ
 refine Gl ?_
 refine kp [0, 1, 4, 15, 16, 17, 18, 19, 20, 21, 22, 23, 24, 25, 26, 27, 28, 29, 30, 31] ?_
 refine Ds 15 (.bool (decide ((m.turn = l.gave) ∧ (0 < m.turn)))) ?_ ?_
 ·rcases (show (¬ (m.turn = l.gave)) ∨ ((m.turn = l.gave) ∧ ¬ (0 < m.turn)) ∨ ((m.turn = l.gave) ∧ (0 < m.turn)) from by omega) with hm | hm | hm
  ·refine Zac ?_
   refine Zbh ?_
   refine djm ?_
   refine dn5 ?_
   refine djf ?_
   exact ZgG
  ·refine Zac ?_
   refine ZaE ?_
   refine djm ?_
   refine dn4 ?_
   refine dj (dgy ?_)
   refine dc (fun _ _ => Ao rfl rfl (Uf (by omega))) ?_
   refine ZS ?_
   exact ZgG
  ·refine kp [0, 1, 4, 15, 16, 17, 18, 19, 20, 21, 22, 23, 24, 25, 26, 27, 28, 29, 30, 31] ?_
   refine Zac ?_
   refine ZaE ?_
   refine djm ?_
   refine dn4 ?_
   refine dj (dgy ?_)
   refine dc (fun _ _ => Ao rfl rfl (N9 (by omega))) ?_
   exact ZgA
 ·refine Ax ?_
  first | (refine cdx (p := ?p1) (hd := ?d1) ?e1 ?_ ?_; case e1 => exact rfl) | (refine Bo (b := ?b1) ?e1 ?_ ?_; case e1 => exact rfl)
  ·intro ht15
   refine Gl ?_
   refine Cf ?_
   refine dn13 ?_
   refine dtl ?_; intro ρ
   refine Am Try.call104 rfl (fun w hs => F8 (vL := vL) (vd := vd) (q := q) (id := id) (home := home) (ms := ms) (kind := 9) (line := m.line) (serial := 0) (turn := l.gave) (value := l.given) (LX := foc 82 vL ls m.line.toNat [vi l.state, vi l.value, vi l.want, vi l.serial, vi l.seen, vi l.gave, vi l.given] :: row 66 vd ds :: blk bm 49 m.cells :: LX) (Ah hs) hn (by unfold Msg.wf Ap; simp only; omega)) ?_; intro v142
   refine Gl ?_
   have er : (Ae ⟨ls, q⟩ id home m) = (⟨ls, q⟩, [Bm 9 id home m.line l.gave l.given], []) := by rw [J0 hl hi hk, if_neg (by unfold Dt; omega), if_pos ht15]
   rw [er, List.append_nil]
   refine Bs (.inl rfl) (fun B w hs => Ja rfl _ w) (fun w hs => ⟨(v142, vd), rfl, Ah (Ey hl hlw (hs.pick pkk))⟩)
  ·intro ht15
   refine Gl ?_
   refine kp [0, 1, 4, 32, 33, 34, 35, 36, 37, 38, 39, 40, 41, 42, 43, 44, 45, 46, 47, 48, 49, 50, 51, 52, 53, 54, 55] ?_
   refine Ds 32 (.bool (decide (l.seen < m.turn ∧ (l.state = 2 ∨ l.state = 3)))) ?_ ?_
   ·rcases (show (m.turn ≤ l.seen) ∨ (l.seen < m.turn ∧ l.state = 2) ∨ (l.seen < m.turn ∧ l.state ≠ 2 ∧ l.state = 3) ∨ (l.seen < m.turn ∧ l.state ≠ 2 ∧ l.state ≠ 3) from by omega) with hm | hm | hm | hm
    ·refine Zac ?_
     refine djc (fun _ _ => Ao rfl rfl (Uf (by omega))) ?_
     refine djm ?_
     refine dn12 ?_
     refine djf ?_
     exact ZgG
    ·refine Zdw ?_
     refine dj (dgy ?_)
     refine dc (fun _ _ => Ao rfl rfl (Be (by omega))) ?_
     refine dj (dgy ?_)
     refine dc (fun _ _ => Qw) ?_
     refine dn5 ?_
     refine dj (dgy ?_)
     refine dc (fun _ _ => Fs) ?_
     exact ZgA
    ·refine kp [0, 1, 4, 32, 33, 34, 35, 36, 37, 38, 39, 40, 41, 42, 43, 44, 45, 46, 47, 48, 49, 50, 51, 52, 53, 54, 55] ?_
     refine Zdw ?_
     refine dj (dgy ?_)
     refine ZaJ ?_
     refine dj (dgy ?_)
     refine dc (fun _ _ => Qw) ?_
     refine dn4 ?_
     refine dj (dgy ?_)
     refine dc (fun _ _ => Ao rfl rfl (Be (by omega))) ?_
     refine dj (dgy ?_)
     refine dc (fun _ _ => Agd) ?_
     exact ZgA
    ·refine Zdw ?_
     refine dj (dgy ?_)
     refine ZaJ ?_
     refine dj (dgy ?_)
     refine dc (fun _ _ => Qw) ?_
     refine dn4 ?_
     refine dj (dgy ?_)
     refine ZaJ ?_
     refine dj (dgy ?_)
     refine dc (fun _ _ => Agd) ?_
     refine ZS ?_
     exact ZgG
   ·refine Ax ?_
    first | (refine cdx (p := ?p2) (hd := ?d2) ?e2 ?_ ?_; case e2 => exact rfl) | (refine Bo (b := ?b2) ?e2 ?_ ?_; case e2 => exact rfl)
    ·intro ht32
     refine Gl ?_
     refine kp [0, 1, 4, 56, 57, 58, 59, 60, 61, 62, 63, 64, 65, 66, 67, 68, 69, 70, 71, 72, 73, 74, 75, 76] ?_
     refine Zed ?_
     refine jd_ (fun ρ S => foc 82 vL ls m.line.toNat (bif S 23 then [vi l.state, vi l.value, vi l.want, vi l.serial, vi m.turn, vi m.turn, vi l.value] else (bif S 20 then [vi l.state, vi l.value, vi l.want, vi l.serial, vi l.seen, vi m.turn, vi l.value] else (bif S 17 then [vi l.state, vi l.value, vi l.want, vi l.serial, vi l.seen, vi m.turn, vi l.given] else [vi l.state, vi l.value, vi l.want, vi l.serial, vi l.seen, vi l.gave, vi l.given]))) :: blk bk 120 [vL, vi q.kind, vi q.line, vi q.value, vi id, vi home, vo, vd] :: row 49 vo ms :: row 66 vd ds :: blk bm 49 m.cells :: (LX)) ?_
     refine Y5 ?_
     refine Kd (v := vi l.value) (fun ρ S => Da Try.isAgg3 (hc := at_f1 (α := Line) (xs := ls) pkk rfl (by repeat (first | exact rfl | refine Dk rfl ?_)))) (fun _ _ _ _ _ => rfl) ?_
     refine dn6 ?_
     refine E2 (T0 := 82) (f := 5) (k := m.line.toNat) (sz := 7) (hv := vL) (xs := ls) (vs := fun ρ => [vi l.state, vi l.value, vi l.want, vi l.serial, vi l.seen, vi l.gave, vi l.given]) (v := fun ρ => (vi m.turn)) rfl Try.sizeOf3 (fun _ => rfl) (fun _ => rfl) (fun _ _ _ _ _ _ _ _ => rfl) (fun _ => rfl) (fun ρ g S hS hB hA => ?_) ?_
     ·have ui : upS S 17 17 = true := rfl; have u20 : upS S 17 20 = S 20 := rfl; have u23 : upS S 17 23 = S 23 := rfl; have h20 : S 20 = false := hA 20 ⟨0, rfl⟩; have h23 : S 23 = false := hA 23 ⟨0, rfl⟩
      simp only [ui, hS, u20, u23, h20, h23, cond_true, cond_false]
      exact pex
     refine dn2 ?_
     refine E2 (T0 := 82) (f := 6) (k := m.line.toNat) (sz := 7) (hv := vL) (xs := ls) (vs := fun ρ => [vi l.state, vi l.value, vi l.want, vi l.serial, vi l.seen, vi m.turn, vi l.given]) (v := fun ρ => (vi l.value)) rfl Try.sizeOf3 (fun _ => rfl) (fun _ => rfl) (fun _ _ _ _ _ _ _ _ => rfl) (fun _ => rfl) (fun ρ g S hS hB hA => ?_) ?_
     ·have ui : upS S 20 20 = true := rfl; have u17 : upS S 20 17 = S 17 := rfl; have u23 : upS S 20 23 = S 23 := rfl; have h17 : S 17 = true := hB 17 ⟨0, rfl⟩; have h23 : S 23 = false := hA 23 ⟨0, rfl⟩
      simp only [ui, hS, u17, u23, h17, h23, cond_true, cond_false]
      exact pex
     refine dn2 ?_
     refine E2 (T0 := 82) (f := 4) (k := m.line.toNat) (sz := 7) (hv := vL) (xs := ls) (vs := fun ρ => [vi l.state, vi l.value, vi l.want, vi l.serial, vi l.seen, vi m.turn, vi l.value]) (v := fun ρ => (vi m.turn)) rfl Try.sizeOf3 (fun _ => rfl) (fun _ => rfl) (fun _ _ _ _ _ _ _ _ => rfl) (fun _ => rfl) (fun ρ g S hS hB hA => ?_) ?_
     ·have ui : upS S 23 23 = true := rfl; have u17 : upS S 23 17 = S 17 := rfl; have u20 : upS S 23 20 = S 20 := rfl; have h17 : S 17 = true := hB 17 ⟨0, rfl⟩; have h20 : S 20 = true := hB 20 ⟨0, rfl⟩
      simp only [ui, hS, u17, u20, h17, h20, cond_true, cond_false]
      exact pex
     refine dnl ?_; intro ρ
     refine xq_ (foc 82 vL ls m.line.toNat [vi l.state, vi l.value, vi l.want, vi l.serial, vi m.turn, vi m.turn, vi l.value] :: blk bk 120 [vL, vi q.kind, vi q.line, vi q.value, vi id, vi home, vo, vd] :: row 49 vo ms :: row 66 vd ds :: blk bm 49 m.cells :: (LX)) ?_
     refine Zaf ?_
     refine Zcb ?_
     refine cdy ?_ ?_
     ·intro ht84
      refine kp [0, 1, 4, 85, 86, 87, 88, 89, 90] ?_
      refine ZE ?_
      refine sc ?_
      refine Zas ?_
      refine Gm ?_
      refine Ga5 ?_
      refine cdy ?_ ?_
      ·exact ZeO
      ·intro ht95
       refine Gl ?_
       refine Cf ?_
       refine dn13 ?_
       refine dtl ?_; intro ρ
       refine Am Try.call104 rfl (fun w hs => F8 (vL := vL) (vd := vd) (q := q) (id := id) (home := home) (ms := ms) (kind := 9) (line := m.line) (serial := 0) (turn := m.turn) (value := l.value) (LX := foc 82 vL ls m.line.toNat [vi 0, vi 0, vi l.want, vi l.serial, vi m.turn, vi m.turn, vi l.value] :: row 66 vd ds :: blk bm 49 m.cells :: LX) (Ah hs) hn (by unfold Msg.wf Ap; simp only; omega)) ?_; intro v142
       refine Gl ?_
       have ef : Cx l m.kind m.turn = { l with seen := m.turn, gave := m.turn, given := l.value, state := 0, value := 0 } := by unfold Cx; rw [if_neg ht95, if_pos ht84]
       have er : (Ae ⟨ls, q⟩ id home m) = (⟨ls.set m.line.toNat ({ l with seen := m.turn, gave := m.turn, given := l.value, state := 0, value := 0 }), q⟩, [Bm 9 id home m.line m.turn l.value], []) := by rw [J0 hl hi hk, if_pos (by unfold Dt; omega), ef, if_neg ht95, if_neg ht95]
       rw [er, List.append_nil]
       refine Bs (.inl rfl) (fun B w hs => Ja rfl _ w) (fun w hs => ⟨(v142, vd), rfl, Ah (D5 ({ l with seen := m.turn, gave := m.turn, given := l.value, state := 0, value := 0 }) (by unfold Line.wf Ap; simp only; omega) (hs.pick pkk))⟩)
     ·intro ht84
      refine Gl ?_
      refine kp [0, 1, 4, 91, 92, 93, 94, 95] ?_
      refine Aa ?_
      refine Ga5 ?_
      refine cdy ?_ ?_
      ·exact ZeO
      ·intro ht95
       refine Gl ?_
       refine Cf ?_
       refine dn13 ?_
       refine dtl ?_; intro ρ
       refine Am Try.call104 rfl (fun w hs => F8 (vL := vL) (vd := vd) (q := q) (id := id) (home := home) (ms := ms) (kind := 9) (line := m.line) (serial := 0) (turn := m.turn) (value := l.value) (LX := foc 82 vL ls m.line.toNat [vi 1, vi l.value, vi l.want, vi l.serial, vi m.turn, vi m.turn, vi l.value] :: row 66 vd ds :: blk bm 49 m.cells :: LX) (Ah hs) hn (by unfold Msg.wf Ap; simp only; omega)) ?_; intro v142
       refine Gl ?_
       have ef : Cx l m.kind m.turn = { l with seen := m.turn, gave := m.turn, given := l.value, state := 1 } := by unfold Cx; rw [if_neg ht95, if_neg ht84]
       have er : (Ae ⟨ls, q⟩ id home m) = (⟨ls.set m.line.toNat ({ l with seen := m.turn, gave := m.turn, given := l.value, state := 1 }), q⟩, [Bm 9 id home m.line m.turn l.value], []) := by rw [J0 hl hi hk, if_pos (by unfold Dt; omega), ef, if_neg ht95, if_neg ht95]
       rw [er, List.append_nil]
       refine Bs (.inl rfl) (fun B w hs => Ja rfl _ w) (fun w hs => ⟨(v142, vd), rfl, Ah (D5 ({ l with seen := m.turn, gave := m.turn, given := l.value, state := 1 }) (by unfold Line.wf Ap; simp only; omega) (hs.pick pkk))⟩)
    ·intro ht32
     refine Gl ?_
     have er : (Ae ⟨ls, q⟩ id home m) = (⟨ls, q⟩, [], []) := by rw [J0 hl hi hk, if_neg (by unfold Dt; omega), if_neg ht15]
     exact Zgb
theorem Zm {LX : List Chunk} {R : List Fact} {w : World} {vL vo vd : Value} {bk : Nat} {q : Op} {id home : Int} {ls : List Line} {l : Line} {bm : Nat} {ms : List Msg} {ds : List Done} {m : Msg} (hs : St (blk bk 120 [vL, vi q.kind, vi q.line, vi q.value, vi id, vi home, vo, vd] :: row 82 vL ls :: row 49 vo ms :: row 66 vd ds :: blk bm 49 m.cells :: LX) R w) (hl : ls.getD m.line.toNat zLine = l) (hi : 0 ≤ m.line ∧ m.line < (ls.length : Int)) (hll : ls.length ≤ 100) (hm : m.wf) (hid : Ap id) (hhome : Ap home) (hn : ms.length ≤ 1000) (hnd : ds.length ≤ 1000) (hq : q.wf) (hk : m.kind = 7) (hqa : Gn l m → q.line = m.line ∧ (1 ≤ q.kind ∧ q.kind ≤ 4) ∧ 0 ≤ q.value ∧ q.value ≤ 255) : Calls Try.prog 106 [bp bk 0, bp bm 0].toArray w (Bu (fun g : Value × Value => .tuple #[]) (fun g => blk bk 120 [vL, vi (Ae ⟨ls, q⟩ id home m).1.wait.kind, vi (Ae ⟨ls, q⟩ id home m).1.wait.line, vi (Ae ⟨ls, q⟩ id home m).1.wait.value, vi id, vi home, g.1, g.2] :: row 82 vL (Ae ⟨ls, q⟩ id home m).1.lines :: row 49 g.1 (ms ++ (Ae ⟨ls, q⟩ id home m).2.1) :: row 66 g.2 (ds ++ (Ae ⟨ls, q⟩ id home m).2.2) :: blk bm 49 m.cells :: LX) (fun g => R)) := by
 have hm0 := hm
 unfold Msg.wf Ap at hm0
 refine Zbp ?_;intro hid0 hhome0
 refine Ai Try.func106 rfl Try.ntmps106 rfl hs ?_
 clear hs
 refine Gl ?_
 refine Zct ?_;intro hlw hA hlw0 honeL
 refine dn9 ?_
 refine Zcy ?_;intro ρ
 refine Gl ?_
 refine Cf ?_
 refine dn9 ?_
 refine dnl ?_; intro ρ
 refine Gl ?_
 refine cdy ?_ ?_
 ·intro ht24
  refine Gl ?_
  have er : (Ae ⟨ls, q⟩ id home m) = (⟨ls, q⟩, [], []) := by rw [K0 hl hi hk, if_pos (by omega)]
  exact Zgb
 ·intro ht24
  refine Gl ?_
  refine Zdr ?_
  refine Ds 5 (.bool (decide ((l.want = 1 ∧ m.alone = false) ∨ (l.want = 2 ∧ m.alone = true)))) ?_ ?_
  ·rcases (show (l.want = 1 ∧ m.alone = false) ∨ (l.want = 1 ∧ m.alone = true) ∨ (l.want = 2 ∧ m.alone = true) ∨ (l.want = 2 ∧ m.alone = false) ∨ (l.want ≠ 1 ∧ l.want ≠ 2) from by rcases Bool.eq_false_or_eq_true m.alone with h1 | h1 <;> simp only [h1, and_true, and_false, or_false, false_or, reduceCtorEq] <;> omega) with hm | hm | hm | hm | hm
   ·obtain ⟨hc1, hal⟩ := hm
    refine ZE ?_
    refine Cj ?_
    refine ZG ?_
    refine ZbA ?_
    refine Ga16 ?_
    exact Zfy
   ·obtain ⟨hc1, hal⟩ := hm
    refine ZE ?_
    refine Cj ?_
    refine ZG ?_
    refine ZbS ?_
    refine ZaN ?_
    refine Av ?_
    refine Ga8 ?_
    exact Zfe
   ·obtain ⟨hc1, hal⟩ := hm
    refine Zdr ?_
    refine ZbX ?_
    refine Cj ?_
    refine ZG ?_
    refine ZbS ?_
    refine Ga3 ?_
    exact Zfy
   ·obtain ⟨hc1, hal⟩ := hm
    refine ZbX ?_
    refine Cj ?_
    refine ZG ?_
    refine ZbA ?_
    refine Ga3 ?_
    exact Zfe
   ·refine Zdr ?_
    refine ZbX ?_
    refine Av ?_
    refine Ga8 ?_
    exact Zfe
  ·refine Ax ?_
   refine Gl ?_
   rcases (show (m.serial = l.serial) ∨ (m.serial ≠ l.serial) from by omega) with hc | hc
   ·refine Zac ?_
    refine Zbo ?_
    refine ZS ?_
    refine dnl ?_; intro ρ
    refine Gl ?_
    first | (refine cdx (p := ?p2) (hd := ?d2) ?e2 ?_ ?_; case e2 => exact rfl) | (refine Bo (b := ?b2) ?e2 ?_ ?_; case e2 => exact rfl)
    ·intro ht61
     have haq : Gn l m := ⟨hc, ht61⟩
     obtain ⟨hq1, hq2, hq3⟩ := hqa haq
     refine Gl ?_
     refine kp [0, 1, 4, 62, 63, 64, 65, 66, 67, 68, 69, 70, 71, 72, 73, 74, 75, 76, 77, 78, 79, 80, 81] ?_
     refine Zed ?_
     refine jd_ (fun ρ S => foc 82 vL ls m.line.toNat (bif S 23 then [vi 1, vi m.value, vi 0, vi l.serial, vi m.turn, vi l.gave, vi l.given] else (bif S 20 then [vi 1, vi m.value, vi 0, vi l.serial, vi l.seen, vi l.gave, vi l.given] else (bif S 17 then [vi 1, vi m.value, vi l.want, vi l.serial, vi l.seen, vi l.gave, vi l.given] else (bif S 14 then [vi 1, vi l.value, vi l.want, vi l.serial, vi l.seen, vi l.gave, vi l.given] else [vi l.state, vi l.value, vi l.want, vi l.serial, vi l.seen, vi l.gave, vi l.given])))) :: blk bk 120 [vL, vi q.kind, vi q.line, vi q.value, vi id, vi home, vo, vd] :: row 49 vo ms :: row 66 vd ds :: blk bm 49 m.cells :: (LX)) ?_
     refine dn14 ?_
     refine E2 (T0 := 82) (f := 0) (k := m.line.toNat) (sz := 7) (hv := vL) (xs := ls) (vs := fun ρ => [vi l.state, vi l.value, vi l.want, vi l.serial, vi l.seen, vi l.gave, vi l.given]) (v := fun ρ => (vi 1)) rfl Try.sizeOf3 (fun _ => rfl) (fun _ => rfl) (fun _ _ _ _ _ _ _ _ => rfl) (fun _ => rfl) (fun ρ g S hS hB hA => ?_) ?_
     ·have ui : upS S 14 14 = true := rfl; have u17 : upS S 14 17 = S 17 := rfl; have u20 : upS S 14 20 = S 20 := rfl; have u23 : upS S 14 23 = S 23 := rfl; have h17 : S 17 = false := hA 17 ⟨0, rfl⟩; have h20 : S 20 = false := hA 20 ⟨0, rfl⟩; have h23 : S 23 = false := hA 23 ⟨0, rfl⟩
      simp only [ui, hS, u17, u20, u23, h17, h20, h23, cond_true, cond_false]
      exact pex
     refine dn2 ?_
     refine E2 (T0 := 82) (f := 1) (k := m.line.toNat) (sz := 7) (hv := vL) (xs := ls) (vs := fun ρ => [vi 1, vi l.value, vi l.want, vi l.serial, vi l.seen, vi l.gave, vi l.given]) (v := fun ρ => (vi m.value)) rfl Try.sizeOf3 (fun _ => rfl) (fun _ => rfl) (fun _ _ _ _ _ _ _ _ => rfl) (fun _ => rfl) (fun ρ g S hS hB hA => ?_) ?_
     ·have ui : upS S 17 17 = true := rfl; have u14 : upS S 17 14 = S 14 := rfl; have u20 : upS S 17 20 = S 20 := rfl; have u23 : upS S 17 23 = S 23 := rfl; have h14 : S 14 = true := hB 14 ⟨0, rfl⟩; have h20 : S 20 = false := hA 20 ⟨0, rfl⟩; have h23 : S 23 = false := hA 23 ⟨0, rfl⟩
      simp only [ui, hS, u14, u20, u23, h14, h20, h23, cond_true, cond_false]
      exact pex
     refine dn2 ?_
     refine E2 (T0 := 82) (f := 2) (k := m.line.toNat) (sz := 7) (hv := vL) (xs := ls) (vs := fun ρ => [vi 1, vi m.value, vi l.want, vi l.serial, vi l.seen, vi l.gave, vi l.given]) (v := fun ρ => (vi 0)) rfl Try.sizeOf3 (fun _ => rfl) (fun _ => rfl) (fun _ _ _ _ _ _ _ _ => rfl) (fun _ => rfl) (fun ρ g S hS hB hA => ?_) ?_
     ·have ui : upS S 20 20 = true := rfl; have u14 : upS S 20 14 = S 14 := rfl; have u17 : upS S 20 17 = S 17 := rfl; have u23 : upS S 20 23 = S 23 := rfl; have h14 : S 14 = true := hB 14 ⟨0, rfl⟩; have h17 : S 17 = true := hB 17 ⟨0, rfl⟩; have h23 : S 23 = false := hA 23 ⟨0, rfl⟩
      simp only [ui, hS, u14, u17, u23, h14, h17, h23, cond_true, cond_false]
      exact pex
     refine dn2 ?_
     refine E2 (T0 := 82) (f := 4) (k := m.line.toNat) (sz := 7) (hv := vL) (xs := ls) (vs := fun ρ => [vi 1, vi m.value, vi 0, vi l.serial, vi l.seen, vi l.gave, vi l.given]) (v := fun ρ => (vi m.turn)) rfl Try.sizeOf3 (fun _ => rfl) (fun _ => rfl) (fun _ _ _ _ _ _ _ _ => rfl) (fun _ => rfl) (fun ρ g S hS hB hA => ?_) ?_
     ·have ui : upS S 23 23 = true := rfl; have u14 : upS S 23 14 = S 14 := rfl; have u17 : upS S 23 17 = S 17 := rfl; have u20 : upS S 23 20 = S 20 := rfl; have h14 : S 14 = true := hB 14 ⟨0, rfl⟩; have h17 : S 17 = true := hB 17 ⟨0, rfl⟩; have h20 : S 20 = true := hB 20 ⟨0, rfl⟩
      simp only [ui, hS, u14, u17, u20, h14, h17, h20, cond_true, cond_false]
      exact pex
     refine dnl ?_; intro ρ
     refine xq_ (foc 82 vL ls m.line.toNat [vi 1, vi m.value, vi 0, vi l.serial, vi m.turn, vi l.gave, vi l.given] :: blk bk 120 [vL, vi q.kind, vi q.line, vi q.value, vi id, vi home, vo, vd] :: row 49 vo ms :: row 66 vd ds :: blk bm 49 m.cells :: (LX)) ?_
     refine ZaP ?_
     refine Bo (b := ?b3) ?e3 ?_ ?_; case e3 => exact rfl
     ·intro ht85
      refine ZJ ?_
      refine sc ?_
      refine Gl ?_
      refine JC.conseq (L' := row 82 vL (ls.set m.line.toNat ({ l with state := 2, value := m.value, want := 0, seen := m.turn })) :: blk bk 120 [vL, vi q.kind, vi q.line, vi q.value, vi id, vi home, vo, vd] :: row 49 vo ms :: row 66 vd ds :: blk bm 49 m.cells :: LX) (fun w hs => Ah (D5 ({ l with state := 2, value := m.value, want := 0, seen := m.turn }) (by unfold Line.wf Ap; simp only; omega) (hs.pick pkk))) ?_
      refine kp [0, 1, 89, 90, 91, 92, 93, 94] ?_
      refine Za2 ?_
      refine ZbF ?_
      refine Am Try.call70 rfl (fun w hs => Lm (vL := vL) (vd := vd) (q := q) (q0 := q) (id := id) (home := home) (ds := ds) (ls := ls.set m.line.toNat ({ l with state := 2, value := m.value, want := 0, seen := m.turn })) (l := { l with state := 2, value := m.value, want := 0, seen := m.turn }) (LX := row 49 vo ms :: blk bm 49 m.cells :: LX) (Ah hs) (by rw [hq1, List.getD_eq_getElem?_getD, List.getElem?_set_self (by omega)]; rfl) (by rw [hq1, List.length_set]; exact hi) (by rw [List.length_set]; exact hll) hid hhome hnd hq hq2 hq3) ?_; intro v95
      refine J.conseq (L' := blk bk 120 [vL, vi 0, vi 0, vi 0, vi id, vi home, vo, v95] :: row 82 vL (ls.set m.line.toNat ({ l with state := 2, value := (A0 m.value q).1, want := 0, seen := m.turn })) :: row 66 v95 (ds ++ [(⟨id, q, (A0 m.value q).2⟩ : Done)]) :: row 49 vo ms :: blk bm 49 m.cells :: LX) (fun w hs => by rw [hq1, List.set_set] at hs; exact Ah hs) ?_
      refine Gl ?_
      refine Cf ?_
      refine dn9 ?_
      refine dtl ?_; intro ρ
      refine Am Try.call104 rfl (fun w hs => F8 (vL := vL) (vd := v95) (q := zOp) (id := id) (home := home) (ms := ms) (kind := 10) (line := m.line) (serial := 0) (turn := m.turn) (value := 0) (LX := row 82 vL (ls.set m.line.toNat ({ l with state := 2, value := (A0 m.value q).1, want := 0, seen := m.turn })) :: row 66 v95 (ds ++ [(⟨id, q, (A0 m.value q).2⟩ : Done)]) :: blk bm 49 m.cells :: LX) (Ah hs) hn (by unfold Msg.wf Ap; simp only; omega)) ?_; intro v105
      refine Gl ?_
      have eg : F4 l m q = { l with state := 2, value := (A0 m.value q).1, want := 0, seen := m.turn } := by unfold F4; rw [ht85, if_pos rfl]
      have er : (Ae ⟨ls, q⟩ id home m) = (⟨ls.set m.line.toNat ({ l with state := 2, value := (A0 m.value q).1, want := 0, seen := m.turn }), zOp⟩, [Bm 10 id home m.line m.turn 0], [⟨id, q, (A0 m.value q).2⟩]) := by rw [K0 hl hi hk, if_neg (by omega), if_pos haq, eg]
      rw [er]
      refine Bs (.inl rfl) (fun B w hs => Ja rfl _ w) (fun w hs => ⟨(v105, v95), rfl, Ah hs⟩)
     ·intro ht85
      refine Gl ?_
      refine JC.conseq (L' := row 82 vL (ls.set m.line.toNat ({ l with state := 1, value := m.value, want := 0, seen := m.turn })) :: blk bk 120 [vL, vi q.kind, vi q.line, vi q.value, vi id, vi home, vo, vd] :: row 49 vo ms :: row 66 vd ds :: blk bm 49 m.cells :: LX) (fun w hs => Ah (D5 ({ l with state := 1, value := m.value, want := 0, seen := m.turn }) (by unfold Line.wf Ap; simp only; omega) (hs.pick pkk))) ?_
      refine Za2 ?_
      refine ZbF ?_
      refine Am Try.call70 rfl (fun w hs => Lm (vL := vL) (vd := vd) (q := q) (q0 := q) (id := id) (home := home) (ds := ds) (ls := ls.set m.line.toNat ({ l with state := 1, value := m.value, want := 0, seen := m.turn })) (l := { l with state := 1, value := m.value, want := 0, seen := m.turn }) (LX := row 49 vo ms :: blk bm 49 m.cells :: LX) (Ah hs) (by rw [hq1, List.getD_eq_getElem?_getD, List.getElem?_set_self (by omega)]; rfl) (by rw [hq1, List.length_set]; exact hi) (by rw [List.length_set]; exact hll) hid hhome hnd hq hq2 hq3) ?_; intro v95
      refine J.conseq (L' := blk bk 120 [vL, vi 0, vi 0, vi 0, vi id, vi home, vo, v95] :: row 82 vL (ls.set m.line.toNat ({ l with state := 1, value := (A0 m.value q).1, want := 0, seen := m.turn })) :: row 66 v95 (ds ++ [(⟨id, q, (A0 m.value q).2⟩ : Done)]) :: row 49 vo ms :: blk bm 49 m.cells :: LX) (fun w hs => by rw [hq1, List.set_set] at hs; exact Ah hs) ?_
      refine Gl ?_
      refine kp [0, 1, 96, 97, 98, 99, 100, 101, 102, 103, 104] ?_
      refine Cf ?_
      refine dn9 ?_
      refine dtl ?_; intro ρ
      refine Am Try.call104 rfl (fun w hs => F8 (vL := vL) (vd := v95) (q := zOp) (id := id) (home := home) (ms := ms) (kind := 10) (line := m.line) (serial := 0) (turn := m.turn) (value := 0) (LX := row 82 vL (ls.set m.line.toNat ({ l with state := 1, value := (A0 m.value q).1, want := 0, seen := m.turn })) :: row 66 v95 (ds ++ [(⟨id, q, (A0 m.value q).2⟩ : Done)]) :: blk bm 49 m.cells :: LX) (Ah hs) hn (by unfold Msg.wf Ap; simp only; omega)) ?_; intro v105
      refine Gl ?_
      have eg : F4 l m q = { l with state := 1, value := (A0 m.value q).1, want := 0, seen := m.turn } := by unfold F4; rw [ht85, if_neg (by decide)]
      have er : (Ae ⟨ls, q⟩ id home m) = (⟨ls.set m.line.toNat ({ l with state := 1, value := (A0 m.value q).1, want := 0, seen := m.turn }), zOp⟩, [Bm 10 id home m.line m.turn 0], [⟨id, q, (A0 m.value q).2⟩]) := by rw [K0 hl hi hk, if_neg (by omega), if_pos haq, eg]
      rw [er]
      refine Bs (.inl rfl) (fun B w hs => Ja rfl _ w) (fun w hs => ⟨(v105, v95), rfl, Ah hs⟩)
    ·intro ht61
     refine Gl ?_
     refine ZdQ ?_;intro ρ v105
     have er : (Ae ⟨ls, q⟩ id home m) = (⟨ls, q⟩, [Bm 10 id home m.line m.turn 0], []) := by rw [K0 hl hi hk, if_neg (by omega), if_neg (fun h => ht61 h.2)]
     rw [er, List.append_nil]
     refine Bs (.inl rfl) (fun B w hs => Ja rfl _ w) (fun w hs => ⟨(v105, vd), rfl, Ah (Ey hl hlw (hs.pick pkk))⟩)
   ·refine Zac ?_
    refine Zbh ?_
    refine djm ?_
    refine dn1 ?_
    refine djf ?_
    refine dnl ?_; intro ρ
    refine Glc ?_
    refine ZdQ ?_;intro ρ v105
    have er : (Ae ⟨ls, q⟩ id home m) = (⟨ls, q⟩, [Bm 10 id home m.line m.turn 0], []) := by rw [K0 hl hi hk, if_neg (by omega), if_neg (fun h => hc h.1)]
    rw [er, List.append_nil]
    refine Bs (.inl rfl) (fun B w hs => Ja rfl _ w) (fun w hs => ⟨(v105, vd), rfl, Ah (Ey hl hlw (hs.pick pkk))⟩)
section
variable {ls : List Line} {q : Op} {id home : Int} {m : Msg} {l : Line}
theorem P4 (hl : ls.getD m.line.toNat zLine = l) (hi : 0 ≤ m.line ∧ m.line < (ls.length : Int)) (hk : m.kind = 4) : Ae ⟨ls, q⟩ id home m = (⟨ls.set m.line.toNat (Cu l m.turn), q⟩, [Bm 8 id home m.line m.turn 0], []) := by
 subst hl
 unfold Ae
 rw [if_neg (by simp only; omega), if_pos hk]; rfl
theorem R6 (hl : ls.getD m.line.toNat zLine = l) (hi : 0 ≤ m.line ∧ m.line < (ls.length : Int)) (hk : m.kind = 11) : Ae ⟨ls, q⟩ id home m = (if l.want = 3 ∧ m.serial = l.serial then (⟨ls.set m.line.toNat { l with state := 0, value := 0, want := 0 }, zOp⟩, [], [⟨id, q, 0⟩]) else (⟨ls, q⟩, [], [])) := by
 subst hl
 unfold Ae
 rw [if_neg (by simp only; omega), if_neg (by omega), if_neg (by omega), if_neg (by omega)]
 by_cases h : (ls.getD m.line.toNat zLine).want = 3 ∧ m.serial = (ls.getD m.line.toNat zLine).serial
 ·rw [if_pos h, if_pos ⟨hk, h⟩]; rfl
 ·rw [if_neg h, if_neg (fun g => h g.2)]
theorem Acm (hi : 0 ≤ m.line ∧ m.line < (ls.length : Int)) (hk : m.kind ≠ 4 ∧ m.kind ≠ 5 ∧ m.kind ≠ 6 ∧ m.kind ≠ 7 ∧ m.kind ≠ 11) : Ae ⟨ls, q⟩ id home m = (⟨ls, q⟩, [], []) := by
 unfold Ae
 rw [if_neg (by simp only; omega), if_neg (by omega), if_neg (by omega), if_neg (by omega), if_neg (by omega)]
end
structure KH (c : Core) : Prop where
 n : c.lines.length ≤ 4
 w : CW c c.lines.length
theorem KB.kh {c : Core} (h : KB c) : KH c := ⟨h.n, h.w⟩
theorem KH.wline {c : Core} (h : KH c) (i : Int) (h0 : 0 ≤ i) (hi : i.toNat < c.lines.length) (hw : (Ac c i).want ≠ 0) : c.wait.line = i ∧ (1 ≤ c.wait.kind ∧ c.wait.kind ≤ 4) ∧ 0 ≤ c.wait.value ∧ c.wait.value ≤ 255 := by
 have hb := h.w.busy (fun h0 => hw ((h.w.free h0).2 i.toNat hi))
 have h1 := hb.2.2.2 i.toNat hi
 by_cases e : (i.toNat : Int) = c.wait.line
 ·exact ⟨by omega, hb.1, hb.2.2.1⟩
 ·rw [if_neg e] at h1; exact absurd h1 hw
theorem KH.wwf {c : Core} (h : KH c) : c.wait.wf := by
 by_cases h0 : c.wait.kind = 0
 ·rw [(h.w.free h0).1]; unfold Op.wf Ap; decide
 ·have hb := h.w.busy h0
  have := h.n
  unfold Op.wf Ap; omega
theorem Acl (c : Core) (id home : Int) (m : Msg) : (Ae c id home m).1.lines.length = c.lines.length := by
 unfold Ae
 repeat' split
 all_goals first | rfl | exact List.length_set
theorem KH.hear {c : Core} (h : KH c) (id home : Int) (m : Msg) : KH (Ae c id home m).1 := by
 have n' := Acl c id home m
 refine ⟨by rw [n']; exact h.n, ?_⟩
 rw [n']; clear n'
 by_cases o : m.line < 0 ∨ (c.lines.length : Int) ≤ m.line
 ·unfold Ae; rw [if_pos o]; exact h.w
 obtain ⟨i, hi⟩ := Int.eq_ofNat_of_zero_le (show 0 ≤ m.line by omega)
 have hil : i < c.lines.length := by omega
 have hz : (Ac c m.line).want ≠ 0 → c.wait.line = (i : Int) := fun hw => by rw [(h.wline m.line (by omega) (by omega) hw).1, hi]
 have hla : Ac c m.line = c.lines.getD i zLine := by unfold Ac; rw [hi]; rfl
 unfold Ae; rw [if_neg o]
 generalize Ac c m.line = l at hz hla
 rw [hi]
 split
 ·refine Qg rfl h.w hil ?_
  rw [← hla]; unfold Cu; split <;> (try split) <;> rfl
 split
 ·split
  ·by_cases e : l.want = 3
   ·rw [if_pos e]
    refine Ix rfl h.w hil (.inr (hz (by omega))) ?_
    unfold Cx; rw [if_pos e]
   ·rw [if_neg e]
    refine Qg rfl h.w hil ?_
    rw [← hla]; unfold Cx; rw [if_neg e]; split <;> rfl
  split <;> exact h.w
 split
 ·split
  ·exact h.w
  split
  ·rename_i a
   exact Ix rfl h.w hil (.inr (hz (by unfold Gn at a; omega))) rfl
  ·exact h.w
 split
 ·rename_i a
  exact Ix rfl h.w hil (.inr (hz (by omega))) rfl
 ·exact h.w
theorem open_l {P : Program} {n : Nat} {Q : Exit → Act → World → Prop} {L : List Chunk} {R : List Fact} {al : List (Nat × Value)} {cd : Code} {v : Value} {ls : List Line} {l : Line} {i : Int} (hl : ls.getD i.toNat zLine = l) (hm : sl v ls ∈ R) (h0 : 0 ≤ i) (hi : i < (ls.length : Int)) (k : l.wf → JC P n cd Q L (cF v 7 i.toNat l.cells :: R) al) : JC P n cd Q L R al := by
 subst hl
 exact JC.open0 (xs := ls) i.toNat hm (by omega) k
theorem Zl {u : Value} {ls : List Line} {q : Op} {l : Line} {id home : Int} {m : Msg} (hs : St (L) R w) (hu : sl u ls ∈ R) (hk : KH ⟨ls, q⟩) (hid : Ap id) (hhome : Ap home) (hm : m.wf) (hl : ls.getD m.line.toNat zLine = l) (hg : m.line < 0 ∨ (ls.length : Int) ≤ m.line) : Calls Try.prog 77 [.agg (Core.cells u ⟨ls, q⟩).toArray, vi id, vi home, .agg m.cells.toArray].toArray w (Bu (fun v : Value × Value × Value => .tuple #[.agg (Core.cells v.1 (Ae ⟨ls, q⟩ id home m).1).toArray, v.2.1, v.2.2]) (fun v => L) (fun v => sl v.1 (Ae ⟨ls, q⟩ id home m).1.lines :: sl v.2.1 (Ae ⟨ls, q⟩ id home m).2.1 :: sl v.2.2 (Ae ⟨ls, q⟩ id home m).2.2 :: R)) := by
 refine Zbq ?_;intro hlen hone0 hn4 hm0 hid0 hhome0
 clear hs
 refine Zci ?_;intro b4 b7 b8 vL honeV b18
 rcases (show (m.line < 0) ∨ (¬ m.line < 0 ∧ (ls.length : Int) ≤ m.line) from by omega) with hc | hc
 ·refine ZZ ?_
  refine Gc8 ?_
  refine Zee ?_;intro er
  exact ZfR
 ·refine Zag ?_
  refine ZaL ?_
  refine Gc1 ?_
  refine Zee ?_;intro er
  exact ZfR
theorem Zk {u : Value} {ls : List Line} {q : Op} {l : Line} {id home : Int} {m : Msg} (hs : St (L) R w) (hu : sl u ls ∈ R) (hk : KH ⟨ls, q⟩) (hid : Ap id) (hhome : Ap home) (hm : m.wf) (hl : ls.getD m.line.toNat zLine = l) (hg : 0 ≤ m.line ∧ m.line < (ls.length : Int) ∧ m.kind = 4) : Calls Try.prog 77 [.agg (Core.cells u ⟨ls, q⟩).toArray, vi id, vi home, .agg m.cells.toArray].toArray w (Bu (fun v : Value × Value × Value => .tuple #[.agg (Core.cells v.1 (Ae ⟨ls, q⟩ id home m).1).toArray, v.2.1, v.2.2]) (fun v => L) (fun v => sl v.1 (Ae ⟨ls, q⟩ id home m).1.lines :: sl v.2.1 (Ae ⟨ls, q⟩ id home m).2.1 :: sl v.2.2 (Ae ⟨ls, q⟩ id home m).2.2 :: R)) := by
 refine Zbq ?_;intro hlen hone0 hn4 hm0 hid0 hhome0
 clear hs
 refine Zci ?_;intro b4 b7 b8 vL honeV b18
 refine Za9 ?_
 refine Gc1 ?_
 refine Zct ?_;intro hlw hA hlw0 honeL
 refine dn7 ?_
 refine Zcy ?_;intro ρ
 refine Gl ?_
 refine kp [1, 7, 8, 9, 10, 11, 12, 42, 43] ?_
 refine Aa ?_
 refine Gb2 ?_
 refine ZaI ?_
 refine ZaU ?_
 refine dnl ?_; intro ρ
 refine Gl ?_
 refine cdy ?_ ?_
 ·intro ht52
  refine Gm ?_
  refine rn5 ?_
  refine Zcb ?_
  refine cdy ?_ ?_
  ·intro ht62
   refine ZE ?_
   refine sc ?_
   refine Zas ?_
   refine Gl ?_
   refine ZW ?_
   refine Za2 ?_
   refine Am Try.call104 rfl (fun w hs => F8 (vL := vL) (vd := .slice none 0 0) (q := q) (id := id) (home := home) (ms := []) (kind := 8) (line := m.line) (serial := 0) (turn := m.turn) (value := 0) (LX := foc 82 vL ls m.line.toNat [vi 0, vi 0, vi l.want, vi l.serial, vi m.turn, vi l.gave, vi l.given] :: blk b8 57 [.slice none 0 0, vi 0, vi 0, vi 0] :: L) (Ah hs) (by simp) (by unfold Msg.wf Ap; simp only; omega)) ?_; intro v74
   refine Gl ?_
   refine JC.conseq (L' := row 82 vL (ls.set m.line.toNat ({ l with seen := m.turn, state := 0, value := 0 })) :: blk b18 120 [vL, vi q.kind, vi q.line, vi q.value, vi id, vi home, v74, .slice none 0 0] :: row 49 v74 [Bm 8 id home m.line m.turn 0] :: blk b8 57 [.slice none 0 0, vi 0, vi 0, vi 0] :: L) (fun w hs => Ah (D5 ({ l with seen := m.turn, state := 0, value := 0 }) (by unfold Line.wf Ap; simp only; omega) (hs.pick pkk))) ?_
   refine JC.shut (v := vL) (xs := (ls.set m.line.toNat ({ l with seen := m.turn, state := 0, value := 0 }))) .hd ?_
   refine Zd0 ?_
   refine Zdy ?_
   refine ZcL ?_;intro ρ
   have eh : Cu l m.turn = { l with seen := m.turn, state := 0, value := 0 } := by unfold Cu; rw [if_pos (by omega), if_pos (by omega)]
   have er : (Ae ⟨ls, q⟩ id home m) = (⟨ls.set m.line.toNat ({ l with seen := m.turn, state := 0, value := 0 }), q⟩, [Bm 8 id home m.line m.turn 0], []) := by rw [P4 hl (by omega) (by omega), eh]
   exact Zgp
  ·intro ht62
   refine Gl ?_
   refine ZW ?_
   refine Za2 ?_
   refine Am Try.call104 rfl (fun w hs => F8 (vL := vL) (vd := .slice none 0 0) (q := q) (id := id) (home := home) (ms := []) (kind := 8) (line := m.line) (serial := 0) (turn := m.turn) (value := 0) (LX := foc 82 vL ls m.line.toNat [vi l.state, vi l.value, vi l.want, vi l.serial, vi m.turn, vi l.gave, vi l.given] :: blk b8 57 [.slice none 0 0, vi 0, vi 0, vi 0] :: L) (Ah hs) (by simp) (by unfold Msg.wf Ap; simp only; omega)) ?_; intro v74
   refine Gl ?_
   refine JC.conseq (L' := row 82 vL (ls.set m.line.toNat ({ l with seen := m.turn })) :: blk b18 120 [vL, vi q.kind, vi q.line, vi q.value, vi id, vi home, v74, .slice none 0 0] :: row 49 v74 [Bm 8 id home m.line m.turn 0] :: blk b8 57 [.slice none 0 0, vi 0, vi 0, vi 0] :: L) (fun w hs => Ah (D5 ({ l with seen := m.turn }) (by unfold Line.wf Ap; simp only; omega) (hs.pick pkk))) ?_
   refine JC.shut (v := vL) (xs := (ls.set m.line.toNat ({ l with seen := m.turn }))) .hd ?_
   refine Zd0 ?_
   refine ZcL ?_;intro ρ
   have eh : Cu l m.turn = { l with seen := m.turn } := by unfold Cu; rw [if_pos (by omega), if_neg (by omega)]
   have er : (Ae ⟨ls, q⟩ id home m) = (⟨ls.set m.line.toNat ({ l with seen := m.turn }), q⟩, [Bm 8 id home m.line m.turn 0], []) := by rw [P4 hl (by omega) (by omega), eh]
   exact Zgp
 ·intro ht52
  refine Gl ?_
  refine ZW ?_
  refine Za2 ?_
  refine Am Try.call104 rfl (fun w hs => F8 (vL := vL) (vd := .slice none 0 0) (q := q) (id := id) (home := home) (ms := []) (kind := 8) (line := m.line) (serial := 0) (turn := m.turn) (value := 0) (LX := foc 82 vL ls m.line.toNat [vi l.state, vi l.value, vi l.want, vi l.serial, vi l.seen, vi l.gave, vi l.given] :: blk b8 57 [.slice none 0 0, vi 0, vi 0, vi 0] :: L) (Ah hs) (by simp) (by unfold Msg.wf Ap; simp only; omega)) ?_; intro v74
  refine Gl ?_
  refine JC.conseq (L' := row 82 vL ls :: blk b18 120 [vL, vi q.kind, vi q.line, vi q.value, vi id, vi home, v74, .slice none 0 0] :: row 49 v74 [Bm 8 id home m.line m.turn 0] :: blk b8 57 [.slice none 0 0, vi 0, vi 0, vi 0] :: L) (fun w hs => Ah (Ey hl hlw (hs.pick pkk))) ?_
  refine JC.shut (v := vL) (xs := ls) .hd ?_
  refine Zd0 ?_
  refine ZcL ?_;intro ρ
  have eh : Cu l m.turn = l := by unfold Cu; rw [if_neg (by omega)]
  have er : (Ae ⟨ls, q⟩ id home m) = (⟨ls, q⟩, [Bm 8 id home m.line m.turn 0], []) := by rw [P4 hl (by omega) (by omega), eh, ← hl, Ks]
  exact Zgp
theorem Zj {u : Value} {ls : List Line} {q : Op} {l : Line} {id home : Int} {m : Msg} (hs : St (L) R w) (hu : sl u ls ∈ R) (hk : KH ⟨ls, q⟩) (hid : Ap id) (hhome : Ap home) (hm : m.wf) (hl : ls.getD m.line.toNat zLine = l) (hg : 0 ≤ m.line ∧ m.line < (ls.length : Int) ∧ m.kind = 5) : Calls Try.prog 77 [.agg (Core.cells u ⟨ls, q⟩).toArray, vi id, vi home, .agg m.cells.toArray].toArray w (Bu (fun v : Value × Value × Value => .tuple #[.agg (Core.cells v.1 (Ae ⟨ls, q⟩ id home m).1).toArray, v.2.1, v.2.2]) (fun v => L) (fun v => sl v.1 (Ae ⟨ls, q⟩ id home m).1.lines :: sl v.2.1 (Ae ⟨ls, q⟩ id home m).2.1 :: sl v.2.2 (Ae ⟨ls, q⟩ id home m).2.2 :: R)) := by
 refine Zbq ?_;intro hlen hone0 hn4 hm0 hid0 hhome0
 clear hs
 refine Zcw ?_;intro b4 b7 b8 vL honeV b18 ρ
 refine Gb2 ?_
 exact ZeX
theorem Zi {u : Value} {ls : List Line} {q : Op} {l : Line} {id home : Int} {m : Msg} (hs : St (L) R w) (hu : sl u ls ∈ R) (hk : KH ⟨ls, q⟩) (hid : Ap id) (hhome : Ap home) (hm : m.wf) (hl : ls.getD m.line.toNat zLine = l) (hg : 0 ≤ m.line ∧ m.line < (ls.length : Int) ∧ m.kind = 6) : Calls Try.prog 77 [.agg (Core.cells u ⟨ls, q⟩).toArray, vi id, vi home, .agg m.cells.toArray].toArray w (Bu (fun v : Value × Value × Value => .tuple #[.agg (Core.cells v.1 (Ae ⟨ls, q⟩ id home m).1).toArray, v.2.1, v.2.2]) (fun v => L) (fun v => sl v.1 (Ae ⟨ls, q⟩ id home m).1.lines :: sl v.2.1 (Ae ⟨ls, q⟩ id home m).2.1 :: sl v.2.2 (Ae ⟨ls, q⟩ id home m).2.2 :: R)) := by
 refine Zbq ?_;intro hlen hone0 hn4 hm0 hid0 hhome0
 clear hs
 refine Zcw ?_;intro b4 b7 b8 vL honeV b18 ρ
 refine Gb2 ?_
 refine ZH ?_
 exact ZeX
theorem Zh {u : Value} {ls : List Line} {q : Op} {l : Line} {id home : Int} {m : Msg} (hs : St (L) R w) (hu : sl u ls ∈ R) (hk : KH ⟨ls, q⟩) (hid : Ap id) (hhome : Ap home) (hm : m.wf) (hl : ls.getD m.line.toNat zLine = l) (hg : 0 ≤ m.line ∧ m.line < (ls.length : Int) ∧ m.kind = 7) : Calls Try.prog 77 [.agg (Core.cells u ⟨ls, q⟩).toArray, vi id, vi home, .agg m.cells.toArray].toArray w (Bu (fun v : Value × Value × Value => .tuple #[.agg (Core.cells v.1 (Ae ⟨ls, q⟩ id home m).1).toArray, v.2.1, v.2.2]) (fun v => L) (fun v => sl v.1 (Ae ⟨ls, q⟩ id home m).1.lines :: sl v.2.1 (Ae ⟨ls, q⟩ id home m).2.1 :: sl v.2.2 (Ae ⟨ls, q⟩ id home m).2.2 :: R)) := by
 refine Zbq ?_;intro hlen hone0 hn4 hm0 hid0 hhome0
 clear hs
 refine Zcw ?_;intro b4 b7 b8 vL honeV b18 ρ
 refine Zaj ?_
 refine ZaI ?_
 refine ZW ?_
 refine Zal ?_
 have hkd : m.kind = 7 := by omega
 have hqa : Gn l m → q.line = m.line ∧ (1 ≤ q.kind ∧ q.kind ≤ 4) ∧ 0 ≤ q.value ∧ q.value ≤ 255 := fun ha => by
  have hw : (Ac ⟨ls, q⟩ m.line).want ≠ 0 := by
   show (ls.getD m.line.toNat zLine).want ≠ 0
   rw [hl]; unfold Gn at ha; omega
  exact hk.wline m.line (by omega) (show m.line.toNat < ls.length by omega) hw
 refine ZC ?_
 refine Am Try.call106 rfl (fun w hs => Zm (vL := vL) (vo := .slice none 0 0) (vd := .slice none 0 0) (bk := b18) (bm := b7) (q := q) (id := id) (home := home) (ls := ls) (l := l) (ms := []) (ds := []) (m := m) (LX := blk b8 57 [.slice none 0 0, vi 0, vi 0, vi 0] :: L) (Ah hs) hl (by omega) (by omega) hm hid hhome (by simp) (by simp) hk.wwf hkd hqa) ?_; intro ⟨g1, g2⟩
 refine J.conseq (L' := blk b18 120 [vL, vi (Ae ⟨ls, q⟩ id home m).1.wait.kind, vi (Ae ⟨ls, q⟩ id home m).1.wait.line, vi (Ae ⟨ls, q⟩ id home m).1.wait.value, vi id, vi home, g1, g2] :: row 82 vL (Ae ⟨ls, q⟩ id home m).1.lines :: row 49 g1 (Ae ⟨ls, q⟩ id home m).2.1 :: row 66 g2 (Ae ⟨ls, q⟩ id home m).2.2 :: blk b8 57 [.slice none 0 0, vi 0, vi 0, vi 0] :: L) (fun w hs => by rw [List.nil_append, List.nil_append] at hs; exact Ah hs) ?_
 refine ZcJ ?_;intro ρ
 exact Cl (vL, g1, g2) Try.isAgg57 Try.sizeOf57
theorem W0 {u : Value} {ls : List Line} {q : Op} {l : Line} {id home : Int} {m : Msg} (hs : St (L) R w) (hu : sl u ls ∈ R) (hk : KH ⟨ls, q⟩) (hid : Ap id) (hhome : Ap home) (hm : m.wf) (hl : ls.getD m.line.toNat zLine = l) (hg : 0 ≤ m.line ∧ m.line < (ls.length : Int) ∧ m.kind = 11) : Calls Try.prog 77 [.agg (Core.cells u ⟨ls, q⟩).toArray, vi id, vi home, .agg m.cells.toArray].toArray w (Bu (fun v : Value × Value × Value => .tuple #[.agg (Core.cells v.1 (Ae ⟨ls, q⟩ id home m).1).toArray, v.2.1, v.2.2]) (fun v => L) (fun v => sl v.1 (Ae ⟨ls, q⟩ id home m).1.lines :: sl v.2.1 (Ae ⟨ls, q⟩ id home m).2.1 :: sl v.2.2 (Ae ⟨ls, q⟩ id home m).2.2 :: R)) := by
 refine Zbq ?_;intro hlen hone0 hn4 hm0 hid0 hhome0
 clear hs
 refine Zci ?_;intro b4 b7 b8 vL honeV b18
 refine Za9 ?_
 refine Gc1 ?_
 refine Zct ?_;intro hlw hA hlw0 honeL
 refine dn7 ?_
 refine Zcy ?_;intro ρ
 refine Gl ?_
 refine kp [1, 7, 8, 9, 10, 11, 12, 42, 43] ?_
 refine Aa ?_
 refine Zaj ?_
 refine Zau ?_
 refine kp [1, 7, 8, 9, 10, 11, 12, 86, 87, 88, 89, 90, 91, 92, 93, 94, 95, 96, 97, 98, 99] ?_
 refine Ds 99 (.bool (decide ((l.want = 3) ∧ (m.serial = l.serial)))) ?_ ?_
 ·rcases (show (¬ (l.want = 3)) ∨ ((l.want = 3) ∧ ¬ (m.serial = l.serial)) ∨ ((l.want = 3) ∧ (m.serial = l.serial)) from by omega) with hm | hm | hm
  ·refine Cf ?_
   refine dn4 ?_
   refine Zbh ?_
   refine djm ?_
   refine dn7 ?_
   refine djf ?_
   refine dnl ?_; intro ρ
   refine Au ?_ (fun w hs => hs)
   exact meF
  ·refine Cf ?_
   refine dn4 ?_
   refine ZaE ?_
   refine djm ?_
   refine dn6 ?_
   refine dj (dgy ?_)
   refine ZaJ ?_
   refine ZS ?_
   refine dnl ?_; intro ρ
   refine Au ?_ (fun w hs => hs)
   exact meF
  ·refine Cf ?_
   refine dn4 ?_
   refine ZaE ?_
   refine djm ?_
   refine dn6 ?_
   refine dj (dgy ?_)
   refine Zcv ?_
   refine dnl ?_; intro ρ
   refine Au ?_ (fun w hs => hs)
   exact meT
 ·refine Ax ?_
  first | (refine cdx (p := ?p1) (hd := ?d1) ?e1 ?_ ?_; case e1 => exact rfl) | (refine Bo (b := ?b1) ?e1 ?_ ?_; case e1 => exact rfl)
  ·intro ht99
   refine Gl ?_
   refine kp [1, 8, 9, 10, 11, 12, 100, 101, 102, 103, 104, 105, 106, 107, 108] ?_
   refine Za2 ?_
   refine sc ?_
   refine Zas ?_
   refine Zas ?_
   refine Gl ?_
   refine Zal ?_
   have hwq := hk.wwf
   refine cq_ (blk b18 120 [vL, vi q.kind, vi q.line, vi q.value, vi id, vi home, .slice none 0 0, .slice none 0 0] :: row 66 (.slice none 0 0) [] :: foc 82 vL ls m.line.toNat [vi 0, vi 0, vi 0, vi l.serial, vi l.seen, vi l.gave, vi l.given] :: blk b8 57 [.slice none 0 0, vi 0, vi 0, vi 0] :: L) ?_
   refine jd_ (fun ρ S => blk b18 120 (bif S 16 then [vL, vi q.kind, vi q.line, vi q.value, vi id, vi home, .slice none 0 0, (Gh.dec (γ := Value) (ρ 13))] else [vL, vi q.kind, vi q.line, vi q.value, vi id, vi home, .slice none 0 0, .slice none 0 0]) :: (bif S 13 then row 66 (Gh.dec (γ := Value) (ρ 13)) ([] ++ [(⟨id, q, 0⟩ : Done)]) else row 66 (.slice none 0 0) []) :: foc 82 vL ls m.line.toNat [vi 0, vi 0, vi 0, vi l.serial, vi l.seen, vi l.gave, vi l.given] :: blk b8 57 [.slice none 0 0, vi 0, vi 0, vi 0] :: L) ?_
   refine dn4 ?_
   refine I5 (v := .slice none 0 0) (fun ρ S hS hB hA => by have h16 : S 16 = false := hA 16 ⟨0, rfl⟩; simp only [h16, cond_false]; exact Da (hc := A9 pkk (by repeat (first | exact rfl | refine Dk rfl ?_))) Try.isAgg34) (fun _ _ _ _ _ => rfl) ?_
   refine dn5 ?_
   refine I5 (v := .agg q.cells.toArray) (fun ρ S hS hB hA => by have h16 : S 16 = false := hA 16 ⟨9, rfl⟩; simp only [h16, cond_false]; exact Fr (b := b18) (f := 1) (vs := [vL, vi q.kind, vi q.line, vi q.value, vi id, vi home, .slice none 0 0, .slice none 0 0]) 3 Try.isAgg26 Try.sizeOf26) (fun _ _ _ _ _ => rfl) ?_
   first | refine epc (fun _ _ => Ej I8) ?_ | refine epc (fun _ _ => Fz I8) ?_ | refine epp (fun _ _ => Ej I8) ?_ | refine epp (fun _ _ => Fz I8) ?_
   refine F6 ([(⟨id, q, 0⟩ : Done)] : List Done) Ff rfl (fun _ => rfl) rfl (fun _ => rfl) rfl rfl (fun ρ R hd => Gg ⟨hid, hwq.1, hwq.2.1, hwq.2.2, by unfold Ap; simp only; omega⟩) (fun _ _ _ _ _ => rfl) ?_
   refine F7 (e := 66) (xs := []) (ys := [(⟨id, q, 0⟩ : Done)]) (v := (.slice none 0 0)) Ff (fun _ => rfl) (fun _ => rfl) rfl (by decide) (fun ρ R hd => (hd.dep (it := ⟨12, _, _, _, _⟩) (by repeat (first | exact List.Mem.head _ | refine List.Mem.tail _ ?_)) ⟨9, rfl⟩ (List.Mem.head _))) (by have : maxN = 16777216 := rfl; simp only [List.length_cons, List.length_nil]; omega) (fun ρ g S hS hB hA => ?_) ?_
   ·exact ZfB
   refine dn2 ?_
   refine Er (T0 := 120) (f := 7) (vs := fun ρ => [vL, vi q.kind, vi q.line, vi q.value, vi id, vi home, .slice none 0 0, .slice none 0 0]) (v := fun ρ => (Gh.dec (γ := Value) (ρ 13))) (fun ρ => b18) Try.sizeOf34 (fun _ => rfl) (fun _ => rfl) (fun ρ S R w L9 hB hd hs => by have h13 : S 13 = true := hB 13 ⟨9, rfl⟩; simp only [h13, cond_true] at hs; exact Cm pkk hs) (fun _ => rfl) (fun ρ g S hS hB hA => ?_) ?_
   ·exact ZfV
   refine dnl ?_; intro ρ
   refine xq_ (blk b18 120 [vL, vi q.kind, vi q.line, vi q.value, vi id, vi home, .slice none 0 0, (Gh.dec (γ := Value) (ρ 13))] :: row 66 (Gh.dec (γ := Value) (ρ 13)) [(⟨id, q, 0⟩ : Done)] :: foc 82 vL ls m.line.toNat [vi 0, vi 0, vi 0, vi l.serial, vi l.seen, vi l.gave, vi l.given] :: blk b8 57 [.slice none 0 0, vi 0, vi 0, vi 0] :: L) ?_
   generalize (Gh.dec (γ := Value) (ρ 12)) = v121
   generalize (Gh.dec (γ := Value) (ρ 13)) = v122
   refine ZL ?_
   refine Zb6 ?_
   refine rn3 ?_
   refine s_N [vL, vi 0, vi 0, vi 0, vi id, vi home, .slice none 0 0, v122] Try.sizeOf26 ?_
   refine Gl ?_
   refine JC.conseq (L' := row 82 vL (ls.set m.line.toNat ({ l with state := 0, value := 0, want := 0 })) :: blk b18 120 [vL, vi 0, vi 0, vi 0, vi id, vi home, .slice none 0 0, v122] :: row 66 v122 [(⟨id, q, 0⟩ : Done)] :: blk b8 57 [.slice none 0 0, vi 0, vi 0, vi 0] :: L) (fun w hs => Ah (D5 ({ l with state := 0, value := 0, want := 0 }) (by unfold Line.wf Ap; simp only; omega) (hs.pick pkk))) ?_
   refine JC.shut (v := vL) (xs := (ls.set m.line.toNat ({ l with state := 0, value := 0, want := 0 }))) .hd ?_
   refine ZV ?_
   refine JC.shut (v := v122) (xs := [(⟨id, q, 0⟩ : Done)]) pkk ?_
   refine Zdy ?_
   refine cq_ (blk b8 57 [.slice none 0 0, vi 0, vi 0, vi 0] :: blk b18 120 [vL, vi 0, vi 0, vi 0, vi id, vi home, .slice none 0 0, v122] :: L) ?_
   refine jd_ (fun ρ S => blk b8 57 (bif S 12 then [vL, vi 0, vi 0, vi 0] else [.slice none 0 0, vi 0, vi 0, vi 0]) :: blk b18 120 [vL, vi 0, vi 0, vi 0, vi id, vi home, .slice none 0 0, v122] :: L) ?_
   refine dn3 ?_
   refine Kd (v := .agg ([vL, vi 0, vi 0, vi 0]).toArray) (fun _ _ => Fr (b := b18) (f := 0) (vs := [vL, vi 0, vi 0, vi 0, vi id, vi home, .slice none 0 0, v122]) 4 Try.isAgg57 Try.sizeOf57) (fun _ _ _ _ _ => rfl) ?_
   refine Ze8 ?_
   refine dn2 ?_
   refine dnl ?_; intro ρ
   refine xq_ (blk b8 57 [vL, vi 0, vi 0, vi 0] :: blk b18 120 [vL, vi 0, vi 0, vi 0, vi id, vi home, .slice none 0 0, v122] :: L) ?_
   refine Gl ?_
   have er : (Ae ⟨ls, q⟩ id home m) = (⟨ls.set m.line.toNat ({ l with state := 0, value := 0, want := 0 }), zOp⟩, [], [⟨id, q, 0⟩]) := by rw [R6 hl (by omega) (by omega), if_pos ht99]
   rw [er]
   exact Cl (vL, .slice none 0 0, v122) Try.isAgg57 Try.sizeOf57
  ·intro ht99
   refine Gl ?_
   refine JC.conseq (L' := row 82 vL ls :: blk b18 120 [vL, vi q.kind, vi q.line, vi q.value, vi id, vi home, .slice none 0 0, .slice none 0 0] :: blk b8 57 [.slice none 0 0, vi 0, vi 0, vi 0] :: L) (fun w hs => Ah (Ey hl hlw (hs.pick pkk))) ?_
   refine JC.shut (v := vL) (xs := ls) .hd ?_
   refine ZV ?_
   refine ZN ?_
   refine Zdy ?_
   refine ZdN ?_;intro ρ
   have er : (Ae ⟨ls, q⟩ id home m) = (⟨ls, q⟩, [], []) := by rw [R6 hl (by omega) (by omega), if_neg ht99]
   rw [er]
   exact ZfR
theorem Zg {u : Value} {ls : List Line} {q : Op} {l : Line} {id home : Int} {m : Msg} (hs : St (L) R w) (hu : sl u ls ∈ R) (hk : KH ⟨ls, q⟩) (hid : Ap id) (hhome : Ap home) (hm : m.wf) (hl : ls.getD m.line.toNat zLine = l) (hg : 0 ≤ m.line ∧ m.line < (ls.length : Int) ∧ m.kind ≠ 4 ∧ m.kind ≠ 5 ∧ m.kind ≠ 6 ∧ m.kind ≠ 7 ∧ m.kind ≠ 11) : Calls Try.prog 77 [.agg (Core.cells u ⟨ls, q⟩).toArray, vi id, vi home, .agg m.cells.toArray].toArray w (Bu (fun v : Value × Value × Value => .tuple #[.agg (Core.cells v.1 (Ae ⟨ls, q⟩ id home m).1).toArray, v.2.1, v.2.2]) (fun v => L) (fun v => sl v.1 (Ae ⟨ls, q⟩ id home m).1.lines :: sl v.2.1 (Ae ⟨ls, q⟩ id home m).2.1 :: sl v.2.2 (Ae ⟨ls, q⟩ id home m).2.2 :: R)) := by
 refine Zbq ?_;intro hlen hone0 hn4 hm0 hid0 hhome0
 clear hs
 refine Zcw ?_;intro b4 b7 b8 vL honeV b18 ρ
 refine Zaj ?_
 refine ZH ?_
 refine Av ?_
 refine Gc1 ?_
 refine cq_ (row 82 vL ls :: blk b18 120 [vL, vi q.kind, vi q.line, vi q.value, vi id, vi home, .slice none 0 0, .slice none 0 0] :: blk b8 57 [.slice none 0 0, vi 0, vi 0, vi 0] :: L) ?_
 refine JC.shut (v := vL) (xs := ls) .hd ?_
 refine ZV ?_
 refine ZN ?_
 refine ZdN ?_;intro ρ
 have er : (Ae ⟨ls, q⟩ id home m) = (⟨ls, q⟩, [], []) := Acm (by omega) (by omega)
 rw [er]
 exact ZfR
theorem Zf {u : Value} {c : Core} {id home : Int} {m : Msg} (hs : St (L) R w) (hu : sl u c.lines ∈ R) (hk : KH c) (hid : Ap id) (hhome : Ap home) (hm : m.wf) : Calls Try.prog 77 [.agg (c.cells u).toArray, vi id, vi home, .agg m.cells.toArray].toArray w (Bu (fun v : Value × Value × Value => .tuple #[.agg (Core.cells v.1 (Ae c id home m).1).toArray, v.2.1, v.2.2]) (fun v => L) (fun v => sl v.1 (Ae c id home m).1.lines :: sl v.2.1 (Ae c id home m).2.1 :: sl v.2.2 (Ae c id home m).2.2 :: R)) := by
 obtain ⟨ls, q⟩ := c
 by_cases h : 0 ≤ m.line ∧ m.line < (ls.length : Int)
 ·by_cases h4 : m.kind = 4
  ·exact Zk hs hu hk hid hhome hm rfl (by omega)
  by_cases h5 : m.kind = 5
  ·exact Zj hs hu hk hid hhome hm rfl (by omega)
  by_cases h6 : m.kind = 6
  ·exact Zi hs hu hk hid hhome hm rfl (by omega)
  by_cases h7 : m.kind = 7
  ·exact Zh hs hu hk hid hhome hm rfl (by omega)
  by_cases h11 : m.kind = 11
  ·exact W0 hs hu hk hid hhome hm rfl (by omega)
  exact Zg hs hu hk hid hhome hm rfl (by omega)
 ·exact Zl hs hu hk hid hhome hm rfl (by omega)
section
variable {ls : List Line} {q q0 : Op} {id home : Int} {l : Line}
theorem beg_1 (h : q.kind < 1 ∨ 4 < q.kind) : Aj ⟨ls, q0⟩ id home q = (E8, [], [], 1) := by unfold Aj; rw [if_pos h]
theorem Aef (h1 : 1 ≤ q.kind ∧ q.kind ≤ 4) (h : q.line < 0 ∨ (ls.length : Int) ≤ q.line ∨ q.value < 0 ∨ 255 < q.value) : Aj ⟨ls, q0⟩ id home q = (E8, [], [], 3) := by
 unfold Aj; rw [if_neg (by omega), if_pos h]
theorem beg_8 (hl : ls.getD q.line.toNat zLine = l) (h1 : 1 ≤ q.kind ∧ q.kind ≤ 4) (h2 : 0 ≤ q.line ∧ q.line < (ls.length : Int)) (h3 : 0 ≤ q.value ∧ q.value ≤ 255) (h : q0.kind ≠ 0 ∨ 65535 ≤ l.serial) : Aj ⟨ls, q0⟩ id home q = (E8, [], [], 8) := by
 subst hl
 unfold Aj; rw [if_neg (by omega), if_neg (by simp only; omega), if_pos (show (⟨ls, q0⟩ : Core).wait.kind ≠ 0 ∨ 65535 ≤ (Ac ⟨ls, q0⟩ q.line).serial from h)]
theorem Sx (hl : ls.getD q.line.toNat zLine = l) (h1 : 1 ≤ q.kind ∧ q.kind ≤ 4) (h2 : 0 ≤ q.line ∧ q.line < (ls.length : Int)) (h3 : 0 ≤ q.value ∧ q.value ≤ 255) (h4 : q0.kind = 0) (h5 : l.serial < 65535) : Aj ⟨ls, q0⟩ id home q = (if Bk l q then (⟨ls.set q.line.toNat (Ba l q), zOp⟩, [], [⟨id, q, Ch l q⟩], 0) else (⟨ls.set q.line.toNat (Ba l q), q⟩, [Cr (Ba l q) id home q.line], [], 0)) := by
 subst hl
 unfold Aj; rw [if_neg (by omega), if_neg (by simp only; omega), if_neg (fun h => by rcases h with h | h; exact h h4; exact absurd h (by show ¬ 65535 ≤ (ls.getD q.line.toNat zLine).serial; omega))]; rfl
end
theorem W1 {u : Value} {c : Core} {id home : Int} {q : Op} (hs : St (L) R w) (hu : sl u c.lines ∈ R) (hk : KB c) (hid : Ap id) (hhome : Ap home) (hq : q.wf) : Calls Try.prog 42 [.agg (c.cells u).toArray, vi id, vi home, .agg q.cells.toArray].toArray w (Bu (fun v : Value × Value × Value => .tuple #[.agg (Core.cells v.1 (Aj c id home q).1).toArray, v.2.1, v.2.2, vi (Aj c id home q).2.2.2]) (fun v => L) (fun v => sl v.1 (Aj c id home q).1.lines :: sl v.2.1 (Aj c id home q).2.1 :: sl v.2.2 (Aj c id home q).2.2.1 :: R)) := by
 obtain ⟨ls, q0⟩ := c
 have hu : sl u ls ∈ R := hu
 obtain ⟨l, hl⟩ : ∃ l, ls.getD q.line.toNat zLine = l := ⟨_, rfl⟩
 have hlen := Bj hu hs
 refine ZaF ?_;intro hone0
 have hn4 : ls.length ≤ 4 := hk.n
 refine Zbp ?_;intro hid0 hhome0
 refine Ai Try.func42 rfl Try.ntmps42 rfl hs ?_
 clear hs
 refine Gm ?_
 refine bx ?_; intro b4
 refine ZbM ?_;intro b7 b8
 refine Ga3 ?_
 refine cq_ (blk b4 57 [u, vi q0.kind, vi q0.line, vi q0.value] :: blk b7 26 q.cells :: blk b8 57 [.slice none 0 0, vi 0, vi 0, vi 0] :: L) ?_
 rcases (show (q.kind < 1) ∨ (¬ q.kind < 1 ∧ 4 < q.kind) ∨ (1 ≤ q.kind ∧ q.kind ≤ 4) from by omega) with hc | hc | hc
 ·refine ZZ ?_
  refine Gc6 ?_
  exact Zgx
 ·refine Zbf ?_
  refine Gc2 ?_
  exact Zgx
 ·refine Zaw ?_
  refine Gc2 ?_
  rcases (show (q.line < 0) ∨ (0 ≤ q.line ∧ (ls.length : Int) ≤ q.line) ∨ (0 ≤ q.line ∧ q.line < (ls.length : Int) ∧ q.value < 0) ∨ (0 ≤ q.line ∧ q.line < (ls.length : Int) ∧ 255 < q.value) ∨ (0 ≤ q.line ∧ q.line < (ls.length : Int) ∧ 0 ≤ q.value ∧ q.value ≤ 255) from by omega) with hc | hc | hc | hc | hc
  ·refine ZZ ?_
   refine Gc19 ?_
   exact ZgD
  ·refine Zag ?_
   refine ZaL ?_
   refine Gc12 ?_
   exact ZgD
  ·refine Za9 ?_
   refine ZaD ?_
   refine Gc7 ?_
   exact ZgD
  ·refine Za9 ?_
   refine ZaT ?_
   refine Gc2 ?_
   exact ZgD
  ·refine Za9 ?_
   refine Za0 ?_
   refine Gc2 ?_
   refine open_l (v := u) hl mm (by omega) (by omega) (fun hlw1 => ?_)
   rcases (show (q0.kind ≠ 0) ∨ (q0.kind = 0 ∧ 65535 ≤ l.serial) ∨ (q0.kind = 0 ∧ l.serial < 65535) from by omega) with hc | hc | hc
   ·refine Zdu ?_
    refine Ia ?_
    refine Gc11 ?_
    exact Zge
   ·refine Zdu ?_
    refine Ib ?_
    refine rn8 ?_
    refine gy ?_
    refine Hm ?_
    refine Gc2 ?_
    exact Zge
   ·have hc5 := hc
    refine Zdu ?_
    refine Ib ?_
    refine rn8 ?_
    refine gy ?_
    refine Dq ?_
    refine Gd2 ?_
    refine rn1 ?_
    refine Am Try.call62 rfl (fun w hs => H4 (u := u) (c := ⟨ls, q0⟩) hs mm) ?_; intro vL
    refine J.know (p := vL.oneCell' = true) (fun w hs => Cm .hd hs) (fun honeV => ?_)
    refine rn3 ?_
    refine bx ?_; intro b68
    refine Ga1 ?_
    refine cq_ (row 82 vL ls :: blk b68 120 [vL, vi q0.kind, vi q0.line, vi q0.value, vi id, vi home, .slice none 0 0, .slice none 0 0] :: blk b8 57 [.slice none 0 0, vi 0, vi 0, vi 0] :: blk b7 26 q.cells :: L) ?_
    refine Zd5 ?_;intro hlw hA hlw0 honeL
    have hz : q0 = zOp := (hk.w.free hc5.1).1
    refine Zd6 ?_
    refine ZT ?_;intro ρ
    refine Gl ?_
    refine kp [1, 7, 8, 9, 10, 11, 12, 13, 80, 81, 82, 83, 84, 85, 86, 87, 88, 89, 90] ?_
    refine Ds 80 (.bool (decide ((q.kind = 4) ∧ (l.state = 2)))) ?_ ?_
    ·rcases (show (¬ (q.kind = 4)) ∨ ((q.kind = 4) ∧ ¬ (l.state = 2)) ∨ ((q.kind = 4) ∧ (l.state = 2)) from by omega) with hm | hm | hm
     ·refine ZB ?_
      refine Av ?_
      refine Ga8 ?_
      exact Zfc
     ·refine ZB ?_
      refine Cj ?_
      refine ZO ?_
      refine Av ?_
      refine Ga2 ?_
      exact Zfc
     ·refine ZB ?_
      refine Cj ?_
      refine ZO ?_
      refine Cj ?_
      refine Ga2 ?_
      exact Zfa
    ·refine Ax ?_
     first | (refine cdx (p := ?p1) (hd := ?d1) ?e1 ?_ ?_; case e1 => exact rfl) | (refine Bo (b := ?b1) ?e1 ?_ ?_; case e1 => exact rfl)
     ·intro ht80
      refine Gl ?_
      refine kp [1, 7, 8, 9, 10, 11, 12, 13, 91, 92, 93] ?_
      refine ZJ ?_
      refine sc ?_
      refine Gl ?_
      refine JC.conseq (L' := row 82 vL (ls.set q.line.toNat ({ l with state := 3 })) :: blk b68 120 [vL, vi q0.kind, vi q0.line, vi q0.value, vi id, vi home, .slice none 0 0, .slice none 0 0] :: blk b8 57 [.slice none 0 0, vi 0, vi 0, vi 0] :: blk b7 26 q.cells :: L) (fun w hs => Ah (D5 ({ l with state := 3 }) (by unfold Line.wf Ap; simp only; omega) (hs.pick pkk))) ?_
      refine ZW ?_
      refine ZB ?_
      refine Am Try.call69 rfl (fun w hs => T4 (vL := vL) (vo := .slice none 0 0) (vd := .slice none 0 0) (q := q) (q0 := q0) (id := id) (home := home) (ls := (ls.set q.line.toNat ({ l with state := 3 }))) (l := { l with state := 3 }) (ms := []) (want := 3) (bk := b68) (LX := blk b8 57 [.slice none 0 0, vi 0, vi 0, vi 0] :: blk b7 26 q.cells :: L) (Ah hs) (by rw [List.getD_eq_getElem?_getD, List.getElem?_set_self (by omega)]; rfl) (by rw [List.length_set]; omega) (by rw [List.length_set]; omega) hid hhome (by simp) (by first | omega | (simp only; omega)) (by unfold Ap; omega)) ?_; intro v96
      refine J.conseq (L' := row 82 vL (ls.set q.line.toNat ({ l with state := 3, want := 3, serial := l.serial + 1 })) :: blk b68 120 [vL, vi q.kind, vi q.line, vi q.value, vi id, vi home, v96, .slice none 0 0] :: row 49 v96 [Cr ({ l with state := 3, want := 3, serial := l.serial + 1 }) id home q.line] :: blk b8 57 [.slice none 0 0, vi 0, vi 0, vi 0] :: L) (fun w hs => by rw [List.nil_append, List.set_set] at hs; exact Ah hs) ?_
      refine Gl ?_
      refine cq_ (row 82 vL (ls.set q.line.toNat ({ l with state := 3, want := 3, serial := l.serial + 1 })) :: blk b68 120 [vL, vi q.kind, vi q.line, vi q.value, vi id, vi home, v96, .slice none 0 0] :: row 49 v96 [Cr ({ l with state := 3, want := 3, serial := l.serial + 1 }) id home q.line] :: blk b8 57 [.slice none 0 0, vi 0, vi 0, vi 0] :: L) ?_
      refine JC.shut (v := vL) (xs := (ls.set q.line.toNat ({ l with state := 3, want := 3, serial := l.serial + 1 }))) .hd ?_
      refine JC.shut (v := v96) (xs := [Cr ({ l with state := 3, want := 3, serial := l.serial + 1 }) id home q.line]) pkk ?_
      refine ZN ?_
      refine cq_ (blk b8 57 [.slice none 0 0, vi 0, vi 0, vi 0] :: blk b68 120 [vL, vi q.kind, vi q.line, vi q.value, vi id, vi home, v96, .slice none 0 0] :: L) ?_
      refine jd_ (fun ρ S => blk b8 57 (bif S 12 then [vL, vi q.kind, vi q.line, vi q.value] else [.slice none 0 0, vi 0, vi 0, vi 0]) :: blk b68 120 [vL, vi q.kind, vi q.line, vi q.value, vi id, vi home, v96, .slice none 0 0] :: L) ?_
      refine dn3 ?_
      refine Kd (v := .agg ([vL, vi q.kind, vi q.line, vi q.value]).toArray) (fun _ _ => Fr (b := b68) (f := 0) (vs := [vL, vi q.kind, vi q.line, vi q.value, vi id, vi home, v96, .slice none 0 0]) 4 Try.isAgg57 Try.sizeOf57) (fun _ _ _ _ _ => rfl) ?_
      refine ZbO ?_
      refine dn3 ?_
      refine dnl ?_; intro ρ
      refine xq_ (blk b8 57 [vL, vi q.kind, vi q.line, vi q.value] :: blk b68 120 [vL, vi q.kind, vi q.line, vi q.value, vi id, vi home, v96, .slice none 0 0] :: L) ?_
      refine Gl ?_
      have eb : Ba l q = { l with state := 3, want := 3, serial := l.serial + 1 } := by unfold Ba; rw [if_pos (by omega), if_pos (by omega)]
      have ed : Bk l q = false := by unfold Bk; split <;> simp <;> omega
      have er : (Aj ⟨ls, q0⟩ id home q) = (⟨ls.set q.line.toNat ({ l with state := 3, want := 3, serial := l.serial + 1 }), q⟩, [Cr ({ l with state := 3, want := 3, serial := l.serial + 1 }) id home q.line], [], 0) := by rw [Sx hl (by omega) (by omega) (by omega) (by omega) (by omega), ed, if_neg (by decide), eb]
      rw [er]
      exact E4 (vL, v96, .slice none 0 0) Try.isAgg57 Try.sizeOf57
     ·intro ht80
      refine Gl ?_
      refine kp [1, 7, 8, 9, 10, 11, 12, 13, 97, 98, 99, 100] ?_
      refine Aa ?_
      refine Ga4 ?_
      refine cdy ?_ ?_
      ·intro ht97
       refine Zan ?_
       refine sc ?_
       refine Zas ?_
       refine Gl ?_
       refine Zal ?_
       refine cq_ (blk b68 120 [vL, vi q0.kind, vi q0.line, vi q0.value, vi id, vi home, .slice none 0 0, .slice none 0 0] :: row 66 (.slice none 0 0) [] :: foc 82 vL ls q.line.toNat [vi 0, vi 0, vi l.want, vi l.serial, vi l.seen, vi l.gave, vi l.given] :: blk b8 57 [.slice none 0 0, vi 0, vi 0, vi 0] :: blk b7 26 q.cells :: L) ?_
       refine jd_ (fun ρ S => blk b68 120 (bif S 12 then [vL, vi q0.kind, vi q0.line, vi q0.value, vi id, vi home, .slice none 0 0, (Gh.dec (γ := Value) (ρ 9))] else [vL, vi q0.kind, vi q0.line, vi q0.value, vi id, vi home, .slice none 0 0, .slice none 0 0]) :: (bif S 9 then row 66 (Gh.dec (γ := Value) (ρ 9)) ([] ++ [(⟨id, q, 0⟩ : Done)]) else row 66 (.slice none 0 0) []) :: foc 82 vL ls q.line.toNat [vi 0, vi 0, vi l.want, vi l.serial, vi l.seen, vi l.gave, vi l.given] :: blk b8 57 [.slice none 0 0, vi 0, vi 0, vi 0] :: blk b7 26 q.cells :: L) ?_
       refine dn4 ?_
       refine I5 (v := .slice none 0 0) (fun ρ S hS hB hA => by have h12 : S 12 = false := hA 12 ⟨0, rfl⟩; simp only [h12, cond_false]; exact Da (hc := A9 pkk (by repeat (first | exact rfl | refine Dk rfl ?_))) Try.isAgg34) (fun _ _ _ _ _ => rfl) ?_
       refine dn3 ?_
       refine Zdd ?_
       refine F7 (e := 66) (xs := []) (ys := [(⟨id, q, 0⟩ : Done)]) (v := (.slice none 0 0)) Ff (fun _ => rfl) (fun _ => rfl) rfl (by decide) (fun ρ R hd => (hd.dep (it := ⟨8, _, _, _, _⟩) (by repeat (first | exact List.Mem.head _ | refine List.Mem.tail _ ?_)) ⟨9, rfl⟩ (List.Mem.head _))) (by have : maxN = 16777216 := rfl; simp only [List.length_cons, List.length_nil]; omega) (fun ρ g S hS hB hA => ?_) ?_
       ·have ui : upS S 9 9 = true := rfl; have u12 : upS S 9 12 = S 12 := rfl; have h12 : S 12 = false := hA 12 ⟨0, rfl⟩; have rs : (Gh.dec (γ := Value) (Rho.set ρ 9 (Gh.enc g) 9)) = g := rfl
        simp only [ui, hS, u12, h12, rs, cond_true, cond_false]
        exact pex
       refine dn2 ?_
       refine Er (T0 := 120) (f := 7) (vs := fun ρ => [vL, vi q0.kind, vi q0.line, vi q0.value, vi id, vi home, .slice none 0 0, .slice none 0 0]) (v := fun ρ => (Gh.dec (γ := Value) (ρ 9))) (fun ρ => b68) Try.sizeOf34 (fun _ => rfl) (fun _ => rfl) (fun ρ S R w L9 hB hd hs => by have h9 : S 9 = true := hB 9 ⟨9, rfl⟩; simp only [h9, cond_true] at hs; exact Cm pkk hs) (fun _ => rfl) (fun ρ g S hS hB hA => ?_) ?_
       ·have ui : upS S 12 12 = true := rfl; have u9 : upS S 12 9 = S 9 := rfl; have r9 : Rho.set ρ 12 g 9 = ρ 9 := rfl
        simp only [ui, hS, u9, r9, cond_true, cond_false]
        exact pex
       refine dnl ?_; intro ρ
       refine xq_ (blk b68 120 [vL, vi q0.kind, vi q0.line, vi q0.value, vi id, vi home, .slice none 0 0, (Gh.dec (γ := Value) (ρ 9))] :: row 66 (Gh.dec (γ := Value) (ρ 9)) [(⟨id, q, 0⟩ : Done)] :: foc 82 vL ls q.line.toNat [vi 0, vi 0, vi l.want, vi l.serial, vi l.seen, vi l.gave, vi l.given] :: blk b8 57 [.slice none 0 0, vi 0, vi 0, vi 0] :: blk b7 26 q.cells :: L) ?_
       generalize (Gh.dec (γ := Value) (ρ 8)) = v115
       generalize (Gh.dec (γ := Value) (ρ 9)) = v116
       refine Gl ?_
       refine JC.conseq (L' := row 82 vL (ls.set q.line.toNat ({ l with state := 0, value := 0 })) :: blk b68 120 [vL, vi q0.kind, vi q0.line, vi q0.value, vi id, vi home, .slice none 0 0, v116] :: row 66 v116 [(⟨id, q, 0⟩ : Done)] :: blk b8 57 [.slice none 0 0, vi 0, vi 0, vi 0] :: L) (fun w hs => Ah (D5 ({ l with state := 0, value := 0 }) (by unfold Line.wf Ap; simp only; omega) (hs.pick pkk))) ?_
       refine JC.shut (v := vL) (xs := (ls.set q.line.toNat ({ l with state := 0, value := 0 }))) .hd ?_
       refine ZV ?_
       refine JC.shut (v := v116) (xs := [(⟨id, q, 0⟩ : Done)]) pkk ?_
       refine cq_ (blk b8 57 [.slice none 0 0, vi 0, vi 0, vi 0] :: blk b68 120 [vL, vi q0.kind, vi q0.line, vi q0.value, vi id, vi home, .slice none 0 0, v116] :: L) ?_
       refine jd_ (fun ρ S => blk b8 57 (bif S 12 then [vL, vi q0.kind, vi q0.line, vi q0.value] else [.slice none 0 0, vi 0, vi 0, vi 0]) :: blk b68 120 [vL, vi q0.kind, vi q0.line, vi q0.value, vi id, vi home, .slice none 0 0, v116] :: L) ?_
       refine dn3 ?_
       refine Kd (v := .agg ([vL, vi q0.kind, vi q0.line, vi q0.value]).toArray) (fun _ _ => Fr (b := b68) (f := 0) (vs := [vL, vi q0.kind, vi q0.line, vi q0.value, vi id, vi home, .slice none 0 0, v116]) 4 Try.isAgg57 Try.sizeOf57) (fun _ _ _ _ _ => rfl) ?_
       refine dn8 ?_
       refine es_ 57 0 [] [] (fun ρ => b8) (fun ρ => [.slice none 0 0, vi 0, vi 0, vi 0]) (fun ρ => [vL, vi q0.kind, vi q0.line, vi q0.value]) Try.sizeOf57 ?_
       refine dn3 ?_
       refine dnl ?_; intro ρ
       refine xq_ (blk b8 57 [vL, vi q0.kind, vi q0.line, vi q0.value] :: blk b68 120 [vL, vi q0.kind, vi q0.line, vi q0.value, vi id, vi home, .slice none 0 0, v116] :: L) ?_
       refine Gl ?_
       have eb : Ba l q = { l with state := 0, value := 0 } := by unfold Ba; rw [if_pos (by omega), if_neg (by omega)]
       have ed : Bk l q = true := by unfold Bk; split <;> simp <;> omega
       have et : Ch l q = 0 := by unfold Ch; rw [if_pos (by omega)]
       have er : (Aj ⟨ls, q0⟩ id home q) = (⟨ls.set q.line.toNat ({ l with state := 0, value := 0 }), q0⟩, [], [(⟨id, q, 0⟩ : Done)], 0) := by rw [Sx hl (by omega) (by omega) (by omega) (by omega) (by omega), ed, if_pos rfl, eb, et, hz]
       rw [er]
       exact E4 (vL, .slice none 0 0, v116) Try.isAgg57 Try.sizeOf57
      ·intro ht97
       refine Gl ?_
       refine ZeJ ?_
       refine Ds 119 (.bool (decide (l.state = 2 ∨ (l.state = 1 ∧ q.kind = 1)))) ?_ ?_
       ·rcases (show (l.state = 2) ∨ (l.state = 1 ∧ q.kind = 1) ∨ (l.state = 1 ∧ q.kind ≠ 1) ∨ (l.state ≠ 1 ∧ l.state ≠ 2) from by omega) with hm | hm | hm | hm
        ·refine ZE ?_
         refine Cj ?_
         refine Ga13 ?_
         exact Zfa
        ·refine ZE ?_
         refine Av ?_
         refine ZO ?_
         refine Cj ?_
         refine ZM ?_
         refine Cj ?_
         refine Ga3 ?_
         exact Zfa
        ·refine ZeJ ?_
         refine ZE ?_
         refine Av ?_
         refine ZO ?_
         refine Cj ?_
         refine ZM ?_
         refine Av ?_
         refine Ga3 ?_
         exact Zfc
        ·refine ZE ?_
         refine Av ?_
         refine ZO ?_
         refine Av ?_
         refine Ga7 ?_
         exact Zfc
       ·refine Ax ?_
        first | (refine cdx (p := ?p3) (hd := ?d3) ?e3 ?_ ?_; case e3 => exact rfl) | (refine Bo (b := ?b3) ?e3 ?_ ?_; case e3 => exact rfl)
        ·intro ht119
         refine ZcZ ?_
         refine Zal ?_
         refine kp [7, 8, 9, 10, 11, 12, 137, 138] ?_
         refine ZB ?_
         refine Am Try.call70 rfl (fun w hs => Lm (vL := vL) (vo := .slice none 0 0) (vd := .slice none 0 0) (q := q) (q0 := q0) (id := id) (home := home) (ls := ls) (l := l) (ds := []) (bk := b68) (LX := blk b8 57 [.slice none 0 0, vi 0, vi 0, vi 0] :: blk b7 26 q.cells :: L) (Ah hs) hl (by omega) (by omega) hid hhome (by simp) hq (by omega) (by omega)) ?_; intro v139
         refine J.conseq (L' := row 82 vL (ls.set q.line.toNat ({ l with value := (A0 l.value q).1 })) :: blk b68 120 [vL, vi 0, vi 0, vi 0, vi id, vi home, .slice none 0 0, v139] :: row 66 v139 [(⟨id, q, (A0 l.value q).2⟩ : Done)] :: blk b8 57 [.slice none 0 0, vi 0, vi 0, vi 0] :: L) (fun w hs => by rw [List.nil_append] at hs; exact Ah hs) ?_
         refine Gl ?_
         refine cq_ (row 82 vL (ls.set q.line.toNat ({ l with value := (A0 l.value q).1 })) :: blk b68 120 [vL, vi 0, vi 0, vi 0, vi id, vi home, .slice none 0 0, v139] :: row 66 v139 [(⟨id, q, (A0 l.value q).2⟩ : Done)] :: blk b8 57 [.slice none 0 0, vi 0, vi 0, vi 0] :: L) ?_
         refine JC.shut (v := vL) (xs := (ls.set q.line.toNat ({ l with value := (A0 l.value q).1 }))) .hd ?_
         refine ZV ?_
         refine JC.shut (v := v139) (xs := [(⟨id, q, (A0 l.value q).2⟩ : Done)]) pkk ?_
         refine cq_ (blk b8 57 [.slice none 0 0, vi 0, vi 0, vi 0] :: blk b68 120 [vL, vi 0, vi 0, vi 0, vi id, vi home, .slice none 0 0, v139] :: L) ?_
         refine jd_ (fun ρ S => blk b8 57 (bif S 12 then [vL, vi 0, vi 0, vi 0] else [.slice none 0 0, vi 0, vi 0, vi 0]) :: blk b68 120 [vL, vi 0, vi 0, vi 0, vi id, vi home, .slice none 0 0, v139] :: L) ?_
         refine dn3 ?_
         refine Kd (v := .agg ([vL, vi 0, vi 0, vi 0]).toArray) (fun _ _ => Fr (b := b68) (f := 0) (vs := [vL, vi 0, vi 0, vi 0, vi id, vi home, .slice none 0 0, v139]) 4 Try.isAgg57 Try.sizeOf57) (fun _ _ _ _ _ => rfl) ?_
         refine Ze8 ?_
         refine dn3 ?_
         refine dnl ?_; intro ρ
         refine xq_ (blk b8 57 [vL, vi 0, vi 0, vi 0] :: blk b68 120 [vL, vi 0, vi 0, vi 0, vi id, vi home, .slice none 0 0, v139] :: L) ?_
         refine Gl ?_
         have eb : Ba l q = { l with value := (A0 l.value q).1 } := by unfold Ba; rw [if_neg (by omega), if_pos (by omega)]
         have ed : Bk l q = true := by unfold Bk; split <;> simp <;> omega
         have et : Ch l q = (A0 l.value q).2 := by unfold Ch; rw [if_neg (by omega)]
         have er : (Aj ⟨ls, q0⟩ id home q) = (⟨ls.set q.line.toNat ({ l with value := (A0 l.value q).1 }), zOp⟩, [], [(⟨id, q, (A0 l.value q).2⟩ : Done)], 0) := by rw [Sx hl (by omega) (by omega) (by omega) (by omega) (by omega), ed, if_pos rfl, eb, et]
         rw [er]
         exact E4 (vL, .slice none 0 0, v139) Try.isAgg57 Try.sizeOf57
        ·intro ht119
         refine Gl ?_
         refine kp [7, 8, 9, 10, 11, 12, 140, 141, 142, 143] ?_
         refine Aa ?_
         refine Ga4 ?_
         refine cdy ?_ ?_
         ·intro ht140
          refine ZcZ ?_
          refine ZW ?_
          refine ZB ?_
          refine Am Try.call69 rfl (fun w hs => T4 (vL := vL) (vo := .slice none 0 0) (vd := .slice none 0 0) (q := q) (q0 := q0) (id := id) (home := home) (ls := ls) (l := l) (ms := []) (want := 1) (bk := b68) (LX := blk b8 57 [.slice none 0 0, vi 0, vi 0, vi 0] :: blk b7 26 q.cells :: L) (Ah hs) hl (by omega) (by omega) hid hhome (by simp) (by first | omega | (simp only; omega)) (by unfold Ap; omega)) ?_; intro v146
          refine J.conseq (L' := row 82 vL (ls.set q.line.toNat ({ l with want := 1, serial := l.serial + 1 })) :: blk b68 120 [vL, vi q.kind, vi q.line, vi q.value, vi id, vi home, v146, .slice none 0 0] :: row 49 v146 [Cr ({ l with want := 1, serial := l.serial + 1 }) id home q.line] :: blk b8 57 [.slice none 0 0, vi 0, vi 0, vi 0] :: L) (fun w hs => by rw [List.nil_append] at hs; exact Ah hs) ?_
          refine Gl ?_
          refine cq_ (row 82 vL (ls.set q.line.toNat ({ l with want := 1, serial := l.serial + 1 })) :: blk b68 120 [vL, vi q.kind, vi q.line, vi q.value, vi id, vi home, v146, .slice none 0 0] :: row 49 v146 [Cr ({ l with want := 1, serial := l.serial + 1 }) id home q.line] :: blk b8 57 [.slice none 0 0, vi 0, vi 0, vi 0] :: L) ?_
          refine JC.shut (v := vL) (xs := (ls.set q.line.toNat ({ l with want := 1, serial := l.serial + 1 }))) .hd ?_
          refine JC.shut (v := v146) (xs := [Cr ({ l with want := 1, serial := l.serial + 1 }) id home q.line]) pkk ?_
          refine ZN ?_
          refine cq_ (blk b8 57 [.slice none 0 0, vi 0, vi 0, vi 0] :: blk b68 120 [vL, vi q.kind, vi q.line, vi q.value, vi id, vi home, v146, .slice none 0 0] :: L) ?_
          refine jd_ (fun ρ S => blk b8 57 (bif S 12 then [vL, vi q.kind, vi q.line, vi q.value] else [.slice none 0 0, vi 0, vi 0, vi 0]) :: blk b68 120 [vL, vi q.kind, vi q.line, vi q.value, vi id, vi home, v146, .slice none 0 0] :: L) ?_
          refine dn3 ?_
          refine Kd (v := .agg ([vL, vi q.kind, vi q.line, vi q.value]).toArray) (fun _ _ => Fr (b := b68) (f := 0) (vs := [vL, vi q.kind, vi q.line, vi q.value, vi id, vi home, v146, .slice none 0 0]) 4 Try.isAgg57 Try.sizeOf57) (fun _ _ _ _ _ => rfl) ?_
          refine ZbO ?_
          refine dn3 ?_
          refine dnl ?_; intro ρ
          refine xq_ (blk b8 57 [vL, vi q.kind, vi q.line, vi q.value] :: blk b68 120 [vL, vi q.kind, vi q.line, vi q.value, vi id, vi home, v146, .slice none 0 0] :: L) ?_
          refine Gl ?_
          have eb : Ba l q = { l with want := 1, serial := l.serial + 1 } := by unfold Ba; rw [if_neg (by omega), if_neg (by omega), if_pos (by omega)]
          have ed : Bk l q = false := by unfold Bk; split <;> simp <;> omega
          have er : (Aj ⟨ls, q0⟩ id home q) = (⟨ls.set q.line.toNat ({ l with want := 1, serial := l.serial + 1 }), q⟩, [Cr ({ l with want := 1, serial := l.serial + 1 }) id home q.line], [], 0) := by rw [Sx hl (by omega) (by omega) (by omega) (by omega) (by omega), ed, if_neg (by decide), eb]
          rw [er]
          exact E4 (vL, v146, .slice none 0 0) Try.isAgg57 Try.sizeOf57
         ·intro ht140
          refine ZcZ ?_
          refine ZW ?_
          refine ZB ?_
          refine Am Try.call69 rfl (fun w hs => T4 (vL := vL) (vo := .slice none 0 0) (vd := .slice none 0 0) (q := q) (q0 := q0) (id := id) (home := home) (ls := ls) (l := l) (ms := []) (want := 2) (bk := b68) (LX := blk b8 57 [.slice none 0 0, vi 0, vi 0, vi 0] :: blk b7 26 q.cells :: L) (Ah hs) hl (by omega) (by omega) hid hhome (by simp) (by first | omega | (simp only; omega)) (by unfold Ap; omega)) ?_; intro v79
          refine J.conseq (L' := row 82 vL (ls.set q.line.toNat ({ l with want := 2, serial := l.serial + 1 })) :: blk b68 120 [vL, vi q.kind, vi q.line, vi q.value, vi id, vi home, v79, .slice none 0 0] :: row 49 v79 [Cr ({ l with want := 2, serial := l.serial + 1 }) id home q.line] :: blk b8 57 [.slice none 0 0, vi 0, vi 0, vi 0] :: L) (fun w hs => by rw [List.nil_append] at hs; exact Ah hs) ?_
          refine Gl ?_
          refine cq_ (row 82 vL (ls.set q.line.toNat ({ l with want := 2, serial := l.serial + 1 })) :: blk b68 120 [vL, vi q.kind, vi q.line, vi q.value, vi id, vi home, v79, .slice none 0 0] :: row 49 v79 [Cr ({ l with want := 2, serial := l.serial + 1 }) id home q.line] :: blk b8 57 [.slice none 0 0, vi 0, vi 0, vi 0] :: L) ?_
          refine JC.shut (v := vL) (xs := (ls.set q.line.toNat ({ l with want := 2, serial := l.serial + 1 }))) .hd ?_
          refine JC.shut (v := v79) (xs := [Cr ({ l with want := 2, serial := l.serial + 1 }) id home q.line]) pkk ?_
          refine ZN ?_
          refine cq_ (blk b8 57 [.slice none 0 0, vi 0, vi 0, vi 0] :: blk b68 120 [vL, vi q.kind, vi q.line, vi q.value, vi id, vi home, v79, .slice none 0 0] :: L) ?_
          refine jd_ (fun ρ S => blk b8 57 (bif S 12 then [vL, vi q.kind, vi q.line, vi q.value] else [.slice none 0 0, vi 0, vi 0, vi 0]) :: blk b68 120 [vL, vi q.kind, vi q.line, vi q.value, vi id, vi home, v79, .slice none 0 0] :: L) ?_
          refine dn3 ?_
          refine Kd (v := .agg ([vL, vi q.kind, vi q.line, vi q.value]).toArray) (fun _ _ => Fr (b := b68) (f := 0) (vs := [vL, vi q.kind, vi q.line, vi q.value, vi id, vi home, v79, .slice none 0 0]) 4 Try.isAgg57 Try.sizeOf57) (fun _ _ _ _ _ => rfl) ?_
          refine ZbO ?_
          refine dn3 ?_
          refine dnl ?_; intro ρ
          refine xq_ (blk b8 57 [vL, vi q.kind, vi q.line, vi q.value] :: blk b68 120 [vL, vi q.kind, vi q.line, vi q.value, vi id, vi home, v79, .slice none 0 0] :: L) ?_
          refine Gl ?_
          have eb : Ba l q = { l with want := 2, serial := l.serial + 1 } := by unfold Ba; rw [if_neg (by omega), if_neg (by omega), if_neg (by omega)]
          have ed : Bk l q = false := by unfold Bk; split <;> simp <;> omega
          have er : (Aj ⟨ls, q0⟩ id home q) = (⟨ls.set q.line.toNat ({ l with want := 2, serial := l.serial + 1 }), q⟩, [Cr ({ l with want := 2, serial := l.serial + 1 }) id home q.line], [], 0) := by rw [Sx hl (by omega) (by omega) (by omega) (by omega) (by omega), ed, if_neg (by decide), eb]
          rw [er]
          exact E4 (vL, v79, .slice none 0 0) Try.isAgg57 Try.sizeOf57
theorem Wz {u : Value} {c : Core} {id home : Int} (hs : St (L) R w) (hu : sl u c.lines ∈ R) (hn4 : c.lines.length ≤ 100) (hid : Ap id) (hhome : Ap home) : Calls Try.prog 80 [.agg (c.cells u).toArray, vi id, vi home].toArray w (Bu (fun v : Value => v) (fun v => L) (fun v => sl v (D6 c id home) :: R)) := by
 obtain ⟨ls, q⟩ := c
 have hu : sl u ls ∈ R := hu
 have hn4 : ls.length ≤ 100 := hn4
 refine ZaF ?_;intro hone0
 refine Ai Try.func80 rfl Try.ntmps80 rfl hs ?_
 clear hs
 refine Zah ?_;intro b3
 refine Zat ?_
 refine Zd9 ?_;intro vL honeV
 refine bx ?_; intro b14
 refine Ga1 ?_
 refine cq_ (row 82 vL ls :: blk b14 120 [vL, vi q.kind, vi q.line, vi q.value, vi id, vi home, .slice none 0 0, .slice none 0 0] :: L) ?_
 refine Aa ?_
 refine Ga7 ?_
 refine ZW ?_
 refine Bl (γ := Nat × Value) (fun g => g.1 ≤ ls.length) (fun g => blk b14 120 [vL, vi q.kind, vi q.line, vi q.value, vi id, vi home, g.2, .slice none 0 0] :: row 82 vL ls :: row 49 g.2 (C7 id home 0 (ls.take g.1)) :: L) (fun _ => R) (fun g => [(7, bp b14 0), (20, vi (ls.length : Int)), (21, vi (g.1 : Int))]) (fun g => ls.length - g.1) (0, .slice none 0 0) (Nat.zero_le _) alT (fun w hs => Ah hs) ?_
 rintro ⟨k, vs⟩ hk9
 try simp only at hk9 ⊢
 have htl := Mt id home (ls.take k) 0
 rw [List.length_take] at htl
 refine ZA ?_
 refine cdy ?_ ?_
 ·intro ht22
  refine ZD ?_
  obtain ⟨l, hl⟩ : ∃ l, ls.getD ((k : Int)).toNat zLine = l := ⟨_, rfl⟩
  refine Iu (ls := ls) (l := l) (i := (k : Int)) pkk hl (by omega) (by omega) (fun hlw hA => ?_)
  have hlw0 := hlw
  unfold Line.wf Ap at hlw0
  have honeL : (ep vL 7 (k : Int).toNat 0).oneCell' = true := hA.one
  refine Zam ?_
  refine ob (Jg (v := vL) (i := (k : Int)) Mw (hl := D4 (α := Line) (xs := ls) pkk)) ?_
  refine Ga3 ?_
  refine cdy ?_ ?_
  ·intro ht33
   refine JC.conseq (L' := row 82 vL ls :: blk b14 120 [vL, vi q.kind, vi q.line, vi q.value, vi id, vi home, vs, .slice none 0 0] :: row 49 vs (C7 id home 0 (ls.take k)) :: L) (fun w hs => Ah (Ey hl hlw (hs.pick pkk))) ?_
   refine ZB ?_
   refine Am Try.call96 rfl (fun w hs => Sp (vL := vL) (vd := .slice none 0 0) (q := q) (id := id) (home := home) (ms := C7 id home 0 (ls.take k)) (line := (k : Int)) (ls := ls) (l := l) (LX := L) (Ah hs) hl (by omega) (by omega) (by omega) hid hhome) ?_; intro v36
   refine Gl ?_
   refine kp [6, 7, 8, 20, 21, 22, 23, 24, 25, 26, 27, 28, 29, 30, 31, 32, 33, 34, 35, 37] ?_
   refine ZR ?_
   refine A6 (k + 1, v36) (by show k + 1 ≤ ls.length; omega) (by show ls.length - (k + 1) < ls.length - k; omega) alT (fun w hs => ?_)
   try simp only
   rw [Fk zLine (by omega), H6, show ls.getD k zLine = l from hl, if_pos ht33, List.length_take, Nat.min_eq_left (by omega), Int.zero_add]
   exact Ah hs
  ·intro ht33
   refine ZD ?_
   refine A6 (k + 1, vs) (by show k + 1 ≤ ls.length; omega) (by show ls.length - (k + 1) < ls.length - k; omega) alT (fun w hs => ?_)
   try simp only
   rw [Fk zLine (by omega), H6, show ls.getD k zLine = l from hl, if_neg ht33, List.append_nil]
   exact Ah (Ey hl hlw (hs.pick pkk))
 ·intro ht22
  refine Gl ?_
  refine JC.shut (v := vs) (xs := C7 id home 0 (ls.take k)) pkk ?_
  refine Aa ?_
  refine Ga5 ?_
  have hkl : k = ls.length := by omega
  rw [show D6 ⟨ls, q⟩ id home = C7 id home 0 (ls.take k) from by rw [hkl, List.take_length]; rfl]
  exact Bg vs
theorem Adg {lines : Int} (hs : St (L) R w) (hl : 0 ≤ lines ∧ lines ≤ 4) : Calls Try.prog 40 [vi lines].toArray w (Bu (fun v : Value => .agg (Core.cells v (Ex lines)).toArray) (fun v => L) (fun v => sl v (Ex lines).lines :: R)) := by
 refine Ai Try.func40 rfl Try.ntmps40 rfl hs ?_
 clear hs
 refine Gm ?_
 refine al_ (cs := [.slice none 0 0, vi 0, vi 0, vi 0]) Try.zeroValue57 ?_; intro b2
 refine ZL ?_
 refine ob (q_mx (a := lines) rfl (by omega)) ?_
 refine Ur (α := Line) (x0 := zLine) (zc := zLine.cells) Wu rfl (by decide) rfl rfl rfl (fun j => ⟨rfl, by unfold Line.wf Ap; decide⟩) (by omega) (by omega) ?_; intro v5
 refine J.shut .hd ?_
 refine J.know (p := v5.oneCell' = true) (fun w hs => isSlice.one (hs.fact (.head _))) (fun honev5 => ?_)
 refine rn1 ?_
 refine s_B (cs := [v5, vi 0, vi 0, vi 0]) Try.sizeOf57 ?_
 refine Gl ?_
 exact M9 v5 Try.isAgg57 Try.sizeOf57
section
variable {P : Program} {T : TypeId} {s k : Int}
theorem Sy (h2 : 0 ≤ k) (h3 : k < 4) (w : World) : (binOp .shl T (vi 1) (vi k)).run P w = .ok (vi ((2 ^ k.toNat : Nat) : Int)) w := by
 rcases (show k = 0 ∨ k = 1 ∨ k = 2 ∨ k = 3 by omega) with g | g | g | g <;> subst g <;> rfl
theorem Oa (h0 : 0 ≤ s) (h1 : s < 16) (h2 : 0 ≤ k) (h3 : k < 4) (w : World) : (binOp .andNot T (vi s) (vi ((2 ^ k.toNat : Nat) : Int))).run P w = .ok (vi (Hv s k)) w := by
 exact ZeT
theorem b_orB (h0 : 0 ≤ s) (h1 : s < 16) (h2 : 0 ≤ k) (h3 : k < 4) (w : World) : (binOp .or T (vi s) (vi ((2 ^ k.toNat : Nat) : Int))).run P w = .ok (vi (I1 s k)) w := by
 exact ZeT
theorem Zv (h0 : 0 ≤ s) (h1 : s < 16) (h2 : 0 ≤ k) (h3 : k < 4) (w : World) : (binOp .shr T (vi s) (vi k)).run P w = .ok (vi ((s.toNat / 2 ^ k.toNat : Nat) : Int)) w := by
 exact ZeT
theorem Ug (h0 : 0 ≤ s) (h1 : s < 16) (h2 : 0 ≤ k) (h3 : k < 4) (w : World) : (binOp .and T (vi ((s.toNat / 2 ^ k.toNat : Nat) : Int)) (vi 1)).run P w = .ok (vi (if La s k then 1 else 0)) w := by
 exact ZeT
theorem Yp (h0 : 0 ≤ s) (h1 : s < 16) (hk : Kp s ≤ k) (h2 : 0 ≤ k) (h3 : k < 4) : La s k = false := by
 revert hk
 rcases (show s = 0 ∨ s = 1 ∨ s = 2 ∨ s = 3 ∨ s = 4 ∨ s = 5 ∨ s = 6 ∨ s = 7 ∨ s = 8 ∨ s = 9 ∨ s = 10 ∨ s = 11 ∨ s = 12 ∨ s = 13 ∨ s = 14 ∨ s = 15 by omega) with h | h | h | h | h | h | h | h | h | h | h | h | h | h | h | h <;> rcases (show k = 0 ∨ k = 1 ∨ k = 2 ∨ k = 3 by omega) with g | g | g | g <;> subst h <;> subst g <;> intro hk <;> first | rfl | (exfalso; revert hk; decide)
end
theorem Kh {e : Entry} {line id : Int} {k : Nat} : Fj e line id (k + 1) = Fj e line id k ++ (if La e.need (k : Int) then [⟨4, id, (k : Int), line, 0, e.turn, 0, false⟩] else []) := by
 unfold La
 rw [Int.toNat_natCast]
 cases h : e.need.toNat.testBit k with
 | true => rw [O0 h, if_pos rfl]
 | false => rw [Q1 h]; simp
theorem O2 {e : Entry} {line id : Int} (he : EB e) : ∀ j : Nat, (Kp e.need).toNat + j ≤ 4 → Fj e line id ((Kp e.need).toNat + j) = Fj e line id (Kp e.need).toNat
 | 0, _ => rfl
 | j + 1, h => by
  have ih := O2 (line := line) (id := id) he j (by omega)
  have hl : 0 ≤ Kp e.need := by unfold Kp; split <;> (try split) <;> (try split) <;> (try split) <;> omega
  rw [← Nat.add_assoc, Kh, Yp he.2.2.1.1 he.2.2.1.2 (by omega) (by omega) (by omega), ih]; simp
theorem Ye {s : Int} : 0 ≤ Kp s ∧ Kp s ≤ 4 := by unfold Kp; split <;> (try split) <;> (try split) <;> (try split) <;> omega
theorem Ta {e : Entry} {line id : Int} (he : EB e) : Fj e line id (Kp e.need).toNat = Fj e line id 4 := by
 have h := Ye (s := e.need)
 have := O2 (line := line) (id := id) he (4 - (Kp e.need).toNat) (by omega)
 rw [← this]; congr 1; omega
theorem P3 {LX : List Chunk} {R : List Fact} {w : World} {vh vo u : Value} {i bk : Nat} {e : Entry} {ms : List Msg} {line id : Int} {kind to serial value : Int} {al : Bool} (hs : St (blk bk 151 [(ep vh 10 i 0), vi line, vi id, vo] :: row 49 vo ms :: LX) R w) (hE : C8 LX R (ep vh 10 i 0) (Entry.cells u e)) (hA : EpAll vh 10 i) (hn : ms.length ≤ 1000) (hwf : (⟨kind, id, to, line, serial, e.turn, value, al⟩ : Msg).wf) : Calls Try.prog 111 [bp bk 0, vi kind, vi to, vi serial, vi value, .bool al].toArray w (Bu (fun v : Value => .tuple #[]) (fun v => blk bk 151 [(ep vh 10 i 0), vi line, vi id, v] :: row 49 v (ms ++ [(⟨kind, id, to, line, serial, e.turn, value, al⟩ : Msg)]) :: LX) (fun v => R)) := by
 refine Ai Try.func111 rfl Try.ntmps111 rfl hs ?_
 clear hs
 refine cq_ (blk bk 151 [(ep vh 10 i 0), vi line, vi id, vo] :: row 49 vo ms :: LX) ?_
 refine jd_ (fun ρ S => blk bk 151 (bif S 30 then [(ep vh 10 i 0), vi line, vi id, (Gh.dec (γ := Value) (ρ 27))] else [(ep vh 10 i 0), vi line, vi id, vo]) :: (bif S 27 then row 49 (Gh.dec (γ := Value) (ρ 27)) (ms ++ [(⟨kind, id, to, line, serial, e.turn, value, al⟩ : Msg)]) else row 49 vo ms) :: (LX)) ?_
 refine dn4 ?_
 refine I5 (v := vo) (fun ρ S hS hB hA => by have h30 : S 30 = false := hA 30 ⟨0, rfl⟩; simp only [h30, cond_false]; exact Da (hc := A9 pkk (by repeat (first | exact rfl | refine Dk rfl ?_))) Try.isAgg86) (fun _ _ _ _ _ => rfl) ?_
 refine dn4 ?_
 refine I5 (v := vi id) (fun ρ S hS hB hA => by have h30 : S 30 = false := hA 30 ⟨0, rfl⟩; simp only [h30, cond_false]; exact Da (hc := A9 pkk (by repeat (first | exact rfl | refine Dk rfl ?_))) Try.isAgg3) (fun _ _ _ _ _ => rfl) ?_
 refine dn4 ?_
 refine I5 (v := vi line) (fun ρ S hS hB hA => by have h30 : S 30 = false := hA 30 ⟨0, rfl⟩; simp only [h30, cond_false]; exact Da (hc := A9 pkk (by repeat (first | exact rfl | refine Dk rfl ?_))) Try.isAgg3) (fun _ _ _ _ _ => rfl) ?_
 refine dn4 ?_
 refine I5 (v := (ep vh 10 i 0)) (fun ρ S hS hB hA => by have h30 : S 30 = false := hA 30 ⟨0, rfl⟩; simp only [h30, cond_false]; exact Da (hc := A9 pkk (by repeat (first | exact rfl | refine Dk rfl ?_))) Try.isAgg148) (fun _ _ _ _ _ => rfl) ?_
 first | refine epc (fun _ _ => q_nb) ?_ | refine epc (fun _ _ => q_ne) ?_ | refine epp (fun _ _ => q_nb) ?_ | refine epp (fun _ _ => q_ne) ?_
 first | refine epc (fun _ _ => Z6 Nx) ?_ | refine epc (fun _ _ => Z5 Nx) ?_ | refine epp (fun _ _ => Z6 Nx) ?_ | refine epp (fun _ _ => Z5 Nx) ?_
 first | refine epc (fun _ _ => Da Try.isAgg3) ?_ | refine epp (fun _ _ => Da Try.isAgg3) ?_
 refine dn2 ?_
 first | refine epc (fun _ _ => Ej En) ?_ | refine epc (fun _ _ => Fz En) ?_ | refine epp (fun _ _ => Ej En) ?_ | refine epp (fun _ _ => Fz En) ?_
 refine F6 ([(⟨kind, id, to, line, serial, e.turn, value, al⟩ : Msg)] : List Msg) Gd rfl (fun _ => rfl) rfl (fun _ => rfl) rfl rfl (fun ρ R hd => Jf hwf) (fun _ _ _ _ _ => rfl) ?_
 refine F7 (e := 49) (xs := ms) (ys := [(⟨kind, id, to, line, serial, e.turn, value, al⟩ : Msg)]) (v := vo) Gd (fun _ => rfl) (fun _ => rfl) rfl (by decide) (fun ρ R hd => (hd.dep (it := ⟨26, _, _, _, _⟩) (by repeat (first | exact List.Mem.head _ | refine List.Mem.tail _ ?_)) ⟨9, rfl⟩ (List.Mem.head _))) (by have : maxN = 16777216 := rfl; simp only [List.length_cons, List.length_nil]; omega) (fun ρ g S hS hB hA => ?_) ?_
 ·have ui : upS S 27 27 = true := rfl; have u30 : upS S 27 30 = S 30 := rfl; have h30 : S 30 = false := hA 30 ⟨0, rfl⟩; have rs : (Gh.dec (γ := Value) (Rho.set ρ 27 (Gh.enc g) 27)) = g := rfl
  simp only [ui, hS, u30, h30, rs, cond_true, cond_false]
  exact pex
 refine dn2 ?_
 refine Er (T0 := 151) (f := 3) (vs := fun ρ => [(ep vh 10 i 0), vi line, vi id, vo]) (v := fun ρ => (Gh.dec (γ := Value) (ρ 27))) (fun ρ => bk) Try.sizeOf86 (fun _ => rfl) (fun _ => rfl) (fun ρ S R w L9 hB hd hs => by have h27 : S 27 = true := hB 27 ⟨9, rfl⟩; simp only [h27, cond_true] at hs; exact Cm pkk hs) (fun _ => rfl) (fun ρ g S hS hB hA => ?_) ?_
 ·have ui : upS S 30 30 = true := rfl; have u27 : upS S 30 27 = S 27 := rfl; have r27 : Rho.set ρ 30 g 27 = ρ 27 := rfl
  simp only [ui, hS, u27, r27, cond_true, cond_false]
  exact pex
 refine dnl ?_; intro ρ
 refine xq_ (blk bk 151 [(ep vh 10 i 0), vi line, vi id, (Gh.dec (γ := Value) (ρ 27))] :: row 49 (Gh.dec (γ := Value) (ρ 27)) (ms ++ [(⟨kind, id, to, line, serial, e.turn, value, al⟩ : Msg)]) :: (LX)) ?_
 generalize (Gh.dec (γ := Value) (ρ 26)) = v38
 generalize (Gh.dec (γ := Value) (ρ 27)) = v39
 refine Bs (.inl rfl) (fun B w hs => Ja rfl _ w) (fun w hs => ⟨v39, rfl, Ah hs⟩)
theorem Xc {s : Int} (h0 : 0 ≤ s) (h1 : s < 16) : IntKind.u64.wrap s = s := by
 rcases (show s = 0 ∨ s = 1 ∨ s = 2 ∨ s = 3 ∨ s = 4 ∨ s = 5 ∨ s = 6 ∨ s = 7 ∨ s = 8 ∨ s = 9 ∨ s = 10 ∨ s = 11 ∨ s = 12 ∨ s = 13 ∨ s = 14 ∨ s = 15 by omega) with h | h | h | h | h | h | h | h | h | h | h | h | h | h | h | h <;> subst h <;> rfl
theorem Jl {LX : List Chunk} {R : List Fact} {w : World} {vh vo u : Value} {i bk : Nat} {e : Entry} {ms : List Msg} {line id : Int} (hs : St (blk bk 151 [(ep vh 10 i 0), vi line, vi id, vo] :: row 49 vo ms :: LX) R w) (hE : C8 LX R (ep vh 10 i 0) (Entry.cells u e)) (hA : EpAll vh 10 i) (hn : ms.length ≤ 500) (hb : EB e) (hl : Ap line) (hid : Ap id) : Calls Try.prog 108 [bp bk 0].toArray w (Bu (fun v : Value => .tuple #[]) (fun v => blk bk 151 [(ep vh 10 i 0), vi line, vi id, v] :: row 49 v (ms ++ Gb e line id) :: LX) (fun v => R)) := by
 have hb0 := hb
 unfold EB Entry.wf Ap at hb0
 unfold Ap at hl hid
 refine Ai Try.func108 rfl Try.ntmps108 rfl hs ?_
 clear hs
 refine Gm ?_
 refine Gb7 ?_
 refine Ga2 ?_
 refine cdy ?_ ?_
 ·intro ht11
  refine ZP ?_
  refine Ga7 ?_
  refine Bo (b := ?b2) ?e2 ?_ ?_; case e2 => exact rfl
  ·intro ht19
   refine Aa ?_
   refine Gb1 ?_
   refine rn9 ?_
   refine Am Try.call111 rfl (fun w hs => P3 (e := e) (ms := ms) (kind := 6) (to := e.owner) (serial := 0) (value := 0) (al := false) hs hE hA (by omega) (by unfold Msg.wf Ap; simp only; omega)) ?_; intro v29
   refine Gl ?_
   have er : Gb e line id = [⟨6, id, e.owner, line, 0, e.turn, 0, false⟩] := by unfold Gb; rw [if_pos ht11, ht19]; rfl
   exact Zg6
  ·intro ht19
   refine Gm ?_
   refine rn9 ?_
   refine Am Try.call111 rfl (fun w hs => P3 (e := e) (ms := ms) (kind := 5) (to := e.owner) (serial := 0) (value := 0) (al := false) hs hE hA (by omega) (by unfold Msg.wf Ap; simp only; omega)) ?_; intro v29
   refine Gl ?_
   have er : Gb e line id = [⟨5, id, e.owner, line, 0, e.turn, 0, false⟩] := by unfold Gb; rw [if_pos ht11, ht19]; rfl
   exact Zg6
 ·intro ht11
  refine ZD ?_
  refine cdy ?_ ?_
  ·intro ht30
   refine Gm ?_
   refine rn7 ?_
   refine ob (As (v := .int .u64 e.need) Try.underlying3 Try.underlying147 rfl (by rw [show IntKind.u64.wrap e.need = e.need from Xc hb0.2.2.1.1 hb0.2.2.1.2])) ?_
   refine Am Try.call112 rfl (fun w hs => Ajv hs hb0.2.2.1.1 hb0.2.2.1.2) ?_; intro _
   refine Ga1 ?_
   have hlb := Ye (s := e.need)
   refine Bl (γ := Nat × Value) (fun g => (g.1 : Int) ≤ Kp e.need) (fun g => blk bk 151 [(ep vh 10 i 0), vi line, vi id, g.2] :: row 49 g.2 (ms ++ Fj e line id g.1) :: LX) (fun _ => R) (fun g => [(0, bp bk 0), (40, vi (Kp e.need)), (41, vi (g.1 : Int))]) (fun g => (Kp e.need).toNat - g.1) (0, vo) (by show (0 : Int) ≤ Kp e.need; omega) alT (fun w hs => by have e0 : Fj e line id 0 = [] := rfl; rw [e0, List.append_nil]; exact hs) ?_
   rintro ⟨k, vs⟩ hk
   try simp only at hk ⊢
   have hsl := O1 e line id k
   refine ZA ?_
   refine cdy ?_ ?_
   ·intro ht42
    refine Zbg ?_
    refine rn8 ?_
    refine ob (Gi (a := e.need) (b := (k : Int)) (Zv hb0.2.2.1.1 hb0.2.2.1.2 (by omega) (by omega))) ?_
    refine ob (Gi (a := ((e.need.toNat / 2 ^ (k : Int).toNat : Nat) : Int)) (b := 1) (Ug hb0.2.2.1.1 hb0.2.2.1.2 (by omega) (by omega))) ?_
    refine Ga1 ?_
    refine cdy ?_ ?_
    ·intro ht54
     refine kp [0, 3, 10, 40, 41, 42, 43, 44, 45, 46, 47, 48, 49, 50, 51, 52, 53, 54, 55, 56] ?_
     refine ZB ?_
     refine Am Try.call111 rfl (fun w hs => P3 (e := e) (ms := (ms ++ Fj e line id k)) (kind := 4) (to := (k : Int)) (serial := 0) (value := 0) (al := false) hs hE hA (by simp only [List.length_append]; omega) (by unfold Msg.wf Ap; simp only; omega)) ?_; intro v57
     refine ZD ?_
     refine A6 (k + 1, v57) (by show ((k + 1 : Nat) : Int) ≤ Kp e.need; omega) (by show (Kp e.need).toNat - (k + 1) < (Kp e.need).toNat - k; omega) alT (fun w hs => ?_)
     try simp only
     have hb9 : La e.need (k : Int) = true := by revert ht54; cases La e.need (k : Int) <;> simp
     rw [Kh, hb9, if_pos rfl, ← List.append_assoc]; exact Ah hs
    ·intro ht54
     refine Gl ?_
     refine kp [0, 3, 10, 40, 41, 42, 43, 44, 45, 46, 47, 48, 49, 50, 51, 52, 53, 54, 55, 56, 58] ?_
     refine ZR ?_
     refine A6 (k + 1, vs) (by show ((k + 1 : Nat) : Int) ≤ Kp e.need; omega) (by show (Kp e.need).toNat - (k + 1) < (Kp e.need).toNat - k; omega) alT (fun w hs => ?_)
     try simp only
     have hb9 : La e.need (k : Int) = false := by revert ht54; cases La e.need (k : Int) <;> simp
     rw [Kh, hb9, if_neg (by decide), List.append_nil]; exact Ah hs
   ·intro ht42
    refine Gl ?_
    have hk4 : k = (Kp e.need).toNat := by omega
    subst hk4
    have er : Gb e line id = Fj e line id (Kp e.need).toNat := by rw [Ta hb, O3 ht30]
    rw [er]
    refine Bs (.inl rfl) (fun B w hs => Ja rfl _ w) (fun w hs => ⟨vs, rfl, Ah hs⟩)
  ·intro ht30
   refine ZD ?_
   refine cdy ?_ ?_
   ·intro ht59
    refine Cf ?_
    refine dn29 ?_
    refine dtl ?_; intro ρ
    refine Am Try.call111 rfl (fun w hs => P3 (e := e) (ms := ms) (kind := 7) (to := e.who) (serial := e.serial) (value := e.value) (al := e.alone) hs hE hA (by omega) (by unfold Msg.wf Ap; simp only; omega)) ?_; intro v90
    refine Gl ?_
    have er : Gb e line id = [⟨7, id, e.who, line, e.serial, e.turn, e.value, e.alone⟩] := by unfold Gb; rw [if_neg ht11, if_neg ht30, if_pos ht59]
    rw [er]
    refine Bs (.inl rfl) (fun B w hs => Ja rfl _ w) (fun w hs => ⟨v90, rfl, Ah hs⟩)
   ·intro ht59
    refine Gl ?_
    have er : Gb e line id = [] := by unfold Gb; rw [if_neg ht11, if_neg ht30, if_neg ht59]
    rw [er, List.append_nil]
    refine Bs (.inl rfl) (fun B w hs => Ja rfl _ w) (fun w hs => ⟨vo, rfl, Ah hs⟩)
theorem Mn {LX : List Chunk} {R : List Fact} {w : World} {vh vo u : Value} {i bk : Nat} {e : Entry} {ms : List Msg} {line id : Int} {xs : List Entry} (hs : St (blk bk 151 [(ep vh 10 i 0), vi line, vi id, vo] :: row 49 vo ms :: foc 80 vh xs i (Entry.cells u e) :: LX) R w) (hA : EpAll vh 10 i) (hone : u.oneCell' = true) (hn : ms.length ≤ 500) (hb : EB e) (hl : Ap line) (hid : Ap id) : Calls Try.prog 103 [bp bk 0].toArray w (Bu (fun v : Value => .tuple #[]) (fun v => blk bk 151 [(ep vh 10 i 0), vi line, vi id, v] :: row 49 v (ms ++ Gb (Bi e) line id) :: foc 80 vh xs i (Entry.cells u (Bi e)) :: LX) (fun v => R)) := by
 have hb0 := hb
 unfold EB Entry.wf Ap at hb0
 have hl0 := hl
 have hid0 := hid
 unfold Ap at hl0 hid0
 refine Ai Try.func103 rfl Try.ntmps103 rfl hs ?_
 clear hs
 refine Gm ?_
 refine rn6 ?_
 refine sc ?_
 refine Gl ?_
 refine Cf ?_
 refine dn14 ?_
 refine djc (fun _ _ => Gi (a := 1) (b := e.who) (Sy (by omega) (by omega))) ?_
 refine djc (fun _ _ => Gi (a := e.sharers) (b := ((2 ^ e.who.toNat : Nat) : Int)) (Oa (by omega) (by omega) (by omega) (by omega))) ?_
 refine ZT ?_;intro ρ
 refine Gm ?_
 refine Ga9 ?_
 refine cdy ?_ ?_
 ·intro ht31
  refine kp [0, 2, 40, 41, 42, 43, 44, 45] ?_
  refine Zam ?_
  refine sc ?_
  refine ZL ?_
  have en : Bi e = { e with need := 0, phase := 1 } := by unfold Bi; rw [if_pos ht31]
  have hbn : EB ({ e with need := 0, phase := 1 }) := en ▸ Dv hb
  refine Am Try.call108 rfl (fun w hs => Jl (e := { e with need := 0, phase := 1 }) (u := u) (ms := ms) (line := line) (id := id) (LX := foc 80 vh xs i [vi e.value, vi e.owner, vi e.sharers, vi 1, vi e.who, vi e.serial, .bool e.alone, vi e.turn, vi 0, u] :: LX) (Ah hs) (Ob .hd rfl) hA hn hbn hl hid) ?_; intro v72
  refine Gl ?_
  rw [en]
  refine Bs (.inl rfl) (fun B w hs => Ja rfl _ w) (fun w hs => ⟨v72, rfl, Ah hs⟩)
 ·intro ht31
  refine Gl ?_
  refine kp [0, 2, 46, 47, 48, 49, 50, 51, 52, 53, 54, 55, 56, 57] ?_
  refine Aa ?_
  refine rn8 ?_
  refine Kj (t := 54) (b := ?b2) ?e2 ?_ ?_; case e2 => exact rfl
  ·intro ht54
   refine Ga4 ?_
   refine cdy ?_ ?_
   ·intro ht46
    refine cq_ (foc 80 vh xs i [vi e.value, vi e.owner, vi e.sharers, vi e.phase, vi e.who, vi e.serial, .bool e.alone, vi e.turn, vi 0, u] :: blk bk 151 [(ep vh 10 i 0), vi line, vi id, vo] :: row 49 vo ms :: LX) ?_
    refine jd_ (fun ρ S => foc 80 vh xs i (bif S 14 then [vi e.value, vi e.owner, vi e.sharers, vi 2, vi e.who, vi e.serial, .bool e.alone, vi e.turn, vi (Hv e.sharers e.who), u] else (bif S 11 then [vi e.value, vi e.owner, vi e.sharers, vi 2, vi e.who, vi e.serial, .bool e.alone, vi e.turn, vi 0, u] else [vi e.value, vi e.owner, vi e.sharers, vi e.phase, vi e.who, vi e.serial, .bool e.alone, vi e.turn, vi 0, u])) :: blk bk 151 [(ep vh 10 i 0), vi line, vi id, vo] :: row 49 vo ms :: (LX)) ?_
    refine dn11 ?_
    refine E2 (T0 := 80) (f := 3) (k := i) (sz := 10) (hv := vh) (xs := xs) (vs := fun ρ => [vi e.value, vi e.owner, vi e.sharers, vi e.phase, vi e.who, vi e.serial, .bool e.alone, vi e.turn, vi 0, u]) (v := fun ρ => (vi 2)) rfl Try.sizeOf3 (fun _ => rfl) (fun _ => rfl) (fun _ _ _ _ _ _ _ _ => rfl) (fun _ => rfl) (fun ρ g S hS hB hA => ?_) ?_
    ·have ui : upS S 11 11 = true := rfl; have u14 : upS S 11 14 = S 14 := rfl; have h14 : S 14 = false := hA 14 ⟨0, rfl⟩
     simp only [ui, hS, u14, h14, cond_true, cond_false]
     exact pex
    refine dn2 ?_
    refine E2 (T0 := 80) (f := 8) (k := i) (sz := 10) (hv := vh) (xs := xs) (vs := fun ρ => [vi e.value, vi e.owner, vi e.sharers, vi 2, vi e.who, vi e.serial, .bool e.alone, vi e.turn, vi 0, u]) (v := fun ρ => (vi (Hv e.sharers e.who))) rfl Try.sizeOf3 (fun _ => rfl) (fun _ => rfl) (fun _ _ _ _ _ _ _ _ => rfl) (fun _ => rfl) (fun ρ g S hS hB hA => ?_) ?_
    ·have ui : upS S 14 14 = true := rfl; have u11 : upS S 14 11 = S 11 := rfl; have h11 : S 11 = true := hB 11 ⟨0, rfl⟩
     simp only [ui, hS, u11, h11, cond_true, cond_false]
     exact pex
    refine dnl ?_; intro ρ
    refine xq_ (foc 80 vh xs i [vi e.value, vi e.owner, vi e.sharers, vi 2, vi e.who, vi e.serial, .bool e.alone, vi e.turn, vi (Hv e.sharers e.who), u] :: blk bk 151 [(ep vh 10 i 0), vi line, vi id, vo] :: row 49 vo ms :: (LX)) ?_
    refine ZL ?_
    have en : Bi e = { e with need := (Hv e.sharers e.who), phase := 2 } := by unfold Bi; rw [if_neg ht31, if_pos ⟨ht54, ht46⟩]
    have hbn : EB ({ e with need := (Hv e.sharers e.who), phase := 2 }) := en ▸ Dv hb
    refine Am Try.call108 rfl (fun w hs => Jl (e := { e with need := (Hv e.sharers e.who), phase := 2 }) (u := u) (ms := ms) (line := line) (id := id) (LX := foc 80 vh xs i [vi e.value, vi e.owner, vi e.sharers, vi 2, vi e.who, vi e.serial, .bool e.alone, vi e.turn, vi (Hv e.sharers e.who), u] :: LX) (Ah hs) (Ob .hd rfl) hA hn hbn hl hid) ?_; intro v72
    refine Gl ?_
    rw [en]
    refine Bs (.inl rfl) (fun B w hs => Ja rfl _ w) (fun w hs => ⟨v72, rfl, Ah hs⟩)
   ·intro ht46
    refine Zam ?_
    refine sc ?_
    refine ZL ?_
    have en : Bi e = { e with need := 0, phase := 3 } := by unfold Bi; rw [if_neg ht31, if_neg (fun h => h.2 (by omega))]
    exact Zfr
  ·intro ht54
   refine Gd4 ?_
   refine rn6 ?_
   refine sc ?_
   refine ZL ?_
   have en : Bi e = { e with need := 0, phase := 3 } := by unfold Bi; rw [if_neg ht31, if_neg (fun h => by rw [h.1] at ht54; cases ht54)]
   exact Zfr
theorem Ym {LX : List Chunk} {R : List Fact} {w : World} {vh vo u : Value} {i bk : Nat} {e : Entry} {ms : List Msg} {line id : Int} {xs : List Entry} {bm : Nat} {m : Msg} (hs : St (blk bk 151 [(ep vh 10 i 0), vi line, vi id, vo] :: row 49 vo ms :: foc 80 vh xs i (Entry.cells u e) :: row 3 u e.last :: blk bm 49 m.cells :: LX) R w) (hA : EpAll vh 10 i) (hone : u.oneCell' = true) (hn : ms.length ≤ 500) (hb : EB e) (hl : Ap line) (hid : Ap id) (hm : m.wf) (hline : m.line = line) (hsrc : 0 ≤ m.src ∧ m.src < (e.last.length : Int)) (hla : e.last.length ≤ 4) (hk : m.kind = 1 ∨ m.kind = 2) : Calls Try.prog 101 [bp bk 0, bp bm 0].toArray w (Bu (fun v : Value => .tuple #[]) (fun v => blk bk 151 [(ep vh 10 i 0), vi line, vi id, v] :: row 49 v (ms ++ (Ag e id m).2) :: foc 80 vh xs i (Entry.cells u (Ag e id m).1) :: row 3 u (Ag e id m).1.last :: blk bm 49 m.cells :: LX) (fun v => R)) := by
 have hb0 := hb
 unfold EB Entry.wf Ap at hb0
 have hl0 := hl
 have hid0 := hid
 unfold Ap at hl0 hid0
 have hm0 := hm
 unfold Msg.wf Ap at hm0
 refine Ai Try.func101 rfl Try.ntmps101 rfl hs ?_
 clear hs
 refine Gl ?_
 rcases (show (e.phase ≠ 0) ∨ (e.phase = 0 ∧ m.serial ≤ e.last.getD m.src.toNat 0) ∨ (e.phase = 0 ∧ e.last.getD m.src.toNat 0 < m.serial ∧ 65535 ≤ e.turn) ∨ (e.phase = 0 ∧ e.last.getD m.src.toNat 0 < m.serial ∧ e.turn < 65535) from by omega) with hc | hc | hc | hc
 ·refine ZaU ?_
  refine djc (fun _ _ => Ao rfl rfl (Gk (by omega))) ?_
  refine djm ?_
  refine dn18 ?_
  refine Zak ?_
  refine dn8 ?_
  refine ZS ?_
  refine Zdm ?_;intro ρ er
  exact ZfN
 ·refine Zdt ?_
  refine dj (dgy ?_)
  refine Zd2 ?_
  refine dj (dgy ?_)
  refine dc (fun _ _ => Ao rfl rfl (Lq (by omega))) ?_
  refine Zad ?_
  refine dn8 ?_
  refine ZS ?_
  refine Zdm ?_;intro ρ er
  exact ZfN
 ·refine Zdt ?_
  refine dj (dgy ?_)
  refine Zd2 ?_
  refine dj (dgy ?_)
  refine ZbC ?_
  refine dn7 ?_
  refine dj (dgy ?_)
  refine ZbY ?_
  refine djf ?_
  refine Zdm ?_;intro ρ er
  exact ZfN
 ·refine Zdt ?_
  refine dj (dgy ?_)
  refine Zd2 ?_
  refine dj (dgy ?_)
  refine ZbC ?_
  refine dn7 ?_
  refine dj (dgy ?_)
  refine dc (fun _ _ => Ao rfl rfl (Cp (by omega))) ?_
  refine djf ?_
  refine dnl ?_; intro ρ
  refine Glc ?_
  refine kp [0, 1, 42, 43, 44, 45, 46, 47, 48, 49, 50, 51, 52, 53, 54, 55, 56, 57] ?_
  refine Cf ?_
  refine dn16 ?_
  refine dtl ?_; intro ρ
  refine Fa (xs := e.last) Try.sizeOf3 rfl rfl pkk (getD_some 0 (by omega)) hm.2.2.2.2.1 ?_
  refine Gl ?_
  refine ZdZ ?_
  refine jd_ (fun ρ S => foc 80 vh xs i (bif S 33 then [vi e.value, vi e.owner, vi e.sharers, vi e.phase, vi m.src, vi m.serial, .bool (decide (m.kind = 2)), vi e.turn, vi e.need, u] else (bif S 30 then [vi e.value, vi e.owner, vi e.sharers, vi e.phase, vi m.src, vi m.serial, .bool e.alone, vi e.turn, vi e.need, u] else (bif S 27 then [vi e.value, vi e.owner, vi e.sharers, vi e.phase, vi m.src, vi e.serial, .bool e.alone, vi e.turn, vi e.need, u] else [vi e.value, vi e.owner, vi e.sharers, vi e.phase, vi e.who, vi e.serial, .bool e.alone, vi e.turn, vi e.need, u]))) :: blk bk 151 [(ep vh 10 i 0), vi line, vi id, vo] :: row 49 vo ms :: row 3 u (e.last.set m.src.toNat m.serial) :: blk bm 49 m.cells :: (LX)) ?_
  refine dn27 ?_
  refine E2 (T0 := 80) (f := 4) (k := i) (sz := 10) (hv := vh) (xs := xs) (vs := fun ρ => [vi e.value, vi e.owner, vi e.sharers, vi e.phase, vi e.who, vi e.serial, .bool e.alone, vi e.turn, vi e.need, u]) (v := fun ρ => (vi m.src)) rfl Try.sizeOf3 (fun _ => rfl) (fun _ => rfl) (fun _ _ _ _ _ _ _ _ => rfl) (fun _ => rfl) (fun ρ g S hS hB hA => ?_) ?_
  ·have ui : upS S 27 27 = true := rfl; have u30 : upS S 27 30 = S 30 := rfl; have u33 : upS S 27 33 = S 33 := rfl; have h30 : S 30 = false := hA 30 ⟨0, rfl⟩; have h33 : S 33 = false := hA 33 ⟨0, rfl⟩
   simp only [ui, hS, u30, u33, h30, h33, cond_true, cond_false]
   exact pex
  refine dn2 ?_
  refine E2 (T0 := 80) (f := 5) (k := i) (sz := 10) (hv := vh) (xs := xs) (vs := fun ρ => [vi e.value, vi e.owner, vi e.sharers, vi e.phase, vi m.src, vi e.serial, .bool e.alone, vi e.turn, vi e.need, u]) (v := fun ρ => (vi m.serial)) rfl Try.sizeOf3 (fun _ => rfl) (fun _ => rfl) (fun _ _ _ _ _ _ _ _ => rfl) (fun _ => rfl) (fun ρ g S hS hB hA => ?_) ?_
  ·have ui : upS S 30 30 = true := rfl; have u27 : upS S 30 27 = S 27 := rfl; have u33 : upS S 30 33 = S 33 := rfl; have h27 : S 27 = true := hB 27 ⟨0, rfl⟩; have h33 : S 33 = false := hA 33 ⟨0, rfl⟩
   simp only [ui, hS, u27, u33, h27, h33, cond_true, cond_false]
   exact pex
  refine dn2 ?_
  refine E2 (T0 := 80) (f := 6) (k := i) (sz := 10) (hv := vh) (xs := xs) (vs := fun ρ => [vi e.value, vi e.owner, vi e.sharers, vi e.phase, vi m.src, vi m.serial, .bool e.alone, vi e.turn, vi e.need, u]) (v := fun ρ => (.bool (decide (m.kind = 2)))) rfl Try.sizeOf4 (fun _ => rfl) (fun _ => rfl) (fun _ _ _ _ _ _ _ _ => rfl) (fun _ => rfl) (fun ρ g S hS hB hA => ?_) ?_
  ·have ui : upS S 33 33 = true := rfl; have u27 : upS S 33 27 = S 27 := rfl; have u30 : upS S 33 30 = S 30 := rfl; have h27 : S 27 = true := hB 27 ⟨0, rfl⟩; have h30 : S 30 = true := hB 30 ⟨0, rfl⟩
   simp only [ui, hS, u27, u30, h27, h30, cond_true, cond_false]
   exact pex
  refine dnl ?_; intro ρ
  refine xq_ (foc 80 vh xs i [vi e.value, vi e.owner, vi e.sharers, vi e.phase, vi m.src, vi m.serial, .bool (decide (m.kind = 2)), vi e.turn, vi e.need, u] :: blk bk 151 [(ep vh 10 i 0), vi line, vi id, vo] :: row 49 vo ms :: row 3 u (e.last.set m.src.toNat m.serial) :: blk bm 49 m.cells :: (LX)) ?_
  refine Gl ?_
  refine kp [0, 89, 90, 91, 92, 93, 94, 95, 96, 97, 98] ?_
  refine Aa ?_
  refine rn10 ?_
  refine sc ?_
  refine ZL ?_
  have hX : EB ({ e with last := (e.last.set m.src.toNat m.serial), who := m.src, serial := m.serial, alone := m.kind == 2, turn := e.turn + 1 }) := by unfold EB Entry.wf Ap; simp only; omega
  refine Am Try.call103 rfl (fun w hs => Mn (e := { e with last := (e.last.set m.src.toNat m.serial), who := m.src, serial := m.serial, alone := m.kind == 2, turn := e.turn + 1 }) (u := u) (ms := ms) (line := line) (id := id) (xs := xs) (LX := row 3 u (e.last.set m.src.toNat m.serial) :: blk bm 49 m.cells :: LX) (Ah hs) hA hone hn hX hl hid) ?_; intro v100
  refine Gl ?_
  have er : Ag e id m = (Bi ({ e with last := (e.last.set m.src.toNat m.serial), who := m.src, serial := m.serial, alone := m.kind == 2, turn := e.turn + 1 }), Gb (Bi ({ e with last := (e.last.set m.src.toNat m.serial), who := m.src, serial := m.serial, alone := m.kind == 2, turn := e.turn + 1 })) m.line id) := by unfold Ag; rw [if_pos (by omega), if_neg (by unfold Dx; omega)]; rfl
  rw [er, hline, Dl]
  refine Bs (.inl rfl) (fun B w hs => Ja rfl _ w) (fun w hs => ⟨v100, rfl, Ah hs⟩)
theorem Agv {LX : List Chunk} {R : List Fact} {w : World} {vh vo u : Value} {i bk : Nat} {e : Entry} {ms : List Msg} {line id : Int} {xs : List Entry} {bm : Nat} {m : Msg} (hs : St (blk bk 151 [(ep vh 10 i 0), vi line, vi id, vo] :: row 49 vo ms :: foc 80 vh xs i (Entry.cells u e) :: row 3 u e.last :: blk bm 49 m.cells :: LX) R w) (hA : EpAll vh 10 i) (hone : u.oneCell' = true) (hn : ms.length ≤ 500) (hb : EB e) (hl : Ap line) (hid : Ap id) (hm : m.wf) (hline : m.line = line) (hsrc : 0 ≤ m.src ∧ m.src < (e.last.length : Int)) (hla : e.last.length ≤ 4) (hk : m.kind = 3) : Calls Try.prog 102 [bp bk 0, bp bm 0].toArray w (Bu (fun v : Value => .tuple #[]) (fun v => blk bk 151 [(ep vh 10 i 0), vi line, vi id, v] :: row 49 v (ms ++ (Ag e id m).2) :: foc 80 vh xs i (Entry.cells u (Ag e id m).1) :: row 3 u (Ag e id m).1.last :: blk bm 49 m.cells :: LX) (fun v => R)) := by
 have hb0 := hb
 unfold EB Entry.wf Ap at hb0
 have hl0 := hl
 have hid0 := hid
 unfold Ap at hl0 hid0
 have hm0 := hm
 unfold Msg.wf Ap at hm0
 refine Ai Try.func102 rfl Try.ntmps102 rfl hs ?_
 clear hs
 refine Gm ?_
 refine Ga8 ?_
 refine cdy ?_ ?_
 ·intro ht11
  refine Gl ?_
  have er : Ag e id m = (e, []) := by unfold Ag; rw [if_neg (by omega), if_pos (by omega), if_pos ht11]
  rw [er, List.append_nil]
  exact ZfN
 ·intro ht11
  refine Gl ?_
  refine Cf ?_
  refine dn16 ?_
  refine djc (fun _ _ => Da (hc := Eg (xs := e.last) pkk (by omega)) Try.isAgg3) ?_
  refine djc (fun _ _ => Gi S0) ?_
  refine dnl ?_; intro ρ
  refine Gl ?_
  refine cdy ?_ ?_
  ·intro ht29
   refine Gl ?_
   refine Cf ?_
   refine dn16 ?_
   refine dtl ?_; intro ρ
   refine Fa (xs := e.last) Try.sizeOf3 rfl rfl pkk (getD_some 0 (by omega)) hm.2.2.2.2.1 ?_
   refine Gl ?_
   refine kp [0, 1, 46, 47, 48, 49, 50, 51, 52, 53, 54, 55, 56, 57] ?_
   refine Cf ?_
   refine dn12 ?_
   refine dnl ?_; intro ρ
   refine Gl ?_
   refine cdy ?_ ?_
   ·intro ht57
    refine ZdZ ?_
    refine jd_ (fun ρ S => foc 80 vh xs i (bif S 17 then [vi m.value, vi (-1), vi e.sharers, vi e.phase, vi e.who, vi e.serial, .bool e.alone, vi e.turn, vi e.need, u] else (bif S 14 then [vi m.value, vi e.owner, vi e.sharers, vi e.phase, vi e.who, vi e.serial, .bool e.alone, vi e.turn, vi e.need, u] else [vi e.value, vi e.owner, vi e.sharers, vi e.phase, vi e.who, vi e.serial, .bool e.alone, vi e.turn, vi e.need, u])) :: blk bk 151 [(ep vh 10 i 0), vi line, vi id, vo] :: row 49 vo ms :: row 3 u (e.last.set m.src.toNat m.serial) :: blk bm 49 m.cells :: (LX)) ?_
    refine dn14 ?_
    refine E2 (T0 := 80) (f := 0) (k := i) (sz := 10) (hv := vh) (xs := xs) (vs := fun ρ => [vi e.value, vi e.owner, vi e.sharers, vi e.phase, vi e.who, vi e.serial, .bool e.alone, vi e.turn, vi e.need, u]) (v := fun ρ => (vi m.value)) rfl Try.sizeOf3 (fun _ => rfl) (fun _ => rfl) (fun _ _ _ _ _ _ _ _ => rfl) (fun _ => rfl) (fun ρ g S hS hB hA => ?_) ?_
    ·have ui : upS S 14 14 = true := rfl; have u17 : upS S 14 17 = S 17 := rfl; have h17 : S 17 = false := hA 17 ⟨0, rfl⟩
     simp only [ui, hS, u17, h17, cond_true, cond_false]
     exact pex
    refine dn2 ?_
    refine E2 (T0 := 80) (f := 1) (k := i) (sz := 10) (hv := vh) (xs := xs) (vs := fun ρ => [vi m.value, vi e.owner, vi e.sharers, vi e.phase, vi e.who, vi e.serial, .bool e.alone, vi e.turn, vi e.need, u]) (v := fun ρ => (vi (-1))) rfl Try.sizeOf3 (fun _ => rfl) (fun _ => rfl) (fun _ _ _ _ _ _ _ _ => rfl) (fun _ => rfl) (fun ρ g S hS hB hA => ?_) ?_
    ·have ui : upS S 17 17 = true := rfl; have u14 : upS S 17 14 = S 14 := rfl; have h14 : S 14 = true := hB 14 ⟨0, rfl⟩
     simp only [ui, hS, u14, h14, cond_true, cond_false]
     exact pex
    refine dnl ?_; intro ρ
    refine xq_ (foc 80 vh xs i [vi m.value, vi (-1), vi e.sharers, vi e.phase, vi e.who, vi e.serial, .bool e.alone, vi e.turn, vi e.need, u] :: blk bk 151 [(ep vh 10 i 0), vi line, vi id, vo] :: row 49 vo ms :: row 3 u (e.last.set m.src.toNat m.serial) :: blk bm 49 m.cells :: (LX)) ?_
    refine Gl ?_
    refine Zdx ?_;intro hwf
    refine cq_ (blk bk 151 [(ep vh 10 i 0), vi line, vi id, vo] :: row 49 vo ms :: foc 80 vh xs i [vi m.value, vi (-1), vi e.sharers, vi e.phase, vi e.who, vi e.serial, .bool e.alone, vi e.turn, vi e.need, u] :: row 3 u (e.last.set m.src.toNat m.serial) :: blk bm 49 m.cells :: LX) ?_
    refine jd_ (fun ρ S => blk bk 151 (bif S 26 then [(ep vh 10 i 0), vi line, vi id, (Gh.dec (γ := Value) (ρ 23))] else [(ep vh 10 i 0), vi line, vi id, vo]) :: (bif S 23 then row 49 (Gh.dec (γ := Value) (ρ 23)) (ms ++ [(⟨11, id, m.src, line, m.serial, 0, 0, false⟩ : Msg)]) else row 49 vo ms) :: foc 80 vh xs i [vi m.value, vi (-1), vi e.sharers, vi e.phase, vi e.who, vi e.serial, .bool e.alone, vi e.turn, vi e.need, u] :: row 3 u (e.last.set m.src.toNat m.serial) :: blk bm 49 m.cells :: (LX)) ?_
    refine dn4 ?_
    refine I5 (v := vo) (fun ρ S hS hB hA => by have h26 : S 26 = false := hA 26 ⟨0, rfl⟩; simp only [h26, cond_false]; exact Da (hc := A9 pkk (by repeat (first | exact rfl | refine Dk rfl ?_))) Try.isAgg86) (fun _ _ _ _ _ => rfl) ?_
    refine dn3 ?_
    refine I5 (v := vi id) (fun ρ S hS hB hA => by have h26 : S 26 = false := hA 26 ⟨0, rfl⟩; simp only [h26, cond_false]; exact Da (hc := A9 pkk (by repeat (first | exact rfl | refine Dk rfl ?_))) Try.isAgg3) (fun _ _ _ _ _ => rfl) ?_
    refine dn7 ?_
    refine I5 (v := vi line) (fun ρ S hS hB hA => by have h26 : S 26 = false := hA 26 ⟨0, rfl⟩; simp only [h26, cond_false]; exact Da (hc := A9 pkk (by repeat (first | exact rfl | refine Dk rfl ?_))) Try.isAgg3) (fun _ _ _ _ _ => rfl) ?_
    refine dn4 ?_
    first | refine epc (fun _ _ => Ej En) ?_ | refine epc (fun _ _ => Fz En) ?_ | refine epp (fun _ _ => Ej En) ?_ | refine epp (fun _ _ => Fz En) ?_
    refine Zdf ?_
    refine F7 (e := 49) (xs := ms) (ys := [(⟨11, id, m.src, line, m.serial, 0, 0, false⟩ : Msg)]) (v := vo) Gd (fun _ => rfl) (fun _ => rfl) rfl (by decide) (fun ρ R hd => (hd.dep (it := ⟨22, _, _, _, _⟩) (by repeat (first | exact List.Mem.head _ | refine List.Mem.tail _ ?_)) ⟨9, rfl⟩ (List.Mem.head _))) (by have : maxN = 16777216 := rfl; simp only [List.length_cons, List.length_nil]; omega) (fun ρ g S hS hB hA => ?_) ?_
    ·exact Zfp
    refine dn2 ?_
    refine Er (T0 := 151) (f := 3) (vs := fun ρ => [(ep vh 10 i 0), vi line, vi id, vo]) (v := fun ρ => (Gh.dec (γ := Value) (ρ 23))) (fun ρ => bk) Try.sizeOf86 (fun _ => rfl) (fun _ => rfl) (fun ρ S R w L9 hB hd hs => by have h23 : S 23 = true := hB 23 ⟨9, rfl⟩; simp only [h23, cond_true] at hs; exact Cm pkk hs) (fun _ => rfl) (fun ρ g S hS hB hA => ?_) ?_
    ·exact Zfz
    refine dnl ?_; intro ρ
    refine xq_ (blk bk 151 [(ep vh 10 i 0), vi line, vi id, (Gh.dec (γ := Value) (ρ 23))] :: row 49 (Gh.dec (γ := Value) (ρ 23)) (ms ++ [(⟨11, id, m.src, line, m.serial, 0, 0, false⟩ : Msg)]) :: foc 80 vh xs i [vi m.value, vi (-1), vi e.sharers, vi e.phase, vi e.who, vi e.serial, .bool e.alone, vi e.turn, vi e.need, u] :: row 3 u (e.last.set m.src.toNat m.serial) :: blk bm 49 m.cells :: (LX)) ?_
    generalize (Gh.dec (γ := Value) (ρ 22)) = v96
    generalize (Gh.dec (γ := Value) (ρ 23)) = v97
    have er : Ag e id m = ({ e with last := (e.last.set m.src.toNat m.serial), value := m.value, owner := -1 }, [(⟨11, id, m.src, line, m.serial, 0, 0, false⟩ : Msg)]) := by unfold Ag; rw [if_neg (by omega), if_pos (by omega), if_neg ht11]; rw [hline]; unfold E1; rw [if_pos (by unfold Dx; omega), if_pos ht57]
    rw [er]
    refine Bs (.inl rfl) (fun B w hs => Ja rfl _ w) (fun w hs => ⟨v97, rfl, Ah hs⟩)
   ·intro ht57
    refine Gl ?_
    refine Zdx ?_;intro hwf
    refine cq_ (blk bk 151 [(ep vh 10 i 0), vi line, vi id, vo] :: row 49 vo ms :: foc 80 vh xs i [vi e.value, vi e.owner, vi e.sharers, vi e.phase, vi e.who, vi e.serial, .bool e.alone, vi e.turn, vi e.need, u] :: row 3 u (e.last.set m.src.toNat m.serial) :: blk bm 49 m.cells :: LX) ?_
    refine jd_ (fun ρ S => blk bk 151 (bif S 26 then [(ep vh 10 i 0), vi line, vi id, (Gh.dec (γ := Value) (ρ 23))] else [(ep vh 10 i 0), vi line, vi id, vo]) :: (bif S 23 then row 49 (Gh.dec (γ := Value) (ρ 23)) (ms ++ [(⟨11, id, m.src, line, m.serial, 0, 0, false⟩ : Msg)]) else row 49 vo ms) :: foc 80 vh xs i [vi e.value, vi e.owner, vi e.sharers, vi e.phase, vi e.who, vi e.serial, .bool e.alone, vi e.turn, vi e.need, u] :: row 3 u (e.last.set m.src.toNat m.serial) :: blk bm 49 m.cells :: (LX)) ?_
    refine dn4 ?_
    refine I5 (v := vo) (fun ρ S hS hB hA => by have h26 : S 26 = false := hA 26 ⟨0, rfl⟩; simp only [h26, cond_false]; exact Da (hc := A9 pkk (by repeat (first | exact rfl | refine Dk rfl ?_))) Try.isAgg86) (fun _ _ _ _ _ => rfl) ?_
    refine dn3 ?_
    refine I5 (v := vi id) (fun ρ S hS hB hA => by have h26 : S 26 = false := hA 26 ⟨0, rfl⟩; simp only [h26, cond_false]; exact Da (hc := A9 pkk (by repeat (first | exact rfl | refine Dk rfl ?_))) Try.isAgg3) (fun _ _ _ _ _ => rfl) ?_
    refine dn7 ?_
    refine I5 (v := vi line) (fun ρ S hS hB hA => by have h26 : S 26 = false := hA 26 ⟨0, rfl⟩; simp only [h26, cond_false]; exact Da (hc := A9 pkk (by repeat (first | exact rfl | refine Dk rfl ?_))) Try.isAgg3) (fun _ _ _ _ _ => rfl) ?_
    refine dn4 ?_
    first | refine epc (fun _ _ => Ej En) ?_ | refine epc (fun _ _ => Fz En) ?_ | refine epp (fun _ _ => Ej En) ?_ | refine epp (fun _ _ => Fz En) ?_
    refine Zdf ?_
    refine F7 (e := 49) (xs := ms) (ys := [(⟨11, id, m.src, line, m.serial, 0, 0, false⟩ : Msg)]) (v := vo) Gd (fun _ => rfl) (fun _ => rfl) rfl (by decide) (fun ρ R hd => (hd.dep (it := ⟨22, _, _, _, _⟩) (by repeat (first | exact List.Mem.head _ | refine List.Mem.tail _ ?_)) ⟨9, rfl⟩ (List.Mem.head _))) (by have : maxN = 16777216 := rfl; simp only [List.length_cons, List.length_nil]; omega) (fun ρ g S hS hB hA => ?_) ?_
    ·exact Zfp
    refine dn2 ?_
    refine Er (T0 := 151) (f := 3) (vs := fun ρ => [(ep vh 10 i 0), vi line, vi id, vo]) (v := fun ρ => (Gh.dec (γ := Value) (ρ 23))) (fun ρ => bk) Try.sizeOf86 (fun _ => rfl) (fun _ => rfl) (fun ρ S R w L9 hB hd hs => by have h23 : S 23 = true := hB 23 ⟨9, rfl⟩; simp only [h23, cond_true] at hs; exact Cm pkk hs) (fun _ => rfl) (fun ρ g S hS hB hA => ?_) ?_
    ·exact Zfz
    refine dnl ?_; intro ρ
    refine xq_ (blk bk 151 [(ep vh 10 i 0), vi line, vi id, (Gh.dec (γ := Value) (ρ 23))] :: row 49 (Gh.dec (γ := Value) (ρ 23)) (ms ++ [(⟨11, id, m.src, line, m.serial, 0, 0, false⟩ : Msg)]) :: foc 80 vh xs i [vi e.value, vi e.owner, vi e.sharers, vi e.phase, vi e.who, vi e.serial, .bool e.alone, vi e.turn, vi e.need, u] :: row 3 u (e.last.set m.src.toNat m.serial) :: blk bm 49 m.cells :: (LX)) ?_
    generalize (Gh.dec (γ := Value) (ρ 22)) = v96
    generalize (Gh.dec (γ := Value) (ρ 23)) = v97
    have er : Ag e id m = ({ e with last := (e.last.set m.src.toNat m.serial) }, [(⟨11, id, m.src, line, m.serial, 0, 0, false⟩ : Msg)]) := by unfold Ag; rw [if_neg (by omega), if_pos (by omega), if_neg ht11]; rw [hline]; unfold E1; rw [if_pos (by unfold Dx; omega), if_neg ht57]
    rw [er]
    refine Bs (.inl rfl) (fun B w hs => Ja rfl _ w) (fun w hs => ⟨v97, rfl, Ah hs⟩)
  ·intro ht29
   refine Gl ?_
   refine Zdx ?_;intro hwf
   refine cq_ (blk bk 151 [(ep vh 10 i 0), vi line, vi id, vo] :: row 49 vo ms :: foc 80 vh xs i [vi e.value, vi e.owner, vi e.sharers, vi e.phase, vi e.who, vi e.serial, .bool e.alone, vi e.turn, vi e.need, u] :: row 3 u e.last :: blk bm 49 m.cells :: LX) ?_
   refine jd_ (fun ρ S => blk bk 151 (bif S 26 then [(ep vh 10 i 0), vi line, vi id, (Gh.dec (γ := Value) (ρ 23))] else [(ep vh 10 i 0), vi line, vi id, vo]) :: (bif S 23 then row 49 (Gh.dec (γ := Value) (ρ 23)) (ms ++ [(⟨11, id, m.src, line, m.serial, 0, 0, false⟩ : Msg)]) else row 49 vo ms) :: foc 80 vh xs i [vi e.value, vi e.owner, vi e.sharers, vi e.phase, vi e.who, vi e.serial, .bool e.alone, vi e.turn, vi e.need, u] :: row 3 u e.last :: blk bm 49 m.cells :: (LX)) ?_
   refine dn4 ?_
   refine I5 (v := vo) (fun ρ S hS hB hA => by have h26 : S 26 = false := hA 26 ⟨0, rfl⟩; simp only [h26, cond_false]; exact Da (hc := A9 pkk (by repeat (first | exact rfl | refine Dk rfl ?_))) Try.isAgg86) (fun _ _ _ _ _ => rfl) ?_
   refine dn3 ?_
   refine I5 (v := vi id) (fun ρ S hS hB hA => by have h26 : S 26 = false := hA 26 ⟨0, rfl⟩; simp only [h26, cond_false]; exact Da (hc := A9 pkk (by repeat (first | exact rfl | refine Dk rfl ?_))) Try.isAgg3) (fun _ _ _ _ _ => rfl) ?_
   refine dn7 ?_
   refine I5 (v := vi line) (fun ρ S hS hB hA => by have h26 : S 26 = false := hA 26 ⟨0, rfl⟩; simp only [h26, cond_false]; exact Da (hc := A9 pkk (by repeat (first | exact rfl | refine Dk rfl ?_))) Try.isAgg3) (fun _ _ _ _ _ => rfl) ?_
   refine dn4 ?_
   first | refine epc (fun _ _ => Ej En) ?_ | refine epc (fun _ _ => Fz En) ?_ | refine epp (fun _ _ => Ej En) ?_ | refine epp (fun _ _ => Fz En) ?_
   refine Zdf ?_
   refine F7 (e := 49) (xs := ms) (ys := [(⟨11, id, m.src, line, m.serial, 0, 0, false⟩ : Msg)]) (v := vo) Gd (fun _ => rfl) (fun _ => rfl) rfl (by decide) (fun ρ R hd => (hd.dep (it := ⟨22, _, _, _, _⟩) (by repeat (first | exact List.Mem.head _ | refine List.Mem.tail _ ?_)) ⟨9, rfl⟩ (List.Mem.head _))) (by have : maxN = 16777216 := rfl; simp only [List.length_cons, List.length_nil]; omega) (fun ρ g S hS hB hA => ?_) ?_
   ·exact Zfp
   refine dn2 ?_
   refine Er (T0 := 151) (f := 3) (vs := fun ρ => [(ep vh 10 i 0), vi line, vi id, vo]) (v := fun ρ => (Gh.dec (γ := Value) (ρ 23))) (fun ρ => bk) Try.sizeOf86 (fun _ => rfl) (fun _ => rfl) (fun ρ S R w L9 hB hd hs => by have h23 : S 23 = true := hB 23 ⟨9, rfl⟩; simp only [h23, cond_true] at hs; exact Cm pkk hs) (fun _ => rfl) (fun ρ g S hS hB hA => ?_) ?_
   ·exact Zfz
   refine dnl ?_; intro ρ
   refine xq_ (blk bk 151 [(ep vh 10 i 0), vi line, vi id, (Gh.dec (γ := Value) (ρ 23))] :: row 49 (Gh.dec (γ := Value) (ρ 23)) (ms ++ [(⟨11, id, m.src, line, m.serial, 0, 0, false⟩ : Msg)]) :: foc 80 vh xs i [vi e.value, vi e.owner, vi e.sharers, vi e.phase, vi e.who, vi e.serial, .bool e.alone, vi e.turn, vi e.need, u] :: row 3 u e.last :: blk bm 49 m.cells :: (LX)) ?_
   generalize (Gh.dec (γ := Value) (ρ 22)) = v96
   generalize (Gh.dec (γ := Value) (ρ 23)) = v97
   have er : Ag e id m = (e, [(⟨11, id, m.src, line, m.serial, 0, 0, false⟩ : Msg)]) := by unfold Ag; rw [if_neg (by omega), if_pos (by omega), if_neg ht11]; rw [hline]; unfold E1; rw [if_neg (by unfold Dx; omega)]
   rw [er]
   refine Bs (.inl rfl) (fun B w hs => Ja rfl _ w) (fun w hs => ⟨v97, rfl, Ah hs⟩)
theorem Es {e : Entry} {id : Int} {m : Msg} (he : EB e) (hm : m.wf) (hs : 0 ≤ m.src ∧ m.src < 4) : EB (Ag e id m).1 := by
 have h0 := he
 unfold EB Entry.wf Ap at h0
 have hm0 := hm
 unfold Msg.wf Ap at hm0
 have b1 := Cz h0.2.1.1 h0.2.1.2 hs.1 hs.2
 have b2 := Cz h0.2.2.1.1 h0.2.2.1.2 hs.1 hs.2
 unfold Ag
 split
 ·split
  ·exact he
  ·refine Dv ?_
   exact ZfY
 split
 ·split
  ·exact he
  ·show EB (E1 e m)
   unfold E1
   split
   ·split
    ·exact ZfY
    ·exact he
   ·exact he
 split
 ·rename_i k3
  have hs4 : 0 ≤ (if e.alone = true then e.sharers else I1 e.sharers e.owner) ∧ (if e.alone = true then e.sharers else I1 e.sharers e.owner) < 16 := by
   split
   ·omega
   ·obtain ⟨_, _, r, _⟩ := Cz h0.2.1.1 h0.2.1.2 (show 0 ≤ e.owner by omega) h0.2.2.2.2.1.2; exact r
  refine Dv ?_
  exact Zg1
 have hg : EB (Co e m) := by
  have c1 := b1.2.2.2; have c2 := b2.2.2.2
  unfold Co EB Entry.wf Ap; simp only; omega
 split
 ·split
  ·exact Dv hg
  ·exact hg
 split
 ·show EB (Di e)
  unfold Di
  split
  ·exact ZfY
  ·obtain ⟨_, _, r, _⟩ := Cz h0.2.1.1 h0.2.1.2 h0.2.2.2.1.1 h0.2.2.2.1.2
   exact ZfY
 ·exact he
theorem Uo (e : Entry) (i id : Int) : (Gb e i id).length ≤ 4 := by
 unfold Gb; split
 ·simp
 split
 ·rw [List.length_map]; exact Nat.le_trans (List.length_filter_le ..) (by simp)
 split <;> simp
theorem Lx (id : Int) : ∀ (l : List Entry) (i : Int), (De id i l).length ≤ 4 * l.length
 | [], _ => by simp [De]
 | e :: l, i => by
  have := Lx id l (i + 1)
  have := Uo e i id
  simp only [De, List.length_append, List.length_cons]; omega
theorem q_max {P : Program} {n : Nat} {L : List Chunk} {R : List Fact} {al : List (Nat × Value)} {d : Nat} {x : Operand} {T ty : TypeId} {pos : String} {aft : Array Edge} {a : Int} (hx : ev n al x = some (vi a)) (h0 : 0 ≤ a) : Bb P n al L R ⟨some d, .call { callee := .builtin .max, args := #[x, .const (.int .i64 0)], argTypes := #[T, T] }, ty, pos, aft, none⟩ (vi a) :=
 ⟨rfl, fun ρ w h _ => by
  have hx' := h x (by simp [Op.operands, Call.operands]) _ hx
  have hc' := h (.const (.int .i64 0)) (by simp [Op.operands, Call.operands]) _ rfl
  simp [execOp, resolve, invoke, builtin, hx', hc', Builtin.max_, Builtin.max2, show ¬ (a < 0) from by omega]⟩
theorem Wl {v0 : Value} {l : List Entry} {id : Int} {m : Msg} (hs : St (L) R w) (h0 : sl v0 l ∈ R) (hb : ∀ i, i < l.length → EB (l.getD i A7)) (hla : ∀ i, i < l.length → (l.getD i A7).last.length ≤ 4) (hm : m.wf) (hid : Ap id) (hk : ¬ (0 ≤ m.line ∧ m.line < (l.length : Int) ∧ 0 ≤ m.src ∧ m.src < ((Ad l m.line).last.length : Int))) : Calls Try.prog 76 [v0, vi id, .agg m.cells.toArray].toArray w (Bu (fun v : Value × Value => .tuple #[v.1, v.2]) (fun v => L) (fun v => sl v.1 (Al l id m).1 :: sl v.2 (Al l id m).2 :: R)) := by
 refine Zbc ?_;intro hlen hm0 hid0
 clear hs
 refine ZaY ?_;intro b5 g13
 rcases (show (m.line < 0) ∨ (¬ m.line < 0 ∧ (l.length : Int) ≤ m.line) ∨ (¬ m.line < 0 ∧ m.line < (l.length : Int) ∧ m.src < 0) ∨ (¬ m.line < 0 ∧ m.line < (l.length : Int) ∧ 0 ≤ m.src ∧ ((Ad l m.line).last.length : Int) ≤ m.src) from by omega) with hc | hc | hc | hc
 ·refine JC.conseq (L' := blk b5 49 m.cells :: L) (R' := sl g13.1 l :: R) (fun w hs => by
   have h1 : g13.2.map EV.e = l := H8 (.head _) hs
   have h2 := N0 hs
   rw [h1] at h2
   exact h2.sub .refl (fun f hf => by
    rcases List.mem_cons.1 hf with e | e
    ·
     exact List.mem_cons.2 (.inl e)
    ·
     exact List.mem_cons.2 (.inr (.tail _ e)))) ?_
  refine Ze1 ?_
  refine Zc5 ?_;intro ρ er
  exact Cn (g13.1, .slice none 0 0) (hs := fun w hs => Ah (St.shut (hs.rowNil 49 Msg)))
 ·refine JC.conseq (L' := blk b5 49 m.cells :: L) (R' := sl g13.1 l :: R) (fun w hs => by
   have h1 : g13.2.map EV.e = l := H8 (.head _) hs
   have h2 := N0 hs
   rw [h1] at h2
   exact h2.sub .refl (fun f hf => by
    rcases List.mem_cons.1 hf with e | e
    ·
     exact List.mem_cons.2 (.inl e)
    ·
     exact List.mem_cons.2 (.inr (.tail _ e)))) ?_
  refine ZbL ?_
  refine dj (dgy ?_)
  refine ZbY ?_
  refine Zad ?_
  refine dn3 ?_
  refine Zak ?_
  refine Y5 ?_
  refine ZS ?_
  refine Zc5 ?_;intro ρ er
  exact Cn (g13.1, .slice none 0 0) (hs := fun w hs => Ah (St.shut (hs.rowNil 49 Msg)))
 ·refine JC.conseq (L' := blk b5 49 m.cells :: L) (R' := sl g13.1 l :: R) (fun w hs => by
   have h1 : g13.2.map EV.e = l := H8 (.head _) hs
   have h2 := N0 hs
   rw [h1] at h2
   exact h2.sub .refl (fun f hf => by
    rcases List.mem_cons.1 hf with e | e
    ·
     exact List.mem_cons.2 (.inl e)
    ·
     exact List.mem_cons.2 (.inr (.tail _ e)))) ?_
  refine ZbL ?_
  refine dj (dgy ?_)
  refine ZY ?_
  refine dj (dgy ?_)
  refine dc (fun _ _ => Ao rfl rfl (N8 (by omega))) ?_
  refine Zad ?_
  refine Y5 ?_
  refine ZS ?_
  refine Zc5 ?_;intro ρ er
  exact Cn (g13.1, .slice none 0 0) (hs := fun w hs => Ah (St.shut (hs.rowNil 49 Msg)))
 ·refine JC.conseq (L' := blk b5 49 m.cells :: L) (R' := sl g13.1 l :: R) (fun w hs => by
   have h1 : g13.2.map EV.e = l := H8 (.head _) hs
   have h2 := N0 hs
   rw [h1] at h2
   exact h2.sub .refl (fun f hf => by
    rcases List.mem_cons.1 hf with e | e
    ·
     exact List.mem_cons.2 (.inl e)
    ·
     exact List.mem_cons.2 (.inr (.tail _ e)))) ?_
  refine Zcd ?_;intro hEw u hE hE0 hL hone hlin
  refine dj (dgy ?_)
  refine ZY ?_
  refine dj (dgy ?_)
  refine Zae ?_
  refine dj (dgy ?_)
  refine dc (fun _ _ => Ao rfl rfl (Jr (show ((Ad l m.line).last.length : Int) ≤ m.src by omega))) ?_
  refine djf ?_
  refine Zc5 ?_;intro ρ er
  exact Cn (g13.1, .slice none 0 0) (hs := fun w hs => Ah (St.shut (hs.rowNil 49 Msg)))
theorem Wk {v0 : Value} {l : List Entry} {id : Int} {m : Msg} (hs : St (L) R w) (h0 : sl v0 l ∈ R) (hb : ∀ i, i < l.length → EB (l.getD i A7)) (hla : ∀ i, i < l.length → (l.getD i A7).last.length ≤ 4) (hm : m.wf) (hid : Ap id) (hk : 0 ≤ m.line ∧ m.line < (l.length : Int) ∧ 0 ≤ m.src ∧ m.src < ((Ad l m.line).last.length : Int) ∧ m.kind = 1) : Calls Try.prog 76 [v0, vi id, .agg m.cells.toArray].toArray w (Bu (fun v : Value × Value => .tuple #[v.1, v.2]) (fun v => L) (fun v => sl v.1 (Al l id m).1 :: sl v.2 (Al l id m).2 :: R)) := by
 refine Zbc ?_;intro hlen hm0 hid0
 clear hs
 refine ZaY ?_;intro b5 g13
 refine JC.conseqEx (γ := Value) (L' := fun u => foc 80 g13.1 l m.line.toNat (Entry.cells u (Ad l m.line)) :: row 3 u (Ad l m.line).last :: blk b5 49 m.cells :: L) (R' := fun u => pr (u.oneCell' = true) :: R) (fun w hs => by
  have h1 : g13.2.map EV.e = l := H8 (.head _) hs
  obtain ⟨u, h2, h3, h4⟩ := Kk m.line.toNat h1 (by omega) hs
  exact ⟨u, St.pr h3 (h4.sub .refl (fun f hf => .tail _ hf))⟩) (fun uo => ?_)
 refine Zbx ?_;intro honeo hEw u hE hE0 hL hone hlin
 refine dj (dgy ?_)
 refine ZY ?_
 refine dj (dgy ?_)
 refine Zae ?_
 refine dj (dgy ?_)
 refine Zbk ?_;intro ρ hA honeE b51
 refine Zac ?_
 refine dnl ?_; intro ρ
 refine ZI ?_
 refine Cj ?_
 refine Gd6 ?_
 refine Zea ?_;intro v69
 refine J.conseq (L' := foc 80 g13.1 l m.line.toNat (Entry.cells uo (Ag (Ad l m.line) id m).1) :: row 3 uo (Ag (Ad l m.line) id m).1.last :: blk b51 151 [ep g13.1 10 m.line.toNat 0, vi m.line, vi id, v69] :: row 49 v69 (Ag (Ad l m.line) id m).2 :: L) (fun w hs => by rw [List.nil_append] at hs; exact Ah hs) ?_
 refine Gl ?_
 refine ZcQ ?_;intro hEB ρ er
 exact Cn (g13.1, v69) (hs := fun w hs => Ah (St.shut (hs.pick pkk)))
theorem Wj {v0 : Value} {l : List Entry} {id : Int} {m : Msg} (hs : St (L) R w) (h0 : sl v0 l ∈ R) (hb : ∀ i, i < l.length → EB (l.getD i A7)) (hla : ∀ i, i < l.length → (l.getD i A7).last.length ≤ 4) (hm : m.wf) (hid : Ap id) (hk : 0 ≤ m.line ∧ m.line < (l.length : Int) ∧ 0 ≤ m.src ∧ m.src < ((Ad l m.line).last.length : Int) ∧ m.kind = 2) : Calls Try.prog 76 [v0, vi id, .agg m.cells.toArray].toArray w (Bu (fun v : Value × Value => .tuple #[v.1, v.2]) (fun v => L) (fun v => sl v.1 (Al l id m).1 :: sl v.2 (Al l id m).2 :: R)) := by
 refine Zbc ?_;intro hlen hm0 hid0
 clear hs
 refine ZaY ?_;intro b5 g13
 refine JC.conseqEx (γ := Value) (L' := fun u => foc 80 g13.1 l m.line.toNat (Entry.cells u (Ad l m.line)) :: row 3 u (Ad l m.line).last :: blk b5 49 m.cells :: L) (R' := fun u => pr (u.oneCell' = true) :: R) (fun w hs => by
  have h1 : g13.2.map EV.e = l := H8 (.head _) hs
  obtain ⟨u, h2, h3, h4⟩ := Kk m.line.toNat h1 (by omega) hs
  exact ⟨u, St.pr h3 (h4.sub .refl (fun f hf => .tail _ hf))⟩) (fun uo => ?_)
 refine Zbx ?_;intro honeo hEw u hE hE0 hL hone hlin
 refine dj (dgy ?_)
 refine ZY ?_
 refine dj (dgy ?_)
 refine Zae ?_
 refine dj (dgy ?_)
 refine Zbk ?_;intro ρ hA honeE b51
 refine Zac ?_
 refine dnl ?_; intro ρ
 refine ZI ?_
 refine Av ?_
 refine ZM ?_
 refine Cj ?_
 refine Gd2 ?_
 refine Zea ?_;intro v69
 refine J.conseq (L' := foc 80 g13.1 l m.line.toNat (Entry.cells uo (Ag (Ad l m.line) id m).1) :: row 3 uo (Ag (Ad l m.line) id m).1.last :: blk b51 151 [ep g13.1 10 m.line.toNat 0, vi m.line, vi id, v69] :: row 49 v69 (Ag (Ad l m.line) id m).2 :: L) (fun w hs => by rw [List.nil_append] at hs; exact Ah hs) ?_
 refine Gl ?_
 refine ZcQ ?_;intro hEB ρ er
 exact Cn (g13.1, v69) (hs := fun w hs => Ah (St.shut (hs.pick pkk)))
theorem Wi {v0 : Value} {l : List Entry} {id : Int} {m : Msg} (hs : St (L) R w) (h0 : sl v0 l ∈ R) (hb : ∀ i, i < l.length → EB (l.getD i A7)) (hla : ∀ i, i < l.length → (l.getD i A7).last.length ≤ 4) (hm : m.wf) (hid : Ap id) (hk : 0 ≤ m.line ∧ m.line < (l.length : Int) ∧ 0 ≤ m.src ∧ m.src < ((Ad l m.line).last.length : Int) ∧ m.kind = 3) : Calls Try.prog 76 [v0, vi id, .agg m.cells.toArray].toArray w (Bu (fun v : Value × Value => .tuple #[v.1, v.2]) (fun v => L) (fun v => sl v.1 (Al l id m).1 :: sl v.2 (Al l id m).2 :: R)) := by
 refine Zbc ?_;intro hlen hm0 hid0
 clear hs
 refine ZaY ?_;intro b5 g13
 refine JC.conseqEx (γ := Value) (L' := fun u => foc 80 g13.1 l m.line.toNat (Entry.cells u (Ad l m.line)) :: row 3 u (Ad l m.line).last :: blk b5 49 m.cells :: L) (R' := fun u => pr (u.oneCell' = true) :: R) (fun w hs => by
  have h1 : g13.2.map EV.e = l := H8 (.head _) hs
  obtain ⟨u, h2, h3, h4⟩ := Kk m.line.toNat h1 (by omega) hs
  exact ⟨u, St.pr h3 (h4.sub .refl (fun f hf => .tail _ hf))⟩) (fun uo => ?_)
 refine Zbx ?_;intro honeo hEw u hE hE0 hL hone hlin
 refine dj (dgy ?_)
 refine ZY ?_
 refine dj (dgy ?_)
 refine Zae ?_
 refine dj (dgy ?_)
 refine Zbk ?_;intro ρ hA honeE b51
 refine Zac ?_
 refine dnl ?_; intro ρ
 refine ZI ?_
 refine Av ?_
 refine ZM ?_
 refine Av ?_
 refine Gd2 ?_
 refine rn2 ?_
 refine ZaI ?_
 refine kp [5, 6, 7, 8, 9, 10, 11, 74] ?_
 refine ZC ?_
 refine Am Try.call102 rfl (fun w hs => Agv (vh := g13.1) (vo := .slice none 0 0) (u := uo) (i := m.line.toNat) (e := (Ad l m.line)) (ms := []) (line := m.line) (id := id) (xs := l) (m := m) (bm := b5) (LX := L) (Ah hs) hA honeo (by simp) hE hm.2.2.2.1 hid hm rfl (by omega) hL (by omega)) ?_; intro v75
 refine J.conseq (L' := foc 80 g13.1 l m.line.toNat (Entry.cells uo (Ag (Ad l m.line) id m).1) :: row 3 uo (Ag (Ad l m.line) id m).1.last :: blk b51 151 [ep g13.1 10 m.line.toNat 0, vi m.line, vi id, v75] :: row 49 v75 (Ag (Ad l m.line) id m).2 :: L) (fun w hs => by rw [List.nil_append] at hs; exact Ah hs) ?_
 refine Zcp ?_;intro hEB ρ er
 exact Cn (g13.1, v75) (hs := fun w hs => Ah (St.shut (hs.pick pkk)))
theorem Wf {v0 : Value} {l : List Entry} {id : Int} {m : Msg} (hs : St (L) R w) (h0 : sl v0 l ∈ R) (hb : ∀ i, i < l.length → EB (l.getD i A7)) (hla : ∀ i, i < l.length → (l.getD i A7).last.length ≤ 4) (hm : m.wf) (hid : Ap id) (hk : 0 ≤ m.line ∧ m.line < (l.length : Int) ∧ 0 ≤ m.src ∧ m.src < ((Ad l m.line).last.length : Int) ∧ m.kind ≠ 1 ∧ m.kind ≠ 2 ∧ m.kind ≠ 3 ∧ m.kind ≠ 9 ∧ m.kind ≠ 8 ∧ m.kind ≠ 10) : Calls Try.prog 76 [v0, vi id, .agg m.cells.toArray].toArray w (Bu (fun v : Value × Value => .tuple #[v.1, v.2]) (fun v => L) (fun v => sl v.1 (Al l id m).1 :: sl v.2 (Al l id m).2 :: R)) := by
 refine Zbc ?_;intro hlen hm0 hid0
 clear hs
 refine ZaY ?_;intro b5 g13
 refine JC.conseqEx (γ := Value) (L' := fun u => foc 80 g13.1 l m.line.toNat (Entry.cells u (Ad l m.line)) :: row 3 u (Ad l m.line).last :: blk b5 49 m.cells :: L) (R' := fun u => pr (u.oneCell' = true) :: R) (fun w hs => by
  have h1 : g13.2.map EV.e = l := H8 (.head _) hs
  obtain ⟨u, h2, h3, h4⟩ := Kk m.line.toNat h1 (by omega) hs
  exact ⟨u, St.pr h3 (h4.sub .refl (fun f hf => .tail _ hf))⟩) (fun uo => ?_)
 refine Zbx ?_;intro honeo hEw u hE hE0 hL hone hlin
 refine dj (dgy ?_)
 refine ZY ?_
 refine dj (dgy ?_)
 refine Zae ?_
 refine dj (dgy ?_)
 refine Zbk ?_;intro ρ hA honeE b51
 refine Zac ?_
 refine Zcg ?_;intro ρ
 refine ZaV ?_
 refine ZbE ?_;intro eh hEB ρ er
 exact Cn (g13.1, .slice none 0 0) (hs := fun w hs => Ah (St.shut (hs.pick pkk)))
theorem Wg {v0 : Value} {l : List Entry} {id : Int} {m : Msg} (hs : St (L) R w) (h0 : sl v0 l ∈ R) (hb : ∀ i, i < l.length → EB (l.getD i A7)) (hla : ∀ i, i < l.length → (l.getD i A7).last.length ≤ 4) (hm : m.wf) (hid : Ap id) (hk : 0 ≤ m.line ∧ m.line < (l.length : Int) ∧ 0 ≤ m.src ∧ m.src < ((Ad l m.line).last.length : Int) ∧ m.kind = 9) : Calls Try.prog 76 [v0, vi id, .agg m.cells.toArray].toArray w (Bu (fun v : Value × Value => .tuple #[v.1, v.2]) (fun v => L) (fun v => sl v.1 (Al l id m).1 :: sl v.2 (Al l id m).2 :: R)) := by
 refine Zbc ?_;intro hlen hm0 hid0
 clear hs
 refine ZaY ?_;intro b5 g13
 refine JC.conseqEx (γ := Value) (L' := fun u => foc 80 g13.1 l m.line.toNat (Entry.cells u (Ad l m.line)) :: row 3 u (Ad l m.line).last :: blk b5 49 m.cells :: L) (R' := fun u => pr (u.oneCell' = true) :: R) (fun w hs => by
  have h1 : g13.2.map EV.e = l := H8 (.head _) hs
  obtain ⟨u, h2, h3, h4⟩ := Kk m.line.toNat h1 (by omega) hs
  exact ⟨u, St.pr h3 (h4.sub .refl (fun f hf => .tail _ hf))⟩) (fun uo => ?_)
 refine Zbx ?_;intro honeo hEw u hE hE0 hL hone hlin
 refine dj (dgy ?_)
 refine ZY ?_
 refine dj (dgy ?_)
 refine Zae ?_
 refine dj (dgy ?_)
 refine Zbk ?_;intro ρ hA honeE b51
 rcases (show (m.turn ≠ (Ad l m.line).turn) ∨ (m.turn = (Ad l m.line).turn ∧ (Ad l m.line).phase ≠ 1) ∨ (m.turn = (Ad l m.line).turn ∧ (Ad l m.line).phase = 1 ∧ m.src ≠ (Ad l m.line).owner) ∨ (m.turn = (Ad l m.line).turn ∧ (Ad l m.line).phase = 1 ∧ m.src = (Ad l m.line).owner) from by omega) with hc | hc | hc | hc
 ·refine Zav ?_
  refine Zbh ?_
  refine Zco ?_;intro ρ
  refine dn5 ?_
  refine Zad ?_
  refine Zbi ?_;intro ρ
  exact ZgT
 ·refine Zav ?_
  refine ZaE ?_
  refine Zco ?_;intro ρ
  refine dn4 ?_
  refine dj (dgy ?_)
  refine ZaJ ?_
  refine Zak ?_
  refine Zbi ?_;intro ρ
  exact ZgT
 ·refine Zav ?_
  refine ZaE ?_
  refine Zco ?_;intro ρ
  refine dn4 ?_
  refine dj (dgy ?_)
  refine ZbI ?_
  refine dj (dgy ?_)
  refine ZaJ ?_
  refine ZS ?_
  refine ZT ?_;intro ρ
  refine Glc ?_
  exact ZgT
 ·refine Zav ?_
  refine ZaE ?_
  refine Zco ?_;intro ρ
  refine dn4 ?_
  refine dj (dgy ?_)
  refine ZbI ?_
  refine dj (dgy ?_)
  refine Zcv ?_
  refine ZT ?_;intro ρ
  refine Gmc ?_
  refine rn5 ?_
  refine Zcb ?_
  refine Bo (b := ?b1) ?e1 ?_ ?_; case e1 => exact rfl
  ·intro ht108
   refine kp [5, 6, 7, 8, 9, 10, 11, 109, 110, 111, 112, 113, 114, 115, 116, 117, 118, 119, 120] ?_
   refine Zac ?_
   refine djc (fun _ _ => Gi (a := 1) (b := (Ad l m.line).owner) (Sy (by omega) (by omega))) ?_
   refine djc (fun _ _ => Gi (a := (Ad l m.line).sharers) (b := ((2 ^ (Ad l m.line).owner.toNat : Nat) : Int)) (b_orB (by omega) (by omega) (by omega) (by omega))) ?_
   refine dn2 ?_
   refine dtl ?_; intro ρ
   refine sc ?_
   refine Zaf ?_
   refine sc ?_
   refine ZL ?_
   have hX : EB ({ (Ad l m.line) with value := m.value, sharers := (I1 (Ad l m.line).sharers (Ad l m.line).owner), owner := -1 }) := by obtain ⟨_, _, r9, _⟩ := Cz hE0.2.1.1 hE0.2.1.2 (show 0 ≤ (Ad l m.line).owner by omega) hE0.2.2.2.2.1.2; unfold EB Entry.wf Ap; simp only; omega
   have eh : (Ag (Ad l m.line) id m) = (Bi ({ (Ad l m.line) with value := m.value, sharers := (I1 (Ad l m.line).sharers (Ad l m.line).owner), owner := -1 }), Gb (Bi ({ (Ad l m.line) with value := m.value, sharers := (I1 (Ad l m.line).sharers (Ad l m.line).owner), owner := -1 })) m.line id) := by
    have hal : (Ad l m.line).alone = false := by simpa using ht108
    unfold Ag
    rw [if_neg (by omega), if_neg (by omega), if_pos (by omega)]
    unfold F5
    rw [if_neg (by rw [hal]; decide)]
   refine Am Try.call103 rfl (fun w hs => Mn (vh := g13.1) (vo := .slice none 0 0) (u := uo) (i := m.line.toNat) (e := { (Ad l m.line) with value := m.value, sharers := (I1 (Ad l m.line).sharers (Ad l m.line).owner), owner := -1 }) (ms := []) (line := m.line) (id := id) (xs := l) (LX := row 3 uo (Ad l m.line).last :: blk b5 49 m.cells :: L) (Ah hs) hA honeo (by simp) hX hm.2.2.2.1 hid) ?_; intro v125
   refine J.conseq (L' := foc 80 g13.1 l m.line.toNat (Entry.cells uo (Ag (Ad l m.line) id m).1) :: row 3 uo (Ag (Ad l m.line) id m).1.last :: blk b51 151 [ep g13.1 10 m.line.toNat 0, vi m.line, vi id, v125] :: row 49 v125 (Ag (Ad l m.line) id m).2 :: L) (fun w hs => by rw [List.nil_append] at hs; rw [eh, Dl]; exact Ah hs) ?_
   refine Zcp ?_;intro hEB ρ er
   exact Cn (g13.1, v125) (hs := fun w hs => Ah (St.shut (hs.pick pkk)))
  ·intro ht108
   refine Gl ?_
   refine kp [5, 6, 7, 8, 9, 10, 11, 121, 122, 123] ?_
   refine ZJ ?_
   refine sc ?_
   refine ZL ?_
   refine Zdq ?_;intro hX
   have eh : (Ag (Ad l m.line) id m) = (Bi ({ (Ad l m.line) with value := m.value, sharers := (Ad l m.line).sharers, owner := -1 }), Gb (Bi ({ (Ad l m.line) with value := m.value, sharers := (Ad l m.line).sharers, owner := -1 })) m.line id) := by
    have hal : (Ad l m.line).alone = true := by simpa using ht108
    unfold Ag
    rw [if_neg (by omega), if_neg (by omega), if_pos (by omega)]
    unfold F5
    rw [if_pos hal]
   refine Am Try.call103 rfl (fun w hs => Mn (vh := g13.1) (vo := .slice none 0 0) (u := uo) (i := m.line.toNat) (e := { (Ad l m.line) with value := m.value, sharers := (Ad l m.line).sharers, owner := -1 }) (ms := []) (line := m.line) (id := id) (xs := l) (LX := row 3 uo (Ad l m.line).last :: blk b5 49 m.cells :: L) (Ah hs) hA honeo (by simp) hX hm.2.2.2.1 hid) ?_; intro v125
   refine J.conseq (L' := foc 80 g13.1 l m.line.toNat (Entry.cells uo (Ag (Ad l m.line) id m).1) :: row 3 uo (Ag (Ad l m.line) id m).1.last :: blk b51 151 [ep g13.1 10 m.line.toNat 0, vi m.line, vi id, v125] :: row 49 v125 (Ag (Ad l m.line) id m).2 :: L) (fun w hs => by rw [List.nil_append] at hs; rw [eh, Dl]; exact Ah hs) ?_
   refine Zcp ?_;intro hEB ρ er
   exact Cn (g13.1, v125) (hs := fun w hs => Ah (St.shut (hs.pick pkk)))
theorem Wh {v0 : Value} {l : List Entry} {id : Int} {m : Msg} (hs : St (L) R w) (h0 : sl v0 l ∈ R) (hb : ∀ i, i < l.length → EB (l.getD i A7)) (hla : ∀ i, i < l.length → (l.getD i A7).last.length ≤ 4) (hm : m.wf) (hid : Ap id) (hk : 0 ≤ m.line ∧ m.line < (l.length : Int) ∧ 0 ≤ m.src ∧ m.src < ((Ad l m.line).last.length : Int) ∧ m.kind = 8) : Calls Try.prog 76 [v0, vi id, .agg m.cells.toArray].toArray w (Bu (fun v : Value × Value => .tuple #[v.1, v.2]) (fun v => L) (fun v => sl v.1 (Al l id m).1 :: sl v.2 (Al l id m).2 :: R)) := by
 refine Zbc ?_;intro hlen hm0 hid0
 clear hs
 refine ZaY ?_;intro b5 g13
 refine JC.conseqEx (γ := Value) (L' := fun u => foc 80 g13.1 l m.line.toNat (Entry.cells u (Ad l m.line)) :: row 3 u (Ad l m.line).last :: blk b5 49 m.cells :: L) (R' := fun u => pr (u.oneCell' = true) :: R) (fun w hs => by
  have h1 : g13.2.map EV.e = l := H8 (.head _) hs
  obtain ⟨u, h2, h3, h4⟩ := Kk m.line.toNat h1 (by omega) hs
  exact ⟨u, St.pr h3 (h4.sub .refl (fun f hf => .tail _ hf))⟩) (fun uo => ?_)
 refine Zbx ?_;intro honeo hEw u hE hE0 hL hone hlin
 refine dj (dgy ?_)
 refine ZY ?_
 refine dj (dgy ?_)
 refine Zae ?_
 refine dj (dgy ?_)
 refine Zbk ?_;intro ρ hA honeE b51
 rcases (show (m.turn ≠ (Ad l m.line).turn) ∨ (m.turn = (Ad l m.line).turn ∧ (Ad l m.line).phase ≠ 2) ∨ (m.turn = (Ad l m.line).turn ∧ (Ad l m.line).phase = 2 ∧ La (Ad l m.line).need m.src = false) ∨ (m.turn = (Ad l m.line).turn ∧ (Ad l m.line).phase = 2 ∧ La (Ad l m.line).need m.src = true) from by rcases Bool.eq_false_or_eq_true (La (Ad l m.line).need m.src) with h1 | h1 <;> simp only [h1, and_true, and_false, or_false, false_or, reduceCtorEq] <;> omega) with hc | hc | hc | hc
 ·refine Zav ?_
  refine Zbh ?_
  refine djc (fun _ _ => D1) ?_
  refine Zcg ?_;intro ρ
  refine Zbo ?_
  refine Zak ?_
  refine dn5 ?_
  refine Zad ?_
  exact Zgd
 ·refine ZbD ?_;intro ρ
  refine Zbo ?_
  refine Zak ?_
  refine dn4 ?_
  refine dj (dgy ?_)
  refine ZaJ ?_
  refine Zak ?_
  exact Zgd
 ·refine ZbD ?_;intro ρ
  refine Zbo ?_
  refine Zak ?_
  refine dn4 ?_
  refine dj (dgy ?_)
  refine ZbI ?_
  refine dj (dgy ?_)
  refine dc (fun _ _ => Gi (a := (Ad l m.line).need) (b := m.src) (Zv (by omega) (by omega) (by omega) (by omega))) ?_
  refine dj (dgy ?_)
  refine Ze7 ?_
  refine dj (dgy ?_)
  refine dc (fun _ _ => Ao rfl rfl (Cc (by rw [if_neg (by rw [hc.2.2]; decide)]; decide))) ?_
  refine ZS ?_
  refine ZT ?_;intro ρ
  refine ZcN ?_
  refine ZaV ?_
  refine Zbi ?_;intro ρ
  have eh : (Ag (Ad l m.line) id m) = ((Ad l m.line), []) := by unfold Ag; rw [if_neg (by omega), if_neg (by omega), if_neg (by omega), if_neg (fun h => by have h4 := h.2.2.2; rw [hc.2.2] at h4; cases h4), if_neg (by omega)]
  exact ZgU
 ·have hhas := hc.2.2
  refine ZbD ?_;intro ρ
  refine Zbo ?_
  refine Zak ?_
  refine dn4 ?_
  refine dj (dgy ?_)
  refine ZbI ?_
  refine dj (dgy ?_)
  refine dc (fun _ _ => Gi (a := (Ad l m.line).need) (b := m.src) (Zv (by omega) (by omega) (by omega) (by omega))) ?_
  refine dj (dgy ?_)
  refine Ze7 ?_
  refine dj (dgy ?_)
  refine dc (fun _ _ => Ao rfl rfl (Be (by rw [if_pos hc.2.2]))) ?_
  refine ZS ?_
  refine ZT ?_;intro ρ
  refine Glc ?_
  refine kp [5, 6, 7, 8, 9, 10, 11, 151, 152, 153, 154, 155, 156, 157, 158, 159, 160] ?_
  refine Zav ?_
  refine djc (fun _ _ => Gi (a := 1) (b := m.src) (Sy (by omega) (by omega))) ?_
  refine djc (fun _ _ => Gi (a := (Ad l m.line).need) (b := ((2 ^ m.src.toNat : Nat) : Int)) (Oa (by omega) (by omega) (by omega) (by omega))) ?_
  refine dn2 ?_
  refine dtl ?_; intro ρ
  refine sc ?_
  refine Gl ?_
  refine Zav ?_
  refine djc (fun _ _ => Gi (a := 1) (b := m.src) (Sy (by omega) (by omega))) ?_
  refine djc (fun _ _ => Gi (a := (Ad l m.line).sharers) (b := ((2 ^ m.src.toNat : Nat) : Int)) (Oa (by omega) (by omega) (by omega) (by omega))) ?_
  refine dn2 ?_
  refine dtl ?_; intro ρ
  refine Zcb ?_
  refine cdy ?_ ?_
  ·intro ht175
   refine ZC ?_
   have hX : EB ((Co (Ad l m.line) m)) := by have c1 := (Cz hE0.2.1.1 hE0.2.1.2 (show 0 ≤ m.src by omega) (show m.src < 4 by omega)).2.2.2; have c2 := (Cz hE0.2.2.1.1 hE0.2.2.1.2 (show 0 ≤ m.src by omega) (show m.src < 4 by omega)).2.2.2; unfold Co EB Entry.wf Ap; simp only; omega
   have eh : (Ag (Ad l m.line) id m) = (Bi ((Co (Ad l m.line) m)), Gb (Bi ((Co (Ad l m.line) m))) m.line id) := by
    unfold Ag
    rw [if_neg (by omega), if_neg (by omega), if_neg (by omega), if_pos ⟨by omega, by omega, by omega, hhas⟩, if_pos (by unfold Co; simp only; omega)]
   refine Am Try.call103 rfl (fun w hs => Mn (vh := g13.1) (vo := .slice none 0 0) (u := uo) (i := m.line.toNat) (e := (Co (Ad l m.line) m)) (ms := []) (line := m.line) (id := id) (xs := l) (LX := row 3 uo (Ad l m.line).last :: blk b5 49 m.cells :: L) (Ah hs) hA honeo (by simp) hX hm.2.2.2.1 hid) ?_; intro v177
   refine J.conseq (L' := foc 80 g13.1 l m.line.toNat (Entry.cells uo (Ag (Ad l m.line) id m).1) :: row 3 uo (Ag (Ad l m.line) id m).1.last :: blk b51 151 [ep g13.1 10 m.line.toNat 0, vi m.line, vi id, v177] :: row 49 v177 (Ag (Ad l m.line) id m).2 :: L) (fun w hs => by rw [List.nil_append] at hs; rw [eh, Dl]; exact Ah hs) ?_
   refine Zcp ?_;intro hEB ρ er
   exact Cn (g13.1, v177) (hs := fun w hs => Ah (St.shut (hs.pick pkk)))
  ·intro ht175
   refine Gl ?_
   have eh : (Ag (Ad l m.line) id m) = ((Co (Ad l m.line) m), []) := by
    unfold Ag
    rw [if_neg (by omega), if_neg (by omega), if_neg (by omega), if_pos ⟨by omega, by omega, by omega, hhas⟩, if_neg (by unfold Co; simp only; omega)]
   exact ZgU
theorem Tx {v0 : Value} {l : List Entry} {id : Int} {m : Msg} (hs : St (L) R w) (h0 : sl v0 l ∈ R) (hb : ∀ i, i < l.length → EB (l.getD i A7)) (hla : ∀ i, i < l.length → (l.getD i A7).last.length ≤ 4) (hm : m.wf) (hid : Ap id) (hk : 0 ≤ m.line ∧ m.line < (l.length : Int) ∧ 0 ≤ m.src ∧ m.src < ((Ad l m.line).last.length : Int) ∧ m.kind = 10) : Calls Try.prog 76 [v0, vi id, .agg m.cells.toArray].toArray w (Bu (fun v : Value × Value => .tuple #[v.1, v.2]) (fun v => L) (fun v => sl v.1 (Al l id m).1 :: sl v.2 (Al l id m).2 :: R)) := by
 refine Zbc ?_;intro hlen hm0 hid0
 clear hs
 refine ZaY ?_;intro b5 g13
 refine JC.conseqEx (γ := Value) (L' := fun u => foc 80 g13.1 l m.line.toNat (Entry.cells u (Ad l m.line)) :: row 3 u (Ad l m.line).last :: blk b5 49 m.cells :: L) (R' := fun u => pr (u.oneCell' = true) :: R) (fun w hs => by
  have h1 : g13.2.map EV.e = l := H8 (.head _) hs
  obtain ⟨u, h2, h3, h4⟩ := Kk m.line.toNat h1 (by omega) hs
  exact ⟨u, St.pr h3 (h4.sub .refl (fun f hf => .tail _ hf))⟩) (fun uo => ?_)
 refine Zbx ?_;intro honeo hEw u hE hE0 hL hone hlin
 refine dj (dgy ?_)
 refine ZY ?_
 refine dj (dgy ?_)
 refine Zae ?_
 refine dj (dgy ?_)
 refine Zbk ?_;intro ρ hA honeE b51
 rcases (show (m.turn ≠ (Ad l m.line).turn) ∨ (m.turn = (Ad l m.line).turn ∧ (Ad l m.line).phase ≠ 3) ∨ (m.turn = (Ad l m.line).turn ∧ (Ad l m.line).phase = 3 ∧ m.src ≠ (Ad l m.line).who) ∨ (m.turn = (Ad l m.line).turn ∧ (Ad l m.line).phase = 3 ∧ m.src = (Ad l m.line).who) from by omega) with hc | hc | hc | hc
 ·refine Zav ?_
  refine Zbh ?_
  refine djc (fun _ _ => D1) ?_
  refine Zcg ?_;intro ρ
  refine Zcn ?_;intro ρ
  refine dn5 ?_
  refine Zad ?_
  refine Zbi ?_;intro ρ
  exact ZgK
 ·refine ZbD ?_;intro ρ
  refine Zcn ?_;intro ρ
  refine dn4 ?_
  refine dj (dgy ?_)
  refine ZaJ ?_
  refine Zak ?_
  refine Zbi ?_;intro ρ
  exact ZgK
 ·refine ZbD ?_;intro ρ
  refine Zcn ?_;intro ρ
  refine dn4 ?_
  refine dj (dgy ?_)
  refine ZbI ?_
  refine dj (dgy ?_)
  refine ZaJ ?_
  refine ZS ?_
  refine ZT ?_;intro ρ
  refine Glc ?_
  exact ZgK
 ·refine ZbD ?_;intro ρ
  refine Zcn ?_;intro ρ
  refine dn4 ?_
  refine dj (dgy ?_)
  refine ZbI ?_
  refine dj (dgy ?_)
  refine Zcv ?_
  refine ZT ?_;intro ρ
  refine Glc ?_
  refine Zac ?_
  refine djc (fun _ _ => Gi (a := 1) (b := (Ad l m.line).who) (Sy (by omega) (by omega))) ?_
  refine djc (fun _ _ => Gi (a := (Ad l m.line).sharers) (b := ((2 ^ (Ad l m.line).who.toNat : Nat) : Int)) (b_orB (by omega) (by omega) (by omega) (by omega))) ?_
  refine dn2 ?_
  refine dtl ?_; intro ρ
  refine sc ?_
  refine Gl ?_
  refine kp [6, 7, 8, 9, 10, 213, 214, 215, 216] ?_
  refine Aa ?_
  refine Ga4 ?_
  refine Bo (b := ?b1) ?e1 ?_ ?_; case e1 => exact rfl
  ·intro ht216
   refine Aa ?_
   refine rn8 ?_
   refine sc ?_
   refine Zas ?_
   refine Gm ?_
   refine rn6 ?_
   refine sc ?_
   refine Zas ?_
   refine Zas ?_
   refine Zas ?_
   refine Gl ?_
   have eh : (Ag (Ad l m.line) id m) = ({ (Ad l m.line) with owner := (Ad l m.line).who, sharers := 0, phase := 0, who := 0, serial := 0, alone := false }, []) := by
    unfold Ag
    rw [if_neg (by omega), if_neg (by omega), if_neg (by omega), if_neg (by omega), if_pos (by omega)]
    unfold Di
    rw [if_pos ht216]
   refine Zd7 ?_
   refine ZcQ ?_;intro hEB ρ er
   exact Zfd
  ·intro ht216
   refine Gm ?_
   refine rn6 ?_
   refine sc ?_
   refine Zas ?_
   refine Zas ?_
   refine Zas ?_
   refine Gl ?_
   have eh : (Ag (Ad l m.line) id m) = ({ (Ad l m.line) with sharers := I1 (Ad l m.line).sharers (Ad l m.line).who, phase := 0, who := 0, serial := 0, alone := false }, []) := by
    unfold Ag
    rw [if_neg (by omega), if_neg (by omega), if_neg (by omega), if_neg (by omega), if_pos (by omega)]
    unfold Di
    rw [if_neg (by rw [ht216]; decide)]
   exact ZgU
theorem R4 {v0 : Value} {l : List Entry} {id : Int} {m : Msg} (hs : St (L) R w) (h0 : sl v0 l ∈ R) (hb : ∀ i, i < l.length → EB (l.getD i A7)) (hla : ∀ i, i < l.length → (l.getD i A7).last.length ≤ 4) (hm : m.wf) (hid : Ap id) : Calls Try.prog 76 [v0, vi id, .agg m.cells.toArray].toArray w (Bu (fun v : Value × Value => .tuple #[v.1, v.2]) (fun v => L) (fun v => sl v.1 (Al l id m).1 :: sl v.2 (Al l id m).2 :: R)) := by
 by_cases h : 0 ≤ m.line ∧ m.line < (l.length : Int) ∧ 0 ≤ m.src ∧ m.src < ((Ad l m.line).last.length : Int)
 ·by_cases h1 : m.kind = 1
  ·exact Wk hs h0 hb hla hm hid (by omega)
  by_cases h2 : m.kind = 2
  ·exact Wj hs h0 hb hla hm hid (by omega)
  by_cases h3 : m.kind = 3
  ·exact Wi hs h0 hb hla hm hid (by omega)
  by_cases h9 : m.kind = 9
  ·exact Wg hs h0 hb hla hm hid (by omega)
  by_cases h8 : m.kind = 8
  ·exact Wh hs h0 hb hla hm hid (by omega)
  by_cases h10 : m.kind = 10
  ·exact Tx hs h0 hb hla hm hid (by omega)
  exact Wf hs h0 hb hla hm hid (by omega)
 ·exact Wl hs h0 hb hla hm hid h
theorem We {v0 : Value} {l : List Entry} {id : Int} (hs : St (L) R w) (h0 : sl v0 l ∈ R) (hb : ∀ i, i < l.length → EB (l.getD i A7)) (hln : l.length ≤ 100) (hid : Ap id) : Calls Try.prog 79 [v0, vi id].toArray w (Bu (fun v : Value => v) (fun v => L) (fun v => sl v (Hn l id) :: R)) := by
 have hlen := Bj h0 hs
 refine Ai Try.func79 rfl Try.ntmps79 rfl hs ?_
 clear hs
 refine ZP ?_
 refine Zat ?_
 refine Am Try.call60 rfl (fun w hs => U5 (l := l) hs mm) ?_; intro v10
 refine Za1 ?_
 refine ZW ?_
 refine Bl (γ := Nat × Value) (fun g => g.1 ≤ l.length) (fun g => row 49 g.2 (De id 0 (l.take g.1)) :: L) (fun _ => sl v10 l :: R) (fun g => [(1, vi id), (5, g.2), (6, v10), (12, vi (l.length : Int)), (13, vi (g.1 : Int))]) (fun g => l.length - g.1) (0, .slice none 0 0) (Nat.zero_le _) alT (fun w hs => hs) ?_
 rintro ⟨k, vs⟩ hk
 try simp only at hk ⊢
 have hsl := Lx id (l.take k) 0
 rw [List.length_take] at hsl
 refine ZA ?_
 refine cdy ?_ ?_
 ·intro ht14
  refine ZD ?_
  refine Mi (l := l) (v := v10) k mm (by omega) (fun _ u => ?_)
  refine JC.know (p := EpAll v10 10 k) (fun w hs => ok_c (v := v10) (i := k) (.head _) w hs) (fun hA => ?_)
  have honeE : (ep v10 10 k 0).oneCell' = true := hA.one
  refine Zam ?_
  refine bx ?_; intro b22
  refine Ga1 ?_
  refine ZW ?_
  refine ZC ?_
  refine Am Try.call108 rfl (fun w hs => Jl (vh := v10) (vo := .slice none 0 0) (u := u) (i := k) (e := (l.getD k A7)) (ms := []) (line := (k : Int)) (id := id) (LX := row 49 vs (De id 0 (l.take k)) :: L) (Ah hs) (Z1 (cs := Entry.cells u (l.getD k A7)) mm) hA (by simp) (hb k (by omega)) (by unfold Ap; omega) hid) ?_; intro vq
  refine Gl ?_
  refine JC.shut (v := vq) pkk ?_
  have hs4 := Uo (l.getD k A7) (k : Int) id
  refine Za2 ?_
  refine ap Gd (hb := fun w hs => by have : maxN = 16777216 := rfl; simp only [List.length_append, List.length_nil]; omega) (k := ?_); intro v30
  refine ZF ?_
  refine A6 (k + 1, v30) (by show k + 1 ≤ l.length; omega) (by show l.length - (k + 1) < l.length - k; omega) alT (fun w hs => ?_)
  try simp only
  rw [Fk A7 (by omega), Im, List.length_take, Nat.min_eq_left (by omega), Int.zero_add]; exact Ah hs
 ·intro ht14
  refine ZD ?_
  have hkl : k = l.length := by omega
  rw [show De id 0 (l.take k) = Hn l id from by rw [hkl, List.take_length]; rfl]
  exact Zgy
theorem Aci {cores lines : Int} (hs : St (L) R w) (hc : 0 ≤ cores ∧ cores ≤ 4) (hl : 0 ≤ lines ∧ lines ≤ 4) : Calls Try.prog 39 [vi cores, vi lines].toArray w (Bu (fun v : Value => v) (fun v => L) (fun v => sl v (Ns cores lines) :: R)) := by
 refine Ai Try.func39 rfl Try.ntmps39 rfl hs ?_
 clear hs
 refine ZP ?_
 refine ZF ?_
 refine JC.rowNil 80 Entry ?_
 refine Bl (γ := Nat × Value) (fun g => (g.1 : Int) ≤ lines) (fun g => row 80 g.2 (List.replicate g.1 (Ie ⟨cores, lines⟩)) :: L) (fun _ => R) (fun g => [(0, vi cores), (5, g.2), (6, vi lines), (7, vi (g.1 : Int))]) (fun g => lines.toNat - g.1) (0, .slice none 0 0) (by show (0 : Int) ≤ lines; omega) alT (fun w hs => hs) ?_
 rintro ⟨k, vs⟩ hk
 try simp only at hk ⊢
 refine ZA ?_
 refine cdy ?_ ?_
 ·intro ht8
  refine ZI ?_
  refine ob (q_max (a := cores) rfl (by omega)) ?_
  refine Ur (α := Int) (x0 := 0) (zc := [vi 0]) E6 rfl (by decide) rfl rfl rfl (fun j => ⟨rfl, by unfold Ap; omega⟩) (by omega) (by omega) ?_; intro v12
  refine J.shut .hd ?_
  refine J.know (p := v12.oneCell' = true) (fun w hs => isSlice.one (hs.fact (.head _))) (fun honev12 => ?_)
  refine rn1 ?_
  refine li (α := Entry) [Ie ⟨cores, lines⟩] Sg rfl (fun j hj => ⟨⟨_, rfl, ⟨_, rfl, hj _ (.head _), Rs ⟨cores, lines⟩⟩⟩, trivial⟩) ?_; intro v14
  refine ap Sg (hb := fun w hs => by have : maxN = 16777216 := rfl; simp only [List.length_replicate, List.length_cons, List.length_nil]; omega) (k := ?_); intro v15
  refine ZF ?_
  refine A6 (k + 1, v15) (by show ((k + 1 : Nat) : Int) ≤ lines; omega) (by show lines.toNat - (k + 1) < lines.toNat - k; omega) alT (fun w hs => ?_)
  try simp only
  rw [Mh]; exact Ah hs
 ·intro ht8
  refine ZD ?_
  have hkl : k = lines.toNat := by omega
  rw [show List.replicate k (Ie ⟨cores, lines⟩) = Ns cores lines from by rw [hkl]; rfl]
  exact Zgy
theorem Rd {v0 : Value} {l : List Entry} {id : Int} {m : Msg} (hs : St (L) R w) (h0 : sl v0 l ∈ R) (hb : ∀ i, i < l.length → EB (l.getD i A7)) (hla : ∀ i, i < l.length → (l.getD i A7).last.length ≤ 4) (hm : m.wf) (hid : Ap id) (hk : ¬ (0 ≤ m.line ∧ m.line < (l.length : Int) ∧ 0 ≤ m.src ∧ m.src < ((Ad l m.line).last.length : Int))) : Calls Try.prog 58 [v0, vi id, .agg m.cells.toArray].toArray w (Bu (fun v : Value × Value => .tuple #[v.1, v.2]) (fun v => L) (fun v => sl v.1 (Al l id m).1 :: sl v.2 (Al l id m).2 :: R)) := by
 refine Zbd ?_;intro hlen hm0 hid0
 clear hs
 refine Gm ?_
 refine bx ?_; intro b5
 refine Ga2 ?_
 rcases (show (m.line < 0) ∨ (¬ m.line < 0 ∧ (l.length : Int) ≤ m.line) ∨ (¬ m.line < 0 ∧ m.line < (l.length : Int) ∧ m.src < 0) ∨ (¬ m.line < 0 ∧ m.line < (l.length : Int) ∧ 0 ≤ m.src ∧ ((Ad l m.line).last.length : Int) ≤ m.src) from by omega) with hc | hc | hc | hc
 ·refine Ze1 ?_
  exact Zfv
 ·refine ZbL ?_
  refine dj (dgy ?_)
  refine ZbY ?_
  refine Zad ?_
  refine dn3 ?_
  refine Zak ?_
  refine Y5 ?_
  refine ZS ?_
  exact Zfv
 ·refine ZbL ?_
  refine dj (dgy ?_)
  refine ZY ?_
  refine dj (dgy ?_)
  refine dc (fun _ _ => Ao rfl rfl (N8 (by omega))) ?_
  refine Zad ?_
  refine Y5 ?_
  refine ZS ?_
  exact Zfv
 ·refine Zcd ?_;intro hEw u hE hE0 hL hone hlin
  refine dj (dgy ?_)
  refine ZY ?_
  refine dj (dgy ?_)
  refine Zae ?_
  refine dj (dgy ?_)
  refine dc (fun _ _ => Ao rfl rfl (Jr (show ((Ad l m.line).last.length : Int) ≤ m.src by omega))) ?_
  refine djf ?_
  exact Zfv
theorem Q9 {v0 : Value} {l : List Entry} {id : Int} {m : Msg} (hs : St (L) R w) (h0 : sl v0 l ∈ R) (hb : ∀ i, i < l.length → EB (l.getD i A7)) (hla : ∀ i, i < l.length → (l.getD i A7).last.length ≤ 4) (hm : m.wf) (hid : Ap id) (hk : 0 ≤ m.line ∧ m.line < (l.length : Int) ∧ 0 ≤ m.src ∧ m.src < ((Ad l m.line).last.length : Int) ∧ m.kind = 3) : Calls Try.prog 58 [v0, vi id, .agg m.cells.toArray].toArray w (Bu (fun v : Value × Value => .tuple #[v.1, v.2]) (fun v => L) (fun v => sl v.1 (Al l id m).1 :: sl v.2 (Al l id m).2 :: R)) := by
 refine Zbd ?_;intro hlen hm0 hid0
 clear hs
 refine Zb1 ?_;intro b5 hEw u hE hE0 hL hone hlin
 refine dj (dgy ?_)
 refine ZY ?_
 refine dj (dgy ?_)
 refine Zae ?_
 refine dj (dgy ?_)
 refine Zbl ?_;intro ρ b8 v43
 refine ap E6 (hb := fun w hs => by have : maxN = 16777216 := rfl; simp only [List.length_nil]; omega) (k := ?_); intro v46
 refine Gb1 ?_
 refine Gb2 ?_
 refine ZH ?_
 refine ZaA ?_
 refine Ga3 ?_
 refine cdy ?_ ?_
 ·intro ht100
  refine ZU ?_
  have er : Al l id m = (l, []) := Dh (by omega) (by unfold Ag; rw [if_neg (by omega), if_pos (by omega), if_pos ht100])
  rw [er]
  exact Cn (v0, .slice none 0 0) (hs := fun w hs => Ah (St.shut (hs.rowNil 49 Msg)))
 ·intro ht100
  refine Gl ?_
  refine Zav ?_
  refine djc (fun _ _ => Da (hc := Eg (xs := (Ad l m.line).last) pkk (by omega)) Try.isAgg3) ?_
  refine djc (fun _ _ => Gi S0) ?_
  refine dnl ?_; intro ρ
  refine Gl ?_
  refine cdy ?_ ?_
  ·intro ht109
   refine Gm ?_
   refine rn6 ?_
   refine Fa (xs := (Ad l m.line).last) Try.sizeOf3 rfl rfl pkk (getD_some 0 (by omega)) hm.2.2.2.2.1 ?_
   refine Gl ?_
   refine JC.shut (v := v46) pkk ?_
   refine JC.know (p := v46.oneCell' = true) (fun w hs => isSlice.one (hs.fact (List.Mem.head _))) (fun hone9 => ?_)
   refine kp [0, 1, 5, 6, 7, 8, 9, 48, 116, 117] ?_
   refine ZB ?_
   refine Zcb ?_
   refine cdy ?_ ?_
   ·intro ht122
    refine ZJ ?_
    refine Za3 ?_
    refine Gl ?_
    have er : Al l id m = (l.set m.line.toNat ({ (Ad l m.line) with last := ((Ad l m.line).last.set m.src.toNat m.serial), value := m.value, owner := -1 }), [⟨11, id, m.src, m.line, m.serial, 0, 0, false⟩]) := Fo (by omega) (by unfold Ag; rw [if_neg (by omega), if_pos (by omega), if_neg ht100]; unfold E1; rw [if_pos (by unfold Dx; omega), if_pos ht122])
    refine cq_ (blk b8 80 (Entry.cells v46 ({ (Ad l m.line) with last := ((Ad l m.line).last.set m.src.toNat m.serial), value := m.value, owner := -1 })) :: blk b5 49 m.cells :: L) ?_
    refine jd_ (fun ρ S => blk b8 80 (Entry.cells v46 ({ (Ad l m.line) with last := ((Ad l m.line).last.set m.src.toNat m.serial), value := m.value, owner := -1 })) :: blk b5 49 m.cells :: L) ?_
    refine dn4 ?_
    refine Cd (γ := Value) (val := fun v => v) (F := fun v => [sl v (l.set m.line.toNat ({ (Ad l m.line) with last := ((Ad l m.line).last.set m.src.toNat m.serial), value := m.value, owner := -1 }))]) Try.call87 (fun _ => rfl) (fun ρ L R w hd hs => Cs (e := { (Ad l m.line) with last := ((Ad l m.line).last.set m.src.toNat m.serial), value := m.value, owner := -1 }) (u := v46) hs (hd.base mm) (hd.base mm) (by first | exact hE.1 | (unfold Entry.wf Ap; simp only; omega)) (by omega)) (fun _ _ _ _ _ => rfl) ?_
    refine ZcY ?_;intro ρ
    refine xq_ (blk b8 80 (Entry.cells v46 ({ (Ad l m.line) with last := ((Ad l m.line).last.set m.src.toNat m.serial), value := m.value, owner := -1 })) :: blk b5 49 m.cells :: L) ?_
    exact Zf6
   ·intro ht122
    refine Gl ?_
    have er : Al l id m = (l.set m.line.toNat ({ (Ad l m.line) with last := ((Ad l m.line).last.set m.src.toNat m.serial) }), [⟨11, id, m.src, m.line, m.serial, 0, 0, false⟩]) := Fo (by omega) (by unfold Ag; rw [if_neg (by omega), if_pos (by omega), if_neg ht100]; unfold E1; rw [if_pos (by unfold Dx; omega), if_neg ht122])
    refine cq_ (blk b8 80 (Entry.cells v46 ({ (Ad l m.line) with last := ((Ad l m.line).last.set m.src.toNat m.serial) })) :: blk b5 49 m.cells :: L) ?_
    refine jd_ (fun ρ S => blk b8 80 (Entry.cells v46 ({ (Ad l m.line) with last := ((Ad l m.line).last.set m.src.toNat m.serial) })) :: blk b5 49 m.cells :: L) ?_
    refine dn4 ?_
    refine Cd (γ := Value) (val := fun v => v) (F := fun v => [sl v (l.set m.line.toNat ({ (Ad l m.line) with last := ((Ad l m.line).last.set m.src.toNat m.serial) }))]) Try.call87 (fun _ => rfl) (fun ρ L R w hd hs => Cs (e := { (Ad l m.line) with last := ((Ad l m.line).last.set m.src.toNat m.serial) }) (u := v46) hs (hd.base mm) (hd.base mm) (by first | exact hE.1 | (unfold Entry.wf Ap; simp only; omega)) (by omega)) (fun _ _ _ _ _ => rfl) ?_
    refine ZcY ?_;intro ρ
    refine xq_ (blk b8 80 (Entry.cells v46 ({ (Ad l m.line) with last := ((Ad l m.line).last.set m.src.toNat m.serial) })) :: blk b5 49 m.cells :: L) ?_
    exact Zf6
  ·intro ht109
   refine Gl ?_
   have er : Al l id m = (l.set m.line.toNat ((Ad l m.line)), [⟨11, id, m.src, m.line, m.serial, 0, 0, false⟩]) := Fo (by omega) (by unfold Ag; rw [if_neg (by omega), if_pos (by omega), if_neg ht100]; unfold E1; rw [if_neg (by unfold Dx; omega)])
   refine cq_ (blk b8 80 (Entry.cells u ((Ad l m.line))) :: blk b5 49 m.cells :: L) ?_
   refine jd_ (fun ρ S => blk b8 80 (Entry.cells u ((Ad l m.line))) :: blk b5 49 m.cells :: L) ?_
   refine dn4 ?_
   refine Cd (γ := Value) (val := fun v => v) (F := fun v => [sl v (l.set m.line.toNat ((Ad l m.line)))]) Try.call87 (fun _ => rfl) (fun ρ L R w hd hs => Cs (e := (Ad l m.line)) (u := u) hs (hd.base mm) (hd.base mm) (by first | exact hE.1 | (unfold Entry.wf Ap; simp only; omega)) (by omega)) (fun _ _ _ _ _ => rfl) ?_
   refine ZcY ?_;intro ρ
   refine xq_ (blk b8 80 (Entry.cells u ((Ad l m.line))) :: blk b5 49 m.cells :: L) ?_
   exact Zf6
theorem Q6 {v0 : Value} {l : List Entry} {id : Int} {m : Msg} (hs : St (L) R w) (h0 : sl v0 l ∈ R) (hb : ∀ i, i < l.length → EB (l.getD i A7)) (hla : ∀ i, i < l.length → (l.getD i A7).last.length ≤ 4) (hm : m.wf) (hid : Ap id) (hk : 0 ≤ m.line ∧ m.line < (l.length : Int) ∧ 0 ≤ m.src ∧ m.src < ((Ad l m.line).last.length : Int) ∧ m.kind ≠ 1 ∧ m.kind ≠ 2 ∧ m.kind ≠ 3 ∧ m.kind ≠ 9 ∧ m.kind ≠ 8 ∧ m.kind ≠ 10) : Calls Try.prog 58 [v0, vi id, .agg m.cells.toArray].toArray w (Bu (fun v : Value × Value => .tuple #[v.1, v.2]) (fun v => L) (fun v => sl v.1 (Al l id m).1 :: sl v.2 (Al l id m).2 :: R)) := by
 refine Zbd ?_;intro hlen hm0 hid0
 clear hs
 refine Zb1 ?_;intro b5 hEw u hE hE0 hL hone hlin
 refine dj (dgy ?_)
 refine ZY ?_
 refine dj (dgy ?_)
 refine Zae ?_
 refine dj (dgy ?_)
 refine Zbl ?_;intro ρ b8 v43
 refine ap E6 (hb := fun w hs => by have : maxN = 16777216 := rfl; simp only [List.length_nil]; omega) (k := ?_); intro v46
 refine Gb1 ?_
 refine Zaj ?_
 refine ZH ?_
 refine ZH ?_
 refine ZH ?_
 exact Zfk
theorem Rb {v0 : Value} {l : List Entry} {id : Int} {m : Msg} (hs : St (L) R w) (h0 : sl v0 l ∈ R) (hb : ∀ i, i < l.length → EB (l.getD i A7)) (hla : ∀ i, i < l.length → (l.getD i A7).last.length ≤ 4) (hm : m.wf) (hid : Ap id) (hk : 0 ≤ m.line ∧ m.line < (l.length : Int) ∧ 0 ≤ m.src ∧ m.src < ((Ad l m.line).last.length : Int) ∧ m.kind = 1) : Calls Try.prog 58 [v0, vi id, .agg m.cells.toArray].toArray w (Bu (fun v : Value × Value => .tuple #[v.1, v.2]) (fun v => L) (fun v => sl v.1 (Al l id m).1 :: sl v.2 (Al l id m).2 :: R)) := by
 refine Zbd ?_;intro hlen hm0 hid0
 clear hs
 refine Zb1 ?_;intro b5 hEw u hE hE0 hL hone hlin
 refine dj (dgy ?_)
 refine ZY ?_
 refine dj (dgy ?_)
 refine Zae ?_
 refine dj (dgy ?_)
 refine Zbl ?_;intro ρ b8 v43
 refine ap E6 (hb := fun w hs => by have : maxN = 16777216 := rfl; simp only [List.length_nil]; omega) (k := ?_); intro v46
 refine Gb1 ?_
 refine Gb2 ?_
 refine ZaI ?_
 exact ZeN
theorem Ra {v0 : Value} {l : List Entry} {id : Int} {m : Msg} (hs : St (L) R w) (h0 : sl v0 l ∈ R) (hb : ∀ i, i < l.length → EB (l.getD i A7)) (hla : ∀ i, i < l.length → (l.getD i A7).last.length ≤ 4) (hm : m.wf) (hid : Ap id) (hk : 0 ≤ m.line ∧ m.line < (l.length : Int) ∧ 0 ≤ m.src ∧ m.src < ((Ad l m.line).last.length : Int) ∧ m.kind = 2) : Calls Try.prog 58 [v0, vi id, .agg m.cells.toArray].toArray w (Bu (fun v : Value × Value => .tuple #[v.1, v.2]) (fun v => L) (fun v => sl v.1 (Al l id m).1 :: sl v.2 (Al l id m).2 :: R)) := by
 refine Zbd ?_;intro hlen hm0 hid0
 clear hs
 refine Zb1 ?_;intro b5 hEw u hE hE0 hL hone hlin
 refine dj (dgy ?_)
 refine ZY ?_
 refine dj (dgy ?_)
 refine Zae ?_
 refine dj (dgy ?_)
 refine Zbl ?_;intro ρ b8 v43
 refine ap E6 (hb := fun w hs => by have : maxN = 16777216 := rfl; simp only [List.length_nil]; omega) (k := ?_); intro v46
 refine Gb1 ?_
 refine Gb2 ?_
 refine Zau ?_
 exact ZeN
theorem Q7 {v0 : Value} {l : List Entry} {id : Int} {m : Msg} (hs : St (L) R w) (h0 : sl v0 l ∈ R) (hb : ∀ i, i < l.length → EB (l.getD i A7)) (hla : ∀ i, i < l.length → (l.getD i A7).last.length ≤ 4) (hm : m.wf) (hid : Ap id) (hk : 0 ≤ m.line ∧ m.line < (l.length : Int) ∧ 0 ≤ m.src ∧ m.src < ((Ad l m.line).last.length : Int) ∧ m.kind = 9) : Calls Try.prog 58 [v0, vi id, .agg m.cells.toArray].toArray w (Bu (fun v : Value × Value => .tuple #[v.1, v.2]) (fun v => L) (fun v => sl v.1 (Al l id m).1 :: sl v.2 (Al l id m).2 :: R)) := by
 refine Zbd ?_;intro hlen hm0 hid0
 clear hs
 refine Zb1 ?_;intro b5 hEw u hE hE0 hL hone hlin
 refine dj (dgy ?_)
 refine ZY ?_
 refine dj (dgy ?_)
 refine Zae ?_
 refine dj (dgy ?_)
 refine Zbl ?_;intro ρ b8 v43
 refine ap E6 (hb := fun w hs => by have : maxN = 16777216 := rfl; simp only [List.length_nil]; omega) (k := ?_); intro v46
 refine Gb1 ?_
 refine Zaj ?_
 refine Cj ?_
 refine Gd1 ?_
 refine rn4 ?_
 refine jgx (t := 146) (p := ?p1) (hd := ?d1) ?e1 ?_ ?_; case e1 => exact rfl
 ·intro ht146
  refine Gc13 ?_
  exact Zgr
 ·intro ht146
  refine rn7 ?_
  refine jgx (t := 153) (p := ?p2) (hd := ?d2) ?e2 ?_ ?_; case e2 => exact rfl
  ·intro ht153
   refine Gc6 ?_
   exact Zgr
  ·intro ht153
   refine Ga6 ?_
   refine cdy ?_ ?_
   ·intro ht159
    refine Gl ?_
    exact Zgr
   ·intro ht159
    refine Gl ?_
    refine kp [0, 1, 5, 6, 7, 8, 48, 161, 162, 163, 164, 165, 166, 167, 168, 169, 170, 171] ?_
    refine ZE ?_
    refine Kj (t := 164) (b := ?b4) ?e4 ?_ ?_; case e4 => exact rfl
    ·intro ht164
     refine ZG ?_
     generalize hhas : (Ad l m.line).sharers.toNat.testBit (Ad l m.line).owner.toNat = bh
     refine Am (val := fun _ => .bool bh) Try.call85 rfl (fun w hs => by have h := O5 (z := (Ad l m.line).sharers.toNat) (k := (Ad l m.line).owner.toNat) hs (by omega) (by omega); rw [Int.toNat_of_nonneg (by omega), Int.toNat_of_nonneg (by omega), hhas] at h; exact h) ?_; intro _
     refine Ga2 ?_
     refine Bo (b := ?b5) ?e5 ?_ ?_; case e5 => exact rfl
     ·intro ht171
      have hp2 : ((2 ^ (Ad l m.line).owner.toNat : Nat) : Int) ≤ 8 := Int.ofNat_le.2 (Nat.pow_le_pow_right (n := 2) (by decide) (show (Ad l m.line).owner.toNat ≤ 3 by omega))
      have hp0 : (0 : Int) ≤ ((2 ^ (Ad l m.line).owner.toNat : Nat) : Int) := Int.natCast_nonneg _
      refine ZcO ?_
      refine Cd (γ := Unit) (val := fun _ => vi ((2 ^ (Ad l m.line).owner.toNat : Nat) : Int)) (F := fun _ => []) Try.call88 (fun _ => rfl) (fun ρ L R w hd hs => by have h := Nd (k := (Ad l m.line).owner.toNat) hs (by omega); rw [Int.toNat_of_nonneg (by omega)] at h; exact h) (fun _ _ _ _ _ => rfl) ?_
      first | refine epc (fun _ _ => Fx) ?_ | refine epc (fun _ _ => G1) ?_ | refine epp (fun _ _ => Fx) ?_ | refine epp (fun _ _ => G1) ?_
      refine ZcW ?_;intro ρ
      refine rn3 ?_
      refine Za3 ?_
      refine ZL ?_
      have hp3 := Aed hE0.2.1.1 hE0.2.1.2 (show 0 ≤ (Ad l m.line).owner by omega) hE0.2.2.2.2.1.2 (by rw [hhas]; simpa using ht171)
      have hX : EB ({ (Ad l m.line) with value := m.value, sharers := ((Ad l m.line).sharers + ((2 ^ (Ad l m.line).owner.toNat : Nat) : Int)), owner := -1 }) := by unfold EB Entry.wf Ap; simp only; omega
      refine Am Try.call86 rfl (fun w hs => Ki (e := { (Ad l m.line) with value := m.value, sharers := ((Ad l m.line).sharers + ((2 ^ (Ad l m.line).owner.toNat : Nat) : Int)), owner := -1 }) (u := u) hs hX (by assumption)) ?_; intro _
      refine s_B (cs := (Bi ({ (Ad l m.line) with value := m.value, sharers := ((Ad l m.line).sharers + ((2 ^ (Ad l m.line).owner.toNat : Nat) : Int)), owner := -1 })).cells u) Try.sizeOf80 ?_
      refine Gl ?_
      have ed : (if (Ad l m.line).alone then (Ad l m.line).sharers else I1 (Ad l m.line).sharers (Ad l m.line).owner) = ((Ad l m.line).sharers + ((2 ^ (Ad l m.line).owner.toNat : Nat) : Int)) := by
       obtain ⟨b1, b2, _⟩ := Cz hE0.2.1.1 hE0.2.1.2 (show 0 ≤ (Ad l m.line).owner by omega) hE0.2.2.2.2.1.2
       rw [if_neg (by simpa using ht164), (b2 (by simpa [hhas] using ht171)).1]
      have er : Al l id m = (l.set m.line.toNat (Bi ({ (Ad l m.line) with value := m.value, sharers := ((Ad l m.line).sharers + ((2 ^ (Ad l m.line).owner.toNat : Nat) : Int)), owner := -1 })), Gb (Bi ({ (Ad l m.line) with value := m.value, sharers := ((Ad l m.line).sharers + ((2 ^ (Ad l m.line).owner.toNat : Nat) : Int)), owner := -1 })) m.line id) := Fo (by omega) (by unfold Ag; rw [if_neg (by omega), if_neg (by omega), if_pos (by omega)]; unfold F5; rw [ed])
      refine cq_ (blk b8 80 ((Bi ({ (Ad l m.line) with value := m.value, sharers := ((Ad l m.line).sharers + ((2 ^ (Ad l m.line).owner.toNat : Nat) : Int)), owner := -1 })).cells u) :: blk b5 49 m.cells :: L) ?_
      refine jd_ (fun ρ S => blk b8 80 ((Bi ({ (Ad l m.line) with value := m.value, sharers := ((Ad l m.line).sharers + ((2 ^ (Ad l m.line).owner.toNat : Nat) : Int)), owner := -1 })).cells u) :: blk b5 49 m.cells :: L) ?_
      refine dn4 ?_
      refine Cd (γ := Value) (val := fun v => v) (F := fun v => [sl v (l.set m.line.toNat (Bi ({ (Ad l m.line) with value := m.value, sharers := ((Ad l m.line).sharers + ((2 ^ (Ad l m.line).owner.toNat : Nat) : Int)), owner := -1 })))]) Try.call87 (fun _ => rfl) (fun ρ L R w hd hs => Cs (e := Bi ({ (Ad l m.line) with value := m.value, sharers := ((Ad l m.line).sharers + ((2 ^ (Ad l m.line).owner.toNat : Nat) : Int)), owner := -1 })) (u := u) hs (hd.base mm) (by rw [Dl]; exact hd.base mm) (Dv hX).1 (by omega)) (fun _ _ _ _ _ => rfl) ?_
      refine dn4 ?_
      refine Cd (γ := Value) (val := fun v => v) (F := fun v => [sl v (Gb (Bi ({ (Ad l m.line) with value := m.value, sharers := ((Ad l m.line).sharers + ((2 ^ (Ad l m.line).owner.toNat : Nat) : Int)), owner := -1 })) m.line id)]) Try.call54 (fun _ => rfl) (fun ρ L R w hd hs => Jd (e := Bi ({ (Ad l m.line) with value := m.value, sharers := ((Ad l m.line).sharers + ((2 ^ (Ad l m.line).owner.toNat : Nat) : Int)), owner := -1 })) (u := u) hs (Dv hX) (by assumption) hm.2.2.2.1 hid) (fun _ _ _ _ _ => rfl) ?_
      refine ZbN ?_;intro ρ
      refine xq_ (blk b8 80 ((Bi ({ (Ad l m.line) with value := m.value, sharers := ((Ad l m.line).sharers + ((2 ^ (Ad l m.line).owner.toNat : Nat) : Int)), owner := -1 })).cells u) :: blk b5 49 m.cells :: L) ?_
      generalize (Gh.dec (γ := Value) (ρ 4)) = v287
      generalize (Gh.dec (γ := Value) (ρ 9)) = v292
      refine Gl ?_
      rw [er]
      exact Cn (v287, v292)
     ·intro ht171
      refine Zaf ?_
      refine Za3 ?_
      refine ZL ?_
      skip
      refine Zdq ?_;intro hX
      refine Am Try.call86 rfl (fun w hs => Ki (e := { (Ad l m.line) with value := m.value, sharers := (Ad l m.line).sharers, owner := -1 }) (u := u) hs hX (by assumption)) ?_; intro _
      refine s_B (cs := (Bi ({ (Ad l m.line) with value := m.value, sharers := (Ad l m.line).sharers, owner := -1 })).cells u) Try.sizeOf80 ?_
      refine Gl ?_
      have ed : (if (Ad l m.line).alone then (Ad l m.line).sharers else I1 (Ad l m.line).sharers (Ad l m.line).owner) = (Ad l m.line).sharers := by
       obtain ⟨b1, b2, _⟩ := Cz hE0.2.1.1 hE0.2.1.2 (show 0 ≤ (Ad l m.line).owner by omega) hE0.2.2.2.2.1.2
       rw [if_neg (by simpa using ht164), (b1 (by simpa [hhas] using ht171)).1]
      refine ZdH ?_;intro er ρ v287 v292
      exact Cn (v287, v292)
    ·intro ht164
     refine Gd7 ?_
     refine rn3 ?_
     refine Za3 ?_
     refine ZL ?_
     skip
     refine Zdq ?_;intro hX
     refine Am Try.call86 rfl (fun w hs => Ki (e := { (Ad l m.line) with value := m.value, sharers := (Ad l m.line).sharers, owner := -1 }) (u := u) hs hX (by assumption)) ?_; intro _
     refine s_B (cs := (Bi ({ (Ad l m.line) with value := m.value, sharers := (Ad l m.line).sharers, owner := -1 })).cells u) Try.sizeOf80 ?_
     refine Gl ?_
     have ed : (if (Ad l m.line).alone then (Ad l m.line).sharers else I1 (Ad l m.line).sharers (Ad l m.line).owner) = (Ad l m.line).sharers := by
      obtain ⟨b1, b2, _⟩ := Cz hE0.2.1.1 hE0.2.1.2 (show 0 ≤ (Ad l m.line).owner by omega) hE0.2.2.2.2.1.2
      rw [if_pos (by simpa using ht164)]
     refine ZdH ?_;intro er ρ v287 v292
     exact Cn (v287, v292)
theorem Q8 {v0 : Value} {l : List Entry} {id : Int} {m : Msg} (hs : St (L) R w) (h0 : sl v0 l ∈ R) (hb : ∀ i, i < l.length → EB (l.getD i A7)) (hla : ∀ i, i < l.length → (l.getD i A7).last.length ≤ 4) (hm : m.wf) (hid : Ap id) (hk : 0 ≤ m.line ∧ m.line < (l.length : Int) ∧ 0 ≤ m.src ∧ m.src < ((Ad l m.line).last.length : Int) ∧ m.kind = 8) : Calls Try.prog 58 [v0, vi id, .agg m.cells.toArray].toArray w (Bu (fun v : Value × Value => .tuple #[v.1, v.2]) (fun v => L) (fun v => sl v.1 (Al l id m).1 :: sl v.2 (Al l id m).2 :: R)) := by
 refine Zbd ?_;intro hlen hm0 hid0
 clear hs
 refine Zb1 ?_;intro b5 hEw u hE hE0 hL hone hlin
 refine dj (dgy ?_)
 refine ZY ?_
 refine dj (dgy ?_)
 refine Zae ?_
 refine dj (dgy ?_)
 refine Zbl ?_;intro ρ b8 v43
 refine ap E6 (hb := fun w hs => by have : maxN = 16777216 := rfl; simp only [List.length_nil]; omega) (k := ?_); intro v46
 refine Gb1 ?_
 refine Zaj ?_
 refine ZaA ?_
 refine rn4 ?_
 refine jgx (t := 190) (p := ?p1) (hd := ?d1) ?e1 ?_ ?_; case e1 => exact rfl
 ·intro ht190
  refine Gc14 ?_
  exact ZeZ
 ·intro ht190
  refine rn7 ?_
  refine jgx (t := 197) (p := ?p2) (hd := ?d2) ?e2 ?_ ?_; case e2 => exact rfl
  ·intro ht197
   refine Gc7 ?_
   exact ZeZ
  ·intro ht197
   refine ZG ?_
   generalize hhas : (Ad l m.line).need.toNat.testBit m.src.toNat = bh
   refine Am (val := fun _ => .bool bh) Try.call85 rfl (fun w hs => by have h := O5 (z := (Ad l m.line).need.toNat) (k := m.src.toNat) hs (by omega) (by omega); rw [Int.toNat_of_nonneg (by omega), Int.toNat_of_nonneg (by omega), hhas] at h; exact h) ?_; intro _
   refine Ga2 ?_
   refine Bo (b := ?b3) ?e3 ?_ ?_; case e3 => exact rfl
   ·intro ht204
    refine Gl ?_
    exact ZeZ
   ·intro ht204
    refine Gl ?_
    have hp2 : ((2 ^ m.src.toNat : Nat) : Int) ≤ 8 := Int.ofNat_le.2 (Nat.pow_le_pow_right (n := 2) (by decide) (show m.src.toNat ≤ 3 by omega))
    have hp0 : (0 : Int) ≤ ((2 ^ m.src.toNat : Nat) : Int) := Int.natCast_nonneg _
    refine kp [0, 1, 5, 6, 7, 8, 48, 206, 207, 208, 209, 210, 211, 212] ?_
    refine ZcO ?_
    refine Cd (γ := Unit) (val := fun _ => vi ((2 ^ m.src.toNat : Nat) : Int)) (F := fun _ => []) Try.call88 (fun _ => rfl) (fun ρ L R w hd hs => by have h := Nd (k := m.src.toNat) hs (by omega); rw [Int.toNat_of_nonneg (by omega)] at h; exact h) (fun _ _ _ _ _ => rfl) ?_
    first | refine epc (fun _ _ => Rh) ?_ | refine epp (fun _ _ => Rh) ?_
    refine ZcW ?_;intro ρ
    refine rn4 ?_
    generalize hhasS : (Ad l m.line).sharers.toNat.testBit m.src.toNat = bhS
    refine Am (val := fun _ => .bool bhS) Try.call85 rfl (fun w hs => by have h := O5 (z := (Ad l m.line).sharers.toNat) (k := m.src.toNat) hs (by omega) (by omega); rw [Int.toNat_of_nonneg (by omega), Int.toNat_of_nonneg (by omega), hhasS] at h; exact h) ?_; intro _
    refine Gl ?_
    refine Bo (b := ?b4) ?e4 ?_ ?_; case e4 => exact rfl
    ·intro ht217
     refine cq_ (blk b8 80 [vi (Ad l m.line).value, vi (Ad l m.line).owner, vi (Ad l m.line).sharers, vi (Ad l m.line).phase, vi (Ad l m.line).who, vi (Ad l m.line).serial, .bool (Ad l m.line).alone, vi (Ad l m.line).turn, vi ((Ad l m.line).need - ((2 ^ m.src.toNat : Nat) : Int)), u] :: blk b5 49 m.cells :: L) ?_
     refine jd_ (fun ρ S => blk b8 80 [vi (Ad l m.line).value, vi (Ad l m.line).owner, vi (Ad l m.line).sharers, vi (Ad l m.line).phase, vi (Ad l m.line).who, vi (Ad l m.line).serial, .bool (Ad l m.line).alone, vi (Ad l m.line).turn, vi ((Ad l m.line).need - ((2 ^ m.src.toNat : Nat) : Int)), u] :: blk b5 49 m.cells :: L) ?_
     refine dn4 ?_
     refine Cd (γ := Unit) (val := fun _ => vi ((2 ^ m.src.toNat : Nat) : Int)) (F := fun _ => []) Try.call88 (fun _ => rfl) (fun ρ L R w hd hs => by have h := Nd (k := m.src.toNat) hs (by omega); rw [Int.toNat_of_nonneg (by omega)] at h; exact h) (fun _ _ _ _ _ => rfl) ?_
     first | refine epc (fun _ _ => Rh) ?_ | refine epp (fun _ _ => Rh) ?_
     refine dtl ?_; intro ρ
     refine J.conseq (L' := blk b8 80 [vi (Ad l m.line).value, vi (Ad l m.line).owner, vi (Ad l m.line).sharers, vi (Ad l m.line).phase, vi (Ad l m.line).who, vi (Ad l m.line).serial, .bool (Ad l m.line).alone, vi (Ad l m.line).turn, vi ((Ad l m.line).need - ((2 ^ m.src.toNat : Nat) : Int)), u] :: blk b5 49 m.cells :: L) (fun w hs => hs) ?_
     refine ZK ?_
     refine ZU ?_
     refine cdy ?_ ?_
     ·intro ht227
      refine Gl ?_
      refine Zc6 ?_;intro hh
      have hhS : (Ad l m.line).sharers.toNat.testBit m.src.toNat = true := by rw [hhasS]; exact ht217
      have eg : Co (Ad l m.line) m = { (Ad l m.line) with need := ((Ad l m.line).need - ((2 ^ m.src.toNat : Nat) : Int)), sharers := ((Ad l m.line).sharers - ((2 ^ m.src.toNat : Nat) : Int)) } := by
       exact ZfI
      refine ZV ?_
      have er : Al l id m = (l.set m.line.toNat ({ (Ad l m.line) with need := ((Ad l m.line).need - ((2 ^ m.src.toNat : Nat) : Int)), sharers := ((Ad l m.line).sharers - ((2 ^ m.src.toNat : Nat) : Int)) }), []) := Fo (by omega) (by unfold Ag; rw [if_neg (by omega), if_neg (by omega), if_neg (by omega), if_pos ⟨by omega, by omega, by omega, hh⟩, eg, if_neg (by simp only; omega)])
      refine ZE ?_
      refine Am Try.call87 rfl (fun w hs => Cs (e := { (Ad l m.line) with need := ((Ad l m.line).need - ((2 ^ m.src.toNat : Nat) : Int)), sharers := ((Ad l m.line).sharers - ((2 ^ m.src.toNat : Nat) : Int)) }) (u := u) hs mm mm (by unfold Entry.wf Ap; simp only; omega) (by omega)) ?_; intro v232
      refine Ga2 ?_
      rw [er]
      exact Cn (v232, .slice none 0 0)
     ·intro ht227
      refine ZL ?_
      have hp3 := Qp hE0.2.2.1.1 hE0.2.2.1.2 (show 0 ≤ m.src by omega) (show m.src < 4 by omega) (by rw [hhas]; simpa using ht204)
      have hp4 := Qp hE0.2.1.1 hE0.2.1.2 (show 0 ≤ m.src by omega) (show m.src < 4 by omega) (by rw [hhasS]; exact ht217)
      have hX : EB ({ (Ad l m.line) with need := ((Ad l m.line).need - ((2 ^ m.src.toNat : Nat) : Int)), sharers := ((Ad l m.line).sharers - ((2 ^ m.src.toNat : Nat) : Int)) }) := by unfold EB Entry.wf Ap; simp only; omega
      refine Am Try.call86 rfl (fun w hs => Ki (e := { (Ad l m.line) with need := ((Ad l m.line).need - ((2 ^ m.src.toNat : Nat) : Int)), sharers := ((Ad l m.line).sharers - ((2 ^ m.src.toNat : Nat) : Int)) }) (u := u) hs hX (by assumption)) ?_; intro _
      refine s_B (cs := (Bi ({ (Ad l m.line) with need := ((Ad l m.line).need - ((2 ^ m.src.toNat : Nat) : Int)), sharers := ((Ad l m.line).sharers - ((2 ^ m.src.toNat : Nat) : Int)) })).cells u) Try.sizeOf80 ?_
      refine Gl ?_
      refine Zc6 ?_;intro hh
      have hhS : (Ad l m.line).sharers.toNat.testBit m.src.toNat = true := by rw [hhasS]; exact ht217
      have eg : Co (Ad l m.line) m = { (Ad l m.line) with need := ((Ad l m.line).need - ((2 ^ m.src.toNat : Nat) : Int)), sharers := ((Ad l m.line).sharers - ((2 ^ m.src.toNat : Nat) : Int)) } := by
       exact ZfI
      have er : Al l id m = (l.set m.line.toNat (Bi ({ (Ad l m.line) with need := ((Ad l m.line).need - ((2 ^ m.src.toNat : Nat) : Int)), sharers := ((Ad l m.line).sharers - ((2 ^ m.src.toNat : Nat) : Int)) })), Gb (Bi ({ (Ad l m.line) with need := ((Ad l m.line).need - ((2 ^ m.src.toNat : Nat) : Int)), sharers := ((Ad l m.line).sharers - ((2 ^ m.src.toNat : Nat) : Int)) })) m.line id) := Fo (by omega) (by unfold Ag; rw [if_neg (by omega), if_neg (by omega), if_neg (by omega), if_pos ⟨by omega, by omega, by omega, hh⟩, eg, if_pos (by simp only; omega)])
      refine cq_ (blk b8 80 ((Bi ({ (Ad l m.line) with need := ((Ad l m.line).need - ((2 ^ m.src.toNat : Nat) : Int)), sharers := ((Ad l m.line).sharers - ((2 ^ m.src.toNat : Nat) : Int)) })).cells u) :: blk b5 49 m.cells :: L) ?_
      refine jd_ (fun ρ S => blk b8 80 ((Bi ({ (Ad l m.line) with need := ((Ad l m.line).need - ((2 ^ m.src.toNat : Nat) : Int)), sharers := ((Ad l m.line).sharers - ((2 ^ m.src.toNat : Nat) : Int)) })).cells u) :: blk b5 49 m.cells :: L) ?_
      refine dn4 ?_
      refine Cd (γ := Value) (val := fun v => v) (F := fun v => [sl v (l.set m.line.toNat (Bi ({ (Ad l m.line) with need := ((Ad l m.line).need - ((2 ^ m.src.toNat : Nat) : Int)), sharers := ((Ad l m.line).sharers - ((2 ^ m.src.toNat : Nat) : Int)) })))]) Try.call87 (fun _ => rfl) (fun ρ L R w hd hs => Cs (e := Bi ({ (Ad l m.line) with need := ((Ad l m.line).need - ((2 ^ m.src.toNat : Nat) : Int)), sharers := ((Ad l m.line).sharers - ((2 ^ m.src.toNat : Nat) : Int)) })) (u := u) hs (hd.base mm) (by rw [Dl]; exact hd.base mm) (Dv hX).1 (by omega)) (fun _ _ _ _ _ => rfl) ?_
      refine dn4 ?_
      refine Cd (γ := Value) (val := fun v => v) (F := fun v => [sl v (Gb (Bi ({ (Ad l m.line) with need := ((Ad l m.line).need - ((2 ^ m.src.toNat : Nat) : Int)), sharers := ((Ad l m.line).sharers - ((2 ^ m.src.toNat : Nat) : Int)) })) m.line id)]) Try.call54 (fun _ => rfl) (fun ρ L R w hd hs => Jd (e := Bi ({ (Ad l m.line) with need := ((Ad l m.line).need - ((2 ^ m.src.toNat : Nat) : Int)), sharers := ((Ad l m.line).sharers - ((2 ^ m.src.toNat : Nat) : Int)) })) (u := u) hs (Dv hX) (by assumption) hm.2.2.2.1 hid) (fun _ _ _ _ _ => rfl) ?_
      refine ZbN ?_;intro ρ
      refine xq_ (blk b8 80 ((Bi ({ (Ad l m.line) with need := ((Ad l m.line).need - ((2 ^ m.src.toNat : Nat) : Int)), sharers := ((Ad l m.line).sharers - ((2 ^ m.src.toNat : Nat) : Int)) })).cells u) :: blk b5 49 m.cells :: L) ?_
      exact Zgi
    ·intro ht217
     refine ZU ?_
     refine cdy ?_ ?_
     ·intro ht227
      refine Gl ?_
      refine Zc6 ?_;intro hh
      have hhS : (Ad l m.line).sharers.toNat.testBit m.src.toNat = false := by rw [hhasS]; simpa using ht217
      have eg : Co (Ad l m.line) m = { (Ad l m.line) with need := ((Ad l m.line).need - ((2 ^ m.src.toNat : Nat) : Int)), sharers := (Ad l m.line).sharers } := by
       exact ZfJ
      refine ZV ?_
      have er : Al l id m = (l.set m.line.toNat ({ (Ad l m.line) with need := ((Ad l m.line).need - ((2 ^ m.src.toNat : Nat) : Int)), sharers := (Ad l m.line).sharers }), []) := Fo (by omega) (by unfold Ag; rw [if_neg (by omega), if_neg (by omega), if_neg (by omega), if_pos ⟨by omega, by omega, by omega, hh⟩, eg, if_neg (by simp only; omega)])
      refine ZE ?_
      refine Am Try.call87 rfl (fun w hs => Cs (e := { (Ad l m.line) with need := ((Ad l m.line).need - ((2 ^ m.src.toNat : Nat) : Int)), sharers := (Ad l m.line).sharers }) (u := u) hs mm mm (by unfold Entry.wf Ap; simp only; omega) (by omega)) ?_; intro v232
      refine Ga2 ?_
      rw [er]
      exact Cn (v232, .slice none 0 0)
     ·intro ht227
      refine ZL ?_
      have hp3 := Qp hE0.2.2.1.1 hE0.2.2.1.2 (show 0 ≤ m.src by omega) (show m.src < 4 by omega) (by rw [hhas]; simpa using ht204)
      have hX : EB ({ (Ad l m.line) with need := ((Ad l m.line).need - ((2 ^ m.src.toNat : Nat) : Int)), sharers := (Ad l m.line).sharers }) := by unfold EB Entry.wf Ap; simp only; omega
      refine Am Try.call86 rfl (fun w hs => Ki (e := { (Ad l m.line) with need := ((Ad l m.line).need - ((2 ^ m.src.toNat : Nat) : Int)), sharers := (Ad l m.line).sharers }) (u := u) hs hX (by assumption)) ?_; intro _
      refine s_B (cs := (Bi ({ (Ad l m.line) with need := ((Ad l m.line).need - ((2 ^ m.src.toNat : Nat) : Int)), sharers := (Ad l m.line).sharers })).cells u) Try.sizeOf80 ?_
      refine Gl ?_
      refine Zc6 ?_;intro hh
      have hhS : (Ad l m.line).sharers.toNat.testBit m.src.toNat = false := by rw [hhasS]; simpa using ht217
      have eg : Co (Ad l m.line) m = { (Ad l m.line) with need := ((Ad l m.line).need - ((2 ^ m.src.toNat : Nat) : Int)), sharers := (Ad l m.line).sharers } := by
       exact ZfJ
      have er : Al l id m = (l.set m.line.toNat (Bi ({ (Ad l m.line) with need := ((Ad l m.line).need - ((2 ^ m.src.toNat : Nat) : Int)), sharers := (Ad l m.line).sharers })), Gb (Bi ({ (Ad l m.line) with need := ((Ad l m.line).need - ((2 ^ m.src.toNat : Nat) : Int)), sharers := (Ad l m.line).sharers })) m.line id) := Fo (by omega) (by unfold Ag; rw [if_neg (by omega), if_neg (by omega), if_neg (by omega), if_pos ⟨by omega, by omega, by omega, hh⟩, eg, if_pos (by simp only; omega)])
      refine cq_ (blk b8 80 ((Bi ({ (Ad l m.line) with need := ((Ad l m.line).need - ((2 ^ m.src.toNat : Nat) : Int)), sharers := (Ad l m.line).sharers })).cells u) :: blk b5 49 m.cells :: L) ?_
      refine jd_ (fun ρ S => blk b8 80 ((Bi ({ (Ad l m.line) with need := ((Ad l m.line).need - ((2 ^ m.src.toNat : Nat) : Int)), sharers := (Ad l m.line).sharers })).cells u) :: blk b5 49 m.cells :: L) ?_
      refine dn4 ?_
      refine Cd (γ := Value) (val := fun v => v) (F := fun v => [sl v (l.set m.line.toNat (Bi ({ (Ad l m.line) with need := ((Ad l m.line).need - ((2 ^ m.src.toNat : Nat) : Int)), sharers := (Ad l m.line).sharers })))]) Try.call87 (fun _ => rfl) (fun ρ L R w hd hs => Cs (e := Bi ({ (Ad l m.line) with need := ((Ad l m.line).need - ((2 ^ m.src.toNat : Nat) : Int)), sharers := (Ad l m.line).sharers })) (u := u) hs (hd.base mm) (by rw [Dl]; exact hd.base mm) (Dv hX).1 (by omega)) (fun _ _ _ _ _ => rfl) ?_
      refine dn4 ?_
      refine Cd (γ := Value) (val := fun v => v) (F := fun v => [sl v (Gb (Bi ({ (Ad l m.line) with need := ((Ad l m.line).need - ((2 ^ m.src.toNat : Nat) : Int)), sharers := (Ad l m.line).sharers })) m.line id)]) Try.call54 (fun _ => rfl) (fun ρ L R w hd hs => Jd (e := Bi ({ (Ad l m.line) with need := ((Ad l m.line).need - ((2 ^ m.src.toNat : Nat) : Int)), sharers := (Ad l m.line).sharers })) (u := u) hs (Dv hX) (by assumption) hm.2.2.2.1 hid) (fun _ _ _ _ _ => rfl) ?_
      refine ZbN ?_;intro ρ
      refine xq_ (blk b8 80 ((Bi ({ (Ad l m.line) with need := ((Ad l m.line).need - ((2 ^ m.src.toNat : Nat) : Int)), sharers := (Ad l m.line).sharers })).cells u) :: blk b5 49 m.cells :: L) ?_
      exact Zgi
theorem Pq {v0 : Value} {l : List Entry} {id : Int} {m : Msg} (hs : St (L) R w) (h0 : sl v0 l ∈ R) (hb : ∀ i, i < l.length → EB (l.getD i A7)) (hla : ∀ i, i < l.length → (l.getD i A7).last.length ≤ 4) (hm : m.wf) (hid : Ap id) (hk : 0 ≤ m.line ∧ m.line < (l.length : Int) ∧ 0 ≤ m.src ∧ m.src < ((Ad l m.line).last.length : Int) ∧ m.kind = 10) : Calls Try.prog 58 [v0, vi id, .agg m.cells.toArray].toArray w (Bu (fun v : Value × Value => .tuple #[v.1, v.2]) (fun v => L) (fun v => sl v.1 (Al l id m).1 :: sl v.2 (Al l id m).2 :: R)) := by
 refine Zbd ?_;intro hlen hm0 hid0
 clear hs
 refine Zb1 ?_;intro b5 hEw u hE hE0 hL hone hlin
 refine dj (dgy ?_)
 refine ZY ?_
 refine dj (dgy ?_)
 refine Zae ?_
 refine dj (dgy ?_)
 refine Zbl ?_;intro ρ b8 v43
 refine ap E6 (hb := fun w hs => by have : maxN = 16777216 := rfl; simp only [List.length_nil]; omega) (k := ?_); intro v46
 refine Gb1 ?_
 refine Zaj ?_
 refine ZH ?_
 refine ZaA ?_
 refine rn4 ?_
 refine jgx (t := 240) (p := ?p1) (hd := ?d1) ?e1 ?_ ?_; case e1 => exact rfl
 ·intro ht240
  refine Gc13 ?_
  exact Zgw
 ·intro ht240
  refine rn7 ?_
  refine jgx (t := 247) (p := ?p2) (hd := ?d2) ?e2 ?_ ?_; case e2 => exact rfl
  ·intro ht247
   refine Gc6 ?_
   exact Zgw
  ·intro ht247
   refine Ga6 ?_
   refine cdy ?_ ?_
   ·intro ht253
    refine Gl ?_
    exact Zgw
   ·intro ht253
    refine Gl ?_
    refine kp [0, 1, 5, 6, 7, 8, 255, 256] ?_
    refine ZR ?_
    refine Bo (b := ?b4) ?e4 ?_ ?_; case e4 => exact rfl
    ·intro ht256
     refine ZJ ?_
     refine Za3 ?_
     refine Gm ?_
     refine ZK ?_
     refine ZK ?_
     refine ZK ?_
     refine ZK ?_
     refine Gl ?_
     have et : Di (Ad l m.line) = { (Ad l m.line) with owner := (Ad l m.line).who, sharers := 0, phase := 0, who := 0, serial := 0, alone := false } := by unfold Di; rw [if_pos ht256]
     refine ZV ?_
     have er : Al l id m = (l.set m.line.toNat ({ (Ad l m.line) with owner := (Ad l m.line).who, sharers := 0, phase := 0, who := 0, serial := 0, alone := false }), []) := Fo (by omega) (by unfold Ag; rw [if_neg (by omega), if_neg (by omega), if_neg (by omega), if_neg (by omega), if_pos (by omega), et])
     refine ZE ?_
     refine Am Try.call87 rfl (fun w hs => Cs (e := { (Ad l m.line) with owner := (Ad l m.line).who, sharers := 0, phase := 0, who := 0, serial := 0, alone := false }) (u := u) hs mm mm (by unfold Entry.wf Ap; simp only; omega) (by omega)) ?_; intro v282
     refine Ga2 ?_
     rw [er]
     exact Cn (v282, .slice none 0 0)
    ·intro ht256
     refine Zan ?_
     generalize hhasT : (Ad l m.line).sharers.toNat.testBit (Ad l m.line).who.toNat = bhT
     refine Am (val := fun _ => .bool bhT) Try.call85 rfl (fun w hs => by have h := O5 (z := (Ad l m.line).sharers.toNat) (k := (Ad l m.line).who.toNat) hs (by omega) (by omega); rw [Int.toNat_of_nonneg (by omega), Int.toNat_of_nonneg (by omega), hhasT] at h; exact h) ?_; intro _
     refine Ga1 ?_
     refine Bo (b := ?b5) ?e5 ?_ ?_; case e5 => exact rfl
     ·intro ht266
      have hp2 : ((2 ^ (Ad l m.line).who.toNat : Nat) : Int) ≤ 8 := Int.ofNat_le.2 (Nat.pow_le_pow_right (n := 2) (by decide) (show (Ad l m.line).who.toNat ≤ 3 by omega))
      have hp0 : (0 : Int) ≤ ((2 ^ (Ad l m.line).who.toNat : Nat) : Int) := Int.natCast_nonneg _
      refine ZcO ?_
      refine Cd (γ := Unit) (val := fun _ => vi ((2 ^ (Ad l m.line).who.toNat : Nat) : Int)) (F := fun _ => []) Try.call88 (fun _ => rfl) (fun ρ L R w hd hs => by have h := Nd (k := (Ad l m.line).who.toNat) hs (by omega); rw [Int.toNat_of_nonneg (by omega)] at h; exact h) (fun _ _ _ _ _ => rfl) ?_
      first | refine epc (fun _ _ => Fx) ?_ | refine epc (fun _ _ => G1) ?_ | refine epp (fun _ _ => Fx) ?_ | refine epp (fun _ _ => G1) ?_
      refine ZcW ?_;intro ρ
      refine ZK ?_
      refine ZK ?_
      refine ZK ?_
      refine ZK ?_
      refine Gl ?_
      have et : Di (Ad l m.line) = { (Ad l m.line) with sharers := ((Ad l m.line).sharers + ((2 ^ (Ad l m.line).who.toNat : Nat) : Int)), phase := 0, who := 0, serial := 0, alone := false } := by
       obtain ⟨b1, b2, _⟩ := Cz hE0.2.1.1 hE0.2.1.2 hE0.2.2.2.1.1 hE0.2.2.2.1.2
       unfold Di
       rw [if_neg (by rw [ht256]; decide), (b2 (by simpa [hhasT] using ht266)).1]
      refine ZV ?_
      have er : Al l id m = (l.set m.line.toNat ({ (Ad l m.line) with sharers := ((Ad l m.line).sharers + ((2 ^ (Ad l m.line).who.toNat : Nat) : Int)), phase := 0, who := 0, serial := 0, alone := false }), []) := Fo (by omega) (by unfold Ag; rw [if_neg (by omega), if_neg (by omega), if_neg (by omega), if_neg (by omega), if_pos (by omega), et])
      refine ZE ?_
      refine Am Try.call87 rfl (fun w hs => Cs (e := { (Ad l m.line) with sharers := ((Ad l m.line).sharers + ((2 ^ (Ad l m.line).who.toNat : Nat) : Int)), phase := 0, who := 0, serial := 0, alone := false }) (u := u) hs mm mm (by unfold Entry.wf Ap; simp only; omega) (by omega)) ?_; intro v282
      refine Ga2 ?_
      rw [er]
      exact Cn (v282, .slice none 0 0)
     ·intro ht266
      refine Gm ?_
      refine ZK ?_
      refine ZK ?_
      refine ZK ?_
      refine ZK ?_
      refine Gl ?_
      have et : Di (Ad l m.line) = { (Ad l m.line) with sharers := (Ad l m.line).sharers, phase := 0, who := 0, serial := 0, alone := false } := by
       obtain ⟨b1, b2, _⟩ := Cz hE0.2.1.1 hE0.2.1.2 hE0.2.2.2.1.1 hE0.2.2.2.1.2
       unfold Di
       rw [if_neg (by rw [ht256]; decide), (b1 (by simpa [hhasT] using ht266)).1]
      refine ZV ?_
      have er : Al l id m = (l.set m.line.toNat ({ (Ad l m.line) with sharers := (Ad l m.line).sharers, phase := 0, who := 0, serial := 0, alone := false }), []) := Fo (by omega) (by unfold Ag; rw [if_neg (by omega), if_neg (by omega), if_neg (by omega), if_neg (by omega), if_pos (by omega), et])
      refine ZE ?_
      refine Am Try.call87 rfl (fun w hs => Cs (e := { (Ad l m.line) with sharers := (Ad l m.line).sharers, phase := 0, who := 0, serial := 0, alone := false }) (u := u) hs mm mm (by unfold Entry.wf Ap; simp only; omega) (by omega)) ?_; intro v282
      refine Ga2 ?_
      rw [er]
      exact Cn (v282, .slice none 0 0)
theorem Tg {v0 : Value} {l : List Entry} {id : Int} {m : Msg} (hs : St (L) R w) (h0 : sl v0 l ∈ R) (hb : ∀ i, i < l.length → EB (l.getD i A7)) (hla : ∀ i, i < l.length → (l.getD i A7).last.length ≤ 4) (hm : m.wf) (hid : Ap id) : Calls Try.prog 58 [v0, vi id, .agg m.cells.toArray].toArray w (Bu (fun v : Value × Value => .tuple #[v.1, v.2]) (fun v => L) (fun v => sl v.1 (Al l id m).1 :: sl v.2 (Al l id m).2 :: R)) := by
 by_cases h : 0 ≤ m.line ∧ m.line < (l.length : Int) ∧ 0 ≤ m.src ∧ m.src < ((Ad l m.line).last.length : Int)
 ·by_cases h1 : m.kind = 1
  ·exact Rb hs h0 hb hla hm hid (by omega)
  by_cases h2 : m.kind = 2
  ·exact Ra hs h0 hb hla hm hid (by omega)
  by_cases h3 : m.kind = 3
  ·exact Q9 hs h0 hb hla hm hid (by omega)
  by_cases h9 : m.kind = 9
  ·exact Q7 hs h0 hb hla hm hid (by omega)
  by_cases h8 : m.kind = 8
  ·exact Q8 hs h0 hb hla hm hid (by omega)
  by_cases h10 : m.kind = 10
  ·exact Pq hs h0 hb hla hm hid (by omega)
  exact Q6 hs h0 hb hla hm hid (by omega)
 ·exact Rd hs h0 hb hla hm hid h
theorem Aat {u : Value} {c : Core} {id home : Int} {m : Msg} (hs : St (L) R w) (hu : sl u c.lines ∈ R) (hk : KB c) (hid : Ap id) (hhome : Ap home) (hm : m.wf) (hg : ¬ (0 ≤ m.line ∧ m.line < (c.lines.length : Int))) : Calls Try.prog 59 [.agg (c.cells u).toArray, vi id, vi home, .agg m.cells.toArray].toArray w (Bu (fun v : Value × Value × Value => .tuple #[.agg (Core.cells v.1 (Ae c id home m).1).toArray, v.2.1, v.2.2]) (fun v => L) (fun v => sl v.1 (Ae c id home m).1.lines :: sl v.2.1 (Ae c id home m).2.1 :: sl v.2.2 (Ae c id home m).2.2 :: R)) := by
 refine Zbu ?_;intro hlen hone0 hn4 hm0
 clear hs
 refine Gm ?_
 refine bx ?_; intro b4
 refine bx ?_; intro b5
 refine bx ?_; intro b6
 refine ZbM ?_;intro b7 b8
 refine Ga2 ?_
 rcases (show (m.line < 0) ∨ (¬ m.line < 0 ∧ (c.lines.length : Int) ≤ m.line) from by omega) with hc | hc
 ·refine ZZ ?_
  refine Gc8 ?_
  exact Zg7
 ·refine Zag ?_
  refine ZaL ?_
  refine Gc1 ?_
  exact Zg7
theorem Aas {u : Value} {c : Core} {id home : Int} {m : Msg} (hs : St (L) R w) (hu : sl u c.lines ∈ R) (hk : KB c) (hid : Ap id) (hhome : Ap home) (hm : m.wf) (hg : 0 ≤ m.line ∧ m.line < (c.lines.length : Int) ∧ m.kind = 4) : Calls Try.prog 59 [.agg (c.cells u).toArray, vi id, vi home, .agg m.cells.toArray].toArray w (Bu (fun v : Value × Value × Value => .tuple #[.agg (Core.cells v.1 (Ae c id home m).1).toArray, v.2.1, v.2.2]) (fun v => L) (fun v => sl v.1 (Ae c id home m).1.lines :: sl v.2.1 (Ae c id home m).2.1 :: sl v.2.2 (Ae c id home m).2.2 :: R)) := by
 refine Zbu ?_;intro hlen hone0 hn4 hm0
 clear hs
 refine Zb5 ?_;intro b4 b5 b6 b7 b8 hlw b11
 refine Cj ?_
 refine Gd1 ?_
 refine Ga5 ?_
 refine cdy ?_ ?_
 ·intro ht50
  refine Zaf ?_
  refine sc ?_
  refine ZU ?_
  refine cdy ?_ ?_
  ·intro ht56
   refine ZC ?_
   refine Za3 ?_
   refine Gl ?_
   refine ZN ?_
   have hXw : ({ (Ac c m.line) with seen := m.turn, state := 0, value := 0 } : Line).wf := by first | exact hlw | (unfold Line.wf Ap at hlw ⊢; simp only; omega)
   refine cq_ (blk b8 57 [.slice none 0 0, vi 0, vi 0, vi 0] :: blk b4 57 (c.cells u) :: blk b11 82 [vi 0, vi 0, vi (Ac c m.line).want, vi (Ac c m.line).serial, vi m.turn, vi (Ac c m.line).gave, vi (Ac c m.line).given] :: blk b5 3 [vi id] :: blk b6 3 [vi home] :: blk b7 49 m.cells :: L) ?_
   refine jd_ (fun ρ S => blk b8 57 (bif S 9 then [Gh.dec (γ := Value) (ρ 4), vi c.wait.kind, vi c.wait.line, vi c.wait.value] else [.slice none 0 0, vi 0, vi 0, vi 0]) :: blk b4 57 (c.cells u) :: blk b11 82 [vi 0, vi 0, vi (Ac c m.line).want, vi (Ac c m.line).serial, vi m.turn, vi (Ac c m.line).gave, vi (Ac c m.line).given] :: blk b5 3 [vi id] :: blk b6 3 [vi home] :: blk b7 49 m.cells :: L) ?_
   refine dn4 ?_
   refine Cd (γ := Value) (val := fun v => .agg (Core.cells v (Ay c m.line ({ (Ac c m.line) with seen := m.turn, state := 0, value := 0 }) c.wait)).toArray) (F := fun v => [sl v (c.lines.set m.line.toNat ({ (Ac c m.line) with seen := m.turn, state := 0, value := 0 }))]) Try.call81 (fun _ => rfl) (fun ρ L R w hd hs => Ca (l := { (Ac c m.line) with seen := m.turn, state := 0, value := 0 }) hs (hd.base mm) hXw (by omega)) (fun ρ g S hS hA => by have u9 : upS S 4 9 = S 9 := rfl; have h9 : S 9 = false := hA 9 ⟨0, rfl⟩; simp only [u9, h9, cond_false]) ?_
   refine ZcR ?_
   refine es_ 57 0 [] [] (fun ρ => b8) (fun ρ => [.slice none 0 0, vi 0, vi 0, vi 0]) (fun ρ => [Gh.dec (γ := Value) (ρ 4), vi c.wait.kind, vi c.wait.line, vi c.wait.value]) Try.sizeOf57 (h1 := (fun ρ R w L' hd hs => Bp (isSlice.one (hs.fact (hd.dep (it := ⟨4, _, _, _, _⟩) (by repeat (first | exact List.Mem.head _ | refine List.Mem.tail _ ?_)) ⟨9, rfl⟩ (List.Mem.head _)))) (by repeat (first | exact D8 | refine Bp rfl ?_)))) ?_
   refine epg 8 0 ?_
   refine dn1 ?_
   refine dnl ?_; intro ρ
   refine xq_ (blk b8 57 [Gh.dec (γ := Value) (ρ 4), vi c.wait.kind, vi c.wait.line, vi c.wait.value] :: blk b4 57 (c.cells u) :: blk b11 82 [vi 0, vi 0, vi (Ac c m.line).want, vi (Ac c m.line).serial, vi m.turn, vi (Ac c m.line).gave, vi (Ac c m.line).given] :: blk b5 3 [vi id] :: blk b6 3 [vi home] :: blk b7 49 m.cells :: L) ?_
   generalize (Gh.dec (γ := Value) (ρ 4)) = v63
   generalize (Gh.dec (γ := Value) (ρ 8)) = v67
   refine Gl ?_
   have eh : Cu (Ac c m.line) m.turn = { (Ac c m.line) with seen := m.turn, state := 0, value := 0 } := by unfold Cu; rw [if_pos (by omega), if_pos (by omega)]
   have er : Ae c id home m = (Ay c m.line ({ (Ac c m.line) with seen := m.turn, state := 0, value := 0 }) c.wait, [Bm 8 id home m.line m.turn 0], []) := by unfold Ae; rw [if_neg (by omega)]; rw [if_pos (by omega), eh]
   rw [er]
   exact Cl (v63, v67, .slice none 0 0) Try.isAgg57 Try.sizeOf57
  ·intro ht56
   refine Gl ?_
   refine ZN ?_
   have hXw : ({ (Ac c m.line) with seen := m.turn } : Line).wf := by first | exact hlw | (unfold Line.wf Ap at hlw ⊢; simp only; omega)
   refine cq_ (blk b8 57 [.slice none 0 0, vi 0, vi 0, vi 0] :: blk b4 57 (c.cells u) :: blk b11 82 [vi (Ac c m.line).state, vi (Ac c m.line).value, vi (Ac c m.line).want, vi (Ac c m.line).serial, vi m.turn, vi (Ac c m.line).gave, vi (Ac c m.line).given] :: blk b5 3 [vi id] :: blk b6 3 [vi home] :: blk b7 49 m.cells :: L) ?_
   refine jd_ (fun ρ S => blk b8 57 (bif S 9 then [Gh.dec (γ := Value) (ρ 4), vi c.wait.kind, vi c.wait.line, vi c.wait.value] else [.slice none 0 0, vi 0, vi 0, vi 0]) :: blk b4 57 (c.cells u) :: blk b11 82 [vi (Ac c m.line).state, vi (Ac c m.line).value, vi (Ac c m.line).want, vi (Ac c m.line).serial, vi m.turn, vi (Ac c m.line).gave, vi (Ac c m.line).given] :: blk b5 3 [vi id] :: blk b6 3 [vi home] :: blk b7 49 m.cells :: L) ?_
   refine dn4 ?_
   refine Cd (γ := Value) (val := fun v => .agg (Core.cells v (Ay c m.line ({ (Ac c m.line) with seen := m.turn }) c.wait)).toArray) (F := fun v => [sl v (c.lines.set m.line.toNat ({ (Ac c m.line) with seen := m.turn }))]) Try.call81 (fun _ => rfl) (fun ρ L R w hd hs => Ca (l := { (Ac c m.line) with seen := m.turn }) hs (hd.base mm) hXw (by omega)) (fun ρ g S hS hA => by have u9 : upS S 4 9 = S 9 := rfl; have h9 : S 9 = false := hA 9 ⟨0, rfl⟩; simp only [u9, h9, cond_false]) ?_
   refine ZcR ?_
   refine es_ 57 0 [] [] (fun ρ => b8) (fun ρ => [.slice none 0 0, vi 0, vi 0, vi 0]) (fun ρ => [Gh.dec (γ := Value) (ρ 4), vi c.wait.kind, vi c.wait.line, vi c.wait.value]) Try.sizeOf57 (h1 := (fun ρ R w L' hd hs => Bp (isSlice.one (hs.fact (hd.dep (it := ⟨4, _, _, _, _⟩) (by repeat (first | exact List.Mem.head _ | refine List.Mem.tail _ ?_)) ⟨9, rfl⟩ (List.Mem.head _)))) (by repeat (first | exact D8 | refine Bp rfl ?_)))) ?_
   refine epg 8 0 ?_
   refine dn1 ?_
   refine dnl ?_; intro ρ
   refine xq_ (blk b8 57 [Gh.dec (γ := Value) (ρ 4), vi c.wait.kind, vi c.wait.line, vi c.wait.value] :: blk b4 57 (c.cells u) :: blk b11 82 [vi (Ac c m.line).state, vi (Ac c m.line).value, vi (Ac c m.line).want, vi (Ac c m.line).serial, vi m.turn, vi (Ac c m.line).gave, vi (Ac c m.line).given] :: blk b5 3 [vi id] :: blk b6 3 [vi home] :: blk b7 49 m.cells :: L) ?_
   generalize (Gh.dec (γ := Value) (ρ 4)) = v63
   generalize (Gh.dec (γ := Value) (ρ 8)) = v67
   refine Gl ?_
   have eh : Cu (Ac c m.line) m.turn = { (Ac c m.line) with seen := m.turn } := by unfold Cu; rw [if_pos (by omega), if_neg (by omega)]
   have er : Ae c id home m = (Ay c m.line ({ (Ac c m.line) with seen := m.turn }) c.wait, [Bm 8 id home m.line m.turn 0], []) := by unfold Ae; rw [if_neg (by omega)]; rw [if_pos (by omega), eh]
   rw [er]
   exact Cl (v63, v67, .slice none 0 0) Try.isAgg57 Try.sizeOf57
 ·intro ht50
  refine Gl ?_
  refine ZN ?_
  have hXw : ((Ac c m.line) : Line).wf := by first | exact hlw | (unfold Line.wf Ap at hlw ⊢; simp only; omega)
  refine ZdI ?_
  refine jd_ (fun ρ S => blk b8 57 (bif S 9 then [Gh.dec (γ := Value) (ρ 4), vi c.wait.kind, vi c.wait.line, vi c.wait.value] else [.slice none 0 0, vi 0, vi 0, vi 0]) :: blk b4 57 (c.cells u) :: blk b11 82 (Ac c m.line).cells :: blk b5 3 [vi id] :: blk b6 3 [vi home] :: blk b7 49 m.cells :: L) ?_
  refine dn4 ?_
  refine Cd (γ := Value) (val := fun v => .agg (Core.cells v (Ay c m.line ((Ac c m.line)) c.wait)).toArray) (F := fun v => [sl v (c.lines.set m.line.toNat ((Ac c m.line)))]) Try.call81 (fun _ => rfl) (fun ρ L R w hd hs => Ca (l := (Ac c m.line)) hs (hd.base mm) hXw (by omega)) (fun ρ g S hS hA => by have u9 : upS S 4 9 = S 9 := rfl; have h9 : S 9 = false := hA 9 ⟨0, rfl⟩; simp only [u9, h9, cond_false]) ?_
  refine ZcR ?_
  refine es_ 57 0 [] [] (fun ρ => b8) (fun ρ => [.slice none 0 0, vi 0, vi 0, vi 0]) (fun ρ => [Gh.dec (γ := Value) (ρ 4), vi c.wait.kind, vi c.wait.line, vi c.wait.value]) Try.sizeOf57 (h1 := (fun ρ R w L' hd hs => Bp (isSlice.one (hs.fact (hd.dep (it := ⟨4, _, _, _, _⟩) (by repeat (first | exact List.Mem.head _ | refine List.Mem.tail _ ?_)) ⟨9, rfl⟩ (List.Mem.head _)))) (by repeat (first | exact D8 | refine Bp rfl ?_)))) ?_
  refine epg 8 0 ?_
  refine dn1 ?_
  refine dnl ?_; intro ρ
  refine xq_ (blk b8 57 [Gh.dec (γ := Value) (ρ 4), vi c.wait.kind, vi c.wait.line, vi c.wait.value] :: blk b4 57 (c.cells u) :: blk b11 82 (Ac c m.line).cells :: blk b5 3 [vi id] :: blk b6 3 [vi home] :: blk b7 49 m.cells :: L) ?_
  generalize (Gh.dec (γ := Value) (ρ 4)) = v63
  generalize (Gh.dec (γ := Value) (ρ 8)) = v67
  refine Gl ?_
  have eh : Cu (Ac c m.line) m.turn = (Ac c m.line) := by unfold Cu; rw [if_neg (by omega)]
  have er : Ae c id home m = (Ay c m.line ((Ac c m.line)) c.wait, [Bm 8 id home m.line m.turn 0], []) := by unfold Ae; rw [if_neg (by omega)]; rw [if_pos (by omega), eh]
  rw [er]
  exact Cl (v63, v67, .slice none 0 0) Try.isAgg57 Try.sizeOf57
theorem Xv {u : Value} {c : Core} {id home : Int} {m : Msg} (hs : St (L) R w) (hu : sl u c.lines ∈ R) (hk : KB c) (hid : Ap id) (hhome : Ap home) (hm : m.wf) (hg : 0 ≤ m.line ∧ m.line < (c.lines.length : Int) ∧ m.kind = 11) : Calls Try.prog 59 [.agg (c.cells u).toArray, vi id, vi home, .agg m.cells.toArray].toArray w (Bu (fun v : Value × Value × Value => .tuple #[.agg (Core.cells v.1 (Ae c id home m).1).toArray, v.2.1, v.2.2]) (fun v => L) (fun v => sl v.1 (Ae c id home m).1.lines :: sl v.2.1 (Ae c id home m).2.1 :: sl v.2.2 (Ae c id home m).2.2 :: R)) := by
 refine Zbu ?_;intro hlen hone0 hn4 hm0
 clear hs
 refine Zb5 ?_;intro b4 b5 b6 b7 b8 hlw b11
 refine ZH ?_
 refine ZH ?_
 refine ZH ?_
 refine ZaA ?_
 refine rn4 ?_
 refine jgx (t := 227) (p := ?p1) (hd := ?d1) ?e1 ?_ ?_; case e1 => exact rfl
 ·intro ht227
  refine Ga6 ?_
  refine cdy ?_ ?_
  ·intro ht233
   refine Gm ?_
   refine ZK ?_
   refine ZK ?_
   refine ZK ?_
   refine Zan ?_
   have hXw : ({ (Ac c m.line) with state := 0, value := 0, want := 0 } : Line).wf := by first | exact hlw | (unfold Line.wf Ap at hlw ⊢; simp only; omega)
   refine Am Try.call81 rfl (fun w hs => Ca (l := { (Ac c m.line) with state := 0, value := 0, want := 0 }) hs mm hXw (by omega)) ?_; intro v241
   refine J.know (p := v241.oneCell' = true) (fun w hs => isSlice.one (hs.fact (List.Mem.head _))) (fun hone241 => ?_)
   refine al_ (cs := [.slice none 0 0, vi 0, vi 0, vi 0]) Try.zeroValue57 ?_; intro b21
   refine s_B (cs := [v241, vi c.wait.kind, vi c.wait.line, vi c.wait.value]) Try.sizeOf57 ?_
   refine Gl ?_
   refine kp [4, 8, 9, 10, 13, 21, 242, 243] ?_
   refine Aa ?_
   refine Zb6 ?_
   refine rn1 ?_
   refine s_N [v241, vi 0, vi 0, vi 0] Try.sizeOf26 ?_
   refine Gl ?_
   refine ZV ?_
   refine cq_ (blk b8 57 [.slice none 0 0, vi 0, vi 0, vi 0] :: blk b21 57 [v241, vi 0, vi 0, vi 0] :: blk b4 57 (c.cells u) :: blk b5 3 [vi id] :: L) ?_
   refine jd_ (fun ρ S => blk b8 57 (bif S 3 then [v241, vi 0, vi 0, vi 0] else [.slice none 0 0, vi 0, vi 0, vi 0]) :: blk b21 57 [v241, vi 0, vi 0, vi 0] :: blk b4 57 (c.cells u) :: blk b5 3 [vi id] :: L) ?_
   refine dn2 ?_
   refine ZdC ?_
   refine es_ 57 0 [] [] (fun ρ => b8) (fun ρ => [.slice none 0 0, vi 0, vi 0, vi 0]) (fun ρ => [v241, vi 0, vi 0, vi 0]) Try.sizeOf57 ?_
   refine dn1 ?_
   refine epg 2 0 ?_
   refine dnl ?_; intro ρ
   refine xq_ (blk b8 57 [v241, vi 0, vi 0, vi 0] :: blk b21 57 [v241, vi 0, vi 0, vi 0] :: blk b4 57 (c.cells u) :: blk b5 3 [vi id] :: L) ?_
   generalize (Gh.dec (γ := Value) (ρ 2)) = v246
   refine Gl ?_
   have er : Ae c id home m = (Ay c m.line ({ (Ac c m.line) with state := 0, value := 0, want := 0 }) zOp, [], [⟨id, c.wait, 0⟩]) := by unfold Ae; rw [if_neg (by omega)]; rw [if_neg (by omega), if_neg (by omega), if_neg (by omega)]; rw [if_pos (by omega)]
   rw [er]
   exact Cl (v241, .slice none 0 0, v246) Try.isAgg57 Try.sizeOf57
  ·intro ht233
   refine Gl ?_
   refine Zdc ?_;intro er
   exact Zft
 ·intro ht227
  refine Gc6 ?_
  refine Zdc ?_;intro er
  exact Zft
theorem Aao {u : Value} {c : Core} {id home : Int} {m : Msg} (hs : St (L) R w) (hu : sl u c.lines ∈ R) (hk : KB c) (hid : Ap id) (hhome : Ap home) (hm : m.wf) (hg : 0 ≤ m.line ∧ m.line < (c.lines.length : Int) ∧ m.kind ≠ 4 ∧ m.kind ≠ 5 ∧ m.kind ≠ 6 ∧ m.kind ≠ 7 ∧ m.kind ≠ 11) : Calls Try.prog 59 [.agg (c.cells u).toArray, vi id, vi home, .agg m.cells.toArray].toArray w (Bu (fun v : Value × Value × Value => .tuple #[.agg (Core.cells v.1 (Ae c id home m).1).toArray, v.2.1, v.2.2]) (fun v => L) (fun v => sl v.1 (Ae c id home m).1.lines :: sl v.2.1 (Ae c id home m).2.1 :: sl v.2.2 (Ae c id home m).2.2 :: R)) := by
 refine Zbu ?_;intro hlen hone0 hn4 hm0
 clear hs
 refine Zb5 ?_;intro b4 b5 b6 b7 b8 hlw b11
 refine ZH ?_
 refine ZH ?_
 refine ZH ?_
 refine ZH ?_
 refine Av ?_
 refine Gc1 ?_
 refine Zdc ?_;intro er
 exact Zft
theorem Aar {u : Value} {c : Core} {id home : Int} {m : Msg} (hs : St (L) R w) (hu : sl u c.lines ∈ R) (hk : KB c) (hid : Ap id) (hhome : Ap home) (hm : m.wf) (hg : 0 ≤ m.line ∧ m.line < (c.lines.length : Int) ∧ m.kind = 5) : Calls Try.prog 59 [.agg (c.cells u).toArray, vi id, vi home, .agg m.cells.toArray].toArray w (Bu (fun v : Value × Value × Value => .tuple #[.agg (Core.cells v.1 (Ae c id home m).1).toArray, v.2.1, v.2.2]) (fun v => L) (fun v => sl v.1 (Ae c id home m).1.lines :: sl v.2.1 (Ae c id home m).2.1 :: sl v.2.2 (Ae c id home m).2.2 :: R)) := by
 refine Zbu ?_;intro hlen hone0 hn4 hm0
 clear hs
 refine Zb5 ?_;intro b4 b5 b6 b7 b8 hlw b11
 refine Zau ?_
 refine kp [4, 5, 7, 8, 9, 10, 11, 12, 13, 43, 71, 72, 73, 74, 75, 76, 77, 78, 79, 80] ?_
 refine Ds 80 (.bool (decide (0 < m.turn ∧ m.turn = (Ac c m.line).gave))) ?_ ?_
 ·exact Zfq
 ·refine Ax ?_
  refine Gl ?_
  first | (refine cdx (p := ?p1) (hd := ?d1) ?e1 ?_ ?_; case e1 => exact rfl) | (refine Bo (b := ?b1) ?e1 ?_ ?_; case e1 => exact rfl)
  ·exact Zgz
  ·intro ht80
   refine Gl ?_
   refine Zcz ?_
   refine Ds 102 (.bool (decide (m.turn ≤ (Ac c m.line).seen ∨ ((Ac c m.line).state ≠ 2 ∧ (Ac c m.line).state ≠ 3)))) ?_ ?_
   ·exact Zfg
   ·refine Ax ?_
    refine Gl ?_
    first | (refine cdx (p := ?p2) (hd := ?d2) ?e2 ?_ ?_; case e2 => exact rfl) | (refine Bo (b := ?b2) ?e2 ?_ ?_; case e2 => exact rfl)
    ·intro ht102
     refine Gl ?_
     refine Ze2 ?_;intro er
     exact Zft
    ·intro ht102
     refine ZdM ?_
     refine I5 (v := vi (Ac c m.line).value) (fun ρ S hS hB hA => by have h11 : S 11 = false := hA 11 ⟨0, rfl⟩; simp only [h11, cond_false]; exact Da (hc := A9 pkk (by repeat (first | exact rfl | refine Dk rfl ?_))) Try.isAgg3) (fun _ _ _ _ _ => rfl) ?_
     refine ZdK ?_;intro ρ v118
     rcases (show ((Ac c m.line).want = 3) ∨ ((Ac c m.line).want ≠ 3) from by omega) with hc | hc
     ·exact Zf3
     ·refine Zdk ?_
      refine Av ?_
      refine ZM ?_
      refine ZH ?_
      refine ZK ?_
      refine ZI ?_
      refine Av ?_
      refine Glc ?_
      refine ZN ?_
      refine ZE ?_
      have hXw : ({ (Ac c m.line) with seen := m.turn, gave := m.turn, given := (Ac c m.line).value, state := 1 } : Line).wf := by first | exact hlw | (unfold Line.wf Ap at hlw ⊢; simp only; omega)
      refine Am Try.call81 rfl (fun w hs => Ca (l := { (Ac c m.line) with seen := m.turn, gave := m.turn, given := (Ac c m.line).value, state := 1 }) hs mm hXw (by omega)) ?_; intro v149
      refine Zex ?_;intro hone149
      have ef : Cx (Ac c m.line) m.kind m.turn = { (Ac c m.line) with seen := m.turn, gave := m.turn, given := (Ac c m.line).value, state := 1 } := by unfold Cx; rw [if_neg (by omega), if_neg (by omega)]
      have er : Ae c id home m = (Ay c m.line ({ (Ac c m.line) with seen := m.turn, gave := m.turn, given := (Ac c m.line).value, state := 1 }) c.wait, [Bm 9 id home m.line m.turn (Ac c m.line).value], []) := by unfold Ae; rw [if_neg (by omega)]; rw [if_neg (by omega), if_pos (by omega)]; rw [if_pos (by unfold Dt; omega), ef, if_neg (by omega), if_neg (by omega)]
      exact ZgV
theorem Aaq {u : Value} {c : Core} {id home : Int} {m : Msg} (hs : St (L) R w) (hu : sl u c.lines ∈ R) (hk : KB c) (hid : Ap id) (hhome : Ap home) (hm : m.wf) (hg : 0 ≤ m.line ∧ m.line < (c.lines.length : Int) ∧ m.kind = 6) : Calls Try.prog 59 [.agg (c.cells u).toArray, vi id, vi home, .agg m.cells.toArray].toArray w (Bu (fun v : Value × Value × Value => .tuple #[.agg (Core.cells v.1 (Ae c id home m).1).toArray, v.2.1, v.2.2]) (fun v => L) (fun v => sl v.1 (Ae c id home m).1.lines :: sl v.2.1 (Ae c id home m).2.1 :: sl v.2.2 (Ae c id home m).2.2 :: R)) := by
 refine Zbu ?_;intro hlen hone0 hn4 hm0
 clear hs
 refine Zb5 ?_;intro b4 b5 b6 b7 b8 hlw b11
 refine ZH ?_
 refine Zau ?_
 refine kp [4, 5, 7, 8, 9, 10, 11, 12, 13, 43, 71, 72, 73, 74, 75, 76, 77, 78, 79, 80] ?_
 refine Ds 80 (.bool (decide (0 < m.turn ∧ m.turn = (Ac c m.line).gave))) ?_ ?_
 ·exact Zfq
 ·refine Ax ?_
  refine Gl ?_
  first | (refine cdx (p := ?p1) (hd := ?d1) ?e1 ?_ ?_; case e1 => exact rfl) | (refine Bo (b := ?b1) ?e1 ?_ ?_; case e1 => exact rfl)
  ·exact Zgz
  ·intro ht80
   refine Gl ?_
   refine Zcz ?_
   refine Ds 102 (.bool (decide (m.turn ≤ (Ac c m.line).seen ∨ ((Ac c m.line).state ≠ 2 ∧ (Ac c m.line).state ≠ 3)))) ?_ ?_
   ·exact Zfg
   ·refine Ax ?_
    refine Gl ?_
    first | (refine cdx (p := ?p2) (hd := ?d2) ?e2 ?_ ?_; case e2 => exact rfl) | (refine Bo (b := ?b2) ?e2 ?_ ?_; case e2 => exact rfl)
    ·intro ht102
     refine Gl ?_
     refine Ze2 ?_;intro er
     exact Zft
    ·intro ht102
     refine ZdM ?_
     refine I5 (v := vi (Ac c m.line).value) (fun ρ S hS hB hA => by have h11 : S 11 = false := hA 11 ⟨0, rfl⟩; simp only [h11, cond_false]; exact Da (hc := A9 pkk (by repeat (first | exact rfl | refine Dk rfl ?_))) Try.isAgg3) (fun _ _ _ _ _ => rfl) ?_
     refine ZdK ?_;intro ρ v118
     rcases (show ((Ac c m.line).want = 3) ∨ ((Ac c m.line).want ≠ 3) from by omega) with hc | hc
     ·exact Zf3
     ·refine Zdk ?_
      refine Av ?_
      refine ZM ?_
      refine Cj ?_
      refine Gd1 ?_
      refine ZK ?_
      refine ZK ?_
      refine ZI ?_
      refine Av ?_
      refine Glc ?_
      refine ZN ?_
      refine ZE ?_
      have hXw : ({ (Ac c m.line) with seen := m.turn, gave := m.turn, given := (Ac c m.line).value, state := 0, value := 0 } : Line).wf := by first | exact hlw | (unfold Line.wf Ap at hlw ⊢; simp only; omega)
      refine Am Try.call81 rfl (fun w hs => Ca (l := { (Ac c m.line) with seen := m.turn, gave := m.turn, given := (Ac c m.line).value, state := 0, value := 0 }) hs mm hXw (by omega)) ?_; intro v149
      refine Zex ?_;intro hone149
      have ef : Cx (Ac c m.line) m.kind m.turn = { (Ac c m.line) with seen := m.turn, gave := m.turn, given := (Ac c m.line).value, state := 0, value := 0 } := by unfold Cx; rw [if_neg (by omega), if_pos (by omega)]
      have er : Ae c id home m = (Ay c m.line ({ (Ac c m.line) with seen := m.turn, gave := m.turn, given := (Ac c m.line).value, state := 0, value := 0 }) c.wait, [Bm 9 id home m.line m.turn (Ac c m.line).value], []) := by unfold Ae; rw [if_neg (by omega)]; rw [if_neg (by omega), if_pos (by omega)]; rw [if_pos (by unfold Dt; omega), ef, if_neg (by omega), if_neg (by omega)]
      exact ZgV
theorem Aap {u : Value} {c : Core} {id home : Int} {m : Msg} (hs : St (L) R w) (hu : sl u c.lines ∈ R) (hk : KB c) (hid : Ap id) (hhome : Ap home) (hm : m.wf) (hg : 0 ≤ m.line ∧ m.line < (c.lines.length : Int) ∧ m.kind = 7) : Calls Try.prog 59 [.agg (c.cells u).toArray, vi id, vi home, .agg m.cells.toArray].toArray w (Bu (fun v : Value × Value × Value => .tuple #[.agg (Core.cells v.1 (Ae c id home m).1).toArray, v.2.1, v.2.2]) (fun v => L) (fun v => sl v.1 (Ae c id home m).1.lines :: sl v.2.1 (Ae c id home m).2.1 :: sl v.2.2 (Ae c id home m).2.2 :: R)) := by
 refine Zbu ?_;intro hlen hone0 hn4 hm0
 clear hs
 refine Zb5 ?_;intro b4 b5 b6 b7 b8 hlw b11
 refine ZH ?_
 refine ZH ?_
 refine ZaA ?_
 refine Ga5 ?_
 refine cdy ?_ ?_
 ·intro ht157
  refine Gl ?_
  refine ZbR ?_
  have er : Ae c id home m = (c, [], []) := by unfold Ae; rw [if_neg (by omega)]; rw [if_neg (by omega), if_neg (by omega), if_pos (by omega)]; rw [if_pos (by omega)]
  rw [er]
  exact Zft
 ·intro ht157
  refine Zaf ?_
  refine Ci (caps := [bp b5 0, bp b6 0, bp b7 0]) (vs := [vi 10, vi m.turn, vi 0]) rfl Try.call89 rfl (fun w hs => R7 hs (A9 pkk rfl) (A9 pkk rfl) (A9 pkk rfl) (by unfold Ap; omega) hm.2.2.2.2.2.1 (by unfold Ap; omega) hid hhome hm.2.2.2.1) ?_; intro v162
  refine Ga1 ?_
  refine Zdg ?_
  refine Ds 186 (.bool (decide (¬ Gn (Ac c m.line) m))) ?_ ?_
  ·rcases (show (m.serial < (Ac c m.line).serial) ∨ (m.serial = (Ac c m.line).serial ∧ m.alone = true ∧ (Ac c m.line).want ≠ 2) ∨ (m.serial = (Ac c m.line).serial ∧ m.alone = true ∧ (Ac c m.line).want = 2) ∨ (m.serial = (Ac c m.line).serial ∧ m.alone = false ∧ (Ac c m.line).want ≠ 1) ∨ (m.serial = (Ac c m.line).serial ∧ m.alone = false ∧ (Ac c m.line).want = 1) from by rcases Bool.eq_false_or_eq_true m.alone with h1 | h1 <;> simp only [h1, true_and, false_and, and_false, or_false, false_or, reduceCtorEq] <;> omega) with hm | hm | hm | hm | hm
   ·have hna : ¬ Gn (Ac c m.line) m := by unfold Gn; omega
    refine ZE ?_
    refine D2 ?_
    refine Ga19 ?_
    exact Zfs
   ·obtain ⟨hc1, hal, hc2⟩ := hm
    have hna : ¬ Gn (Ac c m.line) m := by unfold Gn; rw [hal]; simp; omega
    refine ZE ?_
    refine Bh ?_
    refine Zab ?_
    refine ZbS ?_
    refine ZM ?_
    refine Ia ?_
    refine Ga12 ?_
    exact Zfs
   ·obtain ⟨hc1, hal, hc2⟩ := hm
    have hna : Gn (Ac c m.line) m := by unfold Gn; rw [hal]; simp; omega
    refine Zdg ?_
    refine ZE ?_
    refine Bh ?_
    refine Zab ?_
    refine ZbS ?_
    refine ZM ?_
    refine Ib ?_
    refine ZG ?_
    refine ZbS ?_
    refine Ga7 ?_
    exact ZfL
   ·obtain ⟨hc1, hal, hc2⟩ := hm
    have hna : ¬ Gn (Ac c m.line) m := by unfold Gn; rw [hal]; simp; omega
    refine ZE ?_
    refine Bh ?_
    refine Zab ?_
    refine ZbA ?_
    refine rn8 ?_
    refine gy ?_
    refine ZbA ?_
    refine ZG ?_
    refine Ia ?_
    refine Ga2 ?_
    exact Zfs
   ·obtain ⟨hc1, hal, hc2⟩ := hm
    have hna : Gn (Ac c m.line) m := by unfold Gn; rw [hal]; simp; omega
    refine Zdg ?_
    refine ZE ?_
    refine Bh ?_
    refine Zab ?_
    refine ZbA ?_
    refine rn8 ?_
    refine gy ?_
    refine ZbA ?_
    refine ZG ?_
    refine Ib ?_
    refine Ga2 ?_
    exact ZfL
  ·refine Ax ?_
   refine Gl ?_
   first | (refine cdx (p := ?p2) (hd := ?d2) ?e2 ?_ ?_; case e2 => exact rfl) | (refine Bo (b := ?b2) ?e2 ?_ ?_; case e2 => exact rfl)
   ·intro ht186
    refine Gl ?_
    refine ZN ?_
    refine ZB ?_
    refine s_B Try.sizeOf57 ?_
    refine Ga2 ?_
    have er : Ae c id home m = (c, [Bm 10 id home m.line m.turn 0], []) := by unfold Ae; rw [if_neg (by omega)]; rw [if_neg (by omega), if_neg (by omega), if_pos (by omega)]; rw [if_neg (by omega), if_neg ht186]
    rw [er]
    exact Cl (u, v162, .slice none 0 0) Try.isAgg57 Try.sizeOf57
   ·intro ht186
    refine ZI ?_
    refine al_ (cs := zOp.cells) Try.zeroValue26 ?_; intro b17
    refine s_B Try.sizeOf26 ?_
    refine Zaf ?_
    obtain ⟨hwk, hwl, hwv⟩ := hk.wait m.line (by omega) (by have h9 := Decidable.not_not.1 ht186; unfold Gn at h9; omega)
    refine Am Try.call83 rfl (fun w hs => Nc (v := m.value) (o := c.wait) hs hm.2.2.2.2.2.2 hwk (by omega) hwv) ?_; intro _
    refine Ga5 ?_
    refine kp [4, 5, 7, 8, 9, 10, 11, 13, 16, 17, 18, 19, 43, 198, 199, 200, 201, 202, 203, 204] ?_
    refine cq_ (blk b11 82 [vi (Ac c m.line).state, vi (Ac c m.line).value, vi (Ac c m.line).want, vi (Ac c m.line).serial, vi (Ac c m.line).seen, vi (Ac c m.line).gave, vi (Ac c m.line).given] :: blk b17 26 c.wait.cells :: blk b8 57 [.slice none 0 0, vi 0, vi 0, vi 0] :: blk b4 57 (c.cells u) :: blk b5 3 [vi id] :: blk b6 3 [vi home] :: blk b7 49 m.cells :: L) ?_
    refine jd_ (fun ρ S => blk b11 82 (bif S 10 then [vi 1, vi (A0 m.value c.wait).1, vi 0, vi (Ac c m.line).serial, vi m.turn, vi (Ac c m.line).gave, vi (Ac c m.line).given] else (bif S 8 then [vi (Ac c m.line).state, vi (A0 m.value c.wait).1, vi 0, vi (Ac c m.line).serial, vi m.turn, vi (Ac c m.line).gave, vi (Ac c m.line).given] else (bif S 6 then [vi (Ac c m.line).state, vi (A0 m.value c.wait).1, vi 0, vi (Ac c m.line).serial, vi (Ac c m.line).seen, vi (Ac c m.line).gave, vi (Ac c m.line).given] else (bif S 4 then [vi (Ac c m.line).state, vi (A0 m.value c.wait).1, vi (Ac c m.line).want, vi (Ac c m.line).serial, vi (Ac c m.line).seen, vi (Ac c m.line).gave, vi (Ac c m.line).given] else [vi (Ac c m.line).state, vi (Ac c m.line).value, vi (Ac c m.line).want, vi (Ac c m.line).serial, vi (Ac c m.line).seen, vi (Ac c m.line).gave, vi (Ac c m.line).given])))) :: blk b17 26 c.wait.cells :: blk b8 57 [.slice none 0 0, vi 0, vi 0, vi 0] :: blk b4 57 (c.cells u) :: blk b5 3 [vi id] :: blk b6 3 [vi home] :: blk b7 49 m.cells :: L) ?_
    refine dn4 ?_
    refine es_ 82 1 [] [6, 8, 10] (fun ρ => b11) (fun ρ => [vi (Ac c m.line).state, vi (Ac c m.line).value, vi (Ac c m.line).want, vi (Ac c m.line).serial, vi (Ac c m.line).seen, vi (Ac c m.line).gave, vi (Ac c m.line).given]) (fun ρ => [vi (A0 m.value c.wait).1]) Try.sizeOf3 ?_
    refine dn1 ?_
    refine es_ 82 2 [4] [8, 10] (fun ρ => b11) (fun ρ => [vi (Ac c m.line).state, vi (A0 m.value c.wait).1, vi (Ac c m.line).want, vi (Ac c m.line).serial, vi (Ac c m.line).seen, vi (Ac c m.line).gave, vi (Ac c m.line).given]) (fun ρ => [vi 0]) Try.sizeOf3 ?_
    refine dn1 ?_
    refine es_ 82 4 [4, 6] [10] (fun ρ => b11) (fun ρ => [vi (Ac c m.line).state, vi (A0 m.value c.wait).1, vi 0, vi (Ac c m.line).serial, vi (Ac c m.line).seen, vi (Ac c m.line).gave, vi (Ac c m.line).given]) (fun ρ => [vi m.turn]) Try.sizeOf3 ?_
    refine dn1 ?_
    refine es_ 82 0 [4, 6, 8] [] (fun ρ => b11) (fun ρ => [vi (Ac c m.line).state, vi (A0 m.value c.wait).1, vi 0, vi (Ac c m.line).serial, vi m.turn, vi (Ac c m.line).gave, vi (Ac c m.line).given]) (fun ρ => [vi 1]) Try.sizeOf3 ?_
    refine dnl ?_; intro ρ
    refine xq_ (blk b11 82 [vi 1, vi (A0 m.value c.wait).1, vi 0, vi (Ac c m.line).serial, vi m.turn, vi (Ac c m.line).gave, vi (Ac c m.line).given] :: blk b17 26 c.wait.cells :: blk b8 57 [.slice none 0 0, vi 0, vi 0, vi 0] :: blk b4 57 (c.cells u) :: blk b5 3 [vi id] :: blk b6 3 [vi home] :: blk b7 49 m.cells :: L) ?_
    refine ZD ?_
    refine Bo (b := ?b3) ?e3 ?_ ?_; case e3 => exact rfl
    ·intro ht206
     refine ZC ?_
     refine sc ?_
     refine Gl ?_
     have hvo : Ap (A0 m.value c.wait).1 := Px hm.2.2.2.2.2.2 hwv.1 hwv.2
     refine ZE ?_
     have hXw : ({ (Ac c m.line) with value := (A0 m.value c.wait).1, want := 0, seen := m.turn, state := 2 } : Line).wf := by unfold Line.wf at hlw ⊢; exact ⟨by unfold Ap; simp only; omega, hvo, by unfold Ap; simp only; omega, hlw.2.2.2.1, hm.2.2.2.2.2.1, hlw.2.2.2.2.2.1, hlw.2.2.2.2.2.2⟩
     refine Am Try.call81 rfl (fun w hs => Ca (l := { (Ac c m.line) with value := (A0 m.value c.wait).1, want := 0, seen := m.turn, state := 2 }) hs mm hXw (by omega)) ?_; intro v212
     refine ZdL ?_;intro hone212 b20 hto ρ v221
     have eg : F4 (Ac c m.line) m c.wait = { (Ac c m.line) with value := (A0 m.value c.wait).1, want := 0, seen := m.turn, state := 2 } := by unfold F4; rw [ht206, if_pos rfl]
     have er : Ae c id home m = (Ay c m.line ({ (Ac c m.line) with value := (A0 m.value c.wait).1, want := 0, seen := m.turn, state := 2 }) zOp, [Bm 10 id home m.line m.turn 0], [⟨id, c.wait, (A0 m.value c.wait).2⟩]) := by unfold Ae; rw [if_neg (by omega)]; rw [if_neg (by omega), if_neg (by omega), if_pos (by omega)]; rw [if_neg (by omega), if_pos (Decidable.not_not.1 ht186), eg]
     rw [er]
     exact Cl (v212, v162, v221) Try.isAgg57 Try.sizeOf57
    ·intro ht206
     refine Gl ?_
     have hvo : Ap (A0 m.value c.wait).1 := Px hm.2.2.2.2.2.2 hwv.1 hwv.2
     refine ZE ?_
     have hXw : ({ (Ac c m.line) with value := (A0 m.value c.wait).1, want := 0, seen := m.turn, state := 1 } : Line).wf := by unfold Line.wf at hlw ⊢; exact ⟨by unfold Ap; simp only; omega, hvo, by unfold Ap; simp only; omega, hlw.2.2.2.1, hm.2.2.2.2.2.1, hlw.2.2.2.2.2.1, hlw.2.2.2.2.2.2⟩
     refine Am Try.call81 rfl (fun w hs => Ca (l := { (Ac c m.line) with value := (A0 m.value c.wait).1, want := 0, seen := m.turn, state := 1 }) hs mm hXw (by omega)) ?_; intro v212
     refine ZdL ?_;intro hone212 b20 hto ρ v221
     have eg : F4 (Ac c m.line) m c.wait = { (Ac c m.line) with value := (A0 m.value c.wait).1, want := 0, seen := m.turn, state := 1 } := by unfold F4; rw [ht206, if_neg (by decide)]
     have er : Ae c id home m = (Ay c m.line ({ (Ac c m.line) with value := (A0 m.value c.wait).1, want := 0, seen := m.turn, state := 1 }) zOp, [Bm 10 id home m.line m.turn 0], [⟨id, c.wait, (A0 m.value c.wait).2⟩]) := by unfold Ae; rw [if_neg (by omega)]; rw [if_neg (by omega), if_neg (by omega), if_pos (by omega)]; rw [if_neg (by omega), if_pos (Decidable.not_not.1 ht186), eg]
     rw [er]
     exact Cl (v212, v162, v221) Try.isAgg57 Try.sizeOf57
theorem Agb {u : Value} {c : Core} {id home : Int} {m : Msg} (hs : St (L) R w) (hu : sl u c.lines ∈ R) (hk : KB c) (hid : Ap id) (hhome : Ap home) (hm : m.wf) : Calls Try.prog 59 [.agg (c.cells u).toArray, vi id, vi home, .agg m.cells.toArray].toArray w (Bu (fun v : Value × Value × Value => .tuple #[.agg (Core.cells v.1 (Ae c id home m).1).toArray, v.2.1, v.2.2]) (fun v => L) (fun v => sl v.1 (Ae c id home m).1.lines :: sl v.2.1 (Ae c id home m).2.1 :: sl v.2.2 (Ae c id home m).2.2 :: R)) := by
 by_cases h : 0 ≤ m.line ∧ m.line < (c.lines.length : Int)
 ·by_cases h4 : m.kind = 4
  ·exact Aas hs hu hk hid hhome hm (by omega)
  by_cases h5 : m.kind = 5
  ·exact Aar hs hu hk hid hhome hm (by omega)
  by_cases h6 : m.kind = 6
  ·exact Aaq hs hu hk hid hhome hm (by omega)
  by_cases h7 : m.kind = 7
  ·exact Aap hs hu hk hid hhome hm (by omega)
  by_cases h11 : m.kind = 11
  ·exact Xv hs hu hk hid hhome hm (by omega)
  exact Aao hs hu hk hid hhome hm (by omega)
 ·exact Aat hs hu hk hid hhome hm h
theorem Jx {v0 : Value} {l : Frames} {n : Int} (hs : St (L) R w) (h0 : sl v0 l ∈ R) (hn : Ap n) : Calls Try.prog 44 [v0, vi n].toArray w (Bu (fun v : Value × Value => .tuple #[v.1, v.2, vi (Bv l n).2.2]) (fun v => row 52 v.1 (Bv l n).1 :: L) (fun v => sl v.2 (Bv l n).2.1 :: R)) := by
 have hlen := Bj h0 hs
 unfold Ap at hn
 refine Ai Try.func44 rfl Try.ntmps44 rfl hs ?_
 clear hs
 refine ZU ?_
 rcases (show (n < 0) ∨ (¬ n < 0 ∧ (l.length : Int) ≤ n) ∨ (0 ≤ n ∧ n < (l.length : Int)) from by omega) with hc | hc | hc
 ·refine Zcc ?_
  exact Zgf
 ·refine ZaC ?_
  refine Hm ?_
  refine Gd1 ?_
  exact Zgf
 ·refine ZaC ?_
  refine Dq ?_
  refine Gd1 ?_
  refine rn1 ?_
  refine Am Try.call61 rfl (fun w hs => Uz hs mm) ?_; intro v18
  refine Za8 ?_
  refine ob (Jg Pl) ?_
  refine l_Sr Try.isAgg52 rfl .hd (by omega) ?_; intro v22
  refine Gb1 ?_
  refine rn3 ?_
  refine ob G1 ?_
  rw [show n + 1 = ((n.toNat + 1 : Nat) : Int) by omega]
  refine Am Try.call73 rfl (fun w hs => by have h := Ya (i := n.toNat) (Afr hs) (by omega); rw [Int.toNat_of_nonneg (by omega)] at h; exact h) ?_; intro v27
  refine Ga4 ?_
  have er : Bv l n = (l.eraseIdx n.toNat, Aw l n, 0) := by unfold Bv; rw [if_neg (by omega)]
  rw [er]
  exact Hj (v27, v22)
def X6 (l : Frames) (n : Nat) (k : Nat) : Frames := (l.take k).eraseIdx n
theorem Abp {l : Frames} {n k : Nat} (h : k = l.length) : X6 l n k = l.eraseIdx n := by unfold X6; rw [h, List.take_length]
theorem Agg {l : Frames} {n k : Nat} (h : k < l.length) (hn : k ≠ n) : X6 l n (k + 1) = X6 l n k ++ [l.getD k []] := by
 unfold X6
 rw [Fk [] h]
 by_cases h' : n < k
 ·rw [List.eraseIdx_append_of_lt_length (by rw [List.length_take]; omega)]
 ·rw [List.eraseIdx_of_length_le (by simp; omega), List.eraseIdx_of_length_le (by simp; omega)]
theorem Abo (l : Frames) (n k : Nat) : (X6 l n k).length ≤ k := by
 unfold X6; rw [List.length_eraseIdx]
 split <;> rw [List.length_take] <;> omega
theorem Agh {l : Frames} {n k : Nat} (h : k < l.length) (hn : k = n) : X6 l n (k + 1) = X6 l n k := by
 unfold X6
 subst hn
 rw [Fk [] h, List.eraseIdx_append_of_length_le (by rw [List.length_take]; omega), List.length_take, Nat.min_eq_left (by omega), Nat.sub_self, List.eraseIdx_of_length_le (l := l.take k) (by rw [List.length_take]; omega)]
 simp
theorem Jb {v0 : Value} {l : Frames} {n : Int} (hs : St (L) R w) (h0 : sl v0 l ∈ R) (hn : Ap n) : Calls Try.prog 55 [v0, vi n].toArray w (Bu (fun v : Value × Value => .tuple #[v.1, v.2, vi (Bv l n).2.2]) (fun v => L) (fun v => sl v.1 (Bv l n).1 :: sl v.2 (Bv l n).2.1 :: R)) := by
 have hlen := Bj h0 hs
 unfold Ap at hn
 refine Ai Try.func55 rfl Try.ntmps55 rfl hs ?_
 clear hs
 refine ZU ?_
 rcases (show (n < 0) ∨ (¬ n < 0 ∧ (l.length : Int) ≤ n) ∨ (0 ≤ n ∧ n < (l.length : Int)) from by omega) with hc | hc | hc
 ·refine Zcc ?_
  exact ZfZ
 ·refine ZaC ?_
  refine Hm ?_
  refine Gd1 ?_
  exact ZfZ
 ·refine ZaC ?_
  refine Dq ?_
  refine Gd1 ?_
  refine Za1 ?_
  refine JC.rowNil 52 (List UInt8) ?_
  refine Bl (γ := Nat × Value) (fun g => g.1 ≤ l.length) (fun g => row 52 g.2 (X6 l n.toNat g.1) :: L) (fun _ => R) (fun g => [(0, v0), (1, vi n), (7, g.2), (18, v0), (19, vi (l.length : Int)), (20, vi (g.1 : Int))]) (fun g => l.length - g.1) (0, .slice none 0 0) (Nat.zero_le _) alT (fun w hs => hs) ?_
  rintro ⟨k, vs⟩ hk
  try simp only at hk ⊢
  refine ZA ?_
  refine cdy ?_ ?_
  ·intro ht21
   refine Gl ?_
   refine JC.open1 (xs := l) k mm (by omega) (fun _ u => ?_)
   refine Aa ?_
   refine Gb5 ?_
   refine Ga3 ?_
   refine cdy ?_ ?_
   ·intro ht27
    refine ZB ?_
    refine li [_] K2 rfl Abf ?_; intro v30
    refine ap K2 (hb := fun w hs => by have : maxN = 16777216 := rfl; have h9 := Abo l n.toNat k; simp only [List.length_cons, List.length_nil]; omega) (k := ?_); intro v31
    refine ZF ?_
    refine A6 (k + 1, v31) (by show k + 1 ≤ l.length; omega) (by show l.length - (k + 1) < l.length - k; omega) alT (fun w hs => ?_)
    try simp only
    rw [Agg (by omega) (by omega)]; exact Ah hs
   ·intro ht27
    refine ZD ?_
    refine A6 (k + 1, vs) (by show k + 1 ≤ l.length; omega) (by show l.length - (k + 1) < l.length - k; omega) alT (fun w hs => ?_)
    try simp only
    rw [Agh (by omega) (by omega)]; exact Ah hs
  ·intro ht21
   refine Gl ?_
   refine JC.open1 (xs := l) n.toNat mm (by omega) (fun _ u => ?_)
   refine Zac ?_
   refine dnl ?_; intro ρ
   refine Gl ?_
   have er : Bv l n = (l.eraseIdx n.toNat, Aw l n, 0) := by unfold Bv; rw [if_neg (by omega)]
   rw [er]
   exact Hj (vs, u) (hs := fun w hs => by rw [Abp (show k = l.length by omega)] at hs; exact Ah (St.shut hs))
theorem Rt {v0 : Value} {l : Frames} {n : Int} (hs : St (L) R w) (h0 : sl v0 l ∈ R) (hn : Ap n) : Calls Try.prog 46 [v0, vi n].toArray w (Bu (fun v : Value => .tuple #[v, vi (Ft l n).2]) (fun v => row 52 v (Ft l n).1 :: L) (fun v => R)) := by
 have hlen := Bj h0 hs
 unfold Ap at hn
 refine Ai Try.func46 rfl Try.ntmps46 rfl hs ?_
 clear hs
 refine ZD ?_
 rcases (show (n < 0) ∨ (¬ n < 0 ∧ (l.length : Int) ≤ n) ∨ (0 ≤ n ∧ n < (l.length : Int)) from by omega) with hc | hc | hc
 ·refine Zcc ?_
  exact Zg5
 ·refine ZaC ?_
  refine Hm ?_
  refine Gd1 ?_
  exact Zg5
 ·refine ZaC ?_
  refine Dq ?_
  refine Gc1 ?_
  refine JC.open1 (xs := l) n.toNat mm (by omega) (fun _ u => ?_)
  refine Za2 ?_
  refine Am Try.call71 rfl (fun w hs => Uy hs mm mm) ?_; intro v19
  refine Ga2 ?_
  have er : Ft l n = (C3 l (Aw l n), 0) := by unfold Ft; rw [if_neg (by omega)]
  rw [er]
  exact Cn v19
theorem X9 {v0 : Value} {l : Frames} {n bit : Int} (hs : St (L) R w) (h0 : sl v0 l ∈ R) (hn : Ap n) (hbit : Ap bit) : Calls Try.prog 78 [v0, vi n, vi bit].toArray w (Bu (fun v : Value => .tuple #[v, vi (Br l n bit).2]) (fun v => row 52 v (Br l n bit).1 :: L) (fun v => R)) := by
 have hlen := Bj h0 hs
 unfold Ap at hn
 refine Ai Try.func78 rfl Try.ntmps78 rfl hs ?_
 clear hs
 refine ZD ?_
 rcases (show (n < 0) ∨ (¬ n < 0 ∧ (l.length : Int) ≤ n) ∨ (0 ≤ n ∧ n < (l.length : Int)) from by omega) with hc | hc | hc
 ·refine Zcc ?_
  exact Zg2
 ·refine ZaC ?_
  refine Hm ?_
  refine Gd1 ?_
  exact Zg2
 ·refine ZaC ?_
  refine Dq ?_
  refine Gc1 ?_
  refine JC.open1 (xs := l) n.toNat mm (by omega) (fun _ u => ?_)
  refine JC.know (p := (l.getD n.toNat []).length ≤ 16777216) (fun w hs => Bj (α := UInt8) (v := u) (.tail _ (.head _)) hs) (fun hlb => ?_)
  rcases (show (bit < 0) ∨ (¬ bit < 0 ∧ 8 * ((l.getD n.toNat []).length : Int) ≤ bit) ∨ (0 ≤ bit ∧ bit < 8 * ((l.getD n.toNat []).length : Int)) from by omega) with hc | hc | hc
  ·refine ZC ?_
   refine D2 ?_
   refine Gd10 ?_
   exact Zgu
  ·refine Zez ?_
   refine Hm ?_
   refine Gd1 ?_
   exact Zgu
  ·refine Zez ?_
   refine Dq ?_
   refine Gd1 ?_
   refine rn1 ?_
   refine Am Try.call61 rfl (fun w hs => Uz hs mm) ?_; intro v30
   refine Gb1 ?_
   refine rn4 ?_
   refine ob (Jg Pl) ?_
   refine l_Sr Try.isAgg52 rfl .hd (by omega) ?_; intro v36
   refine rn1 ?_
   refine Am Try.call107 rfl (fun w hs => Nv (bit := bit) hs mm hbit) ?_; intro v38
   refine ob (Jg Pl) ?_
   refine s_Sr Try.sizeOf52 rfl rfl mm .hd (by omega) ?_
   refine Gl ?_
   refine kp [6, 7, 8, 40] ?_
   refine Za7 ?_
   have er : Br l n bit = (l.set n.toNat (Bz (Aw l n) bit), 0) := by unfold Br Aw; rw [if_neg (by omega), if_neg (by omega)]
   rw [er]
   exact Cn v30
theorem Mj {P : Program} {n : Nat} {Q : Exit → Act → World → Prop} {L : List Chunk} {R : List Fact} {al : List (Nat × Value)} {c : Code} {v : Value} {x : Chip} (i : Int) (hm : sl v x.cores ∈ R) (h0 : 0 ≤ i) (hi : i < x.cores.length) (k : (Ar x i).wait.wf → ∀ u, JC P n c Q L (cF v 4 i.toNat (Core.cells u (Ar x i)) :: sl u (Ar x i).lines :: R) al) : JC P n c Q L R al := JC.open1 i.toNat hm (by omega) k
theorem Pe {c : Core} {id home : Int} {o : Op} (ho : o.wf) : (Aj c id home o).1.wait.wf := by
 have hz : zOp.wf := by unfold zOp Op.wf Ap; simp only; omega
 unfold Aj
 split
 ·exact hz
 split
 ·exact hz
 split
 ·exact hz
 split
 ·exact hz
 ·exact ho
theorem R5 {c : Core} {id home : Int} {m : Msg} (ho : c.wait.wf) : (Ae c id home m).1.wait.wf := by
 have hz : zOp.wf := by unfold zOp Op.wf Ap; simp only; omega
 unfold Ae
 split
 ·exact ho
 split
 ·exact ho
 split
 ·split
  ·show (if _ then zOp else c.wait).wf
   split
   ·exact hz
   ·exact ho
  split
  ·exact ho
  ·exact ho
 split
 ·split
  ·exact ho
  split
  ·exact hz
  ·exact ho
 split
 ·exact hz
 ·exact ho
theorem Adf {x : Chip} {s : Step} (hk : s.kind = 2 ∨ s.kind = 3 ∨ s.kind = 4 ∨ s.kind = 5) (h : By x s.n) : Ak x s = (Dn, [], 5) := by
 unfold Ak
 rw [if_neg (by omega)]
 by_cases h2 : s.kind = 2
 ·rw [if_pos h2, if_pos h]
 rw [if_neg h2]
 by_cases h3 : s.kind = 3
 ·rw [if_pos h3, if_pos h]
 rw [if_neg h3]
 by_cases h4 : s.kind = 4
 ·rw [if_pos h4, if_pos h]
 ·rw [if_neg h4, if_pos (by omega), if_pos h]
section
variable {n nl : Nat} {x : Chip} {M : List Int}
theorem Inv.lbs (h : Inv n nl x M) {p : Int} (hp : 0 ≤ p ∧ p < x.cores.length) : ∀ i, i < (Ar x p).lines.length → LB ((Ar x p).lines.getD i zLine) := fun i hi => by
 have hnc := h.nc
 have h1 : (Ar x p).lines.length = nl := h.ncl p.toNat (by omega)
 exact h.lb (i := i) (p := p.toNat) (by omega) (by omega)
theorem Inv.ebs (h : Inv n nl x M) : ∀ i, i < x.home.length → EB (x.home.getD i A7) ∧ (x.home.getD i A7).turn ≤ 65535 ∧ (0 ≤ (x.home.getD i A7).serial ∧ (x.home.getD i A7).serial ≤ 65535) ∧ (0 ≤ (x.home.getD i A7).value ∧ (x.home.getD i A7).value ≤ 255) ∧ (x.home.getD i A7).last.length ≤ 4 := fun i hi => by
 have hnh := h.nh
 have hn := h.n1
 have := h.nla i (by omega)
 exact ⟨h.eb (i := i) (by omega), (h.ebd (i := i) (by omega)).1, (h.ebd (i := i) (by omega)).2.1, (h.ebd (i := i) (by omega)).2.2, by show (ent x i).last.length ≤ 4; omega⟩
theorem Inv.says_in (h : Inv n nl x M) (i : Nat) (hi : i < x.home.length) : ∀ a ∈ Gb (x.home.getD i A7) i n, MsgIn a := fun a ha => by
 have hnh := h.nh; have hn := h.n1; have hl := h.l1
 exact Abt (S9 h (i := i) (by omega) a ha).1 (by simp only [G5]; omega) (by simp only [G5]; omega)
end
theorem Aaz {n nl : Nat} {M : List Int} {cv hv fv : Value} {x : Chip} {s : Step} (hs : St (L) R w) (hc : sl cv x.cores ∈ R) (hh : sl hv x.home ∈ R) (hf : sl fv x.frames ∈ R) (h : Inv n nl x M) (hsw : s.wf) (hk : s.kind = 1) : Calls Try.prog 20 [.agg #[cv, hv, fv], .agg s.cells.toArray].toArray w (Bu (fun v : Value × Value × Value × Value => .tuple #[.agg #[v.1, v.2.1, v.2.2.1], v.2.2.2, vi (Ak x s).2.2]) (fun v => L) (fun v => sl v.1 (Ak x s).1.cores :: sl v.2.1 (Ak x s).1.home :: sl v.2.2.1 (Ak x s).1.frames :: sl v.2.2.2 (Ak x s).2.1 :: R)) := by
 refine Zbj ?_;intro hn hnl hnc hnh hfr honec honeh honef hsw0 hop hsn hsN hsb hn64 hcw
 clear hs
 refine Zb3 ?_;intro b2 b3 b4
 refine Gb2 ?_
 refine ZaI ?_
 rcases (show (s.node < 0) ∨ (0 ≤ s.node ∧ (x.cores.length : Int) ≤ s.node) ∨ (0 ≤ s.node ∧ s.node < (x.cores.length : Int)) from by omega) with hc | hc | hc
 ·refine ZZ ?_
  refine Gc6 ?_
  exact ZfC
 ·refine Zag ?_
  refine ZG ?_
  refine Hm ?_
  refine Gc1 ?_
  exact ZfC
 ·refine Zag ?_
  refine ZG ?_
  refine Dq ?_
  refine Gc1 ?_
  refine Zdj ?_;intro hwt u hkb hlb hk4
  refine ZeI ?_
  refine jd_ (fun ρ S => blk b2 33 [cv, hv, fv] :: blk b3 28 s.cells :: blk b4 33 [.slice none 0 0, .slice none 0 0, .slice none 0 0] :: ((bif S 17 then [blk (Gh.dec (γ := Nat) (ρ 17)) 57 (bif S 18 then [(Gh.dec (γ := Value × Value × Value) (ρ 11)).1, vi (Aj (Ar x s.node) s.node (x.cores.length : Int) s.op).1.wait.kind, vi (Aj (Ar x s.node) s.node (x.cores.length : Int) s.op).1.wait.line, vi (Aj (Ar x s.node) s.node (x.cores.length : Int) s.op).1.wait.value] else [.slice none 0 0, vi 0, vi 0, vi 0])] else []) ++ (L))) ?_
  refine dn11 ?_
  refine Cd (γ := Value × Value × Value) (val := fun v => .tuple #[.agg (Core.cells v.1 (Aj (Ar x s.node) s.node (x.cores.length : Int) s.op).1).toArray, v.2.1, v.2.2, vi (Aj (Ar x s.node) s.node (x.cores.length : Int) s.op).2.2.2]) (F := fun v => [sl v.1 (Aj (Ar x s.node) s.node (x.cores.length : Int) s.op).1.lines, sl v.2.1 (Aj (Ar x s.node) s.node (x.cores.length : Int) s.op).2.1, sl v.2.2 (Aj (Ar x s.node) s.node (x.cores.length : Int) s.op).2.2.1]) Try.call50 (fun _ => rfl) (fun ρ L R w hd hs => Abc (c := (Ar x s.node)) (id := s.node) (home := (x.cores.length : Int)) (q := s.op) (u := u) hs (hd.base mm) hkb hsn hn64 hop) (fun ρ g S hS hA => by have u17 : upS S 11 17 = S 17 := rfl; have u18 : upS S 11 18 = S 18 := rfl; have r17 : Rho.set ρ 11 g 17 = ρ 17 := rfl; have h18 : S 18 = false := hA 18 ⟨0, rfl⟩; simp only [u17, u18, r17, h18, cond_false]) ?_
  refine e_p (v := fun ρ => .tuple #[.agg (Core.cells (Gh.dec (γ := Value × Value × Value) (ρ 11)).1 (Aj (Ar x s.node) s.node (x.cores.length : Int) s.op).1).toArray, (Gh.dec (γ := Value × Value × Value) (ρ 11)).2.1, (Gh.dec (γ := Value × Value × Value) (ρ 11)).2.2, vi (Aj (Ar x s.node) s.node (x.cores.length : Int) s.op).2.2.2]) (fun _ _ => Qw) (Ind.gh (h := fun g => (.tuple #[.agg (Core.cells (Gh.dec (γ := Value × Value × Value) g).1 (Aj (Ar x s.node) s.node (x.cores.length : Int) s.op).1).toArray, (Gh.dec (γ := Value × Value × Value) g).2.1, (Gh.dec (γ := Value × Value × Value) g).2.2, vi (Aj (Ar x s.node) s.node (x.cores.length : Int) s.op).2.2.2] : Value)) 11 0 rfl) (fun _ _ _ _ _ => rfl) ?_
  refine e_p (v := fun ρ => .agg (Core.cells (Gh.dec (γ := Value × Value × Value) (ρ 11)).1 (Aj (Ar x s.node) s.node (x.cores.length : Int) s.op).1).toArray) (fun _ _ => q_x) (Ind.gh (h := fun g => (.agg (Core.cells (Gh.dec (γ := Value × Value × Value) g).1 (Aj (Ar x s.node) s.node (x.cores.length : Int) s.op).1).toArray : Value)) 11 1 rfl) (fun _ _ _ _ _ => rfl) ?_
  refine e_p (v := fun ρ => (Gh.dec (γ := Value × Value × Value) (ρ 11)).2.1) (fun _ _ => q_x) (Ind.gh (h := fun g => ((Gh.dec (γ := Value × Value × Value) g).2.1 : Value)) 11 1 rfl) (fun _ _ _ _ _ => rfl) ?_
  refine e_p (v := fun ρ => (Gh.dec (γ := Value × Value × Value) (ρ 11)).2.2) (fun _ _ => q_x) (Ind.gh (h := fun g => ((Gh.dec (γ := Value × Value × Value) g).2.2 : Value)) 11 1 rfl) (fun _ _ _ _ _ => rfl) ?_
  refine ZeK ?_
  refine Hq (cs := [.slice none 0 0, vi 0, vi 0, vi 0]) Try.zeroValue57 rfl (fun ρ b S hS hA => ?_) ?_
  ·have ui : upS S 17 17 = true := rfl; have u18 : upS S 17 18 = S 18 := rfl; have r11 : Rho.set ρ 17 (Gh.enc b) 11 = ρ 11 := rfl; have h18 : S 18 = false := hA 18 ⟨0, rfl⟩; have rs : (Gh.dec (γ := Nat) (Rho.set ρ 17 (Gh.enc b) 17)) = b := rfl
   simp only [ui, hS, u18, r11, h18, rs, cond_true, cond_false, List.nil_append]
   exact Zfb
  refine es_ 57 0 [17] [] (fun ρ => (Gh.dec (γ := Nat) (ρ 17))) (fun ρ => [.slice none 0 0, vi 0, vi 0, vi 0]) (fun ρ => [(Gh.dec (γ := Value × Value × Value) (ρ 11)).1, vi (Aj (Ar x s.node) s.node (x.cores.length : Int) s.op).1.wait.kind, vi (Aj (Ar x s.node) s.node (x.cores.length : Int) s.op).1.wait.line, vi (Aj (Ar x s.node) s.node (x.cores.length : Int) s.op).1.wait.value]) Try.sizeOf57 (h1 := (fun ρ R w L' hd hs => Bp (isSlice.one (hs.fact (hd.dep (it := ⟨11, _, _, _, _⟩) (by repeat (first | exact List.Mem.head _ | refine List.Mem.tail _ ?_)) ⟨9, rfl⟩ (List.Mem.head _)))) (by repeat (first | exact D8 | refine Bp rfl ?_)))) ?_
  refine e_p (v := fun ρ => (Gh.dec (γ := Value × Value × Value) (ρ 11)).2.1) (fun _ _ => D1) (Ind.gh (h := fun g => ((Gh.dec (γ := Value × Value × Value) g).2.1 : Value)) 11 0 rfl) (fun _ _ _ _ _ => rfl) ?_
  refine e_p (v := fun ρ => (Gh.dec (γ := Value × Value × Value) (ρ 11)).2.2) (fun _ _ => D1) (Ind.gh (h := fun g => ((Gh.dec (γ := Value × Value × Value) g).2.2 : Value)) 11 0 rfl) (fun _ _ _ _ _ => rfl) ?_
  refine Kd (v := vi (Aj (Ar x s.node) s.node (x.cores.length : Int) s.op).2.2.2) (fun _ _ => D1) (fun _ _ _ _ _ => rfl) ?_
  refine dnl ?_; intro ρ
  refine xq_ (blk b2 33 [cv, hv, fv] :: blk b3 28 s.cells :: blk b4 33 [.slice none 0 0, .slice none 0 0, .slice none 0 0] :: (blk (Gh.dec (γ := Nat) (ρ 17)) 57 [(Gh.dec (γ := Value × Value × Value) (ρ 11)).1, vi (Aj (Ar x s.node) s.node (x.cores.length : Int) s.op).1.wait.kind, vi (Aj (Ar x s.node) s.node (x.cores.length : Int) s.op).1.wait.line, vi (Aj (Ar x s.node) s.node (x.cores.length : Int) s.op).1.wait.value] :: L)) ?_
  generalize (Gh.dec (γ := Value × Value × Value) (ρ 11)) = v65
  generalize (Gh.dec (γ := Nat) (ρ 17)) = b9
  refine Gl ?_
  refine kp [2, 3, 4, 5, 6, 7, 8, 9, 10, 11, 12, 31, 70, 71] ?_
  refine ZR ?_
  refine cdy ?_ ?_
  ·intro ht71
   refine Gl ?_
   refine Zaa ?_
   refine ZB ?_
   refine Ci (caps := []) (vs := [vi (Aj (Ar x s.node) s.node (x.cores.length : Int) s.op).2.2.2]) rfl Try.call49 rfl (fun w hs => Le hs) ?_; intro _
   refine rn3 ?_
   refine ZaB ?_
   refine Ga2 ?_
   have er : Ak x s = (Dn, [], (Aj (Ar x s.node) s.node (x.cores.length : Int) s.op).2.2.2) := by unfold Ak Bd; rw [if_pos (by omega), if_neg (by omega), if_pos ht71]
   rw [er]
   exact Cl (.slice none 0 0, .slice none 0 0, .slice none 0 0, .slice none 0 0) Try.isAgg33 Try.sizeOf33
  ·intro ht71
   refine Zan ?_
   refine Am Try.call51 rfl (fun w hs => Na (x := x) (i := s.node) (k := (Aj (Ar x s.node) s.node (x.cores.length : Int) s.op).1) (u := v65.1) hs mm honeh honef mm (Pe hop) (by omega)) ?_; intro v82
   refine J.know (p := v82.oneCell' = true) (fun w hs => isSlice.one (hs.fact (List.Mem.head _))) (fun honev82 => ?_)
   refine s_B (cs := [v82, hv, fv]) Try.sizeOf33 ?_
   refine Zaf ?_
   refine Am Try.call52 rfl (fun w hs => Q5 (fs := x.frames) (ms := (Aj (Ar x s.node) s.node (x.cores.length : Int) s.op).2.1) hs mm mm (Vm (by omega) (by omega) hk4 hlb)) ?_; intro v86
   refine J.know (p := v86.oneCell' = true) (fun w hs => isSlice.one (hs.fact (List.Mem.head _))) (fun honev86 => ?_)
   refine ZK ?_
   refine ZI ?_
   refine s_B (cs := [v82, hv, v86]) Try.sizeOf33 ?_
   refine Ga2 ?_
   have er : Ak x s = (Cy x s.node (Aj (Ar x s.node) s.node (x.cores.length : Int) s.op).1 (Aj (Ar x s.node) s.node (x.cores.length : Int) s.op).2.1, (Aj (Ar x s.node) s.node (x.cores.length : Int) s.op).2.2.1, 0) := by unfold Ak Bd; rw [if_pos (by omega), if_neg (by omega), if_neg ht71]
   rw [er]
   exact Cl (v82, hv, v86, v65.2.2) Try.isAgg33 Try.sizeOf33
theorem Aba {n nl : Nat} {M : List Int} {cv hv fv : Value} {x : Chip} {s : Step} (hs : St (L) R w) (hc : sl cv x.cores ∈ R) (hh : sl hv x.home ∈ R) (hf : sl fv x.frames ∈ R) (h : Inv n nl x M) (hsw : s.wf) (hk : s.kind ≠ 1 ∧ s.kind ≠ 2 ∧ s.kind ≠ 3 ∧ s.kind ≠ 4 ∧ s.kind ≠ 5 ∧ s.kind ≠ 6) : Calls Try.prog 20 [.agg #[cv, hv, fv], .agg s.cells.toArray].toArray w (Bu (fun v : Value × Value × Value × Value => .tuple #[.agg #[v.1, v.2.1, v.2.2.1], v.2.2.2, vi (Ak x s).2.2]) (fun v => L) (fun v => sl v.1 (Ak x s).1.cores :: sl v.2.1 (Ak x s).1.home :: sl v.2.2.1 (Ak x s).1.frames :: sl v.2.2.2 (Ak x s).2.1 :: R)) := by
 refine Zbj ?_;intro hn hnl hnc hnh hfr honec honeh honef hsw0 hop hsn hsN hsb hn64 hcw
 clear hs
 refine Zb3 ?_;intro b2 b3 b4
 refine Zaj ?_
 refine ZH ?_
 refine ZH ?_
 refine Av ?_
 refine Gc1 ?_
 refine Zaa ?_
 refine ZC ?_
 refine Ci (caps := []) (vs := [vi 1]) rfl Try.call49 rfl (fun w hs => Le hs) ?_; intro _
 refine rn3 ?_
 refine ZaB ?_
 refine Ga2 ?_
 have er : Ak x s = (Dn, [], 1) := by unfold Ak; rw [if_neg (by omega), if_neg (by omega), if_neg (by omega), if_neg (by omega), if_neg (by omega), if_neg (by omega)]
 rw [er]
 exact Cl (.slice none 0 0, .slice none 0 0, .slice none 0 0, .slice none 0 0) Try.isAgg33 Try.sizeOf33
theorem Aau {n nl : Nat} {M : List Int} {cv hv fv : Value} {x : Chip} {s : Step} (hs : St (L) R w) (hc : sl cv x.cores ∈ R) (hh : sl hv x.home ∈ R) (hf : sl fv x.frames ∈ R) (h : Inv n nl x M) (hsw : s.wf) (hk : s.kind = 6) : Calls Try.prog 20 [.agg #[cv, hv, fv], .agg s.cells.toArray].toArray w (Bu (fun v : Value × Value × Value × Value => .tuple #[.agg #[v.1, v.2.1, v.2.2.1], v.2.2.2, vi (Ak x s).2.2]) (fun v => L) (fun v => sl v.1 (Ak x s).1.cores :: sl v.2.1 (Ak x s).1.home :: sl v.2.2.1 (Ak x s).1.frames :: sl v.2.2.2 (Ak x s).2.1 :: R)) := by
 refine Zbj ?_;intro hn hnl hnc hnh hfr honec honeh honef hsw0 hop hsn hsN hsb hn64 hcw
 clear hs
 refine Zb3 ?_;intro b2 b3 b4
 refine Gb2 ?_
 refine Zau ?_
 rcases (show (s.node < 0) ∨ (0 ≤ s.node ∧ (x.cores.length : Int) < s.node) ∨ (0 ≤ s.node ∧ s.node < (x.cores.length : Int)) ∨ (s.node = (x.cores.length : Int)) from by omega) with hc | hc | hc | hc
 ·refine ZZ ?_
  refine Gc6 ?_
  exact ZfH
 ·refine Zag ?_
  refine ZG ?_
  refine G3 ?_
  refine Gc1 ?_
  exact ZfH
 ·refine Zag ?_
  refine ZG ?_
  refine Ei ?_
  refine Gd1 ?_
  refine rn3 ?_
  refine D2 ?_
  refine Glc ?_
  refine Zdj ?_;intro hwt u hkb hlb hk4
  refine ZeI ?_
  refine jd_ (fun ρ S => blk b2 33 (bif S 14 then [cv, hv, (Gh.dec (γ := Value) (ρ 12))] else [cv, hv, fv]) :: blk b3 28 s.cells :: blk b4 33 [.slice none 0 0, .slice none 0 0, .slice none 0 0] :: L) ?_
  refine dn1 ?_
  refine I5 (v := fv) (fun ρ S hS hB hA => by have h14 : S 14 = false := hA 14 ⟨0, rfl⟩; simp only [h14, cond_false]; exact Da (hc := A9 pkk (by repeat (first | exact rfl | refine Dk rfl ?_))) Try.isAgg31) (fun _ _ _ _ _ => rfl) ?_
  refine dn1 ?_
  refine I5 (v := cv) (fun ρ S hS hB hA => by have h14 : S 14 = false := hA 14 ⟨0, rfl⟩; simp only [h14, cond_false]; exact Da (hc := A9 pkk (by repeat (first | exact rfl | refine Dk rfl ?_))) Try.isAgg29) (fun _ _ _ _ _ => rfl) ?_
  refine dn2 ?_
  first | refine epc (fun _ _ => Gc Q0) ?_ | refine epc (fun _ _ => Jg Q0) ?_ | refine epp (fun _ _ => Gc Q0) ?_ | refine epp (fun _ _ => Jg Q0) ?_
  first | refine epc (fun _ _ => Z4 Try.isAgg57 Try.sizeOf57) ?_ | refine epc (fun _ _ => Fr 4 Try.isAgg57 Try.sizeOf57) ?_ | refine epc (fun _ _ => q_lNc 4 Try.isAgg57 Try.sizeOf57) ?_ | refine epc (fun _ _ => q_lNf 4 Try.isAgg57 Try.sizeOf57) ?_ | refine epp (fun _ _ => Z4 Try.isAgg57 Try.sizeOf57) ?_ | refine epp (fun _ _ => Fr 4 Try.isAgg57 Try.sizeOf57) ?_ | refine epp (fun _ _ => q_lNc 4 Try.isAgg57 Try.sizeOf57) ?_ | refine epp (fun _ _ => q_lNf 4 Try.isAgg57 Try.sizeOf57) ?_
  refine dn3 ?_
  refine Cd (γ := Value) (val := fun v => v) (F := fun v => [sl v (D6 (Ar x s.node) s.node (x.cores.length : Int))]) Try.call53 (fun _ => rfl) (fun ρ L R w hd hs => Re (c := (Ar x s.node)) (id := s.node) (home := (x.cores.length : Int)) (u := u) hs (hd.base mm) hsn hn64) (fun _ _ _ _ _ => rfl) ?_
  refine Cd (γ := Value) (val := fun v => v) (F := fun v => [sl v (way x.frames (D6 (Ar x s.node) s.node (x.cores.length : Int)))]) Try.call52 (fun _ => rfl) (fun ρ L R w hd hs => Q5 (fs := x.frames) (ms := (D6 (Ar x s.node) s.node (x.cores.length : Int))) hs (hd.base mm) (hd.dep (it := ⟨11, _, _, _, _⟩) (by repeat (first | exact List.Mem.head _ | refine List.Mem.tail _ ?_)) ⟨9, rfl⟩ (List.Mem.head _)) (Pk (by omega) (by omega) _ 0 (by omega) (by omega) (U7 (d := zLine) hlb))) (fun ρ g S hS hA => by have u14 : upS S 12 14 = S 14 := rfl; have h14 : S 14 = false := hA 14 ⟨0, rfl⟩; simp only [u14, h14, cond_false]) ?_
  refine dn1 ?_
  refine Er (T0 := 33) (f := 2) (vs := fun ρ => [cv, hv, fv]) (v := fun ρ => (Gh.dec (γ := Value) (ρ 12))) (fun ρ => b2) Try.sizeOf31 (fun _ => rfl) (fun _ => rfl) (fun ρ S R w L9 hB hd hs => isSlice.one (hs.fact (hd.dep (it := ⟨12, _, _, _, _⟩) (by repeat (first | exact List.Mem.head _ | refine List.Mem.tail _ ?_)) ⟨9, rfl⟩ (List.Mem.head _)))) (fun _ => rfl) (fun ρ g S hS hB hA => ?_) ?_
  ·have ui : upS S 14 14 = true := rfl; have r12 : Rho.set ρ 14 g 12 = ρ 12 := rfl
   simp only [ui, hS, r12, cond_true, cond_false]
   exact pex
  refine dnl ?_; intro ρ
  refine xq_ (blk b2 33 [cv, hv, (Gh.dec (γ := Value) (ρ 12))] :: blk b3 28 s.cells :: blk b4 33 [.slice none 0 0, .slice none 0 0, .slice none 0 0] :: L) ?_
  generalize (Gh.dec (γ := Value) (ρ 11)) = v121
  generalize (Gh.dec (γ := Value) (ρ 12)) = v122
  refine Gl ?_
  refine ZN ?_
  refine JC.know (p := v122.oneCell' = true) (fun w hs => isSlice.one (hs.fact (mm (f := sl v122 (way x.frames (D6 (Ar x s.node) s.node (x.cores.length : Int))))))) (fun honev122 => ?_)
  refine kp [2, 3, 4, 5, 6, 7, 8, 31, 124] ?_
  refine ZC ?_
  refine s_B (cs := [cv, hv, v122]) Try.sizeOf33 ?_
  refine Ga2 ?_
  have er : Ak x s = (⟨x.cores, x.home, way x.frames (D6 (Ar x s.node) s.node (x.cores.length : Int))⟩, [], 0) := by unfold Ak Bd; rw [if_neg (by omega), if_neg (by omega), if_neg (by omega), if_neg (by omega), if_neg (by omega), if_pos (by omega)]; rw [if_neg (by omega), if_neg (by omega)]
  rw [er]
  exact Cl (cv, hv, v122, .slice none 0 0) Try.isAgg33 Try.sizeOf33
 ·refine Zag ?_
  refine ZG ?_
  refine Ei ?_
  refine Gd1 ?_
  refine rn3 ?_
  refine Bh ?_
  refine Glc ?_
  have hnode : s.node = (x.cores.length : Int) := by omega
  refine Aa ?_
  refine Ga4 ?_
  refine Bl (γ := Nat × Value) (fun g => g.1 ≤ x.home.length) (fun g => blk b2 33 [cv, hv, g.2] :: blk b3 28 s.cells :: blk b4 33 [.slice none 0 0, .slice none 0 0, .slice none 0 0] :: L) (fun g => sl g.2 (way x.frames (De (x.cores.length : Int) 0 (x.home.take g.1))) :: R) (fun g => [(2, bp b2 0), (3, bp b3 0), (4, bp b4 0), (8, vi (x.cores.length : Int)), (126, hv), (127, vi (x.home.length : Int)), (128, vi (g.1 : Int))]) (fun g => x.home.length - g.1) (0, fv) (Nat.zero_le _) alT (fun w hs => Ah (Aes hs hf)) ?_
  rintro ⟨k, vf⟩ hk
  try simp only at hk ⊢
  refine Gl ?_
  refine kp [2, 3, 4, 5, 6, 7, 8, 31, 126, 127, 128, 129] ?_
  refine ZX ?_
  refine cdy ?_ ?_
  ·intro ht129
   refine Gl ?_
   refine Mi (l := x.home) (v := hv) k mm (by omega) (fun _ ue => ?_)
   refine JC.know (p := ue.oneCell' = true) (fun w hs => isSlice.one (hs.fact (.tail _ (.head _)))) (fun honeu => ?_)
   refine ZJ ?_
   refine al_ (cs := zEC) Try.zeroValue80 ?_; intro b14
   refine rn1 ?_
   refine s_B (cs := Entry.cells ue (x.home.getD k A7)) Try.sizeOf80 ?_
   refine Gl ?_
   refine cq_ (blk b2 33 [cv, hv, vf] :: blk b14 80 (Entry.cells ue (x.home.getD k A7)) :: blk b3 28 s.cells :: blk b4 33 [.slice none 0 0, .slice none 0 0, .slice none 0 0] :: L) ?_
   refine jd_ (fun ρ S => blk b2 33 (bif S 8 then [cv, hv, (Gh.dec (γ := Value) (ρ 6))] else [cv, hv, vf]) :: blk b14 80 (Entry.cells ue (x.home.getD k A7)) :: blk b3 28 s.cells :: blk b4 33 [.slice none 0 0, .slice none 0 0, .slice none 0 0] :: L) ?_
   refine dn1 ?_
   refine I5 (v := vf) (fun ρ S hS hB hA => by have h8 : S 8 = false := hA 8 ⟨0, rfl⟩; simp only [h8, cond_false]; exact Da (hc := A9 pkk (by repeat (first | exact rfl | refine Dk rfl ?_))) Try.isAgg31) (fun _ _ _ _ _ => rfl) ?_
   refine dn3 ?_
   refine Cd (γ := Value) (val := fun v => v) (F := fun v => [sl v (Gb (x.home.getD k A7) (k : Int) (x.cores.length : Int))]) Try.call54 (fun _ => rfl) (fun ρ L R w hd hs => Jd (e := (x.home.getD k A7)) (line := (k : Int)) (id := (x.cores.length : Int)) (u := ue) hs (h.ebs k (by omega)).1 honeu (by unfold Ap; omega) hn64) (fun _ _ _ _ _ => rfl) ?_
   refine Cd (γ := Value) (val := fun v => v) (F := fun v => [sl v (way (way x.frames (De (x.cores.length : Int) 0 (x.home.take k))) (Gb (x.home.getD k A7) (k : Int) (x.cores.length : Int)))]) Try.call52 (fun _ => rfl) (fun ρ L R w hd hs => Q5 (fs := way x.frames (De (x.cores.length : Int) 0 (x.home.take k))) (ms := Gb (x.home.getD k A7) (k : Int) (x.cores.length : Int)) hs (hd.base mm) (hd.dep (it := ⟨5, _, _, _, _⟩) (by repeat (first | exact List.Mem.head _ | refine List.Mem.tail _ ?_)) ⟨9, rfl⟩ (List.Mem.head _)) (by rw [hnc]; exact h.says_in k (by omega))) (fun ρ g S hS hA => by have u8 : upS S 6 8 = S 8 := rfl; have h8 : S 8 = false := hA 8 ⟨0, rfl⟩; simp only [u8, h8, cond_false]) ?_
   refine dn1 ?_
   refine Er (T0 := 33) (f := 2) (vs := fun ρ => [cv, hv, vf]) (v := fun ρ => (Gh.dec (γ := Value) (ρ 6))) (fun ρ => b2) Try.sizeOf31 (fun _ => rfl) (fun _ => rfl) (fun ρ S R w L9 hB hd hs => isSlice.one (hs.fact (hd.dep (it := ⟨6, _, _, _, _⟩) (by repeat (first | exact List.Mem.head _ | refine List.Mem.tail _ ?_)) ⟨9, rfl⟩ (List.Mem.head _)))) (fun _ => rfl) (fun ρ g S hS hB hA => ?_) ?_
   ·have ui : upS S 8 8 = true := rfl; have r6 : Rho.set ρ 8 g 6 = ρ 6 := rfl
    simp only [ui, hS, r6, cond_true, cond_false]
    exact pex
   refine dnl ?_; intro ρ
   refine xq_ (blk b2 33 [cv, hv, (Gh.dec (γ := Value) (ρ 6))] :: blk b14 80 (Entry.cells ue (x.home.getD k A7)) :: blk b3 28 s.cells :: blk b4 33 [.slice none 0 0, .slice none 0 0, .slice none 0 0] :: L) ?_
   generalize (Gh.dec (γ := Value) (ρ 5)) = v138
   generalize (Gh.dec (γ := Value) (ρ 6)) = v139
   refine ZD ?_
   refine A6 (k + 1, v139) (by show k + 1 ≤ x.home.length; omega) (by show x.home.length - (k + 1) < x.home.length - k; omega) alT (fun w hs => ?_)
   try simp only
   rw [Fk A7 (by omega), Im, Jt, List.length_take, Nat.min_eq_left (by omega), Int.zero_add]; exact Ah hs
  ·intro ht129
   refine Gl ?_
   refine ZN ?_
   refine JC.know (p := vf.oneCell' = true) (fun w hs => isSlice.one (hs.fact (mm (f := sl vf (way x.frames (De (x.cores.length : Int) 0 (x.home.take k))))))) (fun honevf => ?_)
   refine ZC ?_
   refine s_B (cs := [cv, hv, vf]) Try.sizeOf33 ?_
   refine Ga2 ?_
   have er : Ak x s = (⟨x.cores, x.home, way x.frames (De (x.cores.length : Int) 0 (x.home.take k))⟩, [], 0) := by unfold Ak Bd; rw [if_neg (by omega), if_neg (by omega), if_neg (by omega), if_neg (by omega), if_neg (by omega), if_pos (by omega)]; rw [if_neg (by omega), if_pos (by omega), List.take_of_length_le (by omega), hnode]; rfl
   rw [er]
   exact Cl (cv, hv, vf, .slice none 0 0) Try.isAgg33 Try.sizeOf33
theorem Aaw {n nl : Nat} {M : List Int} {cv hv fv : Value} {x : Chip} {s : Step} (hs : St (L) R w) (hc : sl cv x.cores ∈ R) (hh : sl hv x.home ∈ R) (hf : sl fv x.frames ∈ R) (h : Inv n nl x M) (hsw : s.wf) (hk : s.kind = 4) : Calls Try.prog 20 [.agg #[cv, hv, fv], .agg s.cells.toArray].toArray w (Bu (fun v : Value × Value × Value × Value => .tuple #[.agg #[v.1, v.2.1, v.2.2.1], v.2.2.2, vi (Ak x s).2.2]) (fun v => L) (fun v => sl v.1 (Ak x s).1.cores :: sl v.2.1 (Ak x s).1.home :: sl v.2.2.1 (Ak x s).1.frames :: sl v.2.2.2 (Ak x s).2.1 :: R)) := by
 refine Zbj ?_;intro hn hnl hnc hnh hfr honec honeh honef hsw0 hop hsn hsN hsb hn64 hcw
 clear hs
 refine Zb3 ?_;intro b2 b3 b4
 refine Zaj ?_
 refine Zau ?_
 rcases (show (By x s.n) ∨ (¬ By x s.n) from by exact Classical.em _) with hc | hc
 ·exact ZeV
 ·have hnf := hc
  unfold By at hc
  refine Zc0 ?_;intro et
  refine Am (γ := Value × Value) (val := fun v => .tuple #[v.1, v.2, vi 0]) (Rf := fun v => sl v.1 (x.frames.eraseIdx s.n.toNat) :: sl v.2 (Aw x.frames s.n) :: R) Try.call55 rfl (fun w hs => by have h9 := Jb (l := x.frames) (n := s.n) hs mm hsN; rw [et] at h9; exact h9) ?_; intro ⟨va, vb⟩
  refine Zd4 ?_
  refine Gb2 ?_
  refine Cj ?_
  refine Gd1 ?_
  refine rn3 ?_
  refine Am Try.call56 rfl (fun w hs => Xt (l := x.frames) (b := (Aw x.frames s.n)) hs mm mm) ?_; intro v172
  refine J.know (p := v172.oneCell' = true) (fun w hs => isSlice.one (hs.fact (List.Mem.head _))) (fun honev172 => ?_)
  refine ZK ?_
  refine Gl ?_
  refine ZN ?_
  refine ZC ?_
  refine s_B (cs := [cv, hv, v172]) Try.sizeOf33 ?_
  refine Ga2 ?_
  have er : Ak x s = (⟨x.cores, x.home, C3 x.frames (Aw x.frames s.n)⟩, [], 0) := by unfold Ak; rw [if_neg (by omega), if_neg (by omega), if_neg (by omega), if_pos (by omega), if_neg hnf]
  rw [er]
  exact Cl (cv, hv, v172, .slice none 0 0) Try.isAgg33 Try.sizeOf33
theorem Aav {n nl : Nat} {M : List Int} {cv hv fv : Value} {x : Chip} {s : Step} (hs : St (L) R w) (hc : sl cv x.cores ∈ R) (hh : sl hv x.home ∈ R) (hf : sl fv x.frames ∈ R) (h : Inv n nl x M) (hsw : s.wf) (hk : s.kind = 5) : Calls Try.prog 20 [.agg #[cv, hv, fv], .agg s.cells.toArray].toArray w (Bu (fun v : Value × Value × Value × Value => .tuple #[.agg #[v.1, v.2.1, v.2.2.1], v.2.2.2, vi (Ak x s).2.2]) (fun v => L) (fun v => sl v.1 (Ak x s).1.cores :: sl v.2.1 (Ak x s).1.home :: sl v.2.2.1 (Ak x s).1.frames :: sl v.2.2.2 (Ak x s).2.1 :: R)) := by
 refine Zbj ?_;intro hn hnl hnc hnh hfr honec honeh honef hsw0 hop hsn hsN hsb hn64 hcw
 clear hs
 refine Zb3 ?_;intro b2 b3 b4
 refine Zaj ?_
 refine ZH ?_
 refine Zau ?_
 rcases (show (By x s.n) ∨ (¬ By x s.n) from by exact Classical.em _) with hc | hc
 ·exact ZeV
 ·have hnf := hc
  unfold By at hc
  refine Zc0 ?_;intro et
  refine Am (γ := Value × Value) (val := fun v => .tuple #[v.1, v.2, vi 0]) (Rf := fun v => sl v.1 (x.frames.eraseIdx s.n.toNat) :: sl v.2 (Aw x.frames s.n) :: R) Try.call55 rfl (fun w hs => by have h9 := Jb (l := x.frames) (n := s.n) hs mm hsN; rw [et] at h9; exact h9) ?_; intro ⟨va, vb⟩
  refine Zd4 ?_
  refine Gb2 ?_
  refine ZaA ?_
  refine rn6 ?_
  refine Am Try.call24 rfl (fun w hs => Pp (c := (Aq x)) (b := (Aw x.frames s.n)) hs mm hcw) ?_; intro _
  refine rn3 ?_
  refine al_ (cs := zMsg.cells) Try.zeroValue49 ?_; intro b18
  refine Zdz ?_
  refine cdy ?_ ?_
  ·intro ht188
   refine Gl ?_
   refine Zaa ?_
   refine ZC ?_
   refine Ci (caps := []) (vs := [vi 6]) rfl Try.call49 rfl (fun w hs => Le hs) ?_; intro _
   refine rn3 ?_
   refine ZaB ?_
   refine Ga2 ?_
   have er : Ak x s = (Dn, [], 6) := by unfold Ak; rw [if_neg (by omega), if_neg (by omega), if_neg (by omega), if_neg (by omega), if_pos (by omega), if_neg hnf]; rw [if_pos ht188]
   rw [er]
   exact Cl (.slice none 0 0, .slice none 0 0, .slice none 0 0, .slice none 0 0) Try.isAgg33 Try.sizeOf33
  ·intro ht188
   refine Gl ?_
   have hb12 : (Aw x.frames s.n).length = 12 := (h.mi _ (Kz hc)).1
   rcases (show (s.bit < 0) ∨ (0 ≤ s.bit ∧ 8 * ((Aw x.frames s.n).length : Int) ≤ s.bit) ∨ (0 ≤ s.bit ∧ s.bit < 8 * ((Aw x.frames s.n).length : Int)) from by omega) with hc | hc | hc
   ·have esp : Br x.frames s.n s.bit = ([], 3) := by unfold Br; rw [if_neg (by omega), if_pos (by omega)]
    refine ZZ ?_
    refine Gc8 ?_
    exact Zf5
   ·have esp : Br x.frames s.n s.bit = ([], 3) := by unfold Br; rw [if_neg (by omega), if_pos (by omega)]
    refine ZeA ?_
    refine Hm ?_
    refine Gc1 ?_
    exact Zf5
   ·have esp : Br x.frames s.n s.bit = (x.frames.set s.n.toNat (Bz (Aw x.frames s.n) s.bit), 0) := by unfold Br; rw [if_neg (by omega), if_neg (by omega)]
    refine ZeA ?_
    refine Dq ?_
    refine Gc1 ?_
    refine kp [2, 3, 4, 5, 6, 8, 15, 16, 17, 20, 210, 211, 212, 213] ?_
    refine Aa ?_
    refine liO ([] : Frames) K2 rfl (fun j h => Hk) ?_; intro v210
    refine rn2 ?_
    refine ap K2 (hb := fun w hs => by have : maxN = 16777216 := rfl; simp only [List.length_nil]; omega) (k := ?_); intro v213
    refine Ga1 ?_
    refine cq_ (row 52 v213 x.frames :: blk b2 33 [cv, hv, fv] :: blk b3 28 s.cells :: blk b4 33 [.slice none 0 0, .slice none 0 0, .slice none 0 0] :: L) ?_
    refine jd_ (fun ρ S => row 52 v213 (bif S 8 then (x.frames.set s.n.toNat (Bz (Aw x.frames s.n) s.bit)) else x.frames) :: blk b2 33 [cv, hv, fv] :: blk b3 28 s.cells :: blk b4 33 [.slice none 0 0, .slice none 0 0, .slice none 0 0] :: L) ?_
    refine dn6 ?_
    refine Cd (γ := Value) (val := fun v => v) (F := fun v => [sl v (Bz (Aw x.frames s.n) s.bit)]) Try.call57 (fun _ => rfl) (fun ρ L R w hd hs => Nb (b := (Aw x.frames s.n)) (bit := s.bit) hs (hd.base mm) hsb) (fun _ _ _ _ _ => rfl) ?_
    refine Kd (v := ep v213 1 s.n.toNat 0) (fun ρ S => Jg (v := v213) (len := (bif S 8 then (x.frames.set s.n.toNat (Bz (Aw x.frames s.n) s.bit)) else x.frames).length) (i := s.n) Pl (hl := D3 .hd) (h0 := by omega) (h1 := by cases S 8 <;> simp <;> omega)) (fun _ _ _ _ _ => rfl) ?_
    refine Adc (T0 := 52) (v := v213) (xs := x.frames) (k := s.n.toNat) (e' := (Bz (Aw x.frames s.n) s.bit)) (c := fun ρ => (Gh.dec (γ := Value) (ρ 6))) (cs := fun ρ => [(Gh.dec (γ := Value) (ρ 6))]) Try.sizeOf52 rfl (by omega) (fun _ => rfl) (fun _ => rfl) (fun _ h => Ii h) (fun ρ R w L' hd hs => isSlice.one (hs.fact (hd.dep (it := ⟨6, _, _, _, _⟩) (by repeat (first | exact List.Mem.head _ | refine List.Mem.tail _ ?_)) ⟨9, rfl⟩ (List.Mem.head _)))) (fun ρ R hd j hj => ⟨_, rfl, hj _ (hd.dep (it := ⟨6, _, _, _, _⟩) (by repeat (first | exact List.Mem.head _ | refine List.Mem.tail _ ?_)) ⟨9, rfl⟩ (List.Mem.head _))⟩) (fun ρ g S hS hB hA => ?_) ?_
    ·have ui : upS S 8 8 = true := rfl
     simp only [ui, hS, cond_true, cond_false]
     exact pex
    refine dnl ?_; intro ρ
    refine xq_ (row 52 v213 (x.frames.set s.n.toNat (Bz (Aw x.frames s.n) s.bit)) :: blk b2 33 [cv, hv, fv] :: blk b3 28 s.cells :: blk b4 33 [.slice none 0 0, .slice none 0 0, .slice none 0 0] :: L) ?_
    generalize (Gh.dec (γ := Value) (ρ 6)) = v220
    refine Gl ?_
    refine JC.shut (v := v213) pkk ?_
    refine JC.know (p := v213.oneCell' = true) (fun w hs => isSlice.one (hs.fact (List.Mem.head _))) (fun honev213 => ?_)
    refine ZB ?_
    refine sc ?_
    refine Gl ?_
    refine ZN ?_
    refine ZC ?_
    refine s_B (cs := [cv, hv, v213]) Try.sizeOf33 ?_
    refine Ga2 ?_
    have er : Ak x s = (⟨x.cores, x.home, x.frames.set s.n.toNat (Bz (Aw x.frames s.n) s.bit)⟩, [], 0) := by unfold Ak; rw [if_neg (by omega), if_neg (by omega), if_neg (by omega), if_neg (by omega), if_pos (by omega), if_neg hnf]; rw [if_neg ht188, esp, if_neg (fun h => h rfl)]
    rw [er]
    exact Cl (cv, hv, v213, .slice none 0 0) Try.isAgg33 Try.sizeOf33
theorem Aax {n nl : Nat} {M : List Int} {cv hv fv : Value} {x : Chip} {s : Step} (hs : St (L) R w) (hc : sl cv x.cores ∈ R) (hh : sl hv x.home ∈ R) (hf : sl fv x.frames ∈ R) (h : Inv n nl x M) (hsw : s.wf) (hk : s.kind = 3) : Calls Try.prog 20 [.agg #[cv, hv, fv], .agg s.cells.toArray].toArray w (Bu (fun v : Value × Value × Value × Value => .tuple #[.agg #[v.1, v.2.1, v.2.2.1], v.2.2.2, vi (Ak x s).2.2]) (fun v => L) (fun v => sl v.1 (Ak x s).1.cores :: sl v.2.1 (Ak x s).1.home :: sl v.2.2.1 (Ak x s).1.frames :: sl v.2.2.2 (Ak x s).2.1 :: R)) := by
 refine Zbj ?_;intro hn hnl hnc hnh hfr honec honeh honef hsw0 hop hsn hsN hsb hn64 hcw
 clear hs
 refine Zb3 ?_;intro b2 b3 b4
 refine Zaj ?_
 refine ZaI ?_
 rcases (show (By x s.n) ∨ (¬ By x s.n) from by exact Classical.em _) with hc | hc
 ·exact ZeV
 ·have hnf := hc
  unfold By at hc
  refine Zc0 ?_;intro et
  refine Am (γ := Value × Value) (val := fun v => .tuple #[v.1, v.2, vi 0]) (Rf := fun v => sl v.1 (x.frames.eraseIdx s.n.toNat) :: sl v.2 (Aw x.frames s.n) :: R) Try.call55 rfl (fun w hs => by have h9 := Jb (l := x.frames) (n := s.n) hs mm hsN; rw [et] at h9; exact h9) ?_; intro ⟨va, vb⟩
  refine Zd4 ?_
  refine Zev ?_;intro honea
  refine Cj ?_
  refine Glc ?_
  refine ZN ?_
  refine ZC ?_
  refine s_B (cs := [cv, hv, va]) Try.sizeOf33 ?_
  refine Ga2 ?_
  have er : Ak x s = (⟨x.cores, x.home, (x.frames.eraseIdx s.n.toNat)⟩, [], 0) := by unfold Ak; rw [if_neg (by omega), if_neg (by omega), if_pos (by omega), if_neg hnf]
  exact ZgW
theorem Aay {n nl : Nat} {M : List Int} {cv hv fv : Value} {x : Chip} {s : Step} (hs : St (L) R w) (hc : sl cv x.cores ∈ R) (hh : sl hv x.home ∈ R) (hf : sl fv x.frames ∈ R) (h : Inv n nl x M) (hsw : s.wf) (hk : s.kind = 2) : Calls Try.prog 20 [.agg #[cv, hv, fv], .agg s.cells.toArray].toArray w (Bu (fun v : Value × Value × Value × Value => .tuple #[.agg #[v.1, v.2.1, v.2.2.1], v.2.2.2, vi (Ak x s).2.2]) (fun v => L) (fun v => sl v.1 (Ak x s).1.cores :: sl v.2.1 (Ak x s).1.home :: sl v.2.2.1 (Ak x s).1.frames :: sl v.2.2.2 (Ak x s).2.1 :: R)) := by
 refine Zbj ?_;intro hn hnl hnc hnh hfr honec honeh honef hsw0 hop hsn hsN hsb hn64 hcw
 clear hs
 refine Zb3 ?_;intro b2 b3 b4
 refine Gb2 ?_
 refine ZH ?_
 refine Zau ?_
 rcases (show (By x s.n) ∨ (¬ By x s.n) from by exact Classical.em _) with hc | hc
 ·have et : Bv x.frames s.n = ([], [], 5) := by unfold Bv; rw [if_pos (by unfold By at hc; exact hc)]
  refine ZE ?_
  refine Am (γ := Value × Value) (val := fun v => .tuple #[v.1, v.2, vi 5]) (Rf := fun v => sl v.1 ([] : Frames) :: sl v.2 ([] : List UInt8) :: R) Try.call55 rfl (fun w hs => by have h9 := Jb (l := x.frames) (n := s.n) hs mm hsN; rw [et] at h9; exact h9) ?_; intro ⟨va, vb⟩
  refine Gb7 ?_
  refine rn1 ?_
  refine Zbb ?_
  refine kp [2, 3, 4, 5, 6, 7, 8, 15, 16, 17, 159, 160, 161, 162, 163, 164] ?_
  refine ZB ?_
  refine Ci (caps := []) (vs := [vi 5]) rfl Try.call49 rfl (fun w hs => Le hs) ?_; intro _
  refine ZcA ?_;intro er
  exact Cl (.slice none 0 0, .slice none 0 0, .slice none 0 0, .slice none 0 0) Try.isAgg33 Try.sizeOf33
 ·have hnf := hc
  unfold By at hc
  refine Zc0 ?_;intro et
  refine Am (γ := Value × Value) (val := fun v => .tuple #[v.1, v.2, vi 0]) (Rf := fun v => sl v.1 (x.frames.eraseIdx s.n.toNat) :: sl v.2 (Aw x.frames s.n) :: R) Try.call55 rfl (fun w hs => by have h9 := Jb (l := x.frames) (n := s.n) hs mm hsN; rw [et] at h9; exact h9) ?_; intro ⟨va, vb⟩
  refine Gb7 ?_
  refine rn1 ?_
  refine ob (Ao rfl rfl (Cv (by decide))) ?_
  refine Glc ?_
  refine kp [2, 3, 4, 5, 6, 7, 8, 15, 16, 17, 165, 166] ?_
  refine Aa ?_
  refine Zev ?_;intro honea
  refine Av ?_
  refine Gmc ?_
  refine rn6 ?_
  refine Am Try.call24 rfl (fun w hs => Pp (c := (Aq x)) (b := (Aw x.frames s.n)) hs mm hcw) ?_; intro _
  refine rn3 ?_
  refine al_ (cs := zMsg.cells) Try.zeroValue49 ?_; intro b21
  refine Zdz ?_
  refine cdy ?_ ?_
  ·intro ht242
   refine Gl ?_
   refine ZN ?_
   refine ZC ?_
   refine s_B (cs := [cv, hv, va]) Try.sizeOf33 ?_
   refine Ga2 ?_
   have er : Ak x s = (⟨x.cores, x.home, (x.frames.eraseIdx s.n.toNat)⟩, [], 0) := by unfold Ak; rw [if_neg (by omega), if_pos (by omega), if_neg hnf]; unfold Az; rw [show Aq ⟨x.cores, x.home, (x.frames.eraseIdx s.n.toNat)⟩ = Aq x from rfl]; rw [if_pos ht242]
   exact ZgW
  ·intro ht242
   refine Gl ?_
   have hp0 : (Af (Aq x) (Aw x.frames s.n)).2 = 0 := Decidable.not_not.1 ht242
   have hpk := Gs (c := (Aq x)) (b := (Aw x.frames s.n)) (m := (Af (Aq x) (Aw x.frames s.n)).1) (by rw [← hp0])
   have hwk := Gp hpk.2.2.2.2.1
   have hpw : (Af (Aq x) (Aw x.frames s.n)).1.wf := by rw [hpk.2.2.2.2.2]; exact P0 _
   have ecn : (Aq x).cores = (x.cores.length : Int) := rfl
   rw [ecn] at hwk
   refine ZN ?_
   refine Aa ?_
   refine Ga4 ?_
   refine cdy ?_ ?_
   ·intro ht247
    refine Gl ?_
    refine kp [2, 4, 5, 6, 8, 21, 22, 23, 248, 249, 250, 251, 252, 253, 254, 255] ?_
    refine ZE ?_
    refine Am Try.call58 rfl (fun w hs => Tg (l := x.home) (id := (x.cores.length : Int)) (m := (Af (Aq x) (Aw x.frames s.n)).1) hs mm (fun i hi => (h.ebs i hi).1) (fun i hi => (h.ebs i hi).2.2.2.2) hpw hn64) ?_; intro ⟨v253a, v253b⟩
    refine Ga5 ?_
    refine JC.know (p := v253a.oneCell' = true) (fun w hs => isSlice.one (hs.fact (mm (f := sl v253a (Al x.home (x.cores.length : Int) (Af (Aq x) (Aw x.frames s.n)).1).1)))) (fun honeva => ?_)
    refine ZB ?_
    refine sc ?_
    refine Zaf ?_
    refine Am Try.call52 rfl (fun w hs => Q5 (fs := (x.frames.eraseIdx s.n.toNat)) (ms := (Al x.home (x.cores.length : Int) (Af (Aq x) (Aw x.frames s.n)).1).2) hs mm mm (Nt (by omega) (by omega) h.ebs hwk.2.2.2.1 hwk.2.2.2.2.2.1)) ?_; intro v261
    refine J.know (p := v261.oneCell' = true) (fun w hs => isSlice.one (hs.fact (List.Mem.head _))) (fun honev261 => ?_)
    refine ZK ?_
    refine ZL ?_
    refine s_B (cs := [cv, v253a, v261]) Try.sizeOf33 ?_
    refine Ga2 ?_
    have er : Ak x s = (⟨x.cores, (Al x.home (x.cores.length : Int) (Af (Aq x) (Aw x.frames s.n)).1).1, way (x.frames.eraseIdx s.n.toNat) (Al x.home (x.cores.length : Int) (Af (Aq x) (Aw x.frames s.n)).1).2⟩, [], 0) := by unfold Ak; rw [if_neg (by omega), if_pos (by omega), if_neg hnf]; unfold Az; rw [show Aq ⟨x.cores, x.home, (x.frames.eraseIdx s.n.toNat)⟩ = Aq x from rfl]; rw [if_neg ht242, if_pos (show (Af (Aq x) (Aw x.frames s.n)).1.dst = Bd ⟨x.cores, x.home, (x.frames.eraseIdx s.n.toNat)⟩ from ht247)]; rfl
    rw [er]
    exact Cl (cv, v253a, v261, .slice none 0 0) Try.isAgg33 Try.sizeOf33
   ·intro ht247
    refine Gl ?_
    refine Mj (x := x) (v := cv) (Af (Aq x) (Aw x.frames s.n)).1.dst mm (by omega) (by omega) (fun hwt u => ?_)
    have hkb : KB (Ar x (Af (Aq x) (Aw x.frames s.n)).1.dst) := h.kb (p := (Af (Aq x) (Aw x.frames s.n)).1.dst.toNat) (by omega)
    have hlb := h.lbs (p := (Af (Aq x) (Aw x.frames s.n)).1.dst) (by omega)
    have hk4 := hkb.n
    have hpd64 : Ap (Af (Aq x) (Aw x.frames s.n)).1.dst := by unfold Ap; omega
    refine kp [2, 4, 5, 6, 8, 21, 24, 25, 26, 264, 265, 266, 267, 268, 269, 270, 271, 272, 273, 274, 275, 276, 277, 278] ?_
    refine cq_ (blk b2 33 [cv, hv, va] :: blk b21 49 (Af (Aq x) (Aw x.frames s.n)).1.cells :: blk b3 28 s.cells :: blk b4 33 [.slice none 0 0, .slice none 0 0, .slice none 0 0] :: L) ?_
    refine jd_ (fun ρ S => blk b2 33 [cv, hv, va] :: blk b21 49 (Af (Aq x) (Aw x.frames s.n)).1.cells :: blk b3 28 s.cells :: blk b4 33 [.slice none 0 0, .slice none 0 0, .slice none 0 0] :: ((bif S 15 then [blk (Gh.dec (γ := Nat) (ρ 15)) 57 (bif S 16 then [(Gh.dec (γ := Value × Value × Value) (ρ 10)).1, vi (Ae (Ar x (Af (Aq x) (Aw x.frames s.n)).1.dst) (Af (Aq x) (Aw x.frames s.n)).1.dst (x.cores.length : Int) (Af (Aq x) (Aw x.frames s.n)).1).1.wait.kind, vi (Ae (Ar x (Af (Aq x) (Aw x.frames s.n)).1.dst) (Af (Aq x) (Aw x.frames s.n)).1.dst (x.cores.length : Int) (Af (Aq x) (Aw x.frames s.n)).1).1.wait.line, vi (Ae (Ar x (Af (Aq x) (Aw x.frames s.n)).1.dst) (Af (Aq x) (Aw x.frames s.n)).1.dst (x.cores.length : Int) (Af (Aq x) (Aw x.frames s.n)).1).1.wait.value] else [.slice none 0 0, vi 0, vi 0, vi 0])] else []) ++ (L))) ?_
    refine Y5 ?_
    refine Cd (γ := Value × Value × Value) (val := fun v => .tuple #[.agg (Core.cells v.1 (Ae (Ar x (Af (Aq x) (Aw x.frames s.n)).1.dst) (Af (Aq x) (Aw x.frames s.n)).1.dst (x.cores.length : Int) (Af (Aq x) (Aw x.frames s.n)).1).1).toArray, v.2.1, v.2.2]) (F := fun v => [sl v.1 (Ae (Ar x (Af (Aq x) (Aw x.frames s.n)).1.dst) (Af (Aq x) (Aw x.frames s.n)).1.dst (x.cores.length : Int) (Af (Aq x) (Aw x.frames s.n)).1).1.lines, sl v.2.1 (Ae (Ar x (Af (Aq x) (Aw x.frames s.n)).1.dst) (Af (Aq x) (Aw x.frames s.n)).1.dst (x.cores.length : Int) (Af (Aq x) (Aw x.frames s.n)).1).2.1, sl v.2.2 (Ae (Ar x (Af (Aq x) (Aw x.frames s.n)).1.dst) (Af (Aq x) (Aw x.frames s.n)).1.dst (x.cores.length : Int) (Af (Aq x) (Aw x.frames s.n)).1).2.2]) Try.call59 (fun _ => rfl) (fun ρ L R w hd hs => Agb (c := (Ar x (Af (Aq x) (Aw x.frames s.n)).1.dst)) (id := (Af (Aq x) (Aw x.frames s.n)).1.dst) (home := (x.cores.length : Int)) (m := (Af (Aq x) (Aw x.frames s.n)).1) (u := u) hs (hd.base mm) hkb hpd64 hn64 hpw) (fun ρ g S hS hA => by have u15 : upS S 10 15 = S 15 := rfl; have u16 : upS S 10 16 = S 16 := rfl; have r15 : Rho.set ρ 10 g 15 = ρ 15 := rfl; have h16 : S 16 = false := hA 16 ⟨0, rfl⟩; simp only [u15, u16, r15, h16, cond_false]) ?_
    refine e_p (v := fun ρ => .tuple #[.agg (Core.cells (Gh.dec (γ := Value × Value × Value) (ρ 10)).1 (Ae (Ar x (Af (Aq x) (Aw x.frames s.n)).1.dst) (Af (Aq x) (Aw x.frames s.n)).1.dst (x.cores.length : Int) (Af (Aq x) (Aw x.frames s.n)).1).1).toArray, (Gh.dec (γ := Value × Value × Value) (ρ 10)).2.1, (Gh.dec (γ := Value × Value × Value) (ρ 10)).2.2]) (fun _ _ => Qw) (Ind.gh (h := fun g => (.tuple #[.agg (Core.cells (Gh.dec (γ := Value × Value × Value) g).1 (Ae (Ar x (Af (Aq x) (Aw x.frames s.n)).1.dst) (Af (Aq x) (Aw x.frames s.n)).1.dst (x.cores.length : Int) (Af (Aq x) (Aw x.frames s.n)).1).1).toArray, (Gh.dec (γ := Value × Value × Value) g).2.1, (Gh.dec (γ := Value × Value × Value) g).2.2] : Value)) 10 0 rfl) (fun _ _ _ _ _ => rfl) ?_
    refine e_p (v := fun ρ => .agg (Core.cells (Gh.dec (γ := Value × Value × Value) (ρ 10)).1 (Ae (Ar x (Af (Aq x) (Aw x.frames s.n)).1.dst) (Af (Aq x) (Aw x.frames s.n)).1.dst (x.cores.length : Int) (Af (Aq x) (Aw x.frames s.n)).1).1).toArray) (fun _ _ => q_x) (Ind.gh (h := fun g => (.agg (Core.cells (Gh.dec (γ := Value × Value × Value) g).1 (Ae (Ar x (Af (Aq x) (Aw x.frames s.n)).1.dst) (Af (Aq x) (Aw x.frames s.n)).1.dst (x.cores.length : Int) (Af (Aq x) (Aw x.frames s.n)).1).1).toArray : Value)) 10 1 rfl) (fun _ _ _ _ _ => rfl) ?_
    refine e_p (v := fun ρ => (Gh.dec (γ := Value × Value × Value) (ρ 10)).2.1) (fun _ _ => q_x) (Ind.gh (h := fun g => ((Gh.dec (γ := Value × Value × Value) g).2.1 : Value)) 10 1 rfl) (fun _ _ _ _ _ => rfl) ?_
    refine e_p (v := fun ρ => (Gh.dec (γ := Value × Value × Value) (ρ 10)).2.2) (fun _ _ => q_x) (Ind.gh (h := fun g => ((Gh.dec (γ := Value × Value × Value) g).2.2 : Value)) 10 1 rfl) (fun _ _ _ _ _ => rfl) ?_
    refine Hq (cs := [.slice none 0 0, vi 0, vi 0, vi 0]) Try.zeroValue57 rfl (fun ρ b S hS hA => ?_) ?_
    ·have ui : upS S 15 15 = true := rfl; have u16 : upS S 15 16 = S 16 := rfl; have r10 : Rho.set ρ 15 (Gh.enc b) 10 = ρ 10 := rfl; have h16 : S 16 = false := hA 16 ⟨0, rfl⟩; have rs : (Gh.dec (γ := Nat) (Rho.set ρ 15 (Gh.enc b) 15)) = b := rfl
     simp only [ui, hS, u16, r10, h16, rs, cond_true, cond_false, List.nil_append]
     exact Zfb
    refine es_ 57 0 [15] [] (fun ρ => (Gh.dec (γ := Nat) (ρ 15))) (fun ρ => [.slice none 0 0, vi 0, vi 0, vi 0]) (fun ρ => [(Gh.dec (γ := Value × Value × Value) (ρ 10)).1, vi (Ae (Ar x (Af (Aq x) (Aw x.frames s.n)).1.dst) (Af (Aq x) (Aw x.frames s.n)).1.dst (x.cores.length : Int) (Af (Aq x) (Aw x.frames s.n)).1).1.wait.kind, vi (Ae (Ar x (Af (Aq x) (Aw x.frames s.n)).1.dst) (Af (Aq x) (Aw x.frames s.n)).1.dst (x.cores.length : Int) (Af (Aq x) (Aw x.frames s.n)).1).1.wait.line, vi (Ae (Ar x (Af (Aq x) (Aw x.frames s.n)).1.dst) (Af (Aq x) (Aw x.frames s.n)).1.dst (x.cores.length : Int) (Af (Aq x) (Aw x.frames s.n)).1).1.wait.value]) Try.sizeOf57 (h1 := (fun ρ R w L' hd hs => Bp (isSlice.one (hs.fact (hd.dep (it := ⟨10, _, _, _, _⟩) (by repeat (first | exact List.Mem.head _ | refine List.Mem.tail _ ?_)) ⟨9, rfl⟩ (List.Mem.head _)))) (by repeat (first | exact D8 | refine Bp rfl ?_)))) ?_
    refine e_p (v := fun ρ => (Gh.dec (γ := Value × Value × Value) (ρ 10)).2.1) (fun _ _ => D1) (Ind.gh (h := fun g => ((Gh.dec (γ := Value × Value × Value) g).2.1 : Value)) 10 0 rfl) (fun _ _ _ _ _ => rfl) ?_
    refine e_p (v := fun ρ => (Gh.dec (γ := Value × Value × Value) (ρ 10)).2.2) (fun _ _ => D1) (Ind.gh (h := fun g => ((Gh.dec (γ := Value × Value × Value) g).2.2 : Value)) 10 0 rfl) (fun _ _ _ _ _ => rfl) ?_
    refine dnl ?_; intro ρ
    refine xq_ (blk b2 33 [cv, hv, va] :: blk b21 49 (Af (Aq x) (Aw x.frames s.n)).1.cells :: blk b3 28 s.cells :: blk b4 33 [.slice none 0 0, .slice none 0 0, .slice none 0 0] :: (blk (Gh.dec (γ := Nat) (ρ 15)) 57 [(Gh.dec (γ := Value × Value × Value) (ρ 10)).1, vi (Ae (Ar x (Af (Aq x) (Aw x.frames s.n)).1.dst) (Af (Aq x) (Aw x.frames s.n)).1.dst (x.cores.length : Int) (Af (Aq x) (Aw x.frames s.n)).1).1.wait.kind, vi (Ae (Ar x (Af (Aq x) (Aw x.frames s.n)).1.dst) (Af (Aq x) (Aw x.frames s.n)).1.dst (x.cores.length : Int) (Af (Aq x) (Aw x.frames s.n)).1).1.wait.line, vi (Ae (Ar x (Af (Aq x) (Aw x.frames s.n)).1.dst) (Af (Aq x) (Aw x.frames s.n)).1.dst (x.cores.length : Int) (Af (Aq x) (Aw x.frames s.n)).1).1.wait.value] :: L)) ?_
    generalize (Gh.dec (γ := Value × Value × Value) (ρ 10)) = v275
    generalize (Gh.dec (γ := Nat) (ρ 15)) = b24
    refine Zan ?_
    refine Am Try.call51 rfl (fun w hs => Na (x := x) (i := (Af (Aq x) (Aw x.frames s.n)).1.dst) (k := (Ae (Ar x (Af (Aq x) (Aw x.frames s.n)).1.dst) (Af (Aq x) (Aw x.frames s.n)).1.dst (x.cores.length : Int) (Af (Aq x) (Aw x.frames s.n)).1).1) (u := v275.1) hs mm honeh honea mm (R5 hkb.wwf) (by omega)) ?_; intro v283
    refine J.know (p := v283.oneCell' = true) (fun w hs => isSlice.one (hs.fact (List.Mem.head _))) (fun honev283 => ?_)
    refine s_B (cs := [v283, hv, va]) Try.sizeOf33 ?_
    refine Zaf ?_
    refine Am Try.call52 rfl (fun w hs => Q5 (fs := (x.frames.eraseIdx s.n.toNat)) (ms := (Ae (Ar x (Af (Aq x) (Aw x.frames s.n)).1.dst) (Af (Aq x) (Aw x.frames s.n)).1.dst (x.cores.length : Int) (Af (Aq x) (Aw x.frames s.n)).1).2.1) hs mm mm (Yn (by omega) (by omega) hk4 hlb hwk.2.2.2.2.1)) ?_; intro v287
    refine J.know (p := v287.oneCell' = true) (fun w hs => isSlice.one (hs.fact (List.Mem.head _))) (fun honev287 => ?_)
    refine ZK ?_
    refine Gl ?_
    refine kp [2, 4, 5, 6, 26, 289, 290] ?_
    refine ZB ?_
    refine s_B (cs := [v283, hv, v287]) Try.sizeOf33 ?_
    refine Ga2 ?_
    have er : Ak x s = (⟨x.cores.set (Af (Aq x) (Aw x.frames s.n)).1.dst.toNat (Ae (Ar x (Af (Aq x) (Aw x.frames s.n)).1.dst) (Af (Aq x) (Aw x.frames s.n)).1.dst (x.cores.length : Int) (Af (Aq x) (Aw x.frames s.n)).1).1, x.home, way (x.frames.eraseIdx s.n.toNat) (Ae (Ar x (Af (Aq x) (Aw x.frames s.n)).1.dst) (Af (Aq x) (Aw x.frames s.n)).1.dst (x.cores.length : Int) (Af (Aq x) (Aw x.frames s.n)).1).2.1⟩, (Ae (Ar x (Af (Aq x) (Aw x.frames s.n)).1.dst) (Af (Aq x) (Aw x.frames s.n)).1.dst (x.cores.length : Int) (Af (Aq x) (Aw x.frames s.n)).1).2.2, 0) := by unfold Ak; rw [if_neg (by omega), if_pos (by omega), if_neg hnf]; unfold Az; rw [show Aq ⟨x.cores, x.home, (x.frames.eraseIdx s.n.toNat)⟩ = Aq x from rfl]; rw [if_neg ht242, if_neg (show ¬ (Af (Aq x) (Aw x.frames s.n)).1.dst = Bd ⟨x.cores, x.home, (x.frames.eraseIdx s.n.toNat)⟩ from ht247)]; rfl
    rw [er]
    exact Cl (v283, hv, v287, v275.2.2) Try.isAgg33 Try.sizeOf33
end Go.Proofs.Ytehpekiedfpnkaa
